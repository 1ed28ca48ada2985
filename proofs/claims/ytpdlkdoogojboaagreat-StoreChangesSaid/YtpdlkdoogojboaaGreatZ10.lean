/- Part 10 of the proof: M9r, Ma, Mb, Mc, Mdr, Md, Mg, Mh, Mir, Mi, Mj, Jl -/
import Derived.Test.YtpdlkdoogojboaaGreatZ09
import Derived.Test.YtpdlkdoogojboaaGreatZ05
import Derived.Test.YtpdlkdoogojboaaGreatZ08
/- The reference's Apply: its first region, way by way. -/
namespace Go.Proofs.YtpdlkdoogojboaaGreat
open Go Go.RowKit
set_option maxRecDepth 100000
end Go.Proofs.YtpdlkdoogojboaaGreat
/- The reference's Apply: its walk. -/
namespace Go.Proofs.YtpdlkdoogojboaaGreat
open Go Go.RowKit
/- The reference's Inverse; short, Small. -/
/-- A verdict that vouches for P. -/
def QPost (P:Prop) (w:World) (e:Ending) (w':World):Prop:=∃q,e=.returned (.bool q)∧(q=true→P)∧w=w'
def shortP (r:Rw):Prop:=r.length≤10∧∀v∈r,v.text.size≤40
set_option maxHeartbeats 4000000 in
theorem short_calls (r:Rw) (v:Value) (w:World) (hv:ValsAt w r v):Calls Tryz.prog 43 #[v] w fun e w'=> QPost (shortP r) w e w':=by
 obtain ⟨a,n,c,rfl,hn,hm⟩:=hv.shape
 unfold maxLen at hm
 have HV:=Lib.hid hv
 have HN:=Lib.hid hn
 have H0:RowKit.Hid (∀x∈r.take 0,x.text.size≤40):=by show ∀x∈r.take 0,_;simp
 clear hv hn
 go_enter Tryz.func43,Tryz.ntmps43
 go_upto_region 2 with (fail)
 go_loopg [3] n (fun g z wr=> ∃k:Nat,z=.int .i64 k∧g+k=n∧wr=w∧RowKit.Hid (∀x∈r.take k,x.text.size≤40))
 case atStart=> exact ⟨0,rfl,rfl,rfl,H0⟩
 case round=>
  clear H0
  obtain ⟨k,rfl,hgk,rfl,Hi⟩:=hrel
  by_cases hk:k < n
  · have hkl:k < r.length:=by rw [←HN.out];exact hk
    have hkn:(k:Int) < n:=by omega
    obtain ⟨b,o,rfl⟩:=HV.out.has k hk
    obtain ⟨c0,c1,c2⟩:=HV.out.cell k hkl
    have hbl:=World.block_lt_of_cell? _ _ c0
    have hst:∀x∈r.take (k+1),x∈r.take k∨x=r[k]:=fun x hx=> by
     rw [List.take_add_one,List.getElem?_eq_getElem hkl] at hx
     rcases List.mem_append.1 hx with h | h
     · exact .inl h
     · exact .inr (by simpa using h)
    have HST:=Lib.hid hst
    have Hgk:=Lib.hid hgk
    clear hst hgk
    generalize r[k]=x at *
    clear hkl
    by_cases h40:(40:Int) < x.text.size
    · go_wp2
      go_ret
      exact ⟨false,rfl,(fun h=> nomatch h),rfl⟩
    · have Hn:RowKit.Hid (∀y∈r.take (k+1),y.text.size≤40):=fun y hy=> by
       rcases HST.out y hy with h | rfl
       · exact Hi.out y h
       · omega
      clear Hi HST
      go_wp2
      go_roundg (gk - 1)
      case rel=> exact ⟨k+1,by go_num,by have:=Hgk.out;omega,rfl,Hn⟩
      case measure=> have:=Hgk.out;omega
  · obtain rfl:k=n:=by omega
    have HF:RowKit.Hid (decide ((k:Int)≤10)=true→shortP r):=fun h=> by
     have h1:=of_decide_eq_true h
     have h2:=Hi.out
     rw [List.take_of_length_le (by rw [←HN.out];exact Nat.le_refl _)] at h2
     exact ⟨by rw [←HN.out];omega,h2⟩
    clear Hi hgk hk
    by_cases h10:(k:Int)≤10
    · have HG:=HF.out (decide_eq_true h10)
      have HG:=Lib.hid HG
      go_wp2
      go_ret
      exact ⟨true,by simp,fun _=> HG.out,rfl⟩
    · go_wp2
      go_ret
      exact ⟨false,by simp,(fun h=> nomatch h),rfl⟩
/- Small. -/
structure TdP (t:Td):Prop where
 n:t.n≤10
 k:t.K.length≤5
 f:t.F.length≤5
 kl:∀c∈t.K,c.length≤10
 fl:∀c∈t.F,c.length≤10
structure SmallP (td:List Td) (l:List Chg):Prop where
 tds:∀t∈td,TdP t
 ls:∀c∈l,shortP c.old∧shortP c.new
 tn:td.length≤4
 ln:l.length≤40
theorem take_snoc {α:Type} {P:α→Prop} {l:List α} {k:Nat} (hk:k < l.length) (h:∀x∈l.take k,P x) (h2:P l[k]):∀x∈l.take (k+1),P x:=by
 intro x hx
 rw [List.take_add_one,List.getElem?_eq_getElem hk] at hx
 rcases List.mem_append.1 hx with hx | hx
 · exact h x hx
 · have:x=l[k]:=by simpa using hx
   rw [this];exact h2
set_option maxHeartbeats 8000000 in
set_option maxRecDepth 20000 in
theorem Small_calls (td:List Td) (l:List Chg) (sv lv:Value) (w:World) (hs:SchX w td sv) (hl:ChsX w l lv):Calls Tryz.prog 13 #[sv,lv] w fun e w'=> QPost (SmallP td l) w e w':=by
 obtain ⟨sa,sc,rfl⟩:=hs.sl.shape
 obtain ⟨la,lc,rfl⟩:=hl.sl.shape
 obtain ⟨n,hn⟩:∃n,td.length=n:=⟨_,rfl⟩
 obtain ⟨m,hm⟩:∃m,l.length=m:=⟨_,rfl⟩
 have hn63:n≤9223372036854775807:=by have:=hs.sl.1;unfold maxLen at this;omega
 have hm63:m≤9223372036854775807:=by have:=hl.sl.1;unfold maxLen at this;omega
 have HS:=Lib.hid hs
 have HL:=Lib.hid hl
 have HN:=Lib.hid hn
 have HM:=Lib.hid hm
 have H0:RowKit.Hid (∀t∈td.take 0,TdP t):=by show ∀t∈td.take 0,_;simp
 rw [hn] at HS ⊢
 rw [hm] at HL ⊢
 clear hs hl hn hm
 go_enter Tryz.func13,Tryz.ntmps13
 go_upto_region 2 with (fail)
 go_loopg [5] n (fun g z wr=> ∃i:Nat,z=.int .i64 i∧g+i=n∧wr=w∧RowKit.Hid (∀t∈td.take i,TdP t))
 case atStart=> exact ⟨0,rfl,rfl,rfl,H0⟩
 case round=>
  clear H0
  obtain ⟨i,rfl,hgi,rfl,Hi⟩:=hrel
  by_cases hi:i < n
  · have hil:i < td.length:=by rw [HN.out];exact hi
    have hin:(i:Int) < n:=by omega
    obtain ⟨b,o,c,e1,hbl, -,p1,p2,p3, -⟩:=HS.out.cells i hil
    obtain ⟨rfl, -,rfl⟩:=Value.slice.inj e1
    have hx:=HS.out.td _ (List.getElem_mem hil)
    have HST:=Lib.hid (fun h=> take_snoc (P:=TdP) hil Hi.out h)
    have Hgi:=Lib.hid hgi
    clear e1 hgi Hi
    generalize td[i]=t at *
    clear hil
    obtain ⟨nm,ca,tn,cc,kv,fv,xa,xn,xc,cvs,kvs,fvs,K,F⟩:=t
    obtain ⟨ka,kc,hkv⟩:=hx.keys.1.shape
    obtain ⟨fa,fc,hfv⟩:=hx.fors.1.shape
    simp only at p1 p2 p3 hkv hfv
    subst hkv hfv
    obtain ⟨kn,hkn⟩:∃kn,K.length=kn:=⟨_,rfl⟩
    obtain ⟨fn,hfn⟩:∃fn,F.length=fn:=⟨_,rfl⟩
    have HK:=Lib.hid hx.keys
    have HF:=Lib.hid hx.fors
    have HKN:=Lib.hid hkn
    have HFN:=Lib.hid hfn
    simp only at HK HF
    rw [hkn] at p2 HK
    rw [hfn] at p3 HF
    have tc:tn≤9223372036854775807:=by have:=hx.cols.1;unfold maxLen at this;simp only at this;omega
    have kcl:kn≤9223372036854775807:=by have:=hx.keys.1.1;unfold maxLen at this;simp only at this;omega
    have fcl:fn≤9223372036854775807:=by have:=hx.fors.1.1;unfold maxLen at this;simp only at this;omega
    clear hx hkn hfn
    by_cases h1:(10:Int) < tn
    · go_wp2
      go_ret
      exact ⟨false,rfl,(fun h=> nomatch h),rfl⟩
    by_cases h2:(5:Int) < kn
    · go_wp2
      go_ret
      exact ⟨false,rfl,(fun h=> nomatch h),rfl⟩
    by_cases h3:(5:Int) < fn
    · go_wp2
      go_ret
      exact ⟨false,rfl,(fun h=> nomatch h),rfl⟩
    obtain ⟨gk0,rfl⟩:∃x,x=gk:=⟨_,rfl⟩
    have HK0:RowKit.Hid (∀c∈K.take 0,c.length≤10):=by show ∀c∈K.take 0,_;simp
    go_upto_region 7 with (fail)
    go_loopg [6] kn (fun g z wr2=> ∃k:Nat,z=.int .i64 k∧g+k=kn∧wr2=wr∧RowKit.Hid (∀c∈K.take k,c.length≤10))
    case atStart=> exact ⟨0,rfl,rfl,rfl,HK0⟩
    case round=>
     clear HK0
     obtain ⟨k,rfl,hgk,rfl,Hk⟩:=hrel
     by_cases hk:k < kn
     · have hkl:k < K.length:=by rw [HKN.out];exact hk
       have hkk:(k:Int) < kn:=by omega
       obtain ⟨u,hu,hx⟩:=HK.out.2 k hkl
       obtain ⟨b',o',c',e1,q1⟩:=HK.out.1.some hu
       obtain ⟨rfl, -,rfl⟩:=Value.slice.inj e1
       obtain ⟨ua,un,uc,rfl,hun,hum⟩:=hx.shape
       unfold maxLen at hum
       have hql:=World.block_lt_of_cell? _ _ q1
       have Hst:=Lib.hid (fun h=> take_snoc (P:=fun c:List Int=> c.length≤10) hkl Hk.out h)
       have Hgk:=Lib.hid hgk
       have Hun:=Lib.hid hun
       clear hu hx e1 hgk Hk hun
       generalize K[k]=cl at *
       clear hkl
       by_cases h4:(10:Int) < un
       · go_wp2
         go_ret
         exact ⟨false,rfl,(fun h=> nomatch h),rfl⟩
       · have Hn:=Lib.hid (Hst.out (by have:=Hun.out;omega))
         clear Hst
         go_wp2
         go_roundg (gk - 1)
         case rel=> exact ⟨k+1,by go_num,by have:=Hgk.out;omega,rfl,Hn⟩
         case measure=> have:=Hgk.out;omega
     · obtain rfl:k=kn:=by omega
       have HKA:RowKit.Hid (∀c∈K,c.length≤10):=by
        have h:=Hk.out
        rw [List.take_of_length_le (by rw [HKN.out];exact Nat.le_refl _)] at h
        exact h
       have HF0:RowKit.Hid (∀c∈F.take 0,c.length≤10):=by show ∀c∈F.take 0,_;simp
       clear Hk hgk hk
       go_upto_region 12 with (fail)
       go_loopg [7] fn (fun g z wr2=> ∃j:Nat,z=.int .i64 j∧g+j=fn∧wr2=wr∧RowKit.Hid (∀c∈F.take j,c.length≤10))
       case atStart=> exact ⟨0,rfl,rfl,rfl,HF0⟩
       case round=>
        clear HF0
        obtain ⟨j,rfl,hgj,rfl,Hj⟩:=hrel
        by_cases hj:j < fn
        · have hjl:j < F.length:=by rw [HFN.out];exact hj
          have hjj:(j:Int) < fn:=by omega
          obtain ⟨u,a1,b1,hu, -, -,hx⟩:=HF.out.2 j hjl
          obtain ⟨b',o',c',e1,q1⟩:=HF.out.1.some hu
          obtain ⟨rfl, -,rfl⟩:=Value.slice.inj e1
          obtain ⟨ua,un,uc,rfl,hun,hum⟩:=hx.shape
          unfold maxLen at hum
          have hql:=World.block_lt_of_cell? _ _ q1
          have Hst:=Lib.hid (fun h=> take_snoc (P:=fun c:List Int=> c.length≤10) hjl Hj.out h)
          have Hgj:=Lib.hid hgj
          have Hun:=Lib.hid hun
          clear hu hx e1 hgj Hj hun
          generalize F[j]=cl at *
          clear hjl
          by_cases h4:(10:Int) < un
          · go_wp2
            go_ret
            exact ⟨false,rfl,(fun h=> nomatch h),rfl⟩
          · have Hn:=Lib.hid (Hst.out (by have:=Hun.out;omega))
            clear Hst
            go_wp2
            go_roundg (gk - 1)
            case rel=> exact ⟨j+1,by go_num,by have:=Hgj.out;omega,rfl,Hn⟩
            case measure=> have:=Hgj.out;omega
        · obtain rfl:j=fn:=by omega
          have HN2:RowKit.Hid (∀t∈td.take (i+1),TdP t):=HST.out ⟨by show tn≤10;omega,by show K.length≤5;rw [HKN.out];omega,by show F.length≤5;rw [HFN.out];omega,HKA.out,by
           have h:=Hj.out
           rw [List.take_of_length_le (by rw [HFN.out];exact Nat.le_refl _)] at h
           exact h⟩
          clear Hj hgj hj HST HKA
          go_wp2
          go_roundg (gk0 - 1)
          case rel=> exact ⟨i+1,by go_num,by have:=Hgi.out;omega,rfl,HN2⟩
          case measure=> have:=Hgi.out;omega
  · obtain rfl:i=n:=by omega
    have HTD:RowKit.Hid (∀t∈td,TdP t):=by
     have h:=Hi.out
     rw [List.take_of_length_le (by rw [HN.out];exact Nat.le_refl _)] at h
     exact h
    have HC0:RowKit.Hid (∀c∈l.take 0,shortP c.old∧shortP c.new):=by show ∀c∈l.take 0,_;simp
    clear Hi hgi hi
    go_upto_region 17 with (fail)
    go_loopg [8] m (fun g z wr2=> ∃j:Nat,z=.int .i64 j∧g+j=m∧wr2=wr∧RowKit.Hid (∀c∈l.take j,shortP c.old∧shortP c.new))
    case atStart=> exact ⟨0,rfl,rfl,rfl,HC0⟩
    case round=>
     clear HC0
     obtain ⟨j,rfl,hgj,rfl,Hj⟩:=hrel
     by_cases hj:j < m
     · have hjl:j < l.length:=by rw [HM.out];exact hj
       have hjj:(j:Int) < m:=by omega
       obtain ⟨b,o,c,e1,hbl, -, -,p2,p3⟩:=HL.out.cells j hjl
       obtain ⟨rfl, -,rfl⟩:=Value.slice.inj e1
       have hx:=HL.out.ch _ (List.getElem_mem hjl)
       have Hst:=Lib.hid (fun h=> take_snoc (P:=fun c:Chg=> shortP c.old∧shortP c.new) hjl Hj.out h)
       have Hgj:=Lib.hid hgj
       clear e1 hgj Hj
       generalize l[j]=ch at *
       clear hjl
       have HSO:=Lib.hid (short_calls ch.old ch.ov _ hx.old)
       have HSN:=Lib.hid (short_calls ch.new ch.nv _ hx.new)
       unfold Chg.ov at p2 HSO
       unfold Chg.nv at p3 HSN
       clear hx
       go_wp2_with fail
       (with_reducible refine HSO.out.mono ?_)
       rintro e w1 ⟨q1,rfl,hq1,rfl⟩
       have HQ1:=Lib.hid hq1
       clear hq1 HSO
       cases q1 with
       | false=>
        go_wp2
        go_ret
        exact ⟨false,rfl,(fun h=> nomatch h),rfl⟩
       | true=>
        go_wp2_with fail
        (with_reducible refine HSN.out.mono ?_)
        rintro e w1 ⟨q2,rfl,hq2,rfl⟩
        have HQ2:=Lib.hid hq2
        clear hq2 HSN
        cases q2 with
        | false=>
         go_wp2
         go_ret
         exact ⟨false,rfl,(fun h=> nomatch h),rfl⟩
        | true=>
         have Hn:=Lib.hid (Hst.out ⟨by have:=HQ1.out;simpa using this,by have:=HQ2.out;simpa using this⟩)
         clear Hst
         go_wp2
         go_roundg (gk - 1)
         case rel=> exact ⟨j+1,by go_num,by have:=Hgj.out;omega,rfl,Hn⟩
         case measure=> have:=Hgj.out;omega
     · obtain rfl:j=m:=by omega
       have HCD:RowKit.Hid (∀c∈l,shortP c.old∧shortP c.new):=by
        have h:=Hj.out
        rw [List.take_of_length_le (by rw [HM.out];exact Nat.le_refl _)] at h
        exact h
       clear Hj hgj hj
       by_cases h4:(i:Int)≤4
       · by_cases h5:(j:Int)≤40
         · go_wp2
           go_ret
           exact ⟨true,by simp,fun _=> ⟨HTD.out,HCD.out,by rw [HN.out];omega,by rw [HM.out];omega⟩,rfl⟩
         · go_wp2
           go_ret
           exact ⟨false,by simp,(fun h=> nomatch h),rfl⟩
       · go_wp2
         go_ret
         exact ⟨false,by simp,(fun h=> nomatch h),rfl⟩
/- rows; same: its drawn region. -/
set_option maxRecDepth 100000
end Go.Proofs.YtpdlkdoogojboaaGreat
/- rows, same. -/
namespace Go.Proofs.YtpdlkdoogojboaaGreat
open Go Go.RowKit
theorem tbA_mk (S cols:Nat) (I:List (List Int)) (L:LL) (next:Int):tbA ⟨S,cols,I,L,next⟩=storeA S cols I L next:=rfl
/- same. -/
/- run. -/
theorem newD_max (td:List Td):∀t∈newD td,t.2.1.length≤0:=by
 intro t ht
 obtain ⟨u, -,rfl⟩:=List.mem_map.1 ht
 exact Nat.le_refl _
/- The writer's number: its region. -/
set_option maxRecDepth 100000
/-- A writer. -/
def wrA (b:Nat) (xs:List UInt8):Asn:=exA fun v=> starA [blkA b 116 #[v],slA 5 v (xs.map u8C)]
noncomputable def gWn0 (b:Nat) (n:Int) (v:Value) (xs:List UInt8):=rgx Tryz.prog Tryz.f55 0 14 [4,5,6,7,8,9,10,11,12,13] [(0,pV b 0),(1, .int .i64 n)] (Vq 0 4 [Kp b 0,Kp b 0,Kp b 0,Kp b 0,Kv v,Kv (.int .i64 n),Kv (.string (textOf (numL n))),Vf.slice,Kp b 0,Kp b 0]) [.blk b (116) [⟨v,[(10, .s 11)]⟩], .gen [7] [11] fun L g=> match L 7 with | true=> slA 5 (g 11) (xs.map u8C++(bytes (textOf (numL n))).map u8C) | false=> slA 5 (v) (xs.map u8C)]
theorem rWn0 (b:Nat) (n:Int) (v:Value) (xs:List UInt8) (w0:World) (fp0:List Nat) (R:List Asn) (hl:xs.length+8 < 1099511627776) (hnum:∀L w,St w0 fp0 (L++R) w→Calls Tryz.prog 86 #[.int .i64 n] w fun e w'=> e=.returned (.string (textOf (numL n)))∧Below w.heap.size w w') {w:World} {c:Code} {a:Act} {Q:Exit→Act→World→Prop} (c1:isReg c=true) (c2:cops c=opsR Tryz.f55 0) (c3:a.tmps.size=14) (_c4:a.defers=a.defers) (i0:a.eval (.tmp 0)=.pointer (some ⟨b,0,none⟩)) (i1:a.eval (.tmp 1)=.int .i64 n)
 (hS:St w0 fp0 ([blkA b (116) #[v],slA 5 (v) (xs.map u8C)]++R) w)
 (hQ:∀(u11:Value) (w1:World),(∃a n c,u11=.slice a n c)→St w0 fp0 ([blkA b (116) #[u11],slA 5 (u11) (xs.map u8C++(bytes (textOf (numL n))).map u8C)]++R) w1→Q .normal (putL a [(4, .pointer (some ⟨b,0,none⟩)),(5, .pointer (some ⟨b,0,none⟩)),(6, .pointer (some ⟨b,0,none⟩)),(7, .pointer (some ⟨b,0,none⟩)),(8,v),(9, .int .i64 n),(10, .string (textOf (numL n))),(11,u11),(12, .pointer (some ⟨b,0,none⟩)),(13, .pointer (some ⟨b,0,none⟩))]) w1):c.wp Tryz.prog Q a w:=by
 have ok:(gWn0 b n v xs w0 fp0 R).Ok 11:=Rg.ok _ 11 [4,6,7,10] ⟨.load _ 4 0 0, .askR _ 6 hnum, .appG _ 7 (fun _=> [blkA b 116 #[v],slA 5 (v) (xs.map u8C)]) (fun _ u=> [blkA b 116 #[v],slA 5 (u) (xs.map u8C++(bytes (textOf (numL n))).map u8C)]) (fun ty g w h=> (by obtain ⟨u,w2,h1,h2⟩:=appT1 appBT (by kernel_rfl) ty (textOf (numL n)) (by rw [num_size,List.length_map];omega) (h.perm (List.Perm.swap _ _ _));obtain ⟨_,hr⟩:=h2.has 0 rfl;obtain ⟨a,m,c,rfl⟩:=sl_shape hr;exact ⟨_,w2,h1,kr (by kernel_rfl),h2.perm (List.Perm.swap _ _ _)⟩)), .store _ 10 0 0,trivial⟩
 refine wp_regD ok (by kernel_rfl) ⟨c1,c2⟩ ⟨c3,fun p hp=> ?_⟩ hS fun A1 w1 N1 H1=> ?_
 · simp only [gWn0,rgx,List.map_nil,List.append_nil,List.mem_cons,List.not_mem_nil,or_false] at hp
   rcases hp with rfl | rfl
   · exact i0
   · exact i1
 have e4:=N1.val 0 rfl
 have e5:=N1.val 1 rfl
 have e6:=N1.val 2 rfl
 have e7:=N1.val 3 rfl
 have e8:=N1.val 4 rfl
 have e9:=N1.val 5 rfl
 have e10:=N1.val 6 rfl
 have e11:=N1.val 7 rfl
 have e12:=N1.val 8 rfl
 have e13:=N1.val 9 rfl
 have h:=hQ (slots A1 11) w1 ⟨_,_,_,e11⟩ H1
 rw [frame_eq N1.frame (cons_eq e4 (cons_eq e5 (cons_eq e6 (cons_eq e7 (cons_eq e8 (cons_eq e9 (cons_eq e10 (cons_eq rfl (cons_eq e12 (cons_eq e13 rfl))))))))))]
 exact h
end Go.Proofs.YtpdlkdoogojboaaGreat
/- The writer's number; the reference's Number. -/
namespace Go.Proofs.YtpdlkdoogojboaaGreat
open Go Go.RowKit
theorem St.wr {w0 w:World} {fp0:List Nat} {R:List Asn} {b:Nat} {xs:List UInt8}:St w0 fp0 (wrA b xs::R) w↔∃v,St w0 fp0 (blkA b 116 #[v]::slA 5 v (xs.map u8C)::R) w:=by
 constructor
 · intro h
   obtain ⟨v,h1⟩:=St.exE h
   exact ⟨v,St.star.1 h1⟩
 · rintro ⟨v,h⟩
   have h1:St w0 fp0 (starA [blkA b 116 #[v],slA 5 v (xs.map u8C)]::R) w:=St.star.2 h
   exact St.exI (F:=fun v=> starA [blkA b 116 #[v],slA 5 v (xs.map u8C)]) v h1
set_option maxHeartbeats 4000000 in
theorem wNumber_calls (b:Nat) (xs:List UInt8) (n:Int) (hn:I64 n) (hl:xs.length+8 < 1099511627776) (w0 w:World) (fp0:List Nat) (R:List Asn) (hS:St w0 fp0 (wrA b xs::R) w):
 Calls Tryz.prog 55 #[.pointer (some ⟨b,0,none⟩), .int .i64 n] w fun e w'=> e=.returned (.tuple #[])∧St w0 fp0 (wrA b (xs++numL n)::R) w':=by
 obtain ⟨v,h⟩:=St.wr.1 hS
 have HS:=Lib.hid h
 have HN:=Lib.hid hn
 have HL:=Lib.hid hl
 clear hS h hn hl
 go_enter Tryz.func55,Tryz.ntmps55
 go_upto_region 0 with (fail)
 refine rWn0 (w0:=w0) (fp0:=fp0) (R:=R) b n v xs HL.out (fun L w h=> number_calls n HN.out w) rfl (by kernel_rfl) rfl rfl rfl rfl HS.out ?_
 intro u11 w1 ⟨a,m,c,e11⟩ h1
 subst e11
 have HF:RowKit.Hid (St w0 fp0 (wrA b (xs++numL n)::R) w1):=by
  refine St.wr.2 ⟨.slice a m c,?_⟩
  rw [List.map_append]
  have h2:St w0 fp0 (blkA b 116 #[.slice a m c]::slA 5 (.slice a m c) (xs.map u8C++(bytes (textOf (numL n))).map u8C)::R) w1:=h1
  rw [bytes_textOf] at h2
  exact h2
 clear h1
 simp only [putL,List.foldl,Act.put,List.setIfInBounds_toArray,List.set_cons_succ,List.set_cons_zero]
 go_end0
 exact ⟨rfl,HF.out⟩
/- The reference's Number. -/
/-- The last k of the eight bytes. -/
def numT (n:Int) (k:Nat):List UInt8:=(List.range 8).map fun j=> if 8 - k≤j then numB n j else 0
theorem numT_next (n:Int) (k:Nat) (hk:k < 8):(numT n k).set (7 - k) (numB n (7 - k))=numT n (k+1):=by
 match k,hk with
 | 0,_=> rfl
 | 1,_=> rfl
 | 2,_=> rfl
 | 3,_=> rfl
 | 4,_=> rfl
 | 5,_=> rfl
 | 6,_=> rfl
 | 7,_=> rfl
theorem numB_of (n:Int) (k:Nat) (hk:k < 8):(numB n (7 - k)).toNat=uN n / 256 ^ k % 256:=by
 have h:uN n / 2 ^ (56 - 8 * (7 - k)) % 256 < 256:=Nat.mod_lt _ (by decide)
 rw [numB,UInt8.toNat_ofNat_of_lt' h,show 56 - 8 * (7 - k)=8 * k by omega,Nat.pow_mul]
set_option maxHeartbeats 4000000 in
set_option maxRecDepth 20000 in
theorem rnumber05_calls (n:Int) (hn:I64 n) (w:World):Calls Tryz.prog 76 #[.int .i64 n] w fun e w'=> ∃c,e=.returned (.slice (some ⟨c,0,none⟩) 8 8)∧St w [] [slA 5 (.slice (some ⟨c,0,none⟩) 8 8) ((numL n).map u8C)] w':=by
 have HX:=Lib.hid (xor_num hn)
 have HU:=Lib.hid (uN_lt hn)
 have HB8:=Lib.hid (fun k hk=> numB_of n k hk)
 clear hn
 go_enter Tryz.func76,Tryz.ntmps76
 have hx:=HX.out
 have hmk:∀w,Sem.run Tryz.prog (Instr.makeSlice 52 (.int .i64 8) (.int .i64 8)) w=.ok (.slice (some ⟨w.heap.size,0,none⟩) 8 8) (w.alloc (.cells #[.int .u8 0, .int .u8 0, .int .u8 0, .int .u8 0, .int .u8 0, .int .u8 0, .int .u8 0, .int .u8 0] 5)):=fun w=> by kernel_rfl
 go_upto_region 4 with (fail)
 have HS0:RowKit.Hid (St w [] (slA 5 (.slice (some ⟨w.heap.size,0,none⟩) 8 8) ((numT n 0).map u8C)::[]) (w.alloc (.cells #[.int .u8 0, .int .u8 0, .int .u8 0, .int .u8 0, .int .u8 0, .int .u8 0, .int .u8 0, .int .u8 0] 5))):=by
  refine St.addF (f:=[w.heap.size]) (St.start (w:=w) (L:=[]) (fp:=[]) rfl) ?_ ((Below.refl _ _).alloc (Nat.le_refl _) _) (fun k hk=> by rw [List.mem_singleton.1 hk];exact Nat.le_refl _)
  have h:=World.ownsRow_lit (base:=0) (e:=5) (size:=1) w #[.int .u8 0, .int .u8 0, .int .u8 0, .int .u8 0, .int .u8 0, .int .u8 0, .int .u8 0, .int .u8 0] 8 (Nat.zero_le _) (by decide) rfl
  exact ⟨h,rfl⟩
 clear hx hmk HX
 obtain ⟨u,hu⟩:∃u,uN n=u:=⟨_,rfl⟩
 have h0:(u:Int)=((u / 256 ^ 0:Nat):Int):=by simp
 rw [hu] at HU HB8 ⊢
 generalize hW:w.alloc _=W at *
 clear hW hu
 obtain ⟨g,hg⟩:∃g,w.heap.size=g:=⟨_,rfl⟩
 rw [hg] at HS0 ⊢
 clear hg
 rw [h0]
 clear h0
 go_loopg [3,5] 8 (fun gm z3 z5 wr=> ∃k:Nat,z5=.int .i64 (7 - (k:Int))∧z3=.int .u64 ((u / 256 ^ k:Nat):Int)∧gm+k=8∧RowKit.Hid (St w [] (slA 5 (.slice (some ⟨g,0,none⟩) 8 8) ((numT n k).map u8C)::[]) wr))
 case atStart=> exact ⟨0,rfl,rfl,rfl,HS0⟩
 case round=>
  clear HS0
  obtain ⟨k,rfl,rfl,hgk,Hs⟩:=hrel
  by_cases hk:k < 8
  · have hk':(0:Int)≤7 - (k:Int):=by omega
    obtain ⟨j,hj⟩:∃j:Nat,7 - k=j:=⟨_,rfl⟩
    have hji:(7 - (k:Int))=(j:Int):=by omega
    have hj8:j < 8:=by omega
    obtain ⟨_,hrow⟩:=Hs.out.has 0 rfl
    obtain ⟨hc,hf,hl⟩:=row_at (i:=j) (u:=u8C ((numT n k)[j]'(by simp [numT];omega))) (show (rowA 5 1 (.slice (some ⟨g,0,none⟩) 8 8) 8 ((numT n k).map u8C)).p wr _ from hrow) (by simp [numT]) (by rw [List.getElem?_map,List.getElem?_eq_getElem];rfl)
    have Hgk:=Lib.hid hgk
    have HJ:=Lib.hid hj
    rw [hji]
    have hm:(u / 256 ^ k % 256:Nat) < 256:=Nat.mod_lt _ (by decide)
    have hkb:(((u / 256 ^ k % 256:Nat):Int))=((numB n j).toNat:Int):=by rw [←hj,HB8.out k hk]
    have hq:(((u / 256 ^ k:Nat):Int)) / 256=((u / 256 ^ (k+1):Nat):Int):=by
     rw [Nat.pow_succ,←Nat.div_div_eq_div_mul]
     rfl
    have hq2:(((u / 256 ^ k:Nat):Int)) % 256=((numB n j).toNat:Int):=by rw [←hkb];rfl
    have HQ:=Lib.hid hq
    have HQ2:=Lib.hid hq2
    have hv:u / 256 ^ k < 18446744073709551616:=Nat.lt_of_le_of_lt (Nat.div_le_self _ _) HU.out
    generalize u / 256 ^ k=v at *
    clear hgk hj hji hrow hm hkb hq hq2
    have HN:RowKit.Hid (St w [] (slA 5 (.slice (some ⟨g,0,none⟩) 8 8) ((numT n (k+1)).map u8C)::[]) (wr.setCell ⟨g,j,none⟩ (.int .u8 ((v:Int) % 256)))):=by
     show St _ _ _ _
     rw [HQ2.out,←numT_next n k hk,List.map_set]
     have h:=Hs.out
     have h2:St w [] (rowA 5 1 (.slice (some ⟨g,0,none⟩) 8 8) ((numT n k).map u8C).length ((numT n k).map u8C)::[]) wr:=h
     have e8:((numT n k).map u8C).length=8:=by simp [numT]
     rw [e8] at h2
     have h3:=h2.setR j (u8C (numB n j))
     have h4:St w [] (rowA 5 1 (.slice (some ⟨g,0,none⟩) 8 8) (((numT n k).map u8C).set j (u8C (numB n j))).length (((numT n k).map u8C).set j (u8C (numB n j)))::[]) (wr.setCell ⟨g,j,none⟩ (u8C (numB n j))):=by
      rw [List.length_set,e8]
      exact h3
     rw [HJ.out]
     exact h4
    clear Hs
    go_wp2
    go_roundg (gk - 1)
    case rel=> exact ⟨k+1,by have:=HJ.out;congr 1;omega,by rw [HQ.out],by have:=Hgk.out;omega,HN⟩
    case measure=> have:=Hgk.out;omega
  · obtain rfl:k=8:=by omega
    have HF:RowKit.Hid (St w [] [slA 5 (.slice (some ⟨g,0,none⟩) 8 8) ((numL n).map u8C)] wr):=Hs.out
    have hneg:(7 - ((8:Nat):Int))= -1:=by omega
    rw [hneg]
    clear Hs hgk hk
    go_wp2
    go_ret
    exact ⟨g,rfl,HF.out⟩
theorem RNumber_calls (n:Int) (hn:I64 n) (w:World):Calls Tryz.prog 42 #[.int .i64 n] w fun e w'=> e=.returned (.string (textOf (numL n)))∧Below w.heap.size w w':=by
 have HC:=Lib.hid (rnumber05_calls n hn w)
 clear hn
 go_enter Tryz.func42,Tryz.ntmps42
 go_wp2_with fail
 (with_reducible refine HC.out.mono ?_)
 rintro e w1 ⟨c,rfl,h1⟩
 have hcv:(convert 52 9 (.slice (some ⟨c,0,none⟩) 8 8)).run Tryz.prog w1=.ok (.string (textOf (numL n))) w1:=by
  obtain ⟨_,hr⟩:=h1.has 0 rfl
  exact run_back hr
 have HB:=Lib.hid h1.below0
 clear HC h1
 go_wp2
 go_ret
 exact ⟨rfl,HB.out⟩
/- The reference's encoders of numbers, values and rows; the writer's row. -/
theorem src_sl {w:World} {v:Value} {x:List UInt8} {f:List Nat} (h:(slA 5 v (x.map u8C)).p w f):Go.Src Tryz.prog 1 52 v (x.map u8C).length (x.map u8C) w:=
 (SlX.of_sl (X:=[]) h (by simp)).src (e':=5) (by kernel_rfl) (by decide) (u8C_one x)
theorem rnum40_calls (b:Value) (xs:List UInt8) (n:Int) (hn:I64 n) (hl:xs.length+8 < 1099511627776) (w0 w:World) (fp0:List Nat) (R:List Asn) (hS:St w0 fp0 (slA 5 b (xs.map u8C)::R) w):
 Calls Tryz.prog 61 #[b, .int .i64 n] w fun e w'=> ∃b',e=.returned b'∧St w0 fp0 (slA 5 b' ((xs++numL n).map u8C)::R) w':=by
 have HC:=Lib.hid (RNumber_calls n hn w)
 have HS:=Lib.hid hS
 have HL:RowKit.Hid ((xs.map u8C).length+(textOf (numL n)).size < 1099511627776):=by
  show _ < _
  rw [List.length_map,num_size]
  exact hl
 clear hS hn hl
 go_enter Tryz.func61,Tryz.ntmps61
 go_wp2_with fail
 (with_reducible refine HC.out.mono ?_)
 rintro e w1 ⟨rfl,hb⟩
 have HS1:=Lib.hid (HS.out.mono hb)
 clear hb HC HS
 go_wp2_with (first
  | (at_builtin;go_loud (refine wpList_appSl rfl _ _ _ _ rfl rfl rfl appBT HS1.out (Go.Src.ofString w1 (by kernel_rfl) (textOf (numL n))) HL.out ?_);intro v3 w3 h3))
 go_ret
 exact ⟨v3,rfl,h3.out.snoc8 (by rw [←bytes_textOf (numL n)];rfl)⟩
theorem St.litA {w0 w:World} {fp0:List Nat} {R:List Asn} (h:St w0 fp0 R w) (l:List UInt8) (hl:l.length≤maxLen):St w0 fp0 (slA 5 (.slice (some ⟨w.heap.size,0,none⟩) l.length l.length) (l.map u8C)::R) (w.alloc (.cells (l.map u8C).toArray 5)):=by
 refine h.addF (f:=[w.heap.size]) ⟨?_,rfl⟩ ((Below.refl _ _).alloc (Nat.le_refl _) _) (fun k hk=> by rw [List.mem_singleton.1 hk];exact Nat.le_refl _)
 have e:(l.map u8C).length=l.length:=List.length_map ..
 have h:=World.ownsRow_lit (base:=0) (e:=5) (size:=1) w (l.map u8C).toArray l.length (Nat.zero_le _) hl (by simp)
 rw [e]
 exact h
theorem src_lit8 (w:World) (l:List UInt8):Go.Src Tryz.prog 1 52 (.slice (some ⟨w.heap.size,0,none⟩) l.length l.length) l.length (l.map u8C) (w.alloc (.cells (l.map u8C).toArray 5)):=by
 have h:=src_lit (P:=Tryz.prog) (tx:=52) (e':=5) (by kernel_rfl) (w.alloc (.cells (l.map u8C).toArray 5)) w.heap.size l.length l.length 5 (0,0) (l.map u8C).toArray (heap_alloc_new _ _) (by simp) (by simpa using u8C_one l)
 simpa using h
set_option maxHeartbeats 4000000 in
set_option maxRecDepth 20000 in
theorem rvalue05_calls (v:Vl) (hi:I64 v.int) (hl:v.text.size < 100000000000) (w:World):
 Calls Tryz.prog 131 #[v.val] w fun e w'=> ∃b',e=.returned b'∧St w [] [slA 5 b' ((encL v).map u8C)] w':=by
 obtain ⟨K,I,T⟩:=v
 simp only at hi hl
 unfold Vl.val
 simp only
 have HV:=Lib.hid ((St.start (w:=w) (L:=[]) (fp:=[]) rfl).newblk 68 #[.int .i64 K, .int .i64 I, .string T])
 have V:=VarIs.new w #[.int .i64 K, .int .i64 I, .string T] 68
 by_cases hk1:K=1
 · subst hk1
   have hlit:=HV.out.litA [2] (by decide)
   have HE:RowKit.Hid (encL ⟨1,I,T⟩=[2]++numL I):=rfl
   have HLN:RowKit.Hid (([2].map u8C).length+((numL I).map u8C).length < 1099511627776):=by show _ < _;rw [List.length_map,List.length_map,numL_length];decide
   have HC:=Lib.hid (fun w=> rnumber05_calls I hi w)
   have HS:=Lib.hid hlit
   simp only [World.size_alloc,List.length_cons,List.length_nil,Nat.zero_add] at HS
   clear hlit HV hi hl
   go_enter Tryz.func131,Tryz.ntmps131
   go_wp2_with fail
   (with_reducible refine (HC.out _).mono ?_)
   rintro e w1 ⟨c,rfl,h1⟩
   have HS1:=Lib.hid ((newB HS.out h1).perm (List.Perm.swap _ _ _))
   obtain ⟨_,hr⟩:=(newB HS.out h1).has 0 rfl
   have HSRC:=Lib.hid (src_sl hr)
   clear HC HS h1 hr V
   go_wp2_with (first
    | (at_builtin;go_loud (refine wpList_appSl rfl _ _ _ _ rfl rfl rfl appBS HS1.out HSRC.out HLN.out ?_);intro v3 w3 h3))
   go_ret
   exact ⟨v3,rfl,by rw [HE.out];exact (St_re (L:=[_,_,_]) (h3.out.snoc8 rfl) [1,2,0] [] (by kernel_rfl)).drop.drop⟩
 · have hk1':((K:Int)==1)=false:=by simpa using hk1
   by_cases hk2:K=2
   · subst hk2
     have HE:RowKit.Hid (encL ⟨2,I,T⟩=[3]++(bytes T).flatMap escB++[0]):=rfl
     have hlit:=HV.out.litA [3] (by decide)
     have HS:=Lib.hid hlit
     simp only [World.size_alloc,List.length_cons,List.length_nil,Nat.zero_add] at HS
     have HL:=Lib.hid hl
     have hbl:(bytes T).length=T.size:=by simp [bytes]
     have HBL:=Lib.hid hbl
     clear hlit HV hi hl hbl
     go_enter Tryz.func131,Tryz.ntmps131
     go_upto_region 7 with (fail)
     have HS:RowKit.Hid (St w [] [slA 5 (.slice (some ⟨w.heap.size+1,0,none⟩) 1 1) (([3]++((bytes T).take 0).flatMap escB).map u8C),blkA w.heap.size 68 #[.int .i64 2, .int .i64 I, .string T]] ((w.alloc (.cells #[.int .i64 2, .int .i64 I, .string T] 68)).alloc (.cells #[.int .u8 3] 5))):=HS.out
     generalize (w.alloc (.cells #[.int .i64 2, .int .i64 I, .string T] 68)).alloc (.cells #[.int .u8 3] 5)=W at *
     clear V
     obtain ⟨vb,hvb⟩:∃vb,w.heap.size=vb:=⟨_,rfl⟩
     rw [hvb] at HS ⊢
     clear hvb
     go_loopg [3,4] T.size (fun g z3 z4 wr=> ∃k:Nat,z4=.int .i64 k∧k+g=T.size∧RowKit.Hid (St w [] [slA 5 z3 (([3]++((bytes T).take k).flatMap escB).map u8C),blkA vb 68 #[.int .i64 2, .int .i64 I, .string T]] wr))
     case atStart=> exact ⟨0,rfl,by omega,HS.out⟩
     case round=>
      clear HS
      obtain ⟨k,rfl,hkg,Hs⟩:=hrel
      obtain ⟨_,hp⟩:=Hs.out.has 1 rfl
      have c2:=(blk_get hp).1 2
      have cl:=(blk_get hp).2.2
      simp only [List.getElem?_toArray,List.getElem?_cons_zero,List.getElem?_cons_succ] at c2
      have HLN:RowKit.Hid ((([3]++((bytes T).take k).flatMap escB).map u8C).length+2 < 1099511627776):=by
       show _ < _
       rw [List.length_map,List.length_append]
       have h1:=esc_len ((bytes T).take k)
       have h2:((bytes T).take k).length≤T.size:=by rw [List.length_take,HBL.out];omega
       have:=HL.out
       simp only [List.length_cons,List.length_nil]
       omega
      by_cases hk:k < T.size
      · have hkb:k < (bytes T).length:=by rw [HBL.out];exact hk
        have hkn:(k:Int) < T.size:=by omega
        have hst:([3]++((bytes T).take (k+1)).flatMap escB)=([3]++((bytes T).take k).flatMap escB)++escB (T[k]'hk):=by
         rw [List.take_add_one,List.getElem?_eq_getElem hkb,List.flatMap_append,List.append_assoc]
         simp [bytes]
         rfl
        have HST:=Lib.hid hst
        have Hkg:=Lib.hid hkg
        have b0:=byte_eq (c:=T[k]'hk) 0 (by decide)
        have b1:=byte_eq (c:=T[k]'hk) 1 (by decide)
        obtain ⟨c,hc⟩:∃c,T[k]'hk=c:=⟨_,rfl⟩
        rw [hc] at b0 b1
        have hts:T.size < 100000000000:=HL.out
        have HC:=Lib.hid hc
        rw [hc] at HST
        clear hc
        generalize ([3]++((bytes T).take k).flatMap escB)=xs at *
        clear hkg hst hp hkb
        have HM:=Lib.hid (fun o=> Hs.out.mono (w':=wr.alloc o) ((Below.refl _ _).alloc (Nat.le_refl _) _))
        by_cases h0:c=0
        · subst h0
          have q0:((T[k]'hk).toNat:Int)==0:=by rw [HC.out];rfl
          clear b0 b1
          have HLN2:RowKit.Hid ((xs.map u8C).length+2 < 1099511627776):=HLN.out
          go_wp2_with (first
           | (at_builtin;go_loud (refine wpList_appSl rfl _ _ _ _ rfl rfl rfl appBS (HM.out _) (src_lit8 wr [1,1]) HLN2.out ?_);intro v3 w3 h3))
          go_roundg (gk - 1)
          case rel=> exact ⟨k+1,by go_num,by have:=Hkg.out;omega,by rw [HST.out];exact h3.out.snoc8 rfl⟩
          case measure=> have:=Hkg.out;omega
        · have g0:(((T[k]'hk).toNat:Int)==0)=false:=by rw [HC.out,show ((0:Int)=((0:Nat):Int)) from rfl,b0];simpa using h0
          by_cases h1:c=1
          · subst h1
            have q1:((T[k]'hk).toNat:Int)==1:=by rw [HC.out];rfl
            clear b0 b1
            have HLN2:RowKit.Hid ((xs.map u8C).length+2 < 1099511627776):=HLN.out
            go_wp2_with (first
             | (at_builtin;go_loud (refine wpList_appSl rfl _ _ _ _ rfl rfl rfl appBS (HM.out _) (src_lit8 wr [1,2]) HLN2.out ?_);intro v3 w3 h3))
            go_roundg (gk - 1)
            case rel=> exact ⟨k+1,by go_num,by have:=Hkg.out;omega,by rw [HST.out];exact h3.out.snoc8 rfl⟩
            case measure=> have:=Hkg.out;omega
          · have g1:(((T[k]'hk).toNat:Int)==1)=false:=by rw [HC.out,show ((1:Int)=((1:Nat):Int)) from rfl,b1];simpa using h1
            have HLN2:RowKit.Hid ((xs.map u8C).length+1 < 1099511627776):=by have:=HLN.out;show _ < _;omega
            have he:escB c=[c]:=by
             rw [escB,if_neg]
             intro h
             rw [UInt8.le_iff_toNat_le] at h
             have e1:(1:UInt8).toNat=1:=rfl
             have a0:c.toNat≠0:=fun e=> h0 (by rw [←UInt8.toNat_inj];exact e)
             have a1:c.toNat≠1:=fun e=> h1 (by rw [←UInt8.toNat_inj];exact e)
             omega
            rw [he,←HC.out] at HST
            clear he b0 b1 h0 h1
            go_wp2_with (first
             | (at_builtin;go_loud (refine wpList_appSl rfl _ _ _ _ rfl rfl rfl appBS (HM.out _) (src_lit8 wr [T[k]'hk]) HLN2.out ?_);intro v3 w3 h3))
            go_roundg (gk - 1)
            case rel=> exact ⟨k+1,by go_num,by have:=Hkg.out;omega,by rw [HST.out];exact h3.out.snoc8 rfl⟩
            case measure=> have:=Hkg.out;omega
      · obtain rfl:k=T.size:=by omega
        have hall:(bytes T).take T.size=bytes T:=List.take_of_length_le (by rw [HBL.out];exact Nat.le_refl _)
        rw [hall] at Hs HLN
        have HM:=Lib.hid (fun o=> Hs.out.mono (w':=wr.alloc o) ((Below.refl _ _).alloc (Nat.le_refl _) _))
        have HLN2:RowKit.Hid ((([3]++(bytes T).flatMap escB).map u8C).length+1 < 1099511627776):=by have:=HLN.out;show _ < _;omega
        clear hall hkg hp hk
        go_wp2_with (first
         | (at_builtin;go_loud (refine wpList_appSl rfl _ _ _ _ rfl rfl rfl appBS (HM.out _) (src_lit8 wr [0]) HLN2.out ?_);intro v3 w3 h3))
        go_ret
        exact ⟨v3,rfl,by rw [HE.out];exact (St_re (L:=[_,_]) (h3.out.snoc8 rfl) [1,0] [] (by kernel_rfl)).drop⟩
   · have hk2':((K:Int) !=2)=true:=by simpa using hk2
     have HE:RowKit.Hid (encL ⟨K,I,T⟩=[1]):=by
      show _=_
      simp [encL,hk1,hk2]
     have hlit:=HV.out.litA [1] (by decide)
     have HS:=Lib.hid hlit.drop
     clear hlit
     have HS:=Lib.hid (HV.out.litA [1] (by decide))
     simp only [World.size_alloc,List.length_cons,List.length_nil,Nat.zero_add] at HS
     clear HV hi hl
     go_enter Tryz.func131,Tryz.ntmps131
     go_wp2
     go_ret
     exact ⟨_,rfl,by rw [HE.out];exact (St_re (L:=[_,_]) HS.out [1,0] [] (by kernel_rfl)).drop⟩
end Go.Proofs.YtpdlkdoogojboaaGreat
