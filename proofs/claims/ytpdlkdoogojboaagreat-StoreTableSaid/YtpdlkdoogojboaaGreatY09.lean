/- Part 9 of the proof: Mc, Mdr, Md, Mg, Mh, Mir, Mi, Mj, Mk, Mlr, Ml, Mn -/
import Derived.Test.YtpdlkdoogojboaaGreatY08
import Derived.Test.YtpdlkdoogojboaaGreatY05
/- Small. -/
namespace Go.Proofs.YtpdlkdoogojboaaGreat
open Go Go.RowKit
structure TdP (t:Td):Prop where
 n:t.n≤10
 k:t.K.length≤5
 f:t.F.length≤5
 kl:∀c∈t.K,c.length≤10
 fl:∀c∈t.F,c.length≤10
structure SmallP (td:List Td) (l:List Chg):Prop where
 tds:∀t∈td,TdP t
 ls:∀c∈l,shortP c.old∧shortP c.new
 tn:td.length≤4
 ln:l.length≤40
theorem TdP.sm {t:Td} (h:TdP t):t.Sm:=⟨by have:=h.n;omega,by have:=h.k;omega,by have:=h.f;omega,fun c hc=> by have:=h.kl c hc;omega,fun c hc=> by have:=h.fl c hc;omega⟩
theorem take_snoc {α:Type} {P:α→Prop} {l:List α} {k:Nat} (hk:k < l.length) (h:∀x∈l.take k,P x) (h2:P l[k]):∀x∈l.take (k+1),P x:=by
 intro x hx
 rw [List.take_add_one,List.getElem?_eq_getElem hk] at hx
 rcases List.mem_append.1 hx with hx | hx
 · exact h x hx
 · have:x=l[k]:=by simpa using hx
   rw [this];exact h2
set_option maxHeartbeats 8000000 in
set_option maxRecDepth 20000 in
theorem Small_calls (td:List Td) (l:List Chg) (sv lv:Value) (w:World) (hs:SchX w td sv) (hl:ChsX w l lv):Calls Tryz.prog 13 #[sv,lv] w fun e w'=> QPost (SmallP td l) w e w':=by
 obtain ⟨sa,sc,rfl⟩:=hs.sl.shape
 obtain ⟨la,lc,rfl⟩:=hl.sl.shape
 obtain ⟨n,hn⟩:∃n,td.length=n:=⟨_,rfl⟩
 obtain ⟨m,hm⟩:∃m,l.length=m:=⟨_,rfl⟩
 have hn63:n≤9223372036854775807:=by have:=hs.sl.1;unfold maxLen at this;omega
 have hm63:m≤9223372036854775807:=by have:=hl.sl.1;unfold maxLen at this;omega
 have HS:=Lib.hid hs
 have HL:=Lib.hid hl
 have HN:=Lib.hid hn
 have HM:=Lib.hid hm
 have H0:RowKit.Hid (∀t∈td.take 0,TdP t):=by show ∀t∈td.take 0,_;simp
 rw [hn] at HS ⊢
 rw [hm] at HL ⊢
 clear hs hl hn hm
 go_enter Tryz.func13,Tryz.ntmps13
 go_upto_region 2 with (fail)
 go_loopg [5] n (fun g z wr=> ∃i:Nat,z=.int .i64 i∧g+i=n∧wr=w∧RowKit.Hid (∀t∈td.take i,TdP t))
 case atStart=> exact ⟨0,rfl,rfl,rfl,H0⟩
 case round=>
  clear H0
  obtain ⟨i,rfl,hgi,rfl,Hi⟩:=hrel
  by_cases hi:i < n
  · have hil:i < td.length:=by rw [HN.out];exact hi
    have hin:(i:Int) < n:=by omega
    obtain ⟨b,o,c,e1,hbl, -,p1,p2,p3, -⟩:=HS.out.cells i hil
    obtain ⟨rfl, -,rfl⟩:=Value.slice.inj e1
    have hx:=HS.out.td _ (List.getElem_mem hil)
    have HST:=Lib.hid (fun h=> take_snoc (P:=TdP) hil Hi.out h)
    have Hgi:=Lib.hid hgi
    clear e1 hgi Hi
    generalize td[i]=t at *
    clear hil
    obtain ⟨nm,ca,tn,cc,kv,fv,xa,xn,xc,cvs,kvs,fvs,K,F⟩:=t
    obtain ⟨ka,kc,hkv⟩:=hx.keys.1.shape
    obtain ⟨fa,fc,hfv⟩:=hx.fors.1.shape
    simp only at p1 p2 p3 hkv hfv
    subst hkv hfv
    obtain ⟨kn,hkn⟩:∃kn,K.length=kn:=⟨_,rfl⟩
    obtain ⟨fn,hfn⟩:∃fn,F.length=fn:=⟨_,rfl⟩
    have HK:=Lib.hid hx.keys
    have HF:=Lib.hid hx.fors
    have HKN:=Lib.hid hkn
    have HFN:=Lib.hid hfn
    simp only at HK HF
    rw [hkn] at p2 HK
    rw [hfn] at p3 HF
    have tc:tn≤9223372036854775807:=by have:=hx.cols.1;unfold maxLen at this;simp only at this;omega
    have kcl:kn≤9223372036854775807:=by have:=hx.keys.1.1;unfold maxLen at this;simp only at this;omega
    have fcl:fn≤9223372036854775807:=by have:=hx.fors.1.1;unfold maxLen at this;simp only at this;omega
    clear hx hkn hfn
    by_cases h1:(10:Int) < tn
    · go_wp2
      go_ret
      exact ⟨false,rfl,(fun h=> nomatch h),rfl⟩
    by_cases h2:(5:Int) < kn
    · go_wp2
      go_ret
      exact ⟨false,rfl,(fun h=> nomatch h),rfl⟩
    by_cases h3:(5:Int) < fn
    · go_wp2
      go_ret
      exact ⟨false,rfl,(fun h=> nomatch h),rfl⟩
    obtain ⟨gk0,rfl⟩:∃x,x=gk:=⟨_,rfl⟩
    have HK0:RowKit.Hid (∀c∈K.take 0,c.length≤10):=by show ∀c∈K.take 0,_;simp
    go_upto_region 7 with (fail)
    go_loopg [6] kn (fun g z wr2=> ∃k:Nat,z=.int .i64 k∧g+k=kn∧wr2=wr∧RowKit.Hid (∀c∈K.take k,c.length≤10))
    case atStart=> exact ⟨0,rfl,rfl,rfl,HK0⟩
    case round=>
     clear HK0
     obtain ⟨k,rfl,hgk,rfl,Hk⟩:=hrel
     by_cases hk:k < kn
     · have hkl:k < K.length:=by rw [HKN.out];exact hk
       have hkk:(k:Int) < kn:=by omega
       obtain ⟨u,hu,hx⟩:=HK.out.2 k hkl
       obtain ⟨b',o',c',e1,q1⟩:=HK.out.1.some hu
       obtain ⟨rfl, -,rfl⟩:=Value.slice.inj e1
       obtain ⟨ua,un,uc,rfl,hun,hum⟩:=hx.shape
       unfold maxLen at hum
       have hql:=World.block_lt_of_cell? _ _ q1
       have Hst:=Lib.hid (fun h=> take_snoc (P:=fun c:List Int=> c.length≤10) hkl Hk.out h)
       have Hgk:=Lib.hid hgk
       have Hun:=Lib.hid hun
       clear hu hx e1 hgk Hk hun
       generalize K[k]=cl at *
       clear hkl
       by_cases h4:(10:Int) < un
       · go_wp2
         go_ret
         exact ⟨false,rfl,(fun h=> nomatch h),rfl⟩
       · have Hn:=Lib.hid (Hst.out (by have:=Hun.out;omega))
         clear Hst
         go_wp2
         go_roundg (gk - 1)
         case rel=> exact ⟨k+1,by go_num,by have:=Hgk.out;omega,rfl,Hn⟩
         case measure=> have:=Hgk.out;omega
     · obtain rfl:k=kn:=by omega
       have HKA:RowKit.Hid (∀c∈K,c.length≤10):=by
        have h:=Hk.out
        rw [List.take_of_length_le (by rw [HKN.out];exact Nat.le_refl _)] at h
        exact h
       have HF0:RowKit.Hid (∀c∈F.take 0,c.length≤10):=by show ∀c∈F.take 0,_;simp
       clear Hk hgk hk
       go_upto_region 12 with (fail)
       go_loopg [7] fn (fun g z wr2=> ∃j:Nat,z=.int .i64 j∧g+j=fn∧wr2=wr∧RowKit.Hid (∀c∈F.take j,c.length≤10))
       case atStart=> exact ⟨0,rfl,rfl,rfl,HF0⟩
       case round=>
        clear HF0
        obtain ⟨j,rfl,hgj,rfl,Hj⟩:=hrel
        by_cases hj:j < fn
        · have hjl:j < F.length:=by rw [HFN.out];exact hj
          have hjj:(j:Int) < fn:=by omega
          obtain ⟨u,a1,b1,hu, -, -,hx⟩:=HF.out.2 j hjl
          obtain ⟨b',o',c',e1,q1⟩:=HF.out.1.some hu
          obtain ⟨rfl, -,rfl⟩:=Value.slice.inj e1
          obtain ⟨ua,un,uc,rfl,hun,hum⟩:=hx.shape
          unfold maxLen at hum
          have hql:=World.block_lt_of_cell? _ _ q1
          have Hst:=Lib.hid (fun h=> take_snoc (P:=fun c:List Int=> c.length≤10) hjl Hj.out h)
          have Hgj:=Lib.hid hgj
          have Hun:=Lib.hid hun
          clear hu hx e1 hgj Hj hun
          generalize F[j]=cl at *
          clear hjl
          by_cases h4:(10:Int) < un
          · go_wp2
            go_ret
            exact ⟨false,rfl,(fun h=> nomatch h),rfl⟩
          · have Hn:=Lib.hid (Hst.out (by have:=Hun.out;omega))
            clear Hst
            go_wp2
            go_roundg (gk - 1)
            case rel=> exact ⟨j+1,by go_num,by have:=Hgj.out;omega,rfl,Hn⟩
            case measure=> have:=Hgj.out;omega
        · obtain rfl:j=fn:=by omega
          have HN2:RowKit.Hid (∀t∈td.take (i+1),TdP t):=HST.out ⟨by show tn≤10;omega,by show K.length≤5;rw [HKN.out];omega,by show F.length≤5;rw [HFN.out];omega,HKA.out,by
           have h:=Hj.out
           rw [List.take_of_length_le (by rw [HFN.out];exact Nat.le_refl _)] at h
           exact h⟩
          clear Hj hgj hj HST HKA
          go_wp2
          go_roundg (gk0 - 1)
          case rel=> exact ⟨i+1,by go_num,by have:=Hgi.out;omega,rfl,HN2⟩
          case measure=> have:=Hgi.out;omega
  · obtain rfl:i=n:=by omega
    have HTD:RowKit.Hid (∀t∈td,TdP t):=by
     have h:=Hi.out
     rw [List.take_of_length_le (by rw [HN.out];exact Nat.le_refl _)] at h
     exact h
    have HC0:RowKit.Hid (∀c∈l.take 0,shortP c.old∧shortP c.new):=by show ∀c∈l.take 0,_;simp
    clear Hi hgi hi
    go_upto_region 17 with (fail)
    go_loopg [8] m (fun g z wr2=> ∃j:Nat,z=.int .i64 j∧g+j=m∧wr2=wr∧RowKit.Hid (∀c∈l.take j,shortP c.old∧shortP c.new))
    case atStart=> exact ⟨0,rfl,rfl,rfl,HC0⟩
    case round=>
     clear HC0
     obtain ⟨j,rfl,hgj,rfl,Hj⟩:=hrel
     by_cases hj:j < m
     · have hjl:j < l.length:=by rw [HM.out];exact hj
       have hjj:(j:Int) < m:=by omega
       obtain ⟨b,o,c,e1,hbl, -, -,p2,p3⟩:=HL.out.cells j hjl
       obtain ⟨rfl, -,rfl⟩:=Value.slice.inj e1
       have hx:=HL.out.ch _ (List.getElem_mem hjl)
       have Hst:=Lib.hid (fun h=> take_snoc (P:=fun c:Chg=> shortP c.old∧shortP c.new) hjl Hj.out h)
       have Hgj:=Lib.hid hgj
       clear e1 hgj Hj
       generalize l[j]=ch at *
       clear hjl
       have HSO:=Lib.hid (short_calls ch.old ch.ov _ hx.old)
       have HSN:=Lib.hid (short_calls ch.new ch.nv _ hx.new)
       unfold Chg.ov at p2 HSO
       unfold Chg.nv at p3 HSN
       clear hx
       go_wp2_with fail
       (with_reducible refine HSO.out.mono ?_)
       rintro e w1 ⟨q1,rfl,hq1,rfl⟩
       have HQ1:=Lib.hid hq1
       clear hq1 HSO
       cases q1 with
       | false=>
        go_wp2
        go_ret
        exact ⟨false,rfl,(fun h=> nomatch h),rfl⟩
       | true=>
        go_wp2_with fail
        (with_reducible refine HSN.out.mono ?_)
        rintro e w1 ⟨q2,rfl,hq2,rfl⟩
        have HQ2:=Lib.hid hq2
        clear hq2 HSN
        cases q2 with
        | false=>
         go_wp2
         go_ret
         exact ⟨false,rfl,(fun h=> nomatch h),rfl⟩
        | true=>
         have Hn:=Lib.hid (Hst.out ⟨by have:=HQ1.out;simpa using this,by have:=HQ2.out;simpa using this⟩)
         clear Hst
         go_wp2
         go_roundg (gk - 1)
         case rel=> exact ⟨j+1,by go_num,by have:=Hgj.out;omega,rfl,Hn⟩
         case measure=> have:=Hgj.out;omega
     · obtain rfl:j=m:=by omega
       have HCD:RowKit.Hid (∀c∈l,shortP c.old∧shortP c.new):=by
        have h:=Hj.out
        rw [List.take_of_length_le (by rw [HM.out];exact Nat.le_refl _)] at h
        exact h
       clear Hj hgj hj
       by_cases h4:(i:Int)≤4
       · by_cases h5:(j:Int)≤40
         · go_wp2
           go_ret
           exact ⟨true,by simp,fun _=> ⟨HTD.out,HCD.out,by rw [HN.out];omega,by rw [HM.out];omega⟩,rfl⟩
         · go_wp2
           go_ret
           exact ⟨false,by simp,(fun h=> nomatch h),rfl⟩
       · go_wp2
         go_ret
         exact ⟨false,by simp,(fun h=> nomatch h),rfl⟩
/- rows; same: its drawn region. -/
set_option maxRecDepth 100000
theorem Rg.Ob.neqS (G:Rg) (i:Nat) (k:IntKind) (p:Int) {ty r:TypeId} {x y:Operand} (hop:(opAt G.ops i).op=.binOp .neq ty x y r:=by rfl) (hx:∀a,G.env i a x=.int k p:=by intro _;exact kr (by kernel_rfl)) (hy:∀a,G.env i a y=.int k p:=by intro _;exact kr (by kernel_rfl)) (hv:∀g,G.valD i g=.bool false:=by intro _;exact kr (by kernel_rfl))
 (hq:(G.quiet i G.pcs.length && G.okV i)=true:=by exact kr (by kernel_rfl)) (hw:∀a,wantE G.ops (opAt G.ops i) (G.env i a)=some true:=by intro _;exact kr (by kernel_rfl)):G.Ob i:=Rg.Ob.read G i hq hw fun L a w _ _=> by
 simp [execOp,hop,hx,hy,go_sem,hv]
noncomputable def gSma4 (b n mb mo mc k:Nat) (lv pv:Value) (next:Int) (A:Asn):=rgx Tryz.prog Tryz.f15 4 43 [11,12,13,14,15,16,17,18,19,20,21,22,23,24,25,26,27,28,29,30,31] [(5, .int .i64 (k:Nat)),(0,pV b 0),(1, .slice (some ⟨mb,mo,none⟩) n mc)] (Vq 0 11 [Kp b 0,Kv (.int .i64 (k:Nat)),Kv (.slice (some ⟨mb,mo,none⟩) n mc),Kv (.int .i64 (k:Nat)),Kp mb (mo+k * 3),Kp mb (mo+k * 3+1),Kv lv,Kv (.bool true),Kv (.bool false),Kv (.bool false),Kp b 0,Kv (.int .i64 (k:Nat)),Kv pv,Kv (.int .i64 next),Kv (.slice (some ⟨mb,mo,none⟩) n mc),Kv (.int .i64 (k:Nat)),Kp mb (mo+k * 3),Kp mb (mo+k * 3+2),Kv (.int .i64 next),Kv (.bool false),Kv (.bool false)]) [.all (A)]
theorem rSma4 (b n mb mo mc k:Nat) (lv pv:Value) (next:Int) (A:Asn) (w0:World) (fp0:List Nat) (R:List Asn) (hk:k < n) (hlv:∀L w,St w0 fp0 (L++R) w→w.cell? ⟨mb,mo+k * 3+1,none⟩=some lv) (hnx:∀L w,St w0 fp0 (L++R) w→w.cell? ⟨mb,mo+k * 3+2,none⟩=some (.int .i64 next)) (hrows:∀w,St w0 fp0 ([A]++R) w→Calls Tryz.prog 20 #[.pointer (some ⟨b,0,none⟩), .int .i64 (k:Nat),lv] w fun e w2=> e=.returned (.bool true)∧St w0 fp0 ([A]++R) w2) (htab:∀w f,A.p w f→Calls Tryz.prog 21 #[.pointer (some ⟨b,0,none⟩), .int .i64 (k:Nat)] w fun e w'=> e=.returned pv∧Below w.heap.size w w') (hnext:∀w f,A.p w f→Calls Tryz.prog 41 #[pv] w fun e w'=> e=.returned (.int .i64 next)∧Below w.heap.size w w') {w:World} {c:Code} {a:Act} {Q:Exit→Act→World→Prop} (c1:isReg c=true) (c2:cops c=opsR Tryz.f15 4) (c3:a.tmps.size=43) (_c4:a.defers=a.defers) (i5:a.eval (.tmp 5)=.int .i64 (k:Nat)) (i0:a.eval (.tmp 0)=.pointer (some ⟨b,0,none⟩)) (i1:a.eval (.tmp 1)=.slice (some ⟨mb,mo,none⟩) n mc)
 (hS:St w0 fp0 ([A]++R) w)
 (hQ:∀(w1:World),St w0 fp0 ([A]++R) w1→Q .normal (putL a [(11, .pointer (some ⟨b,0,none⟩)),(12, .int .i64 (k:Nat)),(13, .slice (some ⟨mb,mo,none⟩) n mc),(14, .int .i64 (k:Nat)),(15, .pointer (some ⟨mb,mo+k * 3,none⟩)),(16, .pointer (some ⟨mb,mo+k * 3+1,none⟩)),(17,lv),(18, .bool true),(19, .bool false),(20, .bool false),(21, .pointer (some ⟨b,0,none⟩)),(22, .int .i64 (k:Nat)),(23,pv),(24, .int .i64 next),(25, .slice (some ⟨mb,mo,none⟩) n mc),(26, .int .i64 (k:Nat)),(27, .pointer (some ⟨mb,mo+k * 3,none⟩)),(28, .pointer (some ⟨mb,mo+k * 3+2,none⟩)),(29, .int .i64 next),(30, .bool false),(31, .bool false)]) w1):c.wp Tryz.prog Q a w:=by
 have ok:(gSma4 b n mb mo mc k lv pv next A w0 fp0 R).Ok 21:=Rg.ok _ 21 [4,6,7,12,13,16,18,19] ⟨.indexO _ 4 mb mo n mc k 3 hk, .loadR1 _ 6 lv hlv,(.callG _ 7 (f:=20) (args:=fun _=> #[.pointer (some ⟨b,0,none⟩), .int .i64 (k:Nat),lv]) (fun _=> [A]) (fun _ _=> [A]) (fun g w h=> (hrows w h).mono fun e w2 ⟨e1,h2⟩=> ⟨_,e1,kr (by kernel_rfl),h2⟩)), .ask1 _ 12 0 (f:=21) (args:=#[.pointer (some ⟨b,0,none⟩), .int .i64 (k:Nat)]) (v:=pv) htab, .ask1 _ 13 0 (f:=41) (args:=#[pv]) (v:=.int .i64 next) hnext, .indexO _ 16 mb mo n mc k 3 hk, .loadR1 _ 18 (.int .i64 next) hnx, .neqS _ 19 .i64 next,trivial⟩
 refine wp_regD ok (by kernel_rfl) ⟨c1,c2⟩ ⟨c3,fun p hp=> ?_⟩ hS fun A1 w1 N1 H1=> ?_
 · simp only [gSma4,rgx,List.map_nil,List.append_nil,List.mem_cons,List.not_mem_nil,or_false] at hp
   rcases hp with rfl | rfl | rfl
   · exact i5
   · exact i0
   · exact i1
 have e11:=N1.val 0 rfl
 have e12:=N1.val 1 rfl
 have e13:=N1.val 2 rfl
 have e14:=N1.val 3 rfl
 have e15:=N1.val 4 rfl
 have e16:=N1.val 5 rfl
 have e17:=N1.val 6 rfl
 have e18:=N1.val 7 rfl
 have e19:=N1.val 8 rfl
 have e20:=N1.val 9 rfl
 have e21:=N1.val 10 rfl
 have e22:=N1.val 11 rfl
 have e23:=N1.val 12 rfl
 have e24:=N1.val 13 rfl
 have e25:=N1.val 14 rfl
 have e26:=N1.val 15 rfl
 have e27:=N1.val 16 rfl
 have e28:=N1.val 17 rfl
 have e29:=N1.val 18 rfl
 have e30:=N1.val 19 rfl
 have e31:=N1.val 20 rfl
 have h:=hQ  w1  H1
 rw [frame_eq N1.frame (cons_eq e11 (cons_eq e12 (cons_eq e13 (cons_eq e14 (cons_eq e15 (cons_eq e16 (cons_eq e17 (cons_eq e18 (cons_eq e19 (cons_eq e20 (cons_eq e21 (cons_eq e22 (cons_eq e23 (cons_eq e24 (cons_eq e25 (cons_eq e26 (cons_eq e27 (cons_eq e28 (cons_eq e29 (cons_eq e30 (cons_eq e31 rfl)))))))))))))))))))))]
 exact h
end Go.Proofs.YtpdlkdoogojboaaGreat
/- rows, same. -/
namespace Go.Proofs.YtpdlkdoogojboaaGreat
open Go Go.RowKit
theorem tbA_mk (S cols:Nat) (I:List (List Int)) (L:LL) (next:Int):tbA ⟨S,cols,I,L,next⟩=storeA S cols I L next:=rfl
theorem getL_at {L:LL} (ha:AscI L) (k:Nat) (hk:k < L.length):getL L L[k].1=some L[k].2:=by
 have e:L=L.take k++L[k]::L.drop (k+1):=by rw [←List.drop_eq_getElem_cons hk,List.take_append_drop]
 have h:∀a∈L.take k,a.1 < L[k].1:=by
  intro a hm
  obtain ⟨i,hi,rfl⟩:=List.mem_iff_getElem.1 hm
  rw [List.getElem_take]
  rw [List.length_take] at hi
  exact (List.pairwise_iff_getElem.1 ha) i k (by omega) hk (by omega)
 obtain ⟨x,hx⟩:∃x,L[k]=x:=⟨_,rfl⟩
 rw [hx] at e h ⊢
 rw [e]
 exact getL_split1 h rfl
set_option maxHeartbeats 8000000 in
set_option maxRecDepth 20000 in
theorem rows_calls (b:Nat) (q:StQ) (D:Db) (hq:q.Ok D) (i:Nat) (hi:i < q.ts.length) (l:List Ri) (lv:Value) (hl:riL l=q.ts[i].L) (hlen:l.length < 1000000) (w0 w:World) (fp0:List Nat) (R:List Asn) (hx:Rd w0 fp0 R fun w=> RiX w l lv) (hS:St w0 fp0 (dbP b q++(q.ts.map tbA++R)) w):
 Calls Tryz.prog 20 #[.pointer (some ⟨b,0,none⟩), .int .i64 i,lv] w fun e w'=> e=.returned (.bool true)∧St w0 fp0 (dbP b q++(q.ts.map tbA++R)) w':=by
 have hdb:=db_get hS
 have HT:=Lib.hid (table_in b i _ q.tv (ptrV q.ts[i].S) w hdb.2.1 hdb.2.2.2.2 (by rw [List.getElem?_map,List.getElem?_eq_getElem hi];rfl))
 have hid:i < q.td.length:=by rw [hq.dlen,←hq.tlen];exact hi
 have hcl:q.ts[i].cols≤1000000:=by
  have:=(hq.sm _ (List.getElem_mem hid)).n
  rw [hq.tdn i hi hid] at this
  omega
 have HS0:=Lib.hid (hS.pickT i hi)
 have HEND:RowKit.Hid (∀w,St w0 fp0 (tbA q.ts[i]::(dbP b q++((q.ts.eraseIdx i).map tbA++R))) w→St w0 fp0 (dbP b q++(q.ts.map tbA++R)) w):=fun w h=> St.unpickT hi h
 generalize q.ts[i]=T at *
 obtain ⟨S,cols,I,L,next⟩:=T
 simp only [tbA_mk] at hl hcl HS0 HEND HT
 obtain ⟨R1,hR1⟩:∃R1,dbP b q++((q.ts.eraseIdx i).map tbA++R)=R1:=⟨_,rfl⟩
 have HX:RowKit.Hid (Rd w0 fp0 R1 fun w=> RiX w l lv):=by
  show Rd _ _ _ _
  rw [←hR1,←List.append_assoc]
  exact hx.app _
 rw [hR1] at HS0
 obtain ⟨E,hE⟩:∃E:World→Prop,(fun w=> St w0 fp0 (dbP b q++(q.ts.map tbA++R)) w)=E:=⟨_,rfl⟩
 have HEND2:RowKit.Hid (∀w,St w0 fp0 (storeA S cols I L next::R1) w→E w):=fun w h=> by
  rw [←hE]
  refine HEND.out w ?_
  rw [hR1]
  exact h
 have hgoal:∀(e:Ending) (w':World),(e=.returned (.bool true)∧E w')→(e=.returned (.bool true)∧St w0 fp0 (dbP b q++(q.ts.map tbA++R)) w'):=fun e w' h=> by
  rw [←hE] at h
  exact h
 refine Calls.mono ?_ hgoal
 clear hgoal HEND hE hS hdb hx hq hid hR1
 obtain ⟨n,hn⟩:∃n,l.length=n:=⟨_,rfl⟩
 have hL:L.length=n:=by rw [←hl,riL_len,hn]
 obtain ⟨a,c,rfl⟩:=(HX.out.at (M:=[_]) HS0.out).sl.shape
 have HN:=Lib.hid hn
 have hasc:AscI L:=by
  obtain ⟨_,h⟩:=HS0.out.has 0 rfl
  exact (storeA_ok h).1
 have HG:RowKit.Hid (∀k (hk:k < l.length),getL L l[k].id=some l[k].r):=fun k hk=> by
  have hk2:k < L.length:=by rw [←hl,riL_len];exact hk
  have h:=getL_at hasc k hk2
  have e:L[k]=(l[k].id,l[k].r):=by simp only [←hl];exact List.getElem_map _
  rw [e] at h
  exact h
 have HLn:RowKit.Hid (Calls Tryz.prog 53 #[ptrV S] w fun e w'=> e=.returned (.int .i64 n)∧w=w'):=by
  obtain ⟨_,h⟩:=HS0.out.has 0 rfl
  have:=SLen_calls h
  rw [hL] at this
  exact this
 rw [hn] at HX hlen ⊢
 unfold ptrV at HT HLn
 clear hn hasc hL hl
 go_enter Tryz.func20,Tryz.ntmps20
 go_wp2_with fail
 (with_reducible refine HT.out.mono ?_)
 rintro e w1 ⟨rfl,rfl⟩
 clear HT
 go_wp2_with fail
 (with_reducible refine HLn.out.mono ?_)
 rintro e w1 ⟨rfl,rfl⟩
 clear HLn
 go_upto_region 5 with (fail)
 go_loopg [26] n (fun g z wr=> ∃k:Nat,z=.int .i64 k∧g+k=n∧RowKit.Hid (St w0 fp0 (storeA S cols I L next::R1) wr))
 case atStart=> exact ⟨0,rfl,rfl,HS0⟩
 case round=>
  clear HS0
  obtain ⟨k,rfl,hgk,Hs⟩:=hrel
  by_cases hk:k < n
  · have hkl:k < l.length:=by rw [HN.out];exact hk
    have hkn:(k:Int) < n:=by omega
    have hxr:=HX.out.at (M:=[_]) Hs.out
    obtain ⟨b',o,c',e1,q0,q1⟩:=ri_cells (by rw [HN.out];have:=hxr.sl;rw [HN.out] at this;exact this) k hkl
    rw [HN.out] at e1
    obtain ⟨rfl, -,rfl⟩:=Value.slice.inj e1
    have hgl:=HG.out k hkl
    have HROW:RowKit.Hid (∀M w,St w0 fp0 (M++R1) w→ValsAt w l[k].r l[k].v):=fun M w h=> ((HX.out M w h).row _ (List.getElem_mem hkl))
    have hql:=World.block_lt_of_cell? _ _ q0
    have Hgk:=Lib.hid hgk
    have HGL:=Lib.hid hgl
    clear e1 hxr hgk hgl
    generalize l[k]=x at *
    clear hkl
    obtain ⟨xid,xa,xn,xc,xr⟩:=x
    unfold Ri.v at q1 HROW
    simp only at q0 q1 HROW HGL
    have HS1:=Lib.hid (Hs.out.newblk 109 #[.int .i64 xid, .slice xa xn xc])
    go_upto_region 7 with (fail)
    generalize hW:wr.alloc _=W at *
    clear hW q0 q1 hql Hs
    obtain ⟨xb,hxb⟩:∃xb,wr.heap.size=xb:=⟨_,rfl⟩
    rw [hxb] at HS1 ⊢
    clear hxb
    obtain ⟨_,hb⟩:=HS1.out.has 0 rfl
    have c0:=(blk_get hb).1 0
    have c1:=(blk_get hb).1 1
    have cl:=(blk_get hb).2.2
    simp only [List.getElem?_toArray,List.getElem?_cons_zero,List.getElem?_cons_succ] at c0 c1
    have HGT:=Lib.hid (SGet_calls S cols I L next xid w0 W fp0 _ hcl (HS1.out.perm (List.Perm.swap _ _ _)))
    rw [HGL.out] at HGT
    unfold ptrV at HGT
    simp only [Option.isSome_some,Option.getD_some] at HGT
    clear hb
    go_wp2_with fail
    (with_reducible refine HGT.out.mono ?_)
    rintro e w2 ⟨gv,rfl,h2⟩
    clear HGT c0 c1 cl
    obtain ⟨_,hrow⟩:=h2.has 0 rfl
    obtain ⟨ga,gc,rfl, -⟩:=row_shape hrow
    obtain ⟨_,hst⟩:=h2.has 1 rfl
    have htx:=get_txt hst xid
    rw [HGL.out] at htx
    have hg:ValsAt w2 xr (.slice ga xr.length gc):=⟨SlX.of_row (X:=[]) hrow (length_flat _) (by simp),htx⟩
    have HSM:=Lib.hid (rsame_calls xr xr _ (.slice xa xn xc) w2 hg (HROW.out [_,_,_] w2 h2))
    rw [decide_eq_true rfl] at HSM
    have H2:=Lib.hid h2
    obtain ⟨_,hb⟩:=h2.has 2 rfl
    have c0:=(blk_get hb).1 0
    have c1:=(blk_get hb).1 1
    have cl:=(blk_get hb).2.2
    simp only [List.getElem?_toArray,List.getElem?_cons_zero,List.getElem?_cons_succ] at c0 c1
    obtain ⟨gn,hgn⟩:∃gn,xr.length=gn:=⟨_,rfl⟩
    rw [hgn] at HSM ⊢
    clear hb h2 hrow hst htx hg hgn HS1
    go_wp2_with fail
    (with_reducible refine HSM.out.mono ?_)
    rintro e w3 ⟨rfl,hb3⟩
    have H3:=Lib.hid (((H2.out.mono hb3).drop.perm (List.Perm.swap _ _ _)).drop)
    clear HSM H2 hb3 c0 c1 cl
    go_wp2
    go_roundg (gk - 1)
    case rel=> exact ⟨k+1,by go_num,by have:=Hgk.out;omega,H3⟩
    case measure=> have:=Hgk.out;omega
  · obtain rfl:k=n:=by omega
    have HF:=Lib.hid (HEND2.out _ Hs.out)
    clear Hs hgk hk
    go_wp2
    go_ret
    exact ⟨rfl,HF.out⟩
/- same. -/
set_option maxHeartbeats 8000000 in
set_option maxRecDepth 20000 in
theorem same_calls (b:Nat) (D:Db) (ms:List Rs) (mv:Value) (hms:MsOk D ms) (hlen:∀t∈D,t.2.1.length < 1000000) (w0 w:World) (fp0:List Nat) (R:List Asn) (hx:Rd w0 fp0 R fun w=> RefX w ms mv) (hS:St w0 fp0 (stA b D::R) w):
 Calls Tryz.prog 15 #[.pointer (some ⟨b,0,none⟩),mv] w fun e w'=> e=.returned (.bool true)∧St w0 fp0 (stA b D::R) w':=by
 obtain ⟨q,hq,hs⟩:=hS.openD
 obtain ⟨ma,mc,rfl⟩:=(hx.at (M:=[_]) hS).sl.shape
 obtain ⟨A,hA⟩:∃A,starA (dbP b q++q.ts.map tbA)=A:=⟨_,rfl⟩
 have HOP:RowKit.Hid (∀w,St w0 fp0 (A::R) w↔St w0 fp0 (dbP b q++(q.ts.map tbA++R)) w):=fun w=> by
  rw [←hA,St.star,List.append_assoc]
 have HAP:RowKit.Hid (∀w f,A.p w f→∃R',St w [] (dbP b q++R') w∨Star w (dbP b q++q.ts.map tbA) f):=fun w f h=> ⟨[], .inr (by rw [←hA] at h;exact h)⟩
 have HS0:=Lib.hid ((HOP.out w).2 hs)
 have HEND:RowKit.Hid (∀w,St w0 fp0 (A::R) w→St w0 fp0 (stA b D::R) w):=fun w h=> St.shutD hq ((HOP.out w).1 h)
 have HTB:RowKit.Hid (∀w f,A.p w f→w.cell? ⟨b,1,none⟩=some q.tv∧SlX [] w 1 (q.ts.map fun t=> ptrV t.S).length (q.ts.map fun t=> ptrV t.S) q.tv):=fun w f h=> by
  rw [←hA] at h
  have h1:Star w (dbP b q++q.ts.map tbA) f:=h
  obtain ⟨f0,h2, -⟩:=Star.get 0 rfl h1
  obtain ⟨f1,h3, -⟩:=Star.get 2 rfl h1
  exact ⟨(blk_get h2).1 1,SlX.of_sl h3 (by simp)⟩
 have HNX:RowKit.Hid (∀w f,A.p w f→∀i (hi:i < q.ts.length),∃g,(tbA q.ts[i]).p w g):=fun w f h i hi=> by
  rw [←hA] at h
  have h1:Star w (dbP b q++q.ts.map tbA) f:=h
  obtain ⟨g,h2, -⟩:=Star.get (3+i) (A:=tbA q.ts[i]) (by
   show (dbP b q++q.ts.map tbA)[3+i]? =_
   rw [List.getElem?_append_right (by show 3≤3+i;omega)]
   show (q.ts.map tbA)[3+i - 3]? =_
   rw [show 3+i - 3=i by omega,List.getElem?_map,List.getElem?_eq_getElem hi]
   rfl) h1
  exact ⟨g,h2⟩
 have hqn:q.ts.length=ms.length:=by rw [hq.tlen,hms.len]
 have HQN:=Lib.hid hqn
 have HQ:=Lib.hid hq
 have HMS:=Lib.hid hms
 have HX:=Lib.hid hx
 have HLEN:=Lib.hid hlen
 obtain ⟨n,hn⟩:∃n,ms.length=n:=⟨_,rfl⟩
 have HN:=Lib.hid hn
 have hn63:n≤9223372036854775807:=by have:=(hx.at (M:=[_]) hS).sl.1;unfold maxLen at this;omega
 rw [hn] at HX HQN ⊢
 clear hS hs hA hq hms hx hlen hqn hn HAP
 go_enter Tryz.func15,Tryz.ntmps15
 go_upto_region 2 with (fail)
 go_loopg [8] n (fun g z wr=> ∃k:Nat,z=.int .i64 k∧g+k=n∧RowKit.Hid (St w0 fp0 (A::R) wr))
 case atStart=> exact ⟨0,rfl,rfl,HS0⟩
 case round=>
  clear HS0
  obtain ⟨k,rfl,hgk,Hs⟩:=hrel
  by_cases hk:k < n
  · have hkm:k < ms.length:=by rw [HN.out];exact hk
    have hkt:k < q.ts.length:=by rw [HQN.out];exact hk
    have hkn:(k:Int) < n:=by omega
    have hxr:=HX.out.at (M:=[_]) Hs.out
    obtain ⟨mb,mo,mc',e1,mbl,p0,p1,p2⟩:=hxr.cells k hkm
    rw [HN.out] at e1
    obtain ⟨rfl, -,rfl⟩:=Value.slice.inj e1
    have hat:(ms[k].cols,riL ms[k].l,ms[k].next)=(q.ts[k].cols,q.ts[k].L,q.ts[k].next):=by
     have h1:=HMS.out.at k hkm
     have h2:=HQ.out.at k hkt
     rw [h1] at h2
     exact Option.some.inj h2
    injection hat with e1 e2
    injection e2 with e2 e3
    have hcell:∀M w,St w0 fp0 (M++R) w→w.cell? ⟨mb,mo+k * 3+1,none⟩=some ms[k].lv∧w.cell? ⟨mb,mo+k * 3+2,none⟩=some (.int .i64 ms[k].next):=fun M w h=> by
     obtain ⟨b',o',c',e1, -,q0,q1,q2⟩:=(HX.out M w h).cells k hkm
     rw [HN.out] at e1
     obtain ⟨e1, -, -⟩:=Value.slice.inj e1
     injection e1 with e1
     injection e1 with e1 e2
     subst e1 e2
     exact ⟨q1,q2⟩
    have hll:ms[k].l.length < 1000000:=by
     have:=HLEN.out _ (List.mem_of_getElem? (HMS.out.at k hkm))
     rw [riL_len] at this
     exact this
    have Hgk:=Lib.hid hgk
    go_upto_region 4 with (fail)
    refine rSma4 (w0:=w0) (fp0:=fp0) (R:=R) b n mb mo mc k ms[k].lv (ptrV q.ts[k].S) ms[k].next A hk (fun M w h=> (hcell M w h).1) (fun M w h=> (hcell M w h).2) ?_ ?_ ?_ rfl (by kernel_rfl) rfl rfl rfl rfl rfl Hs.out ?_
    · intro w' h'
      refine (rows_calls b q D HQ.out k hkt ms[k].l ms[k].lv e2 hll w0 w' fp0 R (HX.out.imp fun w h=> h.ri _ (List.getElem_mem hkm)) ((HOP.out _).1 h')).mono ?_
      rintro e w2 ⟨rfl,h2⟩
      exact ⟨rfl,(HOP.out _).2 h2⟩
    · intro w' f h'
      obtain ⟨h1,h2⟩:=HTB.out w' f h'
      refine (table_in b k _ q.tv (ptrV q.ts[k].S) w' h1 h2 (by rw [List.getElem?_map,List.getElem?_eq_getElem hkt];rfl)).mono ?_
      rintro e w2 ⟨rfl,rfl⟩
      exact ⟨rfl,Below.refl _ _⟩
    · intro w' f h'
      obtain ⟨g,h1⟩:=HNX.out w' f h' k hkt
      refine (Next_calls h1).mono ?_
      rintro e w2 ⟨rfl,rfl⟩
      exact ⟨by rw [e3],Below.refl _ _⟩
    intro w1 h1
    have H1:RowKit.Hid (St w0 fp0 (A::R) w1):=h1
    clear h1 hcell hll e2 e3 e1 hxr p0 p1 p2 mbl hgk
    simp only [putL,List.foldl,Act.put,List.setIfInBounds_toArray,List.set_cons_succ,List.set_cons_zero]
    go_wp2
    go_roundg (gk - 1)
    case rel=> exact ⟨k+1,by go_num,by have:=Hgk.out;omega,H1⟩
    case measure=> have:=Hgk.out;omega
  · obtain rfl:k=n:=by omega
    obtain ⟨f,hf⟩:=Hs.out.has 0 rfl
    obtain ⟨h1, -⟩:=HTB.out _ f hf
    unfold StQ.tv at h1
    have HT1:=Lib.hid (table_out b _ q.tc q.ta (-1) wr h1 (by omega))
    have HT2:=Lib.hid (table_out b _ q.tc q.ta k wr h1 (by rw [HQN.out];omega))
    have HF:=Lib.hid (HEND.out _ Hs.out)
    clear h1 hf Hs hgk hk
    go_wp2_with fail
    (with_reducible refine HT1.out.mono ?_)
    rintro e w1 ⟨rfl,rfl⟩
    clear HT1
    go_wp2_with fail
    (with_reducible refine HT2.out.mono ?_)
    rintro e w1 ⟨rfl,rfl⟩
    clear HT2
    go_wp2
    go_ret
    exact ⟨rfl,HF.out⟩
/- run. -/
theorem appD_length (D:Db) (c:Chg):(appD D c).length=D.length:=by
 unfold appD
 cases rowD D c.tb with
 | none=> rfl
 | some t=>
  simp only
  split
  · rw [List.length_set]
  · rfl
theorem appT_len (cols:Nat) (id:Int) (new:Rw) (L:LL):(appT cols id new L).length≤L.length+1:=by
 unfold appT
 split
 · have:(delL id L).length≤L.length:=List.length_filter_le _ _
   omega
 · unfold putLL
   split
   · exact putL_len _ _ _
   · omega
theorem appD_max {D:Db} {c:Chg} {N:Nat} (h:∀t∈D,t.2.1.length≤N):∀t∈appD D c,t.2.1.length≤N+1:=by
 intro t ht
 unfold appD at ht
 cases e:rowD D c.tb with
 | none=>
  rw [e] at ht
  have:=h t ht
  omega
 | some u=>
  rw [e] at ht
  simp only at ht
  split at ht
  · rcases List.mem_or_eq_of_mem_set ht with ht | rfl
    · have:=h t ht
      omega
    · have h1:=appT_len u.1 c.id c.new u.2.1
      have hu:u∈D:=by
       unfold rowD at e
       split at e
       · exact List.mem_of_getElem? e
       · cases e
      have:=h u hu
      simp only
      omega
  · have:=h t ht
    omega
/-- The tables behind changes. -/
def runD (D:Db) (l:List Chg):Db:=l.foldl appD D
theorem runD_snoc (D:Db) (l:List Chg) (k:Nat) (hk:k < l.length):runD D (l.take (k+1))=appD (runD D (l.take k)) l[k]:=by
 unfold runD
 rw [List.take_add_one,List.getElem?_eq_getElem hk,List.foldl_append]
 rfl
theorem runD_length (D:Db) (l:List Chg):(runD D l).length=D.length:=by
 unfold runD
 induction l generalizing D with
 | nil=> rfl
 | cons c l ih=> rw [List.foldl_cons,ih,appD_length]
theorem runD_max {D:Db} {N:Nat} (h:∀t∈D,t.2.1.length≤N) (l:List Chg):∀t∈runD D l,t.2.1.length≤N+l.length:=by
 unfold runD
 induction l generalizing D N with
 | nil=> exact h
 | cons c l ih=>
  intro t ht
  have:=ih (appD_max h) t ht
  rw [List.length_cons]
  omega
theorem newD_max (td:List Td):∀t∈newD td,t.2.1.length≤0:=by
 intro t ht
 obtain ⟨u, -,rfl⟩:=List.mem_map.1 ht
 exact Nat.le_refl _
/-- A store and a version that agree. -/
def Both (w0:World) (fp0:List Nat) (R:List Asn) (b:Nat) (D:Db) (mv:Value) (w:World):Prop:=∃(ms:List Rs) (a:Option Addr) (c:Nat) (P:List Asn),mv=.slice a ms.length c∧MsOk D ms∧Rd w0 fp0 (P++R) (fun w=> RefX w ms mv)∧St w0 fp0 (stA b D::(P++R)) w
/-- What run gives. -/
def RunPost (w0:World) (fp0:List Nat) (R:List Asn) (D:Db) (e:Ending) (w:World):Prop:=∃b mv,e=.returned (.tuple #[.pointer (some ⟨b,0,none⟩),mv, .bool true])∧Both w0 fp0 R b D mv w
set_option maxHeartbeats 8000000 in
set_option maxRecDepth 20000 in
theorem run_calls (td:List Td) (sv:Value) (l:List Chg) (lv:Value) (hsm:∀t∈td,t.Sm) (htl:td.length≤1000) (hll:l.length≤100000) (hok:∀c∈l,c.Ok) (w0 w:World) (fp0:List Nat) (R:List Asn) (hs:Rd w0 fp0 R fun w=> SchX w td sv) (hl:Rd w0 fp0 R fun w=> ChsX w l lv) (hS:St w0 fp0 R w):
 Calls Tryz.prog 14 #[sv,lv] w fun e w'=> RunPost w0 fp0 R (runD (newD td) l) e w':=by
 obtain ⟨sa,sc,rfl⟩:=(hs.here hS).sl.shape
 obtain ⟨la,lc,rfl⟩:=(hl.here hS).sl.shape
 have HNW:=Lib.hid (StNew_calls td _ hsm htl w0 w fp0 R hs hS)
 have HRN:RowKit.Hid (∀b w',St w0 fp0 (stA b (newD td)::R) w'→_):=fun b w' h=> RNew40_calls td _ htl w0 w' fp0 _ (hs.cons (stA b (newD td))) h
 have HL:=Lib.hid hl
 have HOK:=Lib.hid hok
 obtain ⟨m,hm⟩:∃m,l.length=m:=⟨_,rfl⟩
 obtain ⟨n,hn⟩:∃n,td.length=n:=⟨_,rfl⟩
 have HM:=Lib.hid hm
 have HN:=Lib.hid hn
 rw [hm] at HL hll ⊢
 rw [hn] at HNW HRN htl ⊢
 clear hs hl hS hsm hok hm hn
 go_enter Tryz.func14,Tryz.ntmps14
 go_wp2_with fail
 (with_reducible refine HNW.out.mono ?_)
 rintro e w1 ⟨b,rfl,h1⟩
 have HR1:=Lib.hid (HRN.out b w1 h1)
 clear HNW HRN h1
 go_wp2_with fail
 (with_reducible refine HR1.out.mono ?_)
 rintro e w2 ⟨ra,rc,rfl,h2⟩
 clear HR1
 have HI:RowKit.Hid (Both w0 fp0 R b (runD (newD td) (l.take 0)) (.slice ra n rc) w2):=by
  have hn0:(ms0 td).length=n:=by rw [ms0,List.length_map,HN.out]
  refine ⟨ms0 td,ra,rc,[rowA 44 3 (.slice ra n rc) n ((ms0 td).flatMap Rs.c)],by rw [hn0],ms0_ok td,Rd.of_piece 0 rfl fun w f h=> ?_,h2.perm (List.Perm.swap _ _ _)⟩
  exact ms0_x (by rw [hn0];exact h)
 clear h2
 go_upto_region 4 with (fail)
 go_loopg [8,9,22] m (fun g z8 z9 z wr=> ∃k:Nat,z=.int .i64 k∧z9=.bool true∧g+k=m∧RowKit.Hid (Both w0 fp0 R b (runD (newD td) (l.take k)) z8 wr))
 case atStart=> exact ⟨0,rfl,rfl,rfl,HI⟩
 case round=>
  clear HI
  obtain ⟨k,rfl,rfl,hgk,Hi⟩:=hrel
  obtain ⟨ms,a,c,P,rfl,hms,hrx,hs⟩:=Hi.out
  by_cases hk:k < m
  · have hkl:k < l.length:=by rw [HM.out];exact hk
    have hkn:(k:Int) < m:=by omega
    have hlx:=HL.out.at (M:=_::P) hs
    obtain ⟨b',o,c',e1,hbl,p0,p1,p2,p3⟩:=hlx.cells k hkl
    rw [HM.out] at e1
    obtain ⟨rfl, -,rfl⟩:=Value.slice.inj e1
    have hD:=runD_snoc (newD td) l k hkl
    have hcx:Rd w0 fp0 R fun w=> l[k].X w:=HL.out.imp fun w h=> h.ch _ (List.getElem_mem hkl)
    have hco:=HOK.out _ (List.getElem_mem hkl)
    have hmax:∀t∈runD (newD td) (l.take k),t.2.1.length < 1000000:=fun t ht=> by
     have:=runD_max (newD_max td) (l.take k) t ht
     rw [List.length_take] at this
     omega
    have hmn:ms.length≤1000:=by rw [hms.len,runD_length,newD,List.length_map,HN.out];exact htl
    have HX:=Lib.hid (And.intro hms (And.intro hrx hD))
    have HC:=Lib.hid hcx
    have HCO:=Lib.hid hco
    have HMAX:=Lib.hid hmax
    have Hgk:=Lib.hid hgk
    clear e1 hlx hD hcx hco hmax hgk Hi hms hrx
    generalize l[k]=ch at *
    clear hkl
    obtain ⟨mn,hmn0⟩:∃mn,ms.length=mn:=⟨_,rfl⟩
    have hs1:=hs.newblk 35 #[.int .i64 ch.tb, .int .i64 ch.id,ch.ov,ch.nv]
    have HRA:RowKit.Hid (∀L w,St w0 fp0 (L++(P++R)) w→Calls Tryz.prog 16 #[.slice a mn c,ch.v] w fun e w'=> RaPost w0 fp0 L (P++R) (appD (runD (newD td) (l.take k)) ch) (chkD (runD (newD td) (l.take k)) ch) e w'):=fun L w h=> by
     rw [←hmn0]
     exact RApply_calls ms _ _ HX.out.1 ch HCO.out HMAX.out hmn w0 w fp0 L (P++R) HX.out.2.1 (HC.out.app P) h
    have HAP:RowKit.Hid (∀(Q:List Asn) w,St w0 fp0 (stA b (runD (newD td) (l.take k))::(Q++R)) w→Calls Tryz.prog 19 #[.pointer (some ⟨b,0,none⟩),ch.v] w fun e w'=> e=.returned (.int .i64 (chkD (runD (newD td) (l.take k)) ch))∧St w0 fp0 (stA b (appD (runD (newD td) (l.take k)) ch)::(Q++R)) w'):=fun Q w h=> Apply_calls b _ ch HCO.out HMAX.out w0 w fp0 (Q++R) (HC.out.app Q) h
    have HD:=Lib.hid HX.out.2.2
    have HS1:=Lib.hid hs1
    rw [hmn0]
    generalize runD (newD td) (l.take k)=Dk at *
    generalize chkD Dk ch=er at *
    generalize appD Dk ch=D2 at *
    clear hs hs1 HX HC HCO HMAX hmn hmn0
    unfold Chg.v at HRA HAP
    unfold Chg.ov Chg.nv at *
    go_upto_region 7 with (fail)
    generalize hW:wr.alloc _=W at *
    clear hW p0 p1 p2 p3 hbl
    obtain ⟨cb,hcb⟩:∃cb,wr.heap.size=cb:=⟨_,rfl⟩
    rw [hcb] at HS1 ⊢
    clear hcb
    obtain ⟨c0,c1,c2,c3,cl⟩:=cells4 HS1.out 0 rfl
    have HR:=Lib.hid (HRA.out [_,_] W HS1.out)
    clear HRA
    go_wp2_with fail
    (with_reducible refine HR.out.mono ?_)
    rintro e w3 ⟨ms2,a2,cc2,P2,rfl,hm2,hr2,h3⟩
    clear HR HS1 c0 c1 c2 c3 cl
    obtain ⟨c0,c1,c2,c3,cl⟩:=cells4 h3 0 rfl
    have h4:St w0 fp0 (stA b Dk::((P2++P++[blkA cb 35 #[.int .i64 ch.tb, .int .i64 ch.id, .slice ch.oa ch.old.length ch.oc, .slice ch.na ch.new.length ch.nc]])++R)) w3:=by
     refine h3.perm ?_
     classical
     refine List.perm_iff_count.2 fun x=> ?_
     simp only [List.count_append,List.count_cons,List.count_nil,List.cons_append,List.nil_append]
     omega
    have HA:=Lib.hid (HAP.out _ w3 h4)
    have HM2:=Lib.hid (And.intro hm2 hr2)
    obtain ⟨mn2,hmn2⟩:∃mn2,ms2.length=mn2:=⟨_,rfl⟩
    have HMN2:=Lib.hid hmn2
    rw [hmn2]
    clear HAP h3 h4 hm2 hr2 hmn2
    go_wp2_with fail
    (with_reducible refine HA.out.mono ?_)
    rintro e w4 ⟨rfl,h5⟩
    have HI2:RowKit.Hid (Both w0 fp0 R b (runD (newD td) (l.take (k+1))) (.slice a2 mn2 cc2) w4):=by
     refine ⟨ms2,a2,cc2,P2++P,by rw [HMN2.out],by rw [HD.out];exact HM2.out.1,?_,?_⟩
     · have:=HM2.out.2
       rw [HMN2.out] at this
       rw [List.append_assoc]
       exact this
     · rw [HD.out]
       have h6:St w0 fp0 (blkA cb 35 #[.int .i64 ch.tb, .int .i64 ch.id, .slice ch.oa ch.old.length ch.oc, .slice ch.na ch.new.length ch.nc]::(stA b D2::((P2++P)++R))) w4:=by
        refine h5.perm ?_
        classical
        refine List.perm_iff_count.2 fun x=> ?_
        simp only [List.count_append,List.count_cons,List.count_nil]
        omega
       exact h6.drop
    clear HA HM2 HMN2 h5 c0 c1 c2 c3 cl HD
    go_wp2
    go_roundg (gk - 1)
    case rel=> exact ⟨k+1,by go_num,by go_num,by have:=Hgk.out;omega,HI2⟩
    case measure=> have:=Hgk.out;omega
  · obtain rfl:k=m:=by omega
    have HF:RowKit.Hid (Both w0 fp0 R b (runD (newD td) l) (.slice a ms.length c) wr):=by
     have h:=Hi.out
     rw [List.take_of_length_le (by rw [HM.out];exact Nat.le_refl _)] at h
     exact h
    clear Hi hgk hk hms hrx hs
    generalize ms.length=mn at *
    go_wp2
    refine bodyPost_ret (v:=.tuple #[.pointer (some ⟨b,0,none⟩), .slice a mn c, .bool true]) (by simp [results,Tryz.results14,go_sem]) rfl ?_
    exact ⟨b,_,rfl,HF.out⟩
/- The writer's number: its region. -/
set_option maxRecDepth 100000
/-- A writer. -/
def wrA (b:Nat) (xs:List UInt8):Asn:=exA fun v=> starA [blkA b 116 #[v],slA 5 v (xs.map u8C)]
noncomputable def gWn0 (b:Nat) (n:Int) (v:Value) (xs:List UInt8):=rgx Tryz.prog Tryz.f55 0 14 [4,5,6,7,8,9,10,11,12,13] [(0,pV b 0),(1, .int .i64 n)] (Vq 0 4 [Kp b 0,Kp b 0,Kp b 0,Kp b 0,Kv v,Kv (.int .i64 n),Kv (.string (textOf (numL n))),Vf.slice,Kp b 0,Kp b 0]) [.blk b (116) [⟨v,[(10, .s 11)]⟩], .gen [7] [11] fun L g=> match L 7 with | true=> slA 5 (g 11) (xs.map u8C++(bytes (textOf (numL n))).map u8C) | false=> slA 5 (v) (xs.map u8C)]
theorem rWn0 (b:Nat) (n:Int) (v:Value) (xs:List UInt8) (w0:World) (fp0:List Nat) (R:List Asn) (hl:xs.length+8 < 1099511627776) (hnum:∀L w,St w0 fp0 (L++R) w→Calls Tryz.prog 86 #[.int .i64 n] w fun e w'=> e=.returned (.string (textOf (numL n)))∧Below w.heap.size w w') {w:World} {c:Code} {a:Act} {Q:Exit→Act→World→Prop} (c1:isReg c=true) (c2:cops c=opsR Tryz.f55 0) (c3:a.tmps.size=14) (_c4:a.defers=a.defers) (i0:a.eval (.tmp 0)=.pointer (some ⟨b,0,none⟩)) (i1:a.eval (.tmp 1)=.int .i64 n)
 (hS:St w0 fp0 ([blkA b (116) #[v],slA 5 (v) (xs.map u8C)]++R) w)
 (hQ:∀(u11:Value) (w1:World),(∃a n c,u11=.slice a n c)→St w0 fp0 ([blkA b (116) #[u11],slA 5 (u11) (xs.map u8C++(bytes (textOf (numL n))).map u8C)]++R) w1→Q .normal (putL a [(4, .pointer (some ⟨b,0,none⟩)),(5, .pointer (some ⟨b,0,none⟩)),(6, .pointer (some ⟨b,0,none⟩)),(7, .pointer (some ⟨b,0,none⟩)),(8,v),(9, .int .i64 n),(10, .string (textOf (numL n))),(11,u11),(12, .pointer (some ⟨b,0,none⟩)),(13, .pointer (some ⟨b,0,none⟩))]) w1):c.wp Tryz.prog Q a w:=by
 have ok:(gWn0 b n v xs w0 fp0 R).Ok 11:=Rg.ok _ 11 [4,6,7,10] ⟨.load _ 4 0 0, .askR _ 6 hnum, .appG _ 7 (fun _=> [blkA b 116 #[v],slA 5 (v) (xs.map u8C)]) (fun _ u=> [blkA b 116 #[v],slA 5 (u) (xs.map u8C++(bytes (textOf (numL n))).map u8C)]) (fun ty g w h=> (by obtain ⟨u,w2,h1,h2⟩:=appT1 appBT (by kernel_rfl) ty (textOf (numL n)) (by rw [num_size,List.length_map];omega) (h.perm (List.Perm.swap _ _ _));obtain ⟨_,hr⟩:=h2.has 0 rfl;obtain ⟨a,m,c,rfl⟩:=sl_shape hr;exact ⟨_,w2,h1,kr (by kernel_rfl),h2.perm (List.Perm.swap _ _ _)⟩)), .store _ 10 0 0,trivial⟩
 refine wp_regD ok (by kernel_rfl) ⟨c1,c2⟩ ⟨c3,fun p hp=> ?_⟩ hS fun A1 w1 N1 H1=> ?_
 · simp only [gWn0,rgx,List.map_nil,List.append_nil,List.mem_cons,List.not_mem_nil,or_false] at hp
   rcases hp with rfl | rfl
   · exact i0
   · exact i1
 have e4:=N1.val 0 rfl
 have e5:=N1.val 1 rfl
 have e6:=N1.val 2 rfl
 have e7:=N1.val 3 rfl
 have e8:=N1.val 4 rfl
 have e9:=N1.val 5 rfl
 have e10:=N1.val 6 rfl
 have e11:=N1.val 7 rfl
 have e12:=N1.val 8 rfl
 have e13:=N1.val 9 rfl
 have h:=hQ (slots A1 11) w1 ⟨_,_,_,e11⟩ H1
 rw [frame_eq N1.frame (cons_eq e4 (cons_eq e5 (cons_eq e6 (cons_eq e7 (cons_eq e8 (cons_eq e9 (cons_eq e10 (cons_eq rfl (cons_eq e12 (cons_eq e13 rfl))))))))))]
 exact h
end Go.Proofs.YtpdlkdoogojboaaGreat
/- The writer's number; the reference's Number. -/
namespace Go.Proofs.YtpdlkdoogojboaaGreat
open Go Go.RowKit
theorem St.wr {w0 w:World} {fp0:List Nat} {R:List Asn} {b:Nat} {xs:List UInt8}:St w0 fp0 (wrA b xs::R) w↔∃v,St w0 fp0 (blkA b 116 #[v]::slA 5 v (xs.map u8C)::R) w:=by
 constructor
 · intro h
   obtain ⟨v,h1⟩:=St.exE h
   exact ⟨v,St.star.1 h1⟩
 · rintro ⟨v,h⟩
   have h1:St w0 fp0 (starA [blkA b 116 #[v],slA 5 v (xs.map u8C)]::R) w:=St.star.2 h
   exact St.exI (F:=fun v=> starA [blkA b 116 #[v],slA 5 v (xs.map u8C)]) v h1
set_option maxHeartbeats 4000000 in
theorem wNumber_calls (b:Nat) (xs:List UInt8) (n:Int) (hn:I64 n) (hl:xs.length+8 < 1099511627776) (w0 w:World) (fp0:List Nat) (R:List Asn) (hS:St w0 fp0 (wrA b xs::R) w):
 Calls Tryz.prog 55 #[.pointer (some ⟨b,0,none⟩), .int .i64 n] w fun e w'=> e=.returned (.tuple #[])∧St w0 fp0 (wrA b (xs++numL n)::R) w':=by
 obtain ⟨v,h⟩:=St.wr.1 hS
 have HS:=Lib.hid h
 have HN:=Lib.hid hn
 have HL:=Lib.hid hl
 clear hS h hn hl
 go_enter Tryz.func55,Tryz.ntmps55
 go_upto_region 0 with (fail)
 refine rWn0 (w0:=w0) (fp0:=fp0) (R:=R) b n v xs HL.out (fun L w h=> number_calls n HN.out w) rfl (by kernel_rfl) rfl rfl rfl rfl HS.out ?_
 intro u11 w1 ⟨a,m,c,e11⟩ h1
 subst e11
 have HF:RowKit.Hid (St w0 fp0 (wrA b (xs++numL n)::R) w1):=by
  refine St.wr.2 ⟨.slice a m c,?_⟩
  rw [List.map_append]
  have h2:St w0 fp0 (blkA b 116 #[.slice a m c]::slA 5 (.slice a m c) (xs.map u8C++(bytes (textOf (numL n))).map u8C)::R) w1:=h1
  rw [bytes_textOf] at h2
  exact h2
 clear h1
 simp only [putL,List.foldl,Act.put,List.setIfInBounds_toArray,List.set_cons_succ,List.set_cons_zero]
 go_end0
 exact ⟨rfl,HF.out⟩
/- The reference's Number. -/
/-- The last k of the eight bytes. -/
def numT (n:Int) (k:Nat):List UInt8:=(List.range 8).map fun j=> if 8 - k≤j then numB n j else 0
theorem numT_next (n:Int) (k:Nat) (hk:k < 8):(numT n k).set (7 - k) (numB n (7 - k))=numT n (k+1):=by
 match k,hk with
 | 0,_=> rfl
 | 1,_=> rfl
 | 2,_=> rfl
 | 3,_=> rfl
 | 4,_=> rfl
 | 5,_=> rfl
 | 6,_=> rfl
 | 7,_=> rfl
theorem numB_of (n:Int) (k:Nat) (hk:k < 8):(numB n (7 - k)).toNat=uN n / 256 ^ k % 256:=by
 have h:uN n / 2 ^ (56 - 8 * (7 - k)) % 256 < 256:=Nat.mod_lt _ (by decide)
 rw [numB,UInt8.toNat_ofNat_of_lt' h,show 56 - 8 * (7 - k)=8 * k by omega,Nat.pow_mul]
set_option maxHeartbeats 4000000 in
set_option maxRecDepth 20000 in
theorem rnumber05_calls (n:Int) (hn:I64 n) (w:World):Calls Tryz.prog 76 #[.int .i64 n] w fun e w'=> ∃c,e=.returned (.slice (some ⟨c,0,none⟩) 8 8)∧St w [] [slA 5 (.slice (some ⟨c,0,none⟩) 8 8) ((numL n).map u8C)] w':=by
 have HX:=Lib.hid (xor_num hn)
 have HU:=Lib.hid (uN_lt hn)
 have HB8:=Lib.hid (fun k hk=> numB_of n k hk)
 clear hn
 go_enter Tryz.func76,Tryz.ntmps76
 have hx:=HX.out
 have hmk:∀w,Sem.run Tryz.prog (Instr.makeSlice 52 (.int .i64 8) (.int .i64 8)) w=.ok (.slice (some ⟨w.heap.size,0,none⟩) 8 8) (w.alloc (.cells #[.int .u8 0, .int .u8 0, .int .u8 0, .int .u8 0, .int .u8 0, .int .u8 0, .int .u8 0, .int .u8 0] 5)):=fun w=> by kernel_rfl
 go_upto_region 4 with (fail)
 have HS0:RowKit.Hid (St w [] (slA 5 (.slice (some ⟨w.heap.size,0,none⟩) 8 8) ((numT n 0).map u8C)::[]) (w.alloc (.cells #[.int .u8 0, .int .u8 0, .int .u8 0, .int .u8 0, .int .u8 0, .int .u8 0, .int .u8 0, .int .u8 0] 5))):=by
  refine St.addF (f:=[w.heap.size]) (St.start (w:=w) (L:=[]) (fp:=[]) rfl) ?_ ((Below.refl _ _).alloc (Nat.le_refl _) _) (fun k hk=> by rw [List.mem_singleton.1 hk];exact Nat.le_refl _)
  have h:=World.ownsRow_lit (base:=0) (e:=5) (size:=1) w #[.int .u8 0, .int .u8 0, .int .u8 0, .int .u8 0, .int .u8 0, .int .u8 0, .int .u8 0, .int .u8 0] 8 (Nat.zero_le _) (by decide) rfl
  exact ⟨h,rfl⟩
 clear hx hmk HX
 obtain ⟨u,hu⟩:∃u,uN n=u:=⟨_,rfl⟩
 have h0:(u:Int)=((u / 256 ^ 0:Nat):Int):=by simp
 rw [hu] at HU HB8 ⊢
 generalize hW:w.alloc _=W at *
 clear hW hu
 obtain ⟨g,hg⟩:∃g,w.heap.size=g:=⟨_,rfl⟩
 rw [hg] at HS0 ⊢
 clear hg
 rw [h0]
 clear h0
 go_loopg [3,5] 8 (fun gm z3 z5 wr=> ∃k:Nat,z5=.int .i64 (7 - (k:Int))∧z3=.int .u64 ((u / 256 ^ k:Nat):Int)∧gm+k=8∧RowKit.Hid (St w [] (slA 5 (.slice (some ⟨g,0,none⟩) 8 8) ((numT n k).map u8C)::[]) wr))
 case atStart=> exact ⟨0,rfl,rfl,rfl,HS0⟩
 case round=>
  clear HS0
  obtain ⟨k,rfl,rfl,hgk,Hs⟩:=hrel
  by_cases hk:k < 8
  · have hk':(0:Int)≤7 - (k:Int):=by omega
    obtain ⟨j,hj⟩:∃j:Nat,7 - k=j:=⟨_,rfl⟩
    have hji:(7 - (k:Int))=(j:Int):=by omega
    have hj8:j < 8:=by omega
    obtain ⟨_,hrow⟩:=Hs.out.has 0 rfl
    obtain ⟨hc,hf,hl⟩:=row_at (i:=j) (u:=u8C ((numT n k)[j]'(by simp [numT];omega))) (show (rowA 5 1 (.slice (some ⟨g,0,none⟩) 8 8) 8 ((numT n k).map u8C)).p wr _ from hrow) (by simp [numT]) (by rw [List.getElem?_map,List.getElem?_eq_getElem];rfl)
    have Hgk:=Lib.hid hgk
    have HJ:=Lib.hid hj
    rw [hji]
    have hm:(u / 256 ^ k % 256:Nat) < 256:=Nat.mod_lt _ (by decide)
    have hkb:(((u / 256 ^ k % 256:Nat):Int))=((numB n j).toNat:Int):=by rw [←hj,HB8.out k hk]
    have hq:(((u / 256 ^ k:Nat):Int)) / 256=((u / 256 ^ (k+1):Nat):Int):=by
     rw [Nat.pow_succ,←Nat.div_div_eq_div_mul]
     rfl
    have hq2:(((u / 256 ^ k:Nat):Int)) % 256=((numB n j).toNat:Int):=by rw [←hkb];rfl
    have HQ:=Lib.hid hq
    have HQ2:=Lib.hid hq2
    have hv:u / 256 ^ k < 18446744073709551616:=Nat.lt_of_le_of_lt (Nat.div_le_self _ _) HU.out
    generalize u / 256 ^ k=v at *
    clear hgk hj hji hrow hm hkb hq hq2
    have HN:RowKit.Hid (St w [] (slA 5 (.slice (some ⟨g,0,none⟩) 8 8) ((numT n (k+1)).map u8C)::[]) (wr.setCell ⟨g,j,none⟩ (.int .u8 ((v:Int) % 256)))):=by
     show St _ _ _ _
     rw [HQ2.out,←numT_next n k hk,List.map_set]
     have h:=Hs.out
     have h2:St w [] (rowA 5 1 (.slice (some ⟨g,0,none⟩) 8 8) ((numT n k).map u8C).length ((numT n k).map u8C)::[]) wr:=h
     have e8:((numT n k).map u8C).length=8:=by simp [numT]
     rw [e8] at h2
     have h3:=h2.setR j (u8C (numB n j))
     have h4:St w [] (rowA 5 1 (.slice (some ⟨g,0,none⟩) 8 8) (((numT n k).map u8C).set j (u8C (numB n j))).length (((numT n k).map u8C).set j (u8C (numB n j)))::[]) (wr.setCell ⟨g,j,none⟩ (u8C (numB n j))):=by
      rw [List.length_set,e8]
      exact h3
     rw [HJ.out]
     exact h4
    clear Hs
    go_wp2
    go_roundg (gk - 1)
    case rel=> exact ⟨k+1,by have:=HJ.out;congr 1;omega,by rw [HQ.out],by have:=Hgk.out;omega,HN⟩
    case measure=> have:=Hgk.out;omega
  · obtain rfl:k=8:=by omega
    have HF:RowKit.Hid (St w [] [slA 5 (.slice (some ⟨g,0,none⟩) 8 8) ((numL n).map u8C)] wr):=Hs.out
    have hneg:(7 - ((8:Nat):Int))= -1:=by omega
    rw [hneg]
    clear Hs hgk hk
    go_wp2
    go_ret
    exact ⟨g,rfl,HF.out⟩
theorem RNumber_calls (n:Int) (hn:I64 n) (w:World):Calls Tryz.prog 42 #[.int .i64 n] w fun e w'=> e=.returned (.string (textOf (numL n)))∧Below w.heap.size w w':=by
 have HC:=Lib.hid (rnumber05_calls n hn w)
 clear hn
 go_enter Tryz.func42,Tryz.ntmps42
 go_wp2_with fail
 (with_reducible refine HC.out.mono ?_)
 rintro e w1 ⟨c,rfl,h1⟩
 have hcv:(convert 52 9 (.slice (some ⟨c,0,none⟩) 8 8)).run Tryz.prog w1=.ok (.string (textOf (numL n))) w1:=by
  obtain ⟨_,hr⟩:=h1.has 0 rfl
  exact run_back hr
 have HB:=Lib.hid h1.below0
 clear HC h1
 go_wp2
 go_ret
 exact ⟨rfl,HB.out⟩
/- one, num; EncodeChanges of no changes. -/
def tdOne (h:Nat):Td:=⟨⟨#[116]⟩,some ⟨h,0,none⟩,1,1, .slice none 0 0, .slice none 0 0,none,0,0,[.string ⟨#[120]⟩, .int .i64 1, .int .i64 0, .int .i64 9, .int .i64 0, .bool false],[],[],[],[]⟩
def oneL (g h:Nat):List Asn:=[blkA g 89 #[.string ⟨#[116]⟩, .slice (some ⟨h,0,none⟩) 1 1, .slice none 0 0, .slice none 0 0, .slice none 0 0],blkA h 146 #[.string ⟨#[120]⟩, .int .i64 1, .int .i64 0, .int .i64 9, .int .i64 0, .bool false]]
theorem one_calls (w:World):Calls Tryz.prog 39 #[] w fun e w'=> ∃g h,e=.returned (.slice (some ⟨g,0,none⟩) 1 1)∧St w [] (oneL g h) w':=by
 have h1:=((St.start (w:=w) (L:=[]) (fp:=[]) rfl).newblk 146 #[.string ⟨#[120]⟩, .int .i64 1, .int .i64 0, .int .i64 9, .int .i64 0, .bool false]).newblk 89 #[.string ⟨#[116]⟩, .slice (some ⟨w.heap.size,0,none⟩) 1 1, .slice none 0 0, .slice none 0 0, .slice none 0 0]
 have HS:=Lib.hid h1
 simp only [World.size_alloc] at HS
 clear h1
 go_enter Tryz.func39,Tryz.ntmps39
 go_wp2
 go_ret
 exact ⟨_,_,rfl,HS.out⟩
theorem one_sch {w0:World} {fp0:List Nat} {R:List Asn} (g h i:Nat) (h1:R[i]? =some (blkA g 89 #[.string ⟨#[116]⟩, .slice (some ⟨h,0,none⟩) 1 1, .slice none 0 0, .slice none 0 0, .slice none 0 0])) (h2:R[i+1]? =some (blkA h 146 #[.string ⟨#[120]⟩, .int .i64 1, .int .i64 0, .int .i64 9, .int .i64 0, .bool false])):
 Rd w0 fp0 R fun w=> SchX w [tdOne h] (.slice (some ⟨g,0,none⟩) 1 1):=fun M w hs=> by
 have r1:=(Rd.of_piece i h1 fun w f hb=> SlX.of_blk (X:=[]) (size:=5) (n:=1) (c:=1) hb.1 (by simp) (by decide) rfl) M w hs
 have r2:=(Rd.of_piece (i+1) h2 fun w f hb=> SlX.of_blk (X:=[]) (size:=6) (n:=1) (c:=1) hb.1 (by simp) (by decide) rfl) M w hs
 exact ⟨r1,fun t ht=> by
  rw [List.mem_singleton.1 ht]
  exact ⟨r2,(by intro u hu;simp only [tdOne,List.mem_cons,List.not_mem_nil,or_false] at hu;rcases hu with rfl | rfl | rfl | rfl | rfl | rfl <;> rfl),⟨SlX.nil _ _ _ _ _,fun i hi=> absurd hi (by simp [tdOne])⟩,⟨SlX.nil _ _ _ _ _,fun i hi=> absurd hi (by simp [tdOne])⟩⟩⟩
theorem one_sm (h:Nat):∀t∈[tdOne h],t.Sm:=fun t ht=> by
 rw [List.mem_singleton.1 ht]
 exact ⟨by simp [tdOne],by simp [tdOne],by simp [tdOne],by simp [tdOne],by simp [tdOne]⟩
def numR (n:Int):Rw:=[⟨1,n,⟨#[]⟩⟩]
theorem num_calls (n:Int) (w:World):Calls Tryz.prog 40 #[.int .i64 n] w fun e w'=> ∃g,e=.returned (.slice (some ⟨g,0,none⟩) 1 1)∧St w [] [blkA g 68 #[.int .i64 1, .int .i64 n, .string ⟨#[]⟩]] w':=by
 have HS:=Lib.hid ((St.start (w:=w) (L:=[]) (fp:=[]) rfl).newblk 68 #[.int .i64 1, .int .i64 n, .string ⟨#[]⟩])
 go_enter Tryz.func40,Tryz.ntmps40
 go_wp2
 go_ret
 exact ⟨_,rfl,HS.out⟩
theorem num_vals {w:World} {n:Int} {g:Nat} {f:List Nat} (h:(blkA g 68 #[.int .i64 1, .int .i64 n, .string ⟨#[]⟩]).p w f):ValsAt w (numR n) (.slice (some ⟨g,0,none⟩) 1 1):=⟨SlX.of_blk (X:=[]) (size:=3) (n:=1) (c:=1) h.1 (by simp) (by decide) rfl,by
 intro x hx
 rw [numR,List.mem_singleton] at hx
 subst hx
 exact Nat.zero_le _⟩
set_option maxHeartbeats 4000000 in
theorem enc0_calls (w:World):Calls Tryz.prog 24 #[.slice none 0 0] w fun e w'=> ∃a n c,e=.returned (.slice a n c)∧St w [] [slA 5 (.slice a n c) ((numL 0).map u8C)] w':=by
 have h1:St w [] (wrA w.heap.size []::[]) (w.alloc (.cells #[.slice none 0 0] 116)):=St.wr.2 ⟨_,(((St.start (w:=w) (L:=[]) (fp:=[]) rfl).newblk 116 #[.slice none 0 0]).nilA 5).perm (List.Perm.swap _ _ _)⟩
 have HN:=Lib.hid (wNumber_calls w.heap.size [] 0 (by unfold I64;omega) (by simp) w _ [] _ h1)
 clear h1
 go_enter Tryz.func24,Tryz.ntmps24
 go_wp2_with fail
 (with_reducible refine HN.out.mono ?_)
 rintro e w1 ⟨rfl,h2⟩
 obtain ⟨v,h3⟩:=St.wr.1 h2
 obtain ⟨_,hr⟩:=h3.has 1 rfl
 obtain ⟨a,n,c,rfl⟩:=sl_shape hr
 obtain ⟨_,hb⟩:=h3.has 0 rfl
 have c0:=(blk_get hb).1 0
 have cl:=(blk_get hb).2.2
 simp only [List.getElem?_toArray,List.getElem?_cons_zero] at c0
 have HF:RowKit.Hid (St w [] [slA 5 (.slice a n c) ((numL 0).map u8C)] w1):=h3.drop
 clear HN h2 h3 hr hb
 go_upto_region 4 with (fail)
 go_loopg [14] 0 (fun g z wr=> z=.int .i64 0∧wr=w1)
 case atStart=> exact ⟨rfl,rfl⟩
 case round=>
  obtain ⟨rfl,rfl⟩:=hrel
  go_wp2
  go_ret
  exact ⟨_,_,_,rfl,HF.out⟩
/- awake: its drawn regions. -/
set_option maxRecDepth 100000
theorem conv1 {P:Program} {o:Oper} {env:Operand→Value} {w:World} {t u:TypeId} {x:Operand} {v r:Value} (hop:o.op=.convert t u x) (hx:env x=v) (hr:(convert t u v).run P w=.ok r w):(execOp env o).run P w=.ok (.value r) w:=by
 simp only [execOp,hop,hx,Sem.run_bind,hr,Result.andThen_ok,Sem.run_pure]
/-- Strings that are equal. -/
theorem Rg.Ob.eqlStr (G:Rg) (i:Nat) (s:ByteArray) {ty r:TypeId} {x y:Operand} (hop:(opAt G.ops i).op=.binOp .eql ty x y r:=by rfl) (hx:∀a,G.env i a x=.string s:=by intro _;exact kr (by kernel_rfl)) (hy:∀a,G.env i a y=.string s:=by intro _;exact kr (by kernel_rfl)) (hv:∀g,G.valD i g=.bool true:=by intro _;exact kr (by kernel_rfl))
 (hq:(G.quiet i G.pcs.length && G.okV i)=true:=by exact kr (by kernel_rfl)) (hw:∀a,wantE G.ops (opAt G.ops i) (G.env i a)=some true:=by intro _;exact kr (by kernel_rfl)):G.Ob i:=Rg.Ob.read G i hq hw fun L a w _ _=> by
 simp [execOp,hop,hx,hy,go_sem,hv]
noncomputable def gAw5 (b cb:Nat) (x0 x1 x2 x3:Value) (e1 e2:Int) (A B C:Asn):=rgx Tryz.prog Tryz.f12 5 50 [13,14,15,16,17,18,3,4] [(1,pV b 0),(2,pV cb 0)] (Vq 0 13 [Kp b 0,Kv (.agg #[x0,x1,x2,x3]),Kv (.int .i64 e1),Kp b 0,Kv (.agg #[x0,x1,x2,x3]),Kv (.int .i64 e2)]++Vq 6 3 [Kv (.int .i64 e1),Kv (.int .i64 e2)]) [Bk cb (35) [x0,x1,x2,x3], .gen [2,5] [] fun L _g=> match L 5 with | true=> C | false=> match L 2 with | true=> B | false=> A]
theorem rAw5 (b cb:Nat) (x0 x1 x2 x3:Value) (e1 e2:Int) (A B C:Asn) (w0:World) (fp0:List Nat) (R:List Asn) (h1:∀w,St w0 fp0 ([blkA cb 35 #[x0,x1,x2,x3],A]++R) w→Calls Tryz.prog 19 #[.pointer (some ⟨b,0,none⟩), .agg #[x0,x1,x2,x3]] w fun e w2=> e=.returned (.int .i64 e1)∧St w0 fp0 ([blkA cb 35 #[x0,x1,x2,x3],B]++R) w2) (h2:∀w,St w0 fp0 ([blkA cb 35 #[x0,x1,x2,x3],B]++R) w→Calls Tryz.prog 19 #[.pointer (some ⟨b,0,none⟩), .agg #[x0,x1,x2,x3]] w fun e w2=> e=.returned (.int .i64 e2)∧St w0 fp0 ([blkA cb 35 #[x0,x1,x2,x3],C]++R) w2) {w:World} {c:Code} {a:Act} {Q:Exit→Act→World→Prop} (c1:isReg c=true) (c2:cops c=opsR Tryz.f12 5) (c3:a.tmps.size=50) (_c4:a.defers=a.defers) (i1:a.eval (.tmp 1)=.pointer (some ⟨b,0,none⟩)) (i2:a.eval (.tmp 2)=.pointer (some ⟨cb,0,none⟩))
 (hS:St w0 fp0 ([blkA cb (35) #[x0,x1,x2,x3],A]++R) w)
 (hQ:∀(w1:World),St w0 fp0 ([blkA cb (35) #[x0,x1,x2,x3],C]++R) w1→Q .normal (putL a [(13, .pointer (some ⟨b,0,none⟩)),(14, .agg #[x0,x1,x2,x3]),(15, .int .i64 e1),(16, .pointer (some ⟨b,0,none⟩)),(17, .agg #[x0,x1,x2,x3]),(18, .int .i64 e2),(3, .int .i64 e1),(4, .int .i64 e2)]) w1):c.wp Tryz.prog Q a w:=by
 have ok:(gAw5 b cb x0 x1 x2 x3 e1 e2 A B C w0 fp0 R).Ok 8:=Rg.ok _ 8 [1,2,4,5] ⟨.run1 _ 1 0 (fun _=> blkA cb 35 #[x0,x1,x2,x3]) (fun _ _=> blkA cb 35 #[x0,x1,x2,x3]) (fun L a w fp _ hp=> (by obtain ⟨h1, -, -⟩:=blk_get hp;exact ⟨.agg #[x0,x1,x2,x3],w,fp,exec_loads (cs:=[x0,x1,x2,x3]) (off:=0) rfl (kr (by kernel_rfl)) (kr (by kernel_rfl)) (kr (by kernel_rfl)) (fun j u hj=> (by rw [Nat.zero_add,h1 j];simpa using hj)),kr (by kernel_rfl),hp,Tr.refl _ _⟩)), .callG _ 2 (f:=19) (args:=fun _=> #[.pointer (some ⟨b,0,none⟩), .agg #[x0,x1,x2,x3]]) (fun _=> [blkA cb 35 #[x0,x1,x2,x3],A]) (fun _ _=> [blkA cb 35 #[x0,x1,x2,x3],B]) (fun g w h=> (h1 w h).mono fun e w2 ⟨e1,h2⟩=> ⟨_,e1,kr (by kernel_rfl),h2⟩), .run1 _ 4 0 (fun _=> blkA cb 35 #[x0,x1,x2,x3]) (fun _ _=> blkA cb 35 #[x0,x1,x2,x3]) (fun L a w fp _ hp=> (by obtain ⟨h1, -, -⟩:=blk_get hp;exact ⟨.agg #[x0,x1,x2,x3],w,fp,exec_loads (cs:=[x0,x1,x2,x3]) (off:=0) rfl (kr (by kernel_rfl)) (kr (by kernel_rfl)) (kr (by kernel_rfl)) (fun j u hj=> (by rw [Nat.zero_add,h1 j];simpa using hj)),kr (by kernel_rfl),hp,Tr.refl _ _⟩)), .callG _ 5 (f:=19) (args:=fun _=> #[.pointer (some ⟨b,0,none⟩), .agg #[x0,x1,x2,x3]]) (fun _=> [blkA cb 35 #[x0,x1,x2,x3],B]) (fun _ _=> [blkA cb 35 #[x0,x1,x2,x3],C]) (fun g w h=> (h2 w h).mono fun e w2 ⟨e1,h2⟩=> ⟨_,e1,kr (by kernel_rfl),h2⟩),trivial⟩
 refine wp_regD ok (by kernel_rfl) ⟨c1,c2⟩ ⟨c3,fun p hp=> ?_⟩ hS fun A1 w1 N1 H1=> ?_
 · simp only [gAw5,rgx,List.map_nil,List.append_nil,List.mem_cons,List.not_mem_nil,or_false] at hp
   rcases hp with rfl | rfl
   · exact i1
   · exact i2
 have e13:=N1.val 0 rfl
 have e14:=N1.val 1 rfl
 have e15:=N1.val 2 rfl
 have e16:=N1.val 3 rfl
 have e17:=N1.val 4 rfl
 have e18:=N1.val 5 rfl
 have e3:=N1.val 6 rfl
 have e4:=N1.val 7 rfl
 have h:=hQ  w1  H1
 rw [frame_eq N1.frame (cons_eq e13 (cons_eq e14 (cons_eq e15 (cons_eq e16 (cons_eq e17 (cons_eq e18 (cons_eq e3 (cons_eq e4 rfl))))))))]
 exact h
noncomputable def gAw8 (S:Nat) (A:Asn):=rgx Tryz.prog Tryz.f12 8 50 [25,26,27,28,29,30,31,32,33,34,35,36,37,38,39,40,41,42,43,44,45,46,47,48,49,0] [(3, .int .i64 0),(4, .int .i64 5),(5, .int .i64 4),(6,pV S 0)] (Vq 0 25 [Kv (.int .i64 0),Kv (.bool true),Kv (.bool true),Kv (.int .i64 5),Kv (.bool true),Kv (.bool true),Kv (.bool true),Kv (.int .i64 4),Kv (.bool true),Kv (.bool true),Kv (.bool true),Kp S 0,Kv (.bool true),Kv (.bool true),Kv (.bool true),Kp S 0,Kv (.int .i64 4),Kv (.bool true),Kv (.bool true),Kv (.bool true),Vf.slice,Kv (.string (textOf (numL 0))),Kv (.string (textOf (numL 0))),Kv (.bool true),Kv (.bool true)]++Vq 25 0 [Kv (.bool true)]) [.all (A), .new 20 [45] fun g=> slA 5 (g 45) ((numL 0).map u8C)]
theorem rAw8 (S:Nat) (A:Asn) (w0:World) (fp0:List Nat) (R:List Asn) (hnext:∀w f,A.p w f→Calls Tryz.prog 41 #[.pointer (some ⟨S,0,none⟩)] w fun e w'=> e=.returned (.int .i64 4)∧Below w.heap.size w w') (henc:∀(L:List Asn) (w:World),St w0 fp0 (L++R) w→Calls Tryz.prog 24 #[.slice none 0 0] w fun e w2=> ∃v f,e=.returned v∧(slA 5 (v) ((numL 0).map u8C)).p w2 f∧Below w.heap.size w w2∧∀k∈f,w.heap.size≤k) (hrn:∀(L:List Asn) (w:World),St w0 fp0 (L++R) w→Calls Tryz.prog 42 #[.int .i64 0] w fun e w'=> e=.returned (.string (textOf (numL 0)))∧Below w.heap.size w w') {w:World} {c:Code} {a:Act} {Q:Exit→Act→World→Prop} (c1:isReg c=true) (c2:cops c=opsR Tryz.f12 8) (c3:a.tmps.size=50) (_c4:a.defers=a.defers) (i3:a.eval (.tmp 3)=.int .i64 0) (i4:a.eval (.tmp 4)=.int .i64 5) (i5:a.eval (.tmp 5)=.int .i64 4) (i6:a.eval (.tmp 6)=.pointer (some ⟨S,0,none⟩))
 (hS:St w0 fp0 ([A,emp]++R) w)
 (hQ:∀(u45:Value) (w1:World),(∃a n c,u45=.slice a n c)→St w0 fp0 ([A,slA 5 (u45) ((numL 0).map u8C)]++R) w1→Q .normal (putL a [(25, .int .i64 0),(26, .bool true),(27, .bool true),(28, .int .i64 5),(29, .bool true),(30, .bool true),(31, .bool true),(32, .int .i64 4),(33, .bool true),(34, .bool true),(35, .bool true),(36, .pointer (some ⟨S,0,none⟩)),(37, .bool true),(38, .bool true),(39, .bool true),(40, .pointer (some ⟨S,0,none⟩)),(41, .int .i64 4),(42, .bool true),(43, .bool true),(44, .bool true),(45,u45),(46, .string (textOf (numL 0))),(47, .string (textOf (numL 0))),(48, .bool true),(49, .bool true),(0, .bool true)]) w1):c.wp Tryz.prog Q a w:=by
 have ok:(gAw8 S A w0 fp0 R).Ok 26:=Rg.ok _ 26 [1,4,8,16,17,20,21,22,23] ⟨.eqlS _ 1 .i64 0, .eqlS _ 4 .i64 5, .eqlS _ 8 .i64 4, .ask1 _ 16 0 (f:=41) (args:=#[.pointer (some ⟨S,0,none⟩)]) (v:=.int .i64 4) hnext, .eqlS _ 17 .i64 4, .callNew _ 20 1 (fun v=> slA 5 (v) ((numL 0).map u8C)) (fun _ _ _ h=> sl_shape h) henc, .run1 _ 21 1 (fun g=> slA 5 (g 45) ((numL 0).map u8C)) (fun g _=> slA 5 (g 45) ((numL 0).map u8C)) (fun L a w fp _ hp=> ⟨.string (textOf (numL 0)),w,fp,conv1 (v:=.slice (sa (slots a 45)) (sn (slots a 45)) (sc (slots a 45))) rfl (kr (by kernel_rfl)) (run_back (slSelf hp)),kr (by kernel_rfl),hp,Tr.refl _ _⟩), .askR _ 22 hrn, .eqlStr _ 23 (textOf (numL 0)),trivial⟩
 refine wp_regD ok (by kernel_rfl) ⟨c1,c2⟩ ⟨c3,fun p hp=> ?_⟩ hS fun A1 w1 N1 H1=> ?_
 · simp only [gAw8,rgx,List.map_nil,List.append_nil,List.mem_cons,List.not_mem_nil,or_false] at hp
   rcases hp with rfl | rfl | rfl | rfl
   · exact i3
   · exact i4
   · exact i5
   · exact i6
 have e25:=N1.val 0 rfl
 have e26:=N1.val 1 rfl
 have e27:=N1.val 2 rfl
 have e28:=N1.val 3 rfl
 have e29:=N1.val 4 rfl
 have e30:=N1.val 5 rfl
 have e31:=N1.val 6 rfl
 have e32:=N1.val 7 rfl
 have e33:=N1.val 8 rfl
 have e34:=N1.val 9 rfl
 have e35:=N1.val 10 rfl
 have e36:=N1.val 11 rfl
 have e37:=N1.val 12 rfl
 have e38:=N1.val 13 rfl
 have e39:=N1.val 14 rfl
 have e40:=N1.val 15 rfl
 have e41:=N1.val 16 rfl
 have e42:=N1.val 17 rfl
 have e43:=N1.val 18 rfl
 have e44:=N1.val 19 rfl
 have e45:=N1.val 20 rfl
 have e46:=N1.val 21 rfl
 have e47:=N1.val 22 rfl
 have e48:=N1.val 23 rfl
 have e49:=N1.val 24 rfl
 have e0:=N1.val 25 rfl
 have h:=hQ (slots A1 45) w1 ⟨_,_,_,e45⟩ H1
 rw [frame_eq N1.frame (cons_eq e25 (cons_eq e26 (cons_eq e27 (cons_eq e28 (cons_eq e29 (cons_eq e30 (cons_eq e31 (cons_eq e32 (cons_eq e33 (cons_eq e34 (cons_eq e35 (cons_eq e36 (cons_eq e37 (cons_eq e38 (cons_eq e39 (cons_eq e40 (cons_eq e41 (cons_eq e42 (cons_eq e43 (cons_eq e44 (cons_eq rfl (cons_eq e46 (cons_eq e47 (cons_eq e48 (cons_eq e49 (cons_eq e0 rfl))))))))))))))))))))))))))]
 exact h
end Go.Proofs.YtpdlkdoogojboaaGreat
/- awake. -/
namespace Go.Proofs.YtpdlkdoogojboaaGreat
open Go Go.RowKit
def chA (g:Nat):Chg:=⟨0,3,none,0,some ⟨g,0,none⟩,1,[],numR 5⟩
def chB (g:Nat):Chg:=⟨0,3,some ⟨g,0,none⟩,1,none,0,numR 6,[]⟩
def D1:Db:=[(1,[(3,numR 5)],4)]
theorem awA (h g:Nat):chkD (newD [tdOne h]) (chA g)=0∧appD (newD [tdOne h]) (chA g)=D1:=⟨by kernel_rfl,by kernel_rfl⟩
theorem awB (g:Nat):chkD D1 (chA g)=5∧appD D1 (chA g)=D1:=⟨by kernel_rfl,by kernel_rfl⟩
theorem awC (g:Nat):chkD D1 (chB g)=4∧appD D1 (chB g)=D1:=⟨by kernel_rfl,by kernel_rfl⟩
theorem numR_ok (n:Int) (h:I64 n):∀v∈numR n,I64 v.int:=by
 intro v hv
 rw [numR,List.mem_singleton] at hv
 subst hv
 exact h
theorem chA_ok (g:Nat):(chA g).Ok:=⟨by unfold I64 chA;simp,by unfold I64 chA;simp,by simp [chA],numR_ok 5 (by unfold I64;omega)⟩
theorem chB_ok (g:Nat):(chB g).Ok:=⟨by unfold I64 chB;simp,by unfold I64 chB;simp,numR_ok 6 (by unfold I64;omega),by simp [chB]⟩
theorem D1_len:∀t∈D1,t.2.1.length < 1000000:=by
 intro t ht
 rw [D1,List.mem_singleton] at ht
 subst ht
 show 1 < 1000000
 omega
theorem D0_len (h:Nat):∀t∈newD [tdOne h],t.2.1.length < 1000000:=fun t ht=> by
 have:=newD_max _ t ht
 omega
set_option maxHeartbeats 8000000 in
set_option maxRecDepth 20000 in
theorem awake40_calls (w:World):Calls Tryz.prog 12 #[] w fun e w'=> e=.returned (.bool true)∧Below w.heap.size w w':=by
 have HO:=Lib.hid (one_calls w)
 go_enter Tryz.func12,Tryz.ntmps12
 go_wp2_with fail
 (with_reducible refine HO.out.mono ?_)
 rintro e w1 ⟨og,oh,rfl,h1⟩
 have HN:=Lib.hid (StNew_calls [tdOne oh] _ (one_sm oh) (by simp) w w1 [] (oneL og oh) (one_sch og oh 0 rfl rfl) h1)
 clear HO h1
 go_wp2_with fail
 (with_reducible refine HN.out.mono ?_)
 rintro e w2 ⟨b,rfl,h2⟩
 have H2:=Lib.hid h2
 have HNU:=Lib.hid (num_calls 5 w2)
 clear HN h2
 go_wp2_with fail
 (with_reducible refine HNU.out.mono ?_)
 rintro e w3 ⟨ng,rfl,h3⟩
 have h4:=newB H2.out h3
 have h5:=h4.newblk 35 #[.int .i64 0, .int .i64 3, .slice none 0 0, .slice (some ⟨ng,0,none⟩) 1 1]
 have H5:=Lib.hid h5
 clear HNU H2 h3 h4 h5
 go_upto_region 5 with (fail)
 generalize hW:w3.alloc _=W at *
 clear hW
 obtain ⟨cb,hcb⟩:∃cb,w3.heap.size=cb:=⟨_,rfl⟩
 rw [hcb] at H5 ⊢
 clear hcb
 obtain ⟨R1,hR1⟩:∃R1,blkA ng 68 #[.int .i64 1, .int .i64 5, .string ⟨#[]⟩]::oneL og oh=R1:=⟨_,rfl⟩
 have HS5:RowKit.Hid (St w [] ([blkA cb 35 #[.int .i64 0, .int .i64 3, .slice none 0 0, .slice (some ⟨ng,0,none⟩) 1 1],stA b (newD [tdOne oh])]++R1) W):=by
  rw [←hR1]
  exact St_re (L:=[_,_,_]) H5.out [0,2,1] [] (by kernel_rfl)
 have hcx:∀A,Rd w [] ([A]++R1) fun w=> (chA ng).X w:=fun A M w' hs=> by
  rw [←hR1] at hs
  exact ⟨ValsX.nil _ _ _ _,(Rd.of_piece (R:=[A]++(blkA ng 68 #[.int .i64 1, .int .i64 5, .string ⟨#[]⟩]::oneL og oh)) 1 rfl fun w f h=> num_vals h) M w' hs⟩
 refine rAw5 (w0:=w) (fp0:=[]) (R:=R1) b cb (.int .i64 0) (.int .i64 3) (.slice none 0 0) (.slice (some ⟨ng,0,none⟩) 1 1) 0 5 (stA b (newD [tdOne oh])) (stA b D1) (stA b D1) ?_ ?_ rfl (by kernel_rfl) rfl rfl rfl rfl HS5.out ?_
 · intro w' h'
   have h:=Apply_calls b _ (chA ng) (chA_ok ng) (D0_len oh) w w' [] _ (hcx _) (h'.perm (List.Perm.swap _ _ _))
   rw [(awA oh ng).1,(awA oh ng).2] at h
   refine h.mono ?_
   rintro e w4 ⟨rfl,h4⟩
   exact ⟨rfl,h4.perm (List.Perm.swap _ _ _)⟩
 · intro w' h'
   have h:=Apply_calls b _ (chA ng) (chA_ok ng) D1_len w w' [] _ (hcx _) (h'.perm (List.Perm.swap _ _ _))
   rw [(awB ng).1,(awB ng).2] at h
   refine h.mono ?_
   rintro e w4 ⟨rfl,h4⟩
   exact ⟨rfl,h4.perm (List.Perm.swap _ _ _)⟩
 intro w4 h4
 have H4:RowKit.Hid (St w [] (stA b D1::R1) w4):=St.drop h4
 clear h4 H5 HS5 hcx hR1
 simp only [putL,List.foldl,Act.put,List.setIfInBounds_toArray,List.set_cons_succ,List.set_cons_zero]
 have HNU:=Lib.hid (num_calls 6 w4)
 go_wp2_with fail
 (with_reducible refine HNU.out.mono ?_)
 rintro e w5 ⟨nh,rfl,h5⟩
 have h6:=newB H4.out h5
 have h7:St w [] (stA b D1::blkA nh 68 #[.int .i64 1, .int .i64 6, .string ⟨#[]⟩]::R1) w5:=h6.perm (List.Perm.swap _ _ _)
 have HA:=Lib.hid (Apply_calls b D1 (chB nh) (chB_ok nh) D1_len w w5 [] _ (fun M w' hs=> ⟨(Rd.of_piece (R:=blkA nh 68 #[.int .i64 1, .int .i64 6, .string ⟨#[]⟩]::R1) 0 rfl fun w f h=> num_vals h) M w' hs,ValsX.nil _ _ _ _⟩) h7)
 rw [(awC nh).1,(awC nh).2] at HA
 unfold chB Chg.v Chg.ov Chg.nv numR at HA
 simp only [List.length_cons,List.length_nil,Nat.zero_add] at HA
 clear HNU H4 h5 h6 h7
 go_wp2_with fail
 (with_reducible refine HA.out.mono ?_)
 rintro e w6 ⟨rfl,h6⟩
 obtain ⟨q,hq,hs⟩:=h6.openD
 have hq1:q.ts.length=1:=hq.tlen
 obtain ⟨T,hT⟩:∃T,q.ts=[T]:=by
  match e:q.ts,hq1 with
  | [T],_=> exact ⟨T,rfl⟩
 have hd:=hq.d
 rw [hT] at hd
 have hnx:T.next=4:=by
  have h1:=List.cons.inj hd
  have h2:=h1.1
  unfold Tb.d at h2
  injection h2 with _ h2
  injection h2
 have hdb:=db_get hs
 have HT:=Lib.hid (table_in b 0 _ q.tv (ptrV T.S) w6 hdb.2.1 hdb.2.2.2.2 (by rw [hT];rfl))
 obtain ⟨R2,hR2⟩:∃R2,dbP b q++(blkA nh 68 #[.int .i64 1, .int .i64 6, .string ⟨#[]⟩]::R1)=R2:=⟨_,rfl⟩
 have HS6:RowKit.Hid (St w [] ([tbA T,emp]++R2) w6):=by
  rw [hT] at hs
  rw [←hR2]
  have h:=St.emp.2 hs
  refine h.perm ?_
  classical
  refine List.perm_iff_count.2 fun a=> ?_
  simp only [List.map_cons,List.map_nil,List.cons_append,List.nil_append,List.count_append,List.count_cons]
  omega
 have HNX:=Lib.hid hnx
 obtain ⟨S,cols,I,LL0,next⟩:=T
 simp only at HNX HT
 clear HA h6 hq hs hq1 hT hd hnx hdb hR2
 unfold ptrV at HT
 rw [show ((0:Nat):Int)=0 from rfl] at HT
 go_wp2_with fail
 (with_reducible refine HT.out.mono ?_)
 rintro e w7 ⟨rfl,rfl⟩
 clear HT
 go_upto_region 8 with (fail)
 refine rAw8 (w0:=w) (fp0:=[]) (R:=R2) S (tbA ⟨S,cols,I,LL0,next⟩) ?_ ?_ ?_ rfl (by kernel_rfl) rfl rfl rfl rfl rfl rfl HS6.out ?_
 · intro w' f h'
   refine (Next_calls h').mono ?_
   rintro e w8 ⟨rfl,rfl⟩
   exact ⟨by rw [HNX.out],Below.refl _ _⟩
 · intro M w' _
   refine (enc0_calls w').mono ?_
   rintro e w8 ⟨a,n,c,rfl,h8⟩
   obtain ⟨f,h1,h2,h3⟩:=piece_of h8
   exact ⟨_,f,rfl,h1,h2,h3⟩
 · intro M w' _
   exact RNumber_calls 0 (by unfold I64;omega) w'
 intro u45 w8 ⟨ya,yn,yc,e45⟩ h8
 subst e45
 have HF:=Lib.hid (St.below0 h8)
 clear h8 HS6
 simp only [putL,List.foldl,Act.put,List.setIfInBounds_toArray,List.set_cons_succ,List.set_cons_zero]
 go_wp2
 go_ret
 exact ⟨rfl,HF.out⟩
/- StoreMatchesModel. -/
theorem rd_below {w0:World} {R:List Asn} {Q:World→Prop} (h:∀w,Below w0.heap.size w0 w→Q w):Rd w0 [] R Q:=Rd.of_tr fun w _fp ht=> h w (ht.below (Nat.le_refl _) fun _k hk=> nomatch hk)
end Go.Proofs.YtpdlkdoogojboaaGreat
