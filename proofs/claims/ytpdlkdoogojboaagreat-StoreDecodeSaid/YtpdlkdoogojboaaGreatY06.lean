/- Part 6 of the proof: Fx, Rg, Cn, Sg, Dp, Sd, Su, Sa, Sb, Sw, Rf, Rg2 -/
import Derived.Test.YtpdlkdoogojboaaGreatY05
import Derived.Test.YtpdlkdoogojboaaGreatY01
import Derived.RangeFuncIn
import Derived.RangeFuncRecord
import Derived.RangeFuncLeaves
import Derived.RangeFuncSeq
import Derived.RangeFuncCalls
import Derived.OwnWalkIn
import Derived.Test.YtpdlkdoogojboaaGreatY02
set_option maxHeartbeats 16000000
set_option maxRecDepth 100000
namespace Go.Proofs.YtpdlkdoogojboaaGreat
open Go Go.RowKit
noncomputable section
theorem equalI_calls (l m:List Int) (v u:Value) (w:World) (hv:IntsX [] w l v) (hu:IntsX [] w m u):Calls Tryz.prog 177 #[v,u] w λ e w'=> e=.returned (.bool (decide (l=m)))/\Below w.heap.size w w':=by
 obtain ⟨a,n,c,rfl,hn,hnm⟩:=hv.shape;obtain ⟨a2,n2,c2,rfl,hn2,hnm2⟩:=hu.shape;have HV:=Lib.hid hv;have HU:=Lib.hid hu;have HN:=Lib.hid hn;have HN2:=Lib.hid hn2;have hb1:n<=9223372036854775807:=by unfold maxLen at hnm;omega
 obtain ⟨q,hq⟩:∃q,decide (l=m)=q:=⟨_,rfl⟩
 have HQ:=Lib.hid hq;rw [hq];clear hv hu hnm hnm2 hq;by_cases he:n=n2
 · have he':((n:Int) !=n2)=false:=by simp [he]
   have HE:Hid (l.drop 0=m.drop 0↔l=m):=by show _↔_;simp
   clear hn hn2;subst he;have he':((n:Int) !=n)=false:=by simp
   go_enter Tryz.func177,Tryz.ntmps177;go_wp2;go_loopg [13] n (λ g z wr=> ∃k:Nat,z=.int .i64 k/\g+k=n/\Hid (l.drop k=m.drop k↔l=m)/\Hid (Below w.heap.size w wr))
   case atStart=> exact ⟨0,rfl,rfl,HE,Below.refl _ _⟩
   case round=>
    clear HE;obtain ⟨k,rfl,hgk,He,Hb⟩:=hrel;by_cases hk:k < n
    · have hkl:k < l.length:=by rw [<-HN.out];exact hk
      have hkm:k < m.length:=by rw [<-HN2.out];exact hk
      obtain ⟨b,o,rfl⟩:=HV.out.has k hk;obtain ⟨b2,o2,rfl⟩:=HU.out.has k hk;have c1:=(HV.out.mono Hb.out).cell k hkl;have c2:=(HU.out.mono Hb.out).cell k hkm;have hl1:=World.block_lt_of_cell? wr _ c1;have hl2:=World.block_lt_of_cell? wr _ c2;have hk':(k:Int) < n:=by omega
      have HD:Hid (l.drop k=m.drop k↔l[k]=m[k]/\l.drop (k+1)=m.drop (k+1)):=by show _↔_;rw [List.drop_eq_getElem_cons hkl,List.drop_eq_getElem_cons hkm,List.cons.injEq]
      have Hgk:=Lib.hid hgk;clear hgk;generalize l[k]=x at *;generalize m[k]=y at *;clear hkl hkm;by_cases hxy:x=y
      · subst hxy
        have hne:(x !=x)=false:=by simp
        go_upto_region 6 with (fail)
        go_region;go_wp2;go_roundg (gk - 1)
        case rel=> exact ⟨k+1,by go_num,by have:=Hgk.out;omega,(by show _↔_;rw [<-He.out,HD.out];simp),Below.drew Hb.out⟩
        case measure=> have:=Hgk.out;omega
      · have hne:(x !=y)=true:=by simp [hxy]
        have HX:=Lib.hid hxy;clear hxy;go_upto_region 6 with (fail)
        go_region;go_wp2;go_ret;refine ⟨?_,Below.drew Hb.out⟩;have:¬ l=m:=λ h=> HX.out (HD.out.1 (He.out.2 h)).1;rw [<-HQ.out,decide_eq_false this];rfl
    · obtain rfl:k=n:=by omega
      have HR:Hid (l=m):=by refine He.out.1 ?_;rw [List.drop_of_length_le (by rw [<-HN.out];exact Nat.le_refl _),List.drop_of_length_le (by rw [<-HN2.out];exact Nat.le_refl _)]
      clear hgk hk;go_wp2;go_ret;refine ⟨?_,Hb.out⟩;rw [<-HQ.out,decide_eq_true HR.out];rfl
 · have he':((n:Int) !=n2)=true:=by simp;omega
   have HNE:Hid (¬ l=m):=by intro h;apply he;rw [hn,hn2,h]
   clear he hn hn2;go_enter Tryz.func177,Tryz.ntmps177;go_wp2;go_ret;refine ⟨?_,Below.refl _ _⟩;rw [<-HQ.out,decide_eq_false HNE.out];rfl
theorem find1_calls (cs ds:List Int) (cv kp dv:Value) (p:Nat) (w:World) (hc:IntsX [] w cs cv) (hp:w.cell? ⟨p,0,none⟩=some dv) (hd:IntsX [] w ds dv):
 Calls Tryz.prog 176 #[.agg #[cv,kp], .pointer (some ⟨p,0,none⟩)] w λ e w'=> e=.returned (.bool (decide (cs=ds)))/\Below w.heap.size w w':=by
 have hb:Below w.heap.size w (w.alloc (.cells #[cv,kp] 152)):=(Below.refl _ _).alloc (Nat.le_refl _) _;have HC:=Lib.hid (equalI_calls cs ds cv dv _ (hc.mono hb) (hd.mono hb));have Hb:=Lib.hid hb;have hpl:=World.block_lt_of_cell? w _ hp;obtain ⟨a,n,c,rfl, -⟩:=hc.shape;obtain ⟨a2,n2,c2,rfl, -⟩:=hd.shape;clear hc hd hb;go_enter Tryz.func176,Tryz.ntmps176;go_wp2_with fail;(with_reducible refine HC.out.mono ?_);rintro e w1 ⟨rfl,hb1⟩;have Hb1:=Lib.hid (Hb.out.trans (hb1.mono Hb.out.size));clear hb1 HC;go_wp2;go_ret;exact ⟨rfl,Hb1.out⟩
theorem ixV_at (ixs:List Ix) (k:Nat) (hk:k < ixs.length):(ixV ixs)[k * 2]? =some ixs[k].cv/\(ixV ixs)[k * 2+1]? =some (ptrV ixs[k].kb):=by
 induction ixs generalizing k with
 | nil=> simp at hk
 | cons x l ih=>
  have e:ixV (x::l)=x.cv::ptrV x.kb::ixV l:=rfl;cases k with
  | zero=> exact ⟨rfl,rfl⟩
  | succ k=>
   have:=ih k (by simpa using hk);rw [e,show (k+1) * 2=k * 2+1+1 by omega,show k * 2+1+1+1=(k * 2+1)+1+1 by omega];simpa using this
theorem ixV_len (ixs:List Ix):(ixV ixs).length=ixs.length * 2:=by
 induction ixs with
 | nil=> rfl
 | cons x l ih=> simp only [ixV,List.flatMap_cons,List.length_append,List.length_cons,List.length_nil] at ih ⊢;omega
theorem ix_cells {X:List Nat} {w:World} {ixs:List Ix} {v:Value} (h:SlX X w 2 ixs.length (ixV ixs) v) (k:Nat) (hk:k < ixs.length):∃b o c,v=.slice (some ⟨b,o,none⟩) ixs.length c/\w.cell? ⟨b,o+k * 2,none⟩=some ixs[k].cv/\w.cell? ⟨b,o+k * 2+1,none⟩=some (ptrV ixs[k].kb):=by
 obtain ⟨a,c,rfl⟩:=h.shape;obtain ⟨b,o,rfl, -⟩:=h.has (by rw [ixV_len];omega);obtain ⟨e1,e2⟩:=ixV_at ixs k hk;obtain ⟨l1,f1⟩:=List.getElem?_eq_some_iff.1 e1;obtain ⟨l2,f2⟩:=List.getElem?_eq_some_iff.1 e2;refine ⟨b,o,c,rfl,?_,?_⟩
 · rw [h.cell _ l1,f1]
 · rw [Nat.add_assoc,h.cell _ l2,f2]
theorem indexX_calls (ixs:List Ix) (v:Value) (f:Nat) (c:Value) (p:Ix->Bool) (w:World) (he:∀args w,(callFunc f args).run Tryz.prog w=.ok (.enter f args) w) (hv:SlX [] w 2 ixs.length (ixV ixs) v) (hf:∀x∈ixs,∀w',Below w.heap.size w w'->Calls Tryz.prog f #[.agg #[x.cv,ptrV x.kb],c] w' λ e w''=> e=.returned (.bool (p x))/\Below w'.heap.size w' w''):
 Calls Tryz.prog 175 #[v, .func (.func f) #[] #[c]] w λ e w'=> e=.returned (.int .i64 (firstI (λ i=> (ixs[i]?).any p) ixs.length))/\Below w.heap.size w w':=by
 obtain ⟨a,cc,rfl⟩:=hv.shape;obtain ⟨n,hn⟩:∃n,ixs.length=n:=⟨_,rfl⟩
 have HV:=Lib.hid hv;have HN:=Lib.hid hn;have HF:=Lib.hid hf;have hm2:n<=9223372036854775807:=by have:=hv.1;unfold maxLen at this;omega
 rw [hn];clear hv hn hf;go_enter Tryz.func175,Tryz.ntmps175;go_wp2;go_loopg [8] n (λ g z wr=> ∃k:Nat,z=.int .i64 k/\g+k=n/\Hid (∀j,j < k->(ixs[j]?).any p=false)/\Hid (Below w.heap.size w wr))
 case atStart=> exact ⟨0,rfl,rfl,λ j hj=> absurd hj (Nat.not_lt_zero j),Below.refl _ _⟩
 case round=>
  obtain ⟨k,rfl,hgk,Hp,Hb⟩:=hrel;by_cases hk:k < n
  · have hkl:k < ixs.length:=by rw [HN.out];exact hk
    obtain ⟨b,o,c',e1,c1,c2⟩:=ix_cells (HV.out.mono Hb.out) k hkl;obtain ⟨rfl, -,rfl⟩:=Value.slice.inj e1;have hlt:=World.block_lt_of_cell? wr _ c1;have hk':(k:Int) < n:=by omega
    have HC:=Lib.hid (HF.out ixs[k] (List.getElem_mem hkl) wr Hb.out);have hget:ixs[k]? =some ixs[k]:=List.getElem?_eq_getElem hkl;have Hget:=Lib.hid hget;have Hgk:=Lib.hid hgk;have Hk:=Lib.hid hk;clear hget hgk e1;generalize ixs[k]=x at *;clear hkl;unfold ptrV at *;cases hq:p x
    · rw [hq] at HC
      have Hq:=Lib.hid hq;clear hq;go_wp2_with fail;(with_reducible refine HC.out.mono ?_);rintro e w1 ⟨rfl,hb1⟩;have Hb1:=Lib.hid (Hb.out.trans (hb1.mono Hb.out.size));clear hb1;go_wp2;go_roundg (gk - 1)
      case rel=>
       refine ⟨k+1,by go_num,by have:=Hgk.out;omega,λ j hj=> ?_,Hb1⟩;rcases Nat.lt_succ_iff_lt_or_eq.1 hj with h | h
       · exact Hp.out j h
       · subst h;rw [Hget.out];exact Hq.out
      case measure=> have:=Hgk.out;omega
    · rw [hq] at HC
      have Hq:=Lib.hid hq;clear hq;go_wp2_with fail;(with_reducible refine HC.out.mono ?_);rintro e w1 ⟨rfl,hb1⟩;have Hb1:=Lib.hid (Hb.out.trans (hb1.mono Hb.out.size));clear hb1;go_wp2;go_ret;exact ⟨by rw [firstI_at Hk.out (by rw [Hget.out];exact Hq.out) Hp.out];rfl,Hb1.out⟩
  · obtain rfl:k=n:=by omega
    have HR:Hid (firstI (λ i=> (ixs[i]?).any p) k= -1):=firstI_none Hp.out;clear hgk hk;go_wp2;go_ret;exact ⟨by rw [HR.out];rfl,Hb.out⟩
def findIx (ixs:List Ix) (cs:List Int):Option Ix:=ixs.find? λ x=> decide (x.cs=cs)
def findV:Option Ix->Value
 | some x=> .agg #[x.cv,ptrV x.kb]
 | none=> .agg #[.slice none 0 0, .pointer none]
theorem firstI_find (ixs:List Ix) (p:Ix->Bool):(∃k x,firstI (λ i=> (ixs[i]?).any p) ixs.length=(k:Nat)/\ixs[k]? =some x/\ixs.find? p=some x)\/(firstI (λ i=> (ixs[i]?).any p) ixs.length= -1/\ixs.find? p=none):=by
 cases h:ixs.find? p with
 | none=>
  refine .inr ⟨firstI_none λ j hj=> ?_,rfl⟩;rw [List.find?_eq_none] at h;rw [List.getElem?_eq_getElem hj];simpa using h _ (List.getElem_mem hj)
 | some x=>
  refine .inl ?_;rw [List.find?_eq_some_iff_getElem] at h;obtain ⟨hp,i,hi,rfl,hl⟩:=h;refine ⟨i,ixs[i],firstI_at hi (by rw [List.getElem?_eq_getElem hi];exact hp) λ j hj=> ?_,List.getElem?_eq_getElem hi,rfl⟩;rw [List.getElem?_eq_getElem (by omega)];simpa using hl j hj
theorem sfind_calls (S:Nat) (ixs:List Ix) (iv:Value) (cs:List Int) (cv:Value) (w:World) (hi:w.cell? ⟨S,3,none⟩=some iv) (hr:SlX [] w 2 ixs.length (ixV ixs) iv) (hx:∀x∈ixs,IntsX [] w x.cs x.cv) (hc:IntsX [] w cs cv):
 Calls Tryz.prog 140 #[ptrV S,cv] w λ e w'=> e=.returned (.tuple #[findV (findIx ixs cs), .bool (findIx ixs cs).isSome])/\Below w.heap.size w w':=by
 have hb:Below w.heap.size w ((w.alloc (.cells #[cv] 90)).alloc (.cells #[.slice none 0 0, .pointer none] 152)):=((Below.refl _ _).alloc (Nat.le_refl _) _).alloc (by simp) _;have hcell:((w.alloc (.cells #[cv] 90)).alloc (.cells #[.slice none 0 0, .pointer none] 152)).cell? ⟨w.heap.size,0,none⟩=some cv:=by rw [World.cell?_alloc_lt _ _ _ (by simp)];exact World.cell?_alloc_new w _ _ 0
 have HC:=Lib.hid (indexX_calls ixs iv 176 (.pointer (some ⟨w.heap.size,0,none⟩)) (λ x=> decide (x.cs=cs)) _ (enters_own Tryz.func176 (by kernel_rfl) rfl) (hr.mono hb) λ x hx' w' hb'=> find1_calls x.cs cs x.cv (ptrV x.kb) cv w.heap.size w' ((hx x hx').mono (hb.trans (hb'.mono hb.size))) ((hb'.cell (p:=⟨w.heap.size,0,none⟩) (by simp;omega)).trans hcell) (hc.mono (hb.trans (hb'.mono hb.size))));have hsl:=World.block_lt_of_cell? w _ hi;have hi':=(hb.cell (p:=⟨S,3,none⟩) hsl).trans hi;obtain ⟨a,n,c,rfl, -⟩:=hc.shape;obtain ⟨ia,ic,rfl⟩:=hr.shape;have HR:=Lib.hid (hr.mono hb);have HXS:=Lib.hid hx;have HI:=Lib.hid hi';have Hb:=Lib.hid hb;have HV:=VarIs.new1 w (.cells #[.slice a n c] 90) #[.slice none 0 0, .pointer none] 152;obtain ⟨HV0,HV1,HV2⟩:=HV;have hf:=firstI_find ixs λ x=> decide (x.cs=cs);rw [show ixs.find? (λ x=> decide (x.cs=cs))=findIx ixs cs from rfl] at hf;generalize findIx ixs cs=fo at *;generalize firstI (λ i=> (ixs[i]?).any λ x=> decide (x.cs=cs)) ixs.length=fz at *;have HF:=Lib.hid hf;clear hf;have hle:ixs.length<=9223372036854775807:=by have:=hr.1;unfold maxLen at this;omega
 clear hi hr hx hc hb hcell;unfold ptrV;go_enter Tryz.func140,Tryz.ntmps140;go_upto_region 1 with (fail)
 generalize (w.alloc _).alloc _=W at *;have hsl2:S < W.heap.size:=by have:S < w.heap.size:=hsl;omega
 go_wp2_with fail;(with_reducible refine HC.out.mono ?_);rintro e w1 ⟨rfl,hb1⟩;have hi1:=(hb1.cell (p:=⟨S,3,none⟩) hsl2).trans hi';have HV1':∀j,w1.cell? ⟨w.heap.size+1,j,none⟩=#[Value.slice none 0 0, .pointer none][j]? :=λ j=> (hb1.cell (p:=⟨w.heap.size+1,j,none⟩) HV0).trans (HV1 j);have HV2':∀j,w1.frozen? ⟨w.heap.size+1,j,none⟩=false:=λ j=> (hb1.frozen (p:=⟨w.heap.size+1,j,none⟩) HV0).trans (HV2 j);have hvl:w.heap.size+1 < w1.heap.size:=Nat.lt_of_lt_of_le HV0 hb1.size;have Hb1:=Lib.hid (Hb.out.trans (hb1.mono Hb.out.size));have HR1:=Lib.hid (HR.out.mono hb1);obtain ⟨d0,d1⟩:w1.cell? ⟨w.heap.size+1,0,none⟩=some (.slice none 0 0)/\w1.cell? ⟨w.heap.size+1,1,none⟩=some (.pointer none):=⟨HV1' 0,HV1' 1⟩
 obtain ⟨g0,g1⟩:w1.frozen? ⟨w.heap.size+1,0,none⟩=false/\w1.frozen? ⟨w.heap.size+1,1,none⟩=false:=⟨HV2' 0,HV2' 1⟩
 clear HV1 HV2 HV1' HV2' HV0 hi' hb1 HC HI HR hsl2 hsl;have hsl1:=World.block_lt_of_cell? w1 _ hi1;rcases HF.out with ⟨k,x,rfl,e2,rfl⟩ | ⟨rfl,rfl⟩
 · obtain ⟨hk,hkx⟩:=List.getElem?_eq_some_iff.1 e2
   obtain ⟨b,o,c',e4,q1,q2⟩:=ix_cells HR1.out k hk;obtain ⟨rfl, -,rfl⟩:=Value.slice.inj e4;rw [hkx] at q1 q2;have Hkx:=Lib.hid hkx;have hkn:(k:Int) < ixs.length:=by omega
   have hql:=World.block_lt_of_cell? w1 _ q1;clear e2 hkx e4 HF;unfold ptrV at q2;obtain ⟨xa,xn,xc,hxv, -⟩:=(HXS.out x (by rw [<-Hkx.out];exact List.getElem_mem hk)).shape;rw [hxv] at q1;have Hxv:=Lib.hid hxv;have Hk:=Lib.hid hk;clear hxv;go_wp2;refine bodyPost_ret (v:=.tuple #[.agg #[.slice xa xn xc, .pointer (some ⟨x.kb,0,none⟩)], .bool true]) ?_ rfl ?_
   · clear HXS HR1
     simp [results,Tryz.results140,go_sem, *]
   · refine ⟨?_,?_⟩
     · show _=Ending.returned (.tuple #[.agg #[x.cv,ptrV x.kb], .bool true])
       rw [Hxv.out];rfl
     · exact below_set (below_set Hb1.out _ _ _ (by omega)) _ _ _ (by omega)
 · clear HF
   go_wp2;refine bodyPost_ret (v:=.tuple #[.agg #[.slice none 0 0, .pointer none], .bool false]) ?_ rfl ?_
   · clear HXS HR1
     simp [results,Tryz.results140,go_sem, *]
   · exact ⟨rfl,below_set (below_set Hb1.out _ _ _ (by omega)) _ _ _ (by omega)⟩
section
def loopA (l:Nat) (r:Loop):Asn:=
 ⟨λ w fp=> w.heap[l]? =some (.loop r)/\fp=[l],λ h k hk=> by rw [h.2] at hk;obtain rfl:=List.mem_singleton.1 hk;exact (Array.getElem?_eq_some_iff.1 h.1).1,λ h hs=> ⟨(hs l (by rw [h.2];simp)).trans h.1,h.2⟩⟩
def defA (D:Nat):Asn:=
 ⟨λ w fp=> w.heap[D]? =some (.deferred (some []))/\fp=[D],λ h k hk=> by rw [h.2] at hk;obtain rfl:=List.mem_singleton.1 hk;exact (Array.getElem?_eq_some_iff.1 h.1).1,λ h hs=> ⟨(hs D (by rw [h.2];simp)).trans h.1,h.2⟩⟩
theorem Tr.putObj (w:World) (l:Nat) (o:Obj):Tr w (w.putObj l o) [l] [l]:=
 ⟨rfl,rfl,rfl,by simp,λ k _ hk=> World.putObj_heap_other (by simpa using hk),λ k hk=> .inl hk⟩
theorem St.loop {w0 w:World} {fp0:List Nat} {L:List Asn} {l:Nat} {r:Loop} (r':Loop) (h:St w0 fp0 (loopA l r::L) w):St w0 fp0 (loopA l r'::L) (w.putObj l (.loop r')):=by
 obtain ⟨f,⟨h1,rfl⟩,h2⟩:=h.get 0 rfl;exact h2 _ _ [l] ⟨World.putObj_heap_same (Array.getElem?_eq_some_iff.1 h1).1,rfl⟩ (Tr.putObj w l _)
theorem St.loop_has {w0 w:World} {fp0:List Nat} {L:List Asn} {l:Nat} {r:Loop} (h:St w0 fp0 (loopA l r::L) w):w.heap[l]? =some (.loop r):=by
 obtain ⟨_,h1,_⟩:=h.has 0 rfl;exact h1
theorem St.loop_new {w0 w:World} {fp0:List Nat} {L:List Asn} (r:Loop) (h:St w0 fp0 L w):St w0 fp0 (loopA (w.heap.size+1) r::defA w.heap.size::L) ((w.alloc (.deferred (some []))).alloc (.loop r)):=by
 have e1:(w.alloc (.deferred (some []))).heap.size=w.heap.size+1:=by simp
 have h1:St w0 fp0 (L++[defA w.heap.size]) (w.alloc (.deferred (some []))):=h.add ((Below.refl _ _).alloc (Nat.le_refl _) _) ⟨World.alloc_heap_new w _,rfl⟩ (by simp);have h2:St w0 fp0 ((L++[defA w.heap.size])++[loopA (w.heap.size+1) r]) ((w.alloc (.deferred (some []))).alloc (.loop r)):=by
  refine h1.add ((Below.refl _ _).alloc (Nat.le_refl _) _) (f:=[w.heap.size+1]) ⟨?_,rfl⟩ (by simp);have:=World.alloc_heap_new (w.alloc (.deferred (some []))) (.loop r)
  rwa [e1] at this
 refine h2.perm ?_
 classical refine List.perm_iff_count.2 λ a=> ?_;simp only [List.count_append,List.count_cons,List.count_nil];omega
def SeqSt {α:Type} (n:Nat) (P:Program) (g:Nat) (lb:Array Value) (encs:α->Array Value) (xs:List α) (L0:List Asn):Prop:=
 ∀(l:Nat) (R:List Asn) (J Jx:List α->List Asn) (w0:World) (fp0:List Nat) (W:World),St w0 fp0 (L0++R) W->
  (∀Own W1,St w0 fp0 ((L0++R)++Own) W1->St w0 fp0 (J []++Own) W1)->
  (∀pre x rest Own W1,xs=pre++x::rest->St w0 fp0 (J pre++Own) W1->YieldAt Fence.wide (n - 1) P l (encs x) W1 λ e W'=>
   (e=.returned (.bool true)/\St w0 fp0 (J (pre++[x])++Own) W')\/(e=.returned (.bool false)/\St w0 fp0 (Jx (pre++[x])++Own) W'))->
  CallsIn Fence.wide n P g (#[.func (.yield l) #[] #[]]++lb) W λ e W'=> (∃v,e=.returned v)/\(St w0 fp0 (J xs) W'\/∃pre x rest,xs=pre++x::rest/\St w0 fp0 (Jx (pre++[x])) W')
def bodySt {α:Type} (w0:World) (fp0:List Nat) (I:List α->List Asn) (Ix:Code->List α->List Asn) (xs:List α) (Own:List Asn):Exit->Act->World->Prop
 | .normal,_,W'=> St w0 fp0 (I xs++Own) W'
 | .ret,_,W'=> St w0 fp0 (Ix .ret xs++Own) W'
 | .exit id,_,W'=> St w0 fp0 (Ix (.exit id) xs++Own) W'
 | .goto t,_,W'=> St w0 fp0 (Ix (.goto t) xs++Own) W'
 | .panic _,_,_=> False
 | .outgrown,_,_=> False
theorem St.comm {w0 w:World} {fp0:List Nat} {A B:List Asn} (h:St w0 fp0 (A++B) w):St w0 fp0 (B++A) w:=h.perm List.perm_append_comm
variable {P:Program}
theorem wp_rangeFunc_st {α:Type} {n:Nat} {g:Operand} {ps:Array Tmp} {assign body:Code} {Q:Exit->Act->World->Prop} {a:Act} {w w0:World} {fp0:List Nat} {gf:Nat} {lb:Array Value} (hg:a.eval g=.func (.func gf) #[] lb)
 (eg:∀args w,(callFunc gf args).run P w=.ok (.enter gf args) w)
 {encs:α->Array Value} {xs:List α} {L0:List Asn} (hseq:SeqSt (n - 1) P gf lb encs xs L0) (hps:∀x,(encs x).size=ps.size)
 (I:List α->List Asn) (Ix:Code->List α->List Asn) (R:List Asn) (hS:St w0 fp0 (L0++R) w) (h0:∀Own W,St w0 fp0 ((L0++R)++Own) W->St w0 fp0 (I []++Own) W)
 (hround:∀(l:Nat) (pre:List α) (x:α) (rest:List α) (Own:List Asn) (W:World),xs=pre++x::rest->St w0 fp0 (I pre++Own) W->
  assign.wpIn (Fence.wide.inRound l) (n - 1 - 1) P (Exit.then (λ a₁ W1=> St w0 fp0 (I pre++Own) W1/\∀Own2 W2,St w0 fp0 (I pre++Own2) W2->body.wpIn (Fence.wide.inRound l) (n - 1 - 1) P (bodySt w0 fp0 I Ix (pre++[x]) Own2) a₁ W2) (λ _ _ _=> False))
   { tmps:=(ps.zip (encs x)).foldl (λ t (p,v)=> t.setIfInBounds p v) a.tmps,defers:=[] } W)
 (hdone:∀(D:Nat) (W:World),St w0 fp0 (defA D::I xs) W->Q .normal { a with defers:={ target:=.collected D,args:=#[] }::a.defers } W)
 (hstop:∀(D:Nat) (c:Code) (pre:List α) (x:α) (rest:List α) (W:World),xs=pre++x::rest->St w0 fp0 (defA D::Ix c (pre++[x])) W->c.wp P Q { a with defers:={ target:=.collected D,args:=#[] }::a.defers } W):
 (Code.rangeFunc g ps assign body).wp P Q a w:=by
 refine (wpIn_wide (n:=n)).1 (wpIn_rangeFunc ?_);intro fn hfn;obtain ⟨D,hD⟩:∃D,w.heap.size=D:=⟨_,rfl⟩
 obtain ⟨rec,hrec⟩:∃rec:LoopState->Option Code->Loop,rec=λ st pe=> { state:=st,pending:=pe,fn,tmps:=a.tmps,params:=ps,assign,body,defers:=D }:=⟨_,rfl⟩
 obtain ⟨W1,hW1⟩:∃W1,(w.alloc (.deferred (some []))).alloc (.loop (rec .ready none))=W1:=⟨_,rfl⟩
 have hS1:St w0 fp0 (loopA (D+1) (rec .ready none)::defA D::(L0++R)) W1:=by rw [<-hW1,<-hD];exact hS.loop_new _
 have hbp:∀st pe,(rec st pe).params=ps:=by intro st pe;rw [hrec]
 have hbs:∀st pe,(rec st pe).state=st/\(rec st pe).pending=pe:=by intro st pe;rw [hrec];exact ⟨rfl,rfl⟩
 have hbr:∀st pe st' pe',{ rec st pe with state:=st',pending:=pe' }=rec st' pe':=by intro st pe st' pe';rw [hrec]
 have hbr1:∀st pe st',{ rec st pe with state:=st' }=rec st' pe:=by intro st pe st';rw [hrec]
 have hout:=run_enterLoop_outer (P:=P) (w:=w) fn a.tmps ps assign body;rw [hD] at hout;refine ⟨D+1,[{ target:=.collected D,args:=#[] }],W1,{ target:=.fn (.func gf) lb,args:=#[.func (.yield (D+1)) #[] #[]] },W1,gf,
  #[.func (.yield (D+1)) #[] #[]]++lb,W1,?_,?_,λ _ _=> trivial,?_,λ h=> (by cases h),?_⟩
 · rw [<-hW1,hrec]
   exact hout
 · simp only [resolve,hg]
   simp [go_sem]
 · simp [invoke,go_sem,eg]
 clear hout;obtain ⟨Bk,hBk⟩:∃Bk:LoopState->Option Code->List Asn,Bk=λ st pe=> [loopA (D+1) (rec st pe),defA D]:=⟨_,rfl⟩
 have hbk:∀st pe (A Own:List Asn) W,St w0 fp0 ((A++Bk st pe)++Own) W↔St w0 fp0 (loopA (D+1) (rec st pe)::(A++defA D::Own)) W:=by
  intro st pe A Own W;rw [hBk];have hp:((A++[loopA (D+1) (rec st pe),defA D])++Own).Perm (loopA (D+1) (rec st pe)::(A++defA D::Own)):=by classical refine List.perm_iff_count.2 λ a=> ?_;simp only [List.count_append,List.count_cons,List.count_nil];omega
  exact ⟨λ h=> h.perm hp,λ h=> h.perm hp.symm⟩
 refine (hseq (D+1) (R++Bk .ready none) (λ pre=> I pre++Bk .ready none) (λ pre=> [exA λ c=> starA (Ix c pre++Bk .done (some c))]) w0 fp0 W1 ?_ ?_ ?_).mono ?_
 · rw [<-List.append_assoc]
   have:=(hbk .ready none (L0++R) [] W1).2 (hS1.perm (by classical refine List.perm_iff_count.2 λ a=> ?_;simp only [List.count_append,List.count_cons,List.count_nil];omega));simpa using this
 · intro Own W h
   have h1:St w0 fp0 ((L0++R)++(Bk .ready none++Own)) W:=by simpa only [List.append_assoc] using h
   have:=h0 _ _ h1;simpa only [List.append_assoc] using this
 · intro pre x rest Own W hxs h
   have h1:=(hbk .ready none (I pre) Own W).1 h;have hl:=h1.loop_has;have hy:=run_yield (P:=P) (args:=encs x) hl (by rw [hbp];exact hps x);rw [hrec] at hy;have h1':St w0 fp0 (I pre++(loopA (D+1) (rec .ready none)::defA D::Own)) W:=h1.perm (by classical refine List.perm_iff_count.2 λ a=> ?_;simp only [List.count_append,List.count_cons];omega);refine ⟨fn,_,assign,body,hy,roundIn_of_wpIn hfn (wpIn_mono (hround _ pre x rest _ W hxs h1') ?_)⟩;rintro e0 a0 W0 hp0;have hn:e0=.normal:=by cases e0 <;> first | rfl | exact hp0.elim
   subst hn;obtain ⟨h1,hbody⟩:=hp0;have h1:St w0 fp0 (loopA (D+1) (rec .ready none)::(I pre++defA D::Own)) W0:=h1.perm (by classical refine List.perm_iff_count.2 λ a=> ?_;simp only [List.count_append,List.count_cons];omega);have hl:=h1.loop_has;have hb:=run_beginRound (P:=P) hl (hbs _ _).1;rw [hbr1] at hb;refine ⟨_,hb,?_⟩;have h2:=h1.loop (rec .busy none);have h3:St w0 fp0 (I pre++(loopA (D+1) (rec .busy none)::defA D::Own)) (W0.putObj (D+1) (.loop (rec .busy none))):=h2.perm (by classical refine List.perm_iff_count.2 λ a=> ?_;simp only [List.count_append,List.count_cons];omega);refine wpIn_mono (hbody _ _ h3) ?_;have fin:∀(A:List Asn) (jump:Option Code) (W3:World),St w0 fp0 (A++(loopA (D+1) (rec .busy none)::defA D::Own)) W3->
    (Instr.endRound (D+1) jump).run P W3=.ok (.bool jump.isNone) (W3.putObj (D+1) (.loop (rec (if jump.isNone then .ready else .done) jump)))/\
    St w0 fp0 ((A++Bk (if jump.isNone then .ready else .done) jump)++Own) (W3.putObj (D+1) (.loop (rec (if jump.isNone then .ready else .done) jump))):=by
    intro A jump W3 h;have h4:St w0 fp0 (loopA (D+1) (rec .busy none)::(A++defA D::Own)) W3:=h.perm (by classical refine List.perm_iff_count.2 λ a=> ?_;simp only [List.count_append,List.count_cons];omega);have hr:=run_endRound (P:=P) jump h4.loop_has;rw [hbr] at hr;exact ⟨hr,(hbk _ _ A Own _).2 (h4.loop _)⟩
   have ex:∀(c:Code) (A:List Asn) W3,St w0 fp0 ((Ix c (pre++[x])++Bk .done (some c))++Own) W3->St w0 fp0 ([exA λ c=> starA (Ix c (pre++[x])++Bk .done (some c))]++Own) W3:=by intro c A W3 h;exact h.fold λ f hf=> ⟨c,hf⟩
   rintro e a3 W3 hp;cases e with
   | normal=>
    obtain ⟨hr,h4⟩:=fin _ none W3 hp;exact ⟨_,_,hr, .inl ⟨rfl,h4⟩⟩
   | ret=>
    obtain ⟨hr,h4⟩:=fin _ (some .ret) W3 hp;exact ⟨_,_,hr, .inr ⟨rfl,ex _ [] _ h4⟩⟩
   | exit id=>
    obtain ⟨hr,h4⟩:=fin _ (some (.exit id)) W3 hp;exact ⟨_,_,hr, .inr ⟨rfl,ex _ [] _ h4⟩⟩
   | goto t=>
    obtain ⟨hr,h4⟩:=fin _ (some (.goto t)) W3 hp;exact ⟨_,_,hr, .inr ⟨rfl,ex _ [] _ h4⟩⟩
   | panic ch=> exact hp.elim
   | outgrown=> exact hp.elim
 · rintro e W2 ⟨⟨v,rfl⟩,h | ⟨pre,x,rest,hxs,h⟩⟩
   · have h1:=(hbk .ready none (I xs) [] W2).1 (by rwa [List.append_nil])
     have hr:=run_endLoop (P:=P) h1.loop_has (by rw [(hbs _ _).1];simp);rw [(hbs _ _).2] at hr;refine ⟨none,_,hr,hdone D _ ?_⟩;exact (h1.loop _).drop.perm (by classical refine List.perm_iff_count.2 λ a=> ?_;simp only [List.count_append,List.count_cons,List.count_nil];omega)
   · obtain ⟨fp,⟨f,g',⟨c,hc⟩,hg',hd,rfl⟩,ht⟩:=h
     have h0':St w0 fp0 (Ix c (pre++[x])++Bk .done (some c)) W2:=by rw [show g'=[] from hg',List.append_nil] at ht;exact ⟨f,hc,ht⟩
     have h1:=(hbk .done (some c) (Ix c (pre++[x])) [] W2).1 (by rwa [List.append_nil]);have hr:=run_endLoop (P:=P) h1.loop_has (by rw [(hbs _ _).1];simp);rw [(hbs _ _).2] at hr;refine ⟨some c,_,hr,wpIn_wide.2 (hstop D c pre x rest _ hxs ?_)⟩;exact (h1.loop _).drop.perm (by classical refine List.perm_iff_count.2 λ a=> ?_;simp only [List.count_append,List.count_cons,List.count_nil];omega)
theorem wpListIn_append_run {F:Fence} {n:Nat} {w w':World} {ops:Array Oper} {rest:List Oper} {o:Oper} {a:Act} {Q:Exit->Act->World->Prop} (hg:o.guard=none) (s x:Operand) (t:TypeId)
 (hop:o.op=Op.call { callee:=Callee.builtin Builtin.append,args:=#[s,x],argTypes:=#[t,t] }) {v v2 v':Value} (hs:a.eval s=v) (hx:a.eval x=v2) (hr:(Builtin.append_ #[t,t] o.type #[v,v2]).run P w=.ok v' w')
 (hK:wpListIn F n P ops Q rest (a.put o.dst v') w'):wpListIn F n P ops Q (o::rest) a w:=by
 refine wpListIn_plain hg λ K hK'=> ?_;unfold Oper.wpIn;refine ⟨?_,?_⟩
 · simp [Oper.about,hop,resolve,Target.leads,Sem.run_pure]
 · rw [Oper.semAt_plain F _ _ (by rw [hop];intro c hc';cases hc')]
   simp [execOp,hop,resolve,invoke,builtin,hs,hx,hr,Result.andThen];exact hK' _ _ hK
theorem wpList_append_run {w w':World} {ops:Array Oper} {rest:List Oper} {o:Oper} {a:Act} {Q:Exit->Act->World->Prop} (hg:o.guard=none) (s x:Operand) (t:TypeId)
 (hop:o.op=Op.call { callee:=Callee.builtin Builtin.append,args:=#[s,x],argTypes:=#[t,t] }) {v v2 v':Value} (hs:a.eval s=v) (hx:a.eval x=v2) (hr:(Builtin.append_ #[t,t] o.type #[v,v2]).run P w=.ok v' w')
 (hK:wpList P ops Q rest (a.put o.dst v') w'):wpList P ops Q (o::rest) a w:=by
 refine wpList_plain hg λ K hK'=> ?_;unfold Oper.wp execOp;simp only [hop,resolve,invoke,builtin,Sem.run_bind,Sem.run_pure,Result.andThen_ok,List.map_toArray,List.map_cons,List.map_nil,hs,hx,hr];exact hK' _ _ hK
theorem calls_of_wp_m {f:FuncId} {fn:Func} {c:Code} {args:Array Value} {w:World} {R:Ending->World->Prop} (hf:P.funcs[f]? =some fn) (hb:fn.body=some c)
 (h:c.wp P (bodyPostM Fence.wide 0 P fn R) { tmps:=args++Array.replicate (fn.ntmps - args.size) undef,defers:=[] } w):Calls P f args w R:=
 callsIn_wide.1 (callsIn_of_wp_marks (n:=0) hf hb trivial (wpIn_wide.2 h))
theorem St.undef {w0 w:World} {fp0:List Nat} {D:Nat} {L:List Asn} (h:St w0 fp0 (defA D::L) w):St w0 fp0 L (w.putObj D (.deferred none)):=by
 obtain ⟨f,⟨h1,rfl⟩,h2⟩:=h.get 0 rfl;have h3:=h2 YtpdlkdoogojboaaGreat.emp (w.putObj D (.deferred none)) [] rfl ⟨rfl,rfl,rfl,by simp,λ k _ hk=> World.putObj_heap_other (by simpa using hk),λ k hk=> by cases hk⟩;exact St.emp.1 h3
theorem bodyPostM_mark {fn:Func} {R:Ending->World->Prop} {a:Act} {w w0:World} {fp0:List Nat} {D:Nat} {L:List Asn} (hS:St w0 fp0 (defA D::L) w) (hd:a.defers=[{ target:=.collected D,args:=#[] }])
 (h:∀w',St w0 fp0 L w'->∃v,(results fn a.tmps).run P w'=.ok v w'/\R (.returned v) w'):bodyPostM Fence.wide 0 P fn R .ret a w:=by
 show LeavesInM _ _ _ _ _ _ a.defers .returning w;rw [hd];obtain ⟨_,hk,_⟩:=hS.has 0 rfl;exact ⟨by simp, .inl ⟨_,_,rfl,run_takeDeferred hk,h _ hS.undef⟩⟩
end
theorem SlX.cases {X:List Nat} {w:World} {size n:Nat} {xs:List Value} {v:Value} (h:SlX X w size n xs v) (h0:0 < size):(∃c,v=.slice none 0 c/\n=0/\xs=[])\/∃ad c,v=.slice (some ad) n c:=by
 obtain ⟨h2,h3,a,c,rfl,h4⟩:=h;cases a with
 | some ad=> exact .inr ⟨ad,c,rfl⟩
 | none=>
  have hn:n=0:=by
   apply Classical.byContradiction;intro hne;have hp:0 < xs.length:=by rw [h3];exact Nat.mul_pos (by omega) h0
   obtain ⟨b,o,e1,_⟩:=h4 0 hp;cases e1
  subst hn;exact .inl ⟨c,rfl,rfl,List.eq_nil_of_length_eq_zero (by rw [h3,Nat.zero_mul])⟩
theorem appI:AppSrc Tryz.prog 90 90 3 1:=appSrc (z:=.int .i64 0) (bytes:=8) (by kernel_rfl) (by kernel_rfl) rfl (by decide) (by decide)
theorem cloneI (xs:List Value) (n:Nat) (v:Value) (w:World) (hs:SlX [] w 1 n xs v) (h1:∀u∈xs,u.oneCell'=true) (hlen:n < 1099511627776):
 Calls Tryz.prog 110 #[v] w λ e w'=> ∃v' f',e=.returned v'/\(rowA 3 1 v' n xs).p w' f'/\Below w.heap.size w w'/\∀k∈f',w.heap.size<=k:=by
 rcases hs.cases (by decide) with ⟨c,rfl,rfl,rfl⟩ | ⟨ad,c,rfl⟩
 · have hnil:=λ w'=> Lib.run_eql_slice_nil (P:=Tryz.prog) w' 90 3 none 0 c 0 0 Tryz.underlying90
   simp only [Option.isNone_none] at hnil;clear hs hlen h1;go_enter Tryz.func110,Tryz.ntmps110;go_wp2;go_ret;exact ⟨_,[],rfl,row_nil _ _ _,Below.refl _ _,by simp⟩
 · have hb0:Below w.heap.size w (w.alloc (.cells #[] 3)):=(Below.refl _ _).alloc (Nat.le_refl _) _
   have hrow:(rowA 3 1 (.slice (some ⟨w.heap.size,0,none⟩) 0 0) 0 []).p (w.alloc (.cells #[] 3)) [w.heap.size]:=by have h:=World.ownsRow_lit (base:=0) (e:=3) (size:=1) w #[] 0 (Nat.zero_le _) (by simp) (by simp);exact ⟨h,rfl⟩
   obtain ⟨v',w',f',hr,h2,h3⟩:=appI 90 _ _ 0 [] _ _ _ _ hrow ((hs.mono hb0).src (tx:=90) (e':=3) (by kernel_rfl) (by decide) h1) (by omega);rw [Nat.zero_add,List.nil_append] at h2;have hb:Below w.heap.size w w':=hb0.trans (h3.below (by simp) (by simp));have HO:Hid ((rowA 3 1 v' n xs).p w' f'/\Below w.heap.size w w'/\∀k∈f',w.heap.size<=k):=by
    refine ⟨h2,hb,λ k hk=> ?_⟩;rcases h3.new k hk with h | h
    · rw [List.mem_singleton.1 h];exact Nat.le_refl _
    · have:=hb0.size;omega
   have hnil:=λ w'=> Lib.run_eql_slice_nil (P:=Tryz.prog) w' 90 3 (some ad) n c 0 0 Tryz.underlying90;simp only [Option.isNone_some] at hnil;have HR:=Lib.hid hr;clear hs hrow h2 h3 hb hb0 hr;go_enter Tryz.func110,Tryz.ntmps110;go_wp2_with (at_builtin;refine wpList_append_run rfl _ _ _ rfl rfl rfl HR.out ?_);go_ret;exact ⟨_,_,rfl,HO.out⟩
theorem appW:AppSrc Tryz.prog 33 33 68 3:=appSrc (z:=.agg #[.int .i64 0, .int .i64 0, .string ⟨#[]⟩]) (bytes:=32) (by kernel_rfl) (by kernel_rfl) rfl (by decide) (by decide)
theorem cloneW (xs:List Value) (n:Nat) (v:Value) (w:World) (hs:SlX [] w 3 n xs v) (h1:∀u∈xs,u.oneCell'=true) (hlen:n < 1099511627776):
 Calls Tryz.prog 71 #[v] w λ e w'=> ∃v' f',e=.returned v'/\(rowA 68 3 v' n xs).p w' f'/\Below w.heap.size w w'/\∀k∈f',w.heap.size<=k:=by
 rcases hs.cases (by decide) with ⟨c,rfl,rfl,rfl⟩ | ⟨ad,c,rfl⟩
 · have hnil:=λ w'=> Lib.run_eql_slice_nil (P:=Tryz.prog) w' 33 68 none 0 c 0 0 Tryz.underlying33
   simp only [Option.isNone_none] at hnil;clear hs hlen h1;go_enter Tryz.func71,Tryz.ntmps71;go_wp2;go_ret;exact ⟨_,[],rfl,row_nil _ _ _,Below.refl _ _,by simp⟩
 · have hb0:Below w.heap.size w (w.alloc (.cells #[] 68)):=(Below.refl _ _).alloc (Nat.le_refl _) _
   have hrow:(rowA 68 3 (.slice (some ⟨w.heap.size,0,none⟩) 0 0) 0 []).p (w.alloc (.cells #[] 68)) [w.heap.size]:=by have h:=World.ownsRow_lit (base:=0) (e:=68) (size:=3) w #[] 0 (Nat.zero_le _) (by simp) (by simp);exact ⟨h,rfl⟩
   obtain ⟨v',w',f',hr,h2,h3⟩:=appW 33 _ _ 0 [] _ _ _ _ hrow ((hs.mono hb0).src (tx:=33) (e':=68) (by kernel_rfl) (by decide) h1) (by omega);rw [Nat.zero_add,List.nil_append] at h2;have hb:Below w.heap.size w w':=hb0.trans (h3.below (by simp) (by simp));have HO:Hid ((rowA 68 3 v' n xs).p w' f'/\Below w.heap.size w w'/\∀k∈f',w.heap.size<=k):=by
    refine ⟨h2,hb,λ k hk=> ?_⟩;rcases h3.new k hk with h | h
    · rw [List.mem_singleton.1 h];exact Nat.le_refl _
    · have:=hb0.size;omega
   have hnil:=λ w'=> Lib.run_eql_slice_nil (P:=Tryz.prog) w' 33 68 (some ad) n c 0 0 Tryz.underlying33;simp only [Option.isNone_some] at hnil;have HR:=Lib.hid hr;clear hs hrow h2 h3 hb hb0 hr;go_enter Tryz.func71,Tryz.ntmps71;go_wp2_with (at_builtin;refine wpList_append_run rfl _ _ _ rfl rfl rfl HR.out ?_);go_ret;exact ⟨_,_,rfl,HO.out⟩
theorem Next_calls {S cols:Nat} {I:List (List Int)} {L:LL} {next:Int} {w:World} {f:List Nat} (h:(storeA S cols I L next).p w f):
 Calls Tryz.prog 41 #[ptrV S] w λ e w'=> e=.returned (.int .i64 next)/\w=w':=by
 obtain ⟨s,hs⟩:=h;obtain ⟨_,⟨hok, -⟩, -⟩:=Star.get 0 rfl (show Star w (pureA (s.Ok cols I L next)::stoL S s) f from hs);obtain ⟨_,hb, -⟩:=Star.get 1 rfl (show Star w (pureA (s.Ok cols I L next)::stoL S s) f from hs);have c2:=(blk_get hb).1 2;have hl:=(blk_get hb).2.2;simp only [List.getElem?_toArray,List.getElem?_cons_zero,List.getElem?_cons_succ] at c2;rw [hok.enext] at c2;clear hs hok hb;unfold ptrV;go_enter Tryz.func41,Tryz.ntmps41;go_wp2;go_ret;exact ⟨rfl,rfl⟩
theorem SLen_calls {S cols:Nat} {I:List (List Int)} {L:LL} {next:Int} {w:World} {f:List Nat} (h:(storeA S cols I L next).p w f):
 Calls Tryz.prog 53 #[ptrV S] w λ e w'=> e=.returned (.int .i64 L.length)/\w=w':=by
 obtain ⟨s,hs⟩:=h;have hs':Star w (pureA (s.Ok cols I L next)::stoL S s) f:=hs;obtain ⟨_,⟨hok, -⟩, -⟩:=Star.get 0 rfl hs';obtain ⟨_,hb, -⟩:=Star.get 1 rfl hs';obtain ⟨_,ho, -⟩:=Star.get 2 rfl hs';have HC:=Lib.hid (Len_calls s.tb w ho);have hl:(reM s.es).length=L.length:=by rw [<-hok.rows];simp [reM,reL]
 rw [hl] at HC;have c1:=(blk_get hb).1 1;have hbl:=(blk_get hb).2.2;simp only [List.getElem?_toArray,List.getElem?_cons_zero,List.getElem?_cons_succ] at c1;clear hs hok hb hs' ho hl;unfold ptrV at *;go_enter Tryz.func53,Tryz.ntmps53;go_wp2_with fail;(with_reducible refine HC.out.mono ?_);rintro e w1 ⟨rfl,rfl⟩;clear HC;go_wp2;go_ret;exact ⟨rfl,rfl⟩
theorem find_reL (es:List Re) (k:Int):getL (reL es) k=(es.find? λ e=> e.id==k).map (·.r):=by
 induction es with
 | nil=> rfl
 | cons x es ih=>
  unfold getL at ih ⊢;rw [reL_cons,List.find?_cons,List.find?_cons];cases h:(x.id==k)
  · exact ih
  · rfl
theorem re_at {w:World} {f:List Nat} {S cols:Nat} {I:List (List Int)} {L:LL} {next:Int} {s:Sto} (hok:s.Ok cols I L next) (h:Star w (stoL S s) f) {e:Re} (he:e∈s.es):ValsAt w e.r (encV e.va):=by
 obtain ⟨i,hi,rfl⟩:=List.mem_iff_getElem.1 he;obtain ⟨g,hg, -⟩:=Star.get (i+3) (A:=reA s.es[i]) (by show (blkA _ _ _::_::_::(s.es.map reA++s.ixs.map ixA))[i+3]? =_;simp only [List.getElem?_cons_succ];rw [List.getElem?_append_left (by simpa using hi),List.getElem?_map,List.getElem?_eq_getElem hi];rfl) h;refine ⟨SlX.of_row hg (by rw [length_flat]) (by simp),λ x hx=> ?_⟩;have hm:(s.es[i].id,s.es[i].r)∈L:=by rw [<-hok.rows];exact List.mem_map.2 ⟨_,List.getElem_mem hi,rfl⟩
 obtain ⟨-, -, -,h2⟩:=hok.row _ hm;obtain ⟨h3, -⟩:=h2 x hx;rcases okV_cases h3 with ⟨-, -,h⟩ | ⟨-,h⟩ | ⟨-, -, -,h⟩
 · rw [h];exact Nat.zero_le _
 · rw [h];exact Nat.zero_le _
 · unfold maxLen;omega
theorem St.star_of {w0 w:World} {fp0:List Nat} {L R:List Asn} (h:St w0 fp0 (L++R) w):∃f,Star w L f:=by
 obtain ⟨fp,hs, -⟩:=h;obtain ⟨f,g,h1, -⟩:=Star.append hs;exact ⟨f,h1⟩
theorem encV_sl (e:Va) (h:∃a n c,encV e=.slice a n c):∃a n c,e=.sl a n c:=by
 cases e with
 | int n=> obtain ⟨a,n,c,h⟩:=h;cases h
 | sl a n c=> exact ⟨a,n,c,rfl⟩
theorem SGet_calls (S cols:Nat) (I:List (List Int)) (L:LL) (next id:Int) (w0 w:World) (fp0:List Nat) (R:List Asn) (hc:cols<=1000000) (hS:St w0 fp0 (storeA S cols I L next::R) w):
 Calls Tryz.prog 54 #[ptrV S, .int .i64 id] w λ e w'=> ∃v,e=.returned (.tuple #[v, .bool (getL L id).isSome])/\St w0 fp0 (rowA 68 3 v ((getL L id).getD []).length (flat ((getL L id).getD []))::storeA S cols I L next::R) w':=by
 obtain ⟨s,hok,hs⟩:=hS.openS;obtain ⟨_,hb⟩:=hs.has 0 rfl;have c1:=(blk_get hb).1 1;have hbl:=(blk_get hb).2.2;simp only [List.getElem?_toArray,List.getElem?_cons_zero,List.getElem?_cons_succ] at c1;have hG:=Get_calls (o:=16) (by omega) s.h (reM s.es) s.tb (.int id) trivial (okR s.es) w0 w fp0 _ (show St w0 fp0 (objA false 16 s.h (reM s.es) s.tb::blkA S 113 #[.int .i64 s.cols,ptrV s.tb, .int .i64 s.next,s.iv]::rowA 152 2 s.iv s.ixs.length (ixV s.ixs)::(s.es.map reA++s.ixs.map ixA)++R) w from hs.perm (List.Perm.swap _ _ _));rw [getM_reM] at hG;have hL:getL L id=(s.es.find? λ e=> e.id==id).map (·.r):=by rw [<-hok.rows,find_reL]
 rw [hL];obtain ⟨o,ho⟩:∃o,s.es.find? (λ e=> e.id==id)=o:=⟨_,rfl⟩
 rw [ho] at hG ⊢;simp only [Option.isSome_map] at hG ⊢;have HM:Hid (∀e,o=some e->e∈s.es/\(e.id,e.r)∈L):=λ e he=> by have h1:=List.mem_of_find?_eq_some (ho.trans he);exact ⟨h1,by rw [<-hok.rows];exact List.mem_map.2 ⟨_,h1,rfl⟩⟩
 have HG:=Lib.hid hG;have HOK:=Lib.hid hok;clear hS hs hb hG hok ho hL;obtain ⟨vv,hvv⟩:∃vv,encV ((o.map (·.va)).getD (va0 false))=vv:=⟨_,rfl⟩
 have HVV:=Lib.hid hvv;dsimp only [fGet,encK] at HG;rw [hvv] at HG;clear hvv;obtain ⟨rr,hrr⟩:∃rr,(o.map (·.r)).getD []=rr:=⟨_,rfl⟩
 have HRR:=Lib.hid hrr;rw [hrr];clear hrr;obtain ⟨q,hq⟩:∃q,o.isSome=q:=⟨_,rfl⟩
 rw [hq] at HG ⊢;clear hq;unfold ptrV at *;go_enter Tryz.func54,Tryz.ntmps54;go_wp2_with fail;(with_reducible refine HG.out.mono ?_);rintro e w1 ⟨rfl,h1⟩;have h2:St w0 fp0 (stoL S s++R) w1:=h1.perm (List.Perm.swap _ _ _);have hv:ValsAt w1 rr vv:=by
  obtain ⟨f,hf⟩:=h2.star_of;cases o with
  | none=>
   have e1:vv=.slice none 0 0:=HVV.out.symm;have e2:rr=[]:=HRR.out.symm;rw [e1,e2];exact ValsX.nil _ _ _ _
  | some e=>
   have e1:vv=encV e.va:=HVV.out.symm;have e2:rr=e.r:=HRR.out.symm;rw [e1,e2];exact re_at HOK.out hf (HM.out e rfl).1
 have hlen:rr.length<=1000000:=by
  cases o with
  | none=> rw [show rr=[] from HRR.out.symm];simp
  | some e=>
   rw [show rr=e.r from HRR.out.symm,(HOK.out.row _ (HM.out e rfl).2).2.2.1];exact hc
 have HC:=Lib.hid (cloneW (flat rr) rr.length vv w1 hv.1 (one_flat _) (by omega));have H2:=Lib.hid h2;clear h1 h2 hv hlen HG;go_wp2_with fail;(with_reducible refine HC.out.mono ?_);rintro e w2 ⟨v',f',rfl,h3,h4,h5⟩;have H3:Hid (St w0 fp0 (rowA 68 3 v' rr.length (flat rr)::storeA S cols I L next::R) w2):=by have h6:=St.shutS HOK.out (H2.out.mono h4);have h7:St w0 fp0 ((stoL S s++R)++[rowA 68 3 v' rr.length (flat rr)]) w2:=H2.out.add h4 h3 h5;have h8:St w0 fp0 (stoL S s++(rowA 68 3 v' rr.length (flat rr)::R)) w2:=h7.perm (by rw [List.append_assoc];exact List.Perm.append_left _ List.perm_append_comm);exact (St.shutS HOK.out h8).perm (List.Perm.swap _ _ _)
 clear h3 h4 h5 HC H2;go_wp2;refine bodyPost_ret (v:=.tuple #[v', .bool q]) (by simp [results,Tryz.results54,go_sem]) rfl ?_;exact ⟨_,rfl,H3.out⟩
def gSd7 (vb kb:Nat) (cv rv:Value) (kk:ByteArray) (id:Int) (O O2:Asn):=rgx Tryz.prog Tryz.f51 7 42 [30,31,32,33,34,35,36,37,38,39] [(1, .int .i64 id),(6,rv),(9,pV vb 0)] (Vq 0 30 [Kp vb 1,Kp kb 0,Kv rv,Kp vb 0,Kv cv,Kv (.string kk),Kv (.int .i64 id),Kv (.string (textOf (numL id))),Kv (.string (kk++textOf (numL id)))]) [.gen [9] [] λ L _g=> match L 9 with | true=> O2 | false=> O,Bk vb (152) [cv,pV kb 0]]
theorem rSd7 (vb kb:Nat) (cv rv:Value) (kk:ByteArray) (id:Int) (O O2:Asn) (w0:World) (fp0:List Nat) (R:List Asn) (hkey:∀(L:List Asn) (w:World),St w0 fp0 (L++R) w->Calls Tryz.prog 85 #[rv,cv] w λ e w2=> e=.returned (.string kk)/\Below w.heap.size w w2) (hn:I64 id) (hl:kk.size < 1000000000000) (hdel:∀(L:List Asn) (w:World),St w0 fp0 (O::L) w->Calls Tryz.prog 84 #[.pointer (some ⟨kb,0,none⟩), .string (kk++textOf (numL id))] w λ e w2=> (∃v,e=.returned v)/\St w0 fp0 (O2::L) w2) {w:World} {c:Code} {a:Act} {Q:Exit->Act->World->Prop} (c1:isReg c=true) (c2:cops c=opsR Tryz.f51 7) (c3:a.tmps.size=42) (_c4:a.defers=a.defers) (i1:a.eval (.tmp 1)=.int .i64 id) (i6:a.eval (.tmp 6)=rv) (i9:a.eval (.tmp 9)=.pointer (some ⟨vb,0,none⟩))
 (hS:St w0 fp0 ([O,blkA vb (152) #[cv, .pointer (some ⟨kb,0,none⟩)]]++R) w)
 (hQ:∀(u39:Value) (w1:World),St w0 fp0 ([O2,blkA vb (152) #[cv, .pointer (some ⟨kb,0,none⟩)]]++R) w1->Q .normal (putL a [(30, .pointer (some ⟨vb,1,none⟩)),(31, .pointer (some ⟨kb,0,none⟩)),(32,rv),(33, .pointer (some ⟨vb,0,none⟩)),(34,cv),(35, .string kk),(36, .int .i64 id),(37, .string (textOf (numL id))),(38, .string (kk++textOf (numL id))),(39,u39)]) w1):c.wp Tryz.prog Q a w:=by
 have ok:(gSd7 vb kb cv rv kk id O O2 w0 fp0 R).Ok 10:=Rg.ok _ 10 [1,4,5,7,8,9] ⟨.load _ 1 1 1, .load _ 4 1 0, .callG _ 5 (λ _=> [O,blkA vb 152 #[cv, .pointer (some ⟨kb,0,none⟩)]]) (λ _ _=> [O,blkA vb 152 #[cv, .pointer (some ⟨kb,0,none⟩)]]) (λ g w h=> (hkey _ _ h).mono λ e w2 ⟨e1,hb⟩=> ⟨_,e1,rfl,h.mono hb⟩), .callG _ 7 (λ _=> [O,blkA vb 152 #[cv, .pointer (some ⟨kb,0,none⟩)]]) (λ _ _=> [O,blkA vb 152 #[cv, .pointer (some ⟨kb,0,none⟩)]]) (λ g w h=> (number_calls id hn w).mono λ e w2 ⟨e1,hb⟩=> ⟨_,e1,rfl,h.mono hb⟩), .cat _ 8 kk (textOf (numL id)) (by rw [num_size];omega), .callG _ 9 (λ _=> [O,blkA vb 152 #[cv, .pointer (some ⟨kb,0,none⟩)]]) (λ _ _=> [O2,blkA vb 152 #[cv, .pointer (some ⟨kb,0,none⟩)]]) (λ g w h=> (hdel _ _ h).mono λ e w2 ⟨⟨v,e1⟩,h2⟩=> ⟨v,e1,rfl,h2⟩),trivial⟩;refine wp_regD ok (by kernel_rfl) ⟨c1,c2⟩ ⟨c3,λ p hp=> ?_⟩ hS λ A1 w1 N1 H1=> ?_
 · simp only [gSd7,rgx,List.map_nil,List.append_nil,List.mem_cons,List.not_mem_nil,or_false] at hp
   rcases hp with rfl | rfl | rfl
   · exact i1
   · exact i6
   · exact i9
 exact N1.fin [39] (hQ (slots A1 39) w1 H1) (by kernel_rfl)
def gSp9 (vb kb:Nat) (cv rv:Value) (kk:ByteArray) (id:Int) (O O2:Asn):=rgx Tryz.prog Tryz.f52 9 64 [42,43,44,45,46,47,48,49,50,51,52] [(1, .int .i64 id),(2,rv),(8,pV vb 0)] (Vq 0 42 [Kp vb 1,Kp kb 0,Kv rv,Kp vb 0,Kv cv,Kv (.string kk),Kv (.int .i64 id),Kv (.string (textOf (numL id))),Kv (.string (kk++textOf (numL id))),Kv (.int .i64 id)]) [.gen [10] [] λ L _g=> match L 10 with | true=> O2 | false=> O,Bk vb (152) [cv,pV kb 0]]
theorem rSp9 (vb kb:Nat) (cv rv:Value) (kk:ByteArray) (id:Int) (O O2:Asn) (w0:World) (fp0:List Nat) (R:List Asn) (hkey:∀(L:List Asn) (w:World),St w0 fp0 (L++R) w->Calls Tryz.prog 85 #[rv,cv] w λ e w2=> e=.returned (.string kk)/\Below w.heap.size w w2) (hn:I64 id) (hl:kk.size < 1000000000000) (hdel:∀(L:List Asn) (w:World),St w0 fp0 (O::L) w->Calls Tryz.prog 89 #[.pointer (some ⟨kb,0,none⟩), .string (kk++textOf (numL id)), .int .i64 id] w λ e w2=> (∃v,e=.returned v)/\St w0 fp0 (O2::L) w2) {w:World} {c:Code} {a:Act} {Q:Exit->Act->World->Prop} (c1:isReg c=true) (c2:cops c=opsR Tryz.f52 9) (c3:a.tmps.size=64) (_c4:a.defers=a.defers) (i1:a.eval (.tmp 1)=.int .i64 id) (i2:a.eval (.tmp 2)=rv) (i8:a.eval (.tmp 8)=.pointer (some ⟨vb,0,none⟩))
 (hS:St w0 fp0 ([O,blkA vb (152) #[cv, .pointer (some ⟨kb,0,none⟩)]]++R) w)
 (hQ:∀(u52:Value) (w1:World),St w0 fp0 ([O2,blkA vb (152) #[cv, .pointer (some ⟨kb,0,none⟩)]]++R) w1->Q .normal (putL a [(42, .pointer (some ⟨vb,1,none⟩)),(43, .pointer (some ⟨kb,0,none⟩)),(44,rv),(45, .pointer (some ⟨vb,0,none⟩)),(46,cv),(47, .string kk),(48, .int .i64 id),(49, .string (textOf (numL id))),(50, .string (kk++textOf (numL id))),(51, .int .i64 id),(52,u52)]) w1):c.wp Tryz.prog Q a w:=by
 have ok:(gSp9 vb kb cv rv kk id O O2 w0 fp0 R).Ok 11:=Rg.ok _ 11 [1,4,5,7,8,10] ⟨.load _ 1 1 1, .load _ 4 1 0, .callG _ 5 (λ _=> [O,blkA vb 152 #[cv, .pointer (some ⟨kb,0,none⟩)]]) (λ _ _=> [O,blkA vb 152 #[cv, .pointer (some ⟨kb,0,none⟩)]]) (λ g w h=> (hkey _ _ h).mono λ e w2 ⟨e1,hb⟩=> ⟨_,e1,rfl,h.mono hb⟩), .callG _ 7 (λ _=> [O,blkA vb 152 #[cv, .pointer (some ⟨kb,0,none⟩)]]) (λ _ _=> [O,blkA vb 152 #[cv, .pointer (some ⟨kb,0,none⟩)]]) (λ g w h=> (number_calls id hn w).mono λ e w2 ⟨e1,hb⟩=> ⟨_,e1,rfl,h.mono hb⟩), .cat _ 8 kk (textOf (numL id)) (by rw [num_size];omega), .callG _ 10 (λ _=> [O,blkA vb 152 #[cv, .pointer (some ⟨kb,0,none⟩)]]) (λ _ _=> [O2,blkA vb 152 #[cv, .pointer (some ⟨kb,0,none⟩)]]) (λ g w h=> (hdel _ _ h).mono λ e w2 ⟨⟨v,e1⟩,h2⟩=> ⟨v,e1,rfl,h2⟩),trivial⟩;refine wp_regD ok (by kernel_rfl) ⟨c1,c2⟩ ⟨c3,λ p hp=> ?_⟩ hS λ A1 w1 N1 H1=> ?_
 · simp only [gSp9,rgx,List.map_nil,List.append_nil,List.mem_cons,List.not_mem_nil,or_false] at hp
   rcases hp with rfl | rfl | rfl
   · exact i1
   · exact i2
   · exact i8
 exact N1.fin [52] (hQ (slots A1 52) w1 H1) (by kernel_rfl)
theorem St.exI {α:Type} {w0 w:World} {fp0:List Nat} {L:List Asn} {F:α->Asn} (a:α) (h:St w0 fp0 (F a::L) w):St w0 fp0 (exA F::L) w:=
 St.fold (L1:=[F a]) h λ f hf=> ⟨a,by obtain ⟨f1,g1,h1,h2,_,rfl⟩:=hf;rw [show g1=[] from h2,List.append_nil];exact h1⟩
theorem St.exE {α:Type} {w0 w:World} {fp0:List Nat} {L:List Asn} {F:α->Asn} (h:St w0 fp0 (exA F::L) w):∃a,St w0 fp0 (F a::L) w:=by
 obtain ⟨a,ha⟩:=h.unfold (L1:=λ a=> [F a]) λ f ⟨a,ha⟩=> ⟨a,f,[],ha,rfl,by simp,by simp⟩
 exact ⟨a,ha⟩
theorem obj_asc {β:Bool} {w0 w:World} {fp0:List Nat} {R:List Asn} {o h tb:Nat} {l:MM} (hs:St w0 fp0 (objA β o h l tb::R) w):AscM l:=by
 obtain ⟨x,rb,⟨_,g2,g3⟩,_⟩:=hs.openOT;rw [<-g3];exact g2
structure UpIx (f:List Int->MM->MM) (x y:Ix):Prop where
 cv:y.cv=x.cv
 cs:y.cs=x.cs
 kb:y.kb=x.kb
 km:y.km=f x.cs x.km
inductive UpTo (f:List Int->MM->MM):List Ix->List Ix->Prop
 | nil:UpTo f [] []
 | cons {x y:Ix} {xs ys:List Ix}:UpIx f x y->UpTo f xs ys->UpTo f (x::xs) (y::ys)
theorem upTo_V {f:List Int->MM->MM} {xs ys:List Ix} (h:UpTo f xs ys):ixV ys=ixV xs/\ys.length=xs.length:=by
 induction h with
 | nil=> exact ⟨rfl,rfl⟩
 | cons h1 h2 ih=>
  simp only [ixV,List.flatMap_cons] at ih ⊢;exact ⟨by rw [h1.cv,h1.kb,ih.1],by simp [ih.2]⟩
theorem upTo_cs {f:List Int->MM->MM} {xs ys:List Ix} (h:UpTo f xs ys):ys.map (·.cs)=xs.map (·.cs):=by
 induction h with
 | nil=> rfl
 | cons h1 h2 ih=> rw [List.map_cons,List.map_cons,h1.cs,ih]
theorem upTo_mem {f:List Int->MM->MM} {xs ys:List Ix} (h:UpTo f xs ys) {y:Ix} (hy:y∈ys):∃x∈xs,UpIx f x y:=by
 induction h with
 | nil=> cases hy
 | cons h1 h2 ih=>
  rcases List.mem_cons.1 hy with rfl | hy
  · exact ⟨_,by simp,h1⟩
  · obtain ⟨x,hx,h3⟩:=ih hy
    exact ⟨x,by simp [hx],h3⟩
theorem upTo_snoc {f:List Int->MM->MM} {xs ys:List Ix} (h:UpTo f xs ys) {x y:Ix} (h1:UpIx f x y):UpTo f (xs++[x]) (ys++[y]):=by
 induction h with
 | nil=> exact .cons h1 .nil
 | cons h2 _ ih=> exact .cons h2 ih
def stoH (S:Nat) (s:Sto) (n:Nat) (V:List Value) (ys:List Ix) (rest:List Ix):List Asn:=
 blkA S 113 #[.int .i64 s.cols,ptrV s.tb, .int .i64 s.next,s.iv]::objA false 16 s.h (reM s.es) s.tb::rowA 152 2 s.iv n V::(s.es.map reA++(ys.map ixA++rest.map ixA))
theorem stoH_open {w0 w:World} {fp0:List Nat} {R:List Asn} {S:Nat} {s:Sto} {n:Nat} {V:List Value} {ys rest:List Ix} {x:Ix} (h:St w0 fp0 (stoH S s n V ys (x::rest)++R) w):St w0 fp0 (objA true 16 x.kh x.km x.kb::(slA 3 x.cv (x.cs.map intC)::(stoH S s n V ys rest++R))) w:=by
 have h1:St w0 fp0 (ixA x::(stoH S s n V ys rest++R)) w:=by refine h.perm ?_;unfold stoH;simp only [List.map_cons,List.cons_append,List.append_assoc];refine List.Perm.trans ?_ (List.perm_middle (l₁:=[blkA S 113 #[.int .i64 s.cols,ptrV s.tb, .int .i64 s.next,s.iv],objA false 16 s.h (reM s.es) s.tb,rowA 152 2 s.iv n V]));refine List.Perm.cons _ (List.Perm.cons _ (List.Perm.cons _ ?_));refine List.Perm.trans (List.Perm.append_left _ List.perm_middle) List.perm_middle
 have h2:=St.star.1 h1;exact h2.perm (List.Perm.swap _ _ _)
theorem stoH_shut {w0 w:World} {fp0:List Nat} {R:List Asn} {S:Nat} {s:Sto} {n:Nat} {V:List Value} {ys rest:List Ix} {y:Ix} (h:St w0 fp0 (objA true 16 y.kh y.km y.kb::(slA 3 y.cv (y.cs.map intC)::(stoH S s n V ys rest++R))) w):St w0 fp0 (stoH S s n V (ys++[y]) rest++R) w:=by
 have h1:St w0 fp0 (ixA y::(stoH S s n V ys rest++R)) w:=St.star.2 (h.perm (List.Perm.swap _ _ _));refine h1.perm ?_;unfold stoH;simp only [List.map_append,List.map_cons,List.map_nil,List.cons_append,List.append_assoc,List.nil_append];refine List.Perm.trans (List.perm_middle (l₁:=[blkA S 113 #[.int .i64 s.cols,ptrV s.tb, .int .i64 s.next,s.iv],objA false 16 s.h (reM s.es) s.tb,rowA 152 2 s.iv n V])).symm ?_;refine List.Perm.cons _ (List.Perm.cons _ (List.Perm.cons _ ?_));refine List.Perm.trans List.perm_middle.symm (List.Perm.append_left _ List.perm_middle.symm)
theorem row_sl {w:World} {t:TypeId} {size n:Nat} {xs:List Value} {v:Value} {f:List Nat} (h:(rowA t size v n xs).p w f) (hl:xs.length=n * size):SlX [] w size n xs v:=SlX.of_row h hl (by simp)
theorem intsX_of {w:World} {l:List Int} {v:Value} {f:List Nat} (h:(slA 3 v (l.map intC)).p w f):IntsX [] w l v:=by
 have:=SlX.of_sl (X:=[]) h (by simp);rw [List.length_map] at this;exact this
theorem St.hasM {w0 w:World} {fp0:List Nat} {L:List Asn} (h:St w0 fp0 L w) {A:Asn} (hA:A∈L):∃f,A.p w f:=by
 obtain ⟨i,hi⟩:=List.getElem?_of_mem hA;exact h.has i hi
def delK (id:Int) (r:Rw) (cs:List Int) (km:MM):MM:=delM km (.str (ixKey id r cs))
theorem RowOk.s {cols:Nat} {r:Rw} (h:RowOk cols r):RowS r:=λ v hv=> by
 obtain ⟨h1,h2⟩:=h.2 v hv;refine ⟨h2,?_⟩;rcases okV_cases h1 with ⟨-, -,h⟩ | ⟨-,h⟩ | ⟨-, -, -,h⟩
 · rw [h];exact Nat.zero_le _
 · rw [h];exact Nat.zero_le _
 · omega
theorem Sto.Ok.i64 {s:Sto} {cols:Nat} {I:List (List Int)} {L:LL} {next:Int} (h:s.Ok cols I L next):∀x∈L,I64 x.1:=AscI.i64 h.nx.2 λ x hx=> ⟨(h.row x hx).1,(h.row x hx).2.1⟩
theorem Sto.Ok.del {s:Sto} {cols:Nat} {I:List (List Int)} {L:LL} {next:Int} (h:s.Ok cols I L next) {A B:List Re} {e:Re} (he:s.es=A++e::B) (hA:∀a∈A,a.id < e.id) (hB:∀b∈B,e.id < b.id) {ys:List Ix} (hu:UpTo (delK e.id e.r) s.ixs ys) (hy:∀y∈ys,AscM y.km) (h':Nat):
 ({ s with h:=h',es:=A++B,ixs:=ys }:Sto).Ok cols I (delL e.id L) next:=by
 have hL:L=reL A++(e.id,e.r)::reL B:=by rw [<-h.rows,he,reL_append,reL_cons]
 have hm:(e.id,e.r)∈L:=by rw [hL];simp
 refine ⟨(upTo_cs hu).trans h.eixs,h.ecols,h.enext,?_,asc_delL h.asc _,h.nx,λ x hx=> h.row x (mem_delL.1 hx).1,λ y hy'=> ?_⟩
 · rw [hL,delL_split1 (reL_lt hA) (reL_gt hB) rfl]
   exact reL_append A B
 · obtain ⟨x,hx,h1⟩:=upTo_mem hu hy'
   obtain ⟨p1,p2,p3,p4,p5⟩:=h.ixs x hx;refine ⟨by rw [h1.cs];exact p1,by rw [h1.cs];exact p2,by rw [h1.cs];exact p3,?_,hy y hy'⟩;rw [h1.cs,h1.km];exact p4.del h.asc p5 h.i64 hm
theorem SDelete_calls (S cols:Nat) (I:List (List Int)) (L:LL) (next id:Int) (hid:I64 id) (_hc:cols<=1000000) (hlen:L.length < 1099511627775) (w0 w:World) (fp0:List Nat) (R:List Asn) (hS:St w0 fp0 (storeA S cols I L next::R) w):
 Calls Tryz.prog 51 #[ptrV S, .int .i64 id] w λ e w'=> ∃v,e=.returned (.tuple #[v, .bool (getL L id).isSome])/\St w0 fp0 (rowA 68 3 v ((getL L id).getD []).length (flat ((getL L id).getD []))::storeA S cols I (delL id L) next::R) w':=by
 obtain ⟨s,hok,hs⟩:=hS.openS;obtain ⟨_,hb⟩:=hs.has 0 rfl;have c1:=(blk_get hb).1 1;have hbl:=(blk_get hb).2.2;simp only [List.getElem?_toArray,List.getElem?_cons_zero,List.getElem?_cons_succ] at c1;have hes:(reM s.es).length=L.length:=by rw [<-hok.rows];simp [reM,reL]
 have hD:=Delete_calls (β:=false) (o:=16) (by omega) (by omega) s.h (reM s.es) s.tb (.int id) trivial (okR s.es) w0 w fp0 _ (by omega) (show St w0 fp0 (objA false 16 s.h (reM s.es) s.tb::blkA S 113 #[.int .i64 s.cols,ptrV s.tb, .int .i64 s.next,s.iv]::rowA 152 2 s.iv s.ixs.length (ixV s.ixs)::(s.es.map reA++s.ixs.map ixA)++R) w from hs.perm (List.Perm.swap _ _ _));have hasc:=reL_asc (es:=s.es) (by rw [hok.rows];exact hok.asc);rcases split_id (λ e:Re=> e.id) s.es hasc id with ⟨A,e,B,he,rfl,hA,hB⟩ | ⟨A,B,he,hA,hB⟩
 · have hL:L=reL A++(e.id,e.r)::reL B:=by rw [<-hok.rows,he,reL_append,reL_cons]
   have hg:getL L e.id=some e.r:=by rw [hL,getL_split1 (reL_lt hA) rfl]
   have hm:(e.id,e.r)∈L:=by rw [hL];simp
   have hgM:getM (reM s.es) (.int e.id)=some e.va:=by rw [he,reM_append,reM_cons];exact getM_here (reM_lt hA) rfl
   have hdM:delM (reM s.es) (.int e.id)=reM (A++B):=by rw [he,reM_append,reM_cons,delM_here (reM_lt hA) rfl,<-reM_append]
   rw [hgM,hdM] at hD;rw [hg];dsimp only [Option.getD_some,Option.isSome_some,fDelete,encK] at hD ⊢;have hro:=hok.row _ hm;have HKEY:Hid (∀(x:Ix),x∈s.ixs->∀(w:World),ValsAt w e.r (encV e.va)->IntsX [] w x.cs x.cv->Calls Tryz.prog 85 #[encV e.va,x.cv] w λ e' w'=> e'=.returned (.string (textOf (keyL e.r x.cs)))/\Below w.heap.size w w'):=
    λ x hx w h1 h2=> key_calls e.r x.cs _ _ hro.2.2.s (by have:=(hok.ixs x hx).2.1;omega) w h1 h2
   have HDEL:Hid (∀(x:Ix),x∈s.ixs->∀(L':List Asn) (w:World),St w0 fp0 (objA true 16 x.kh x.km x.kb::L') w->Calls Tryz.prog 84 #[.pointer (some ⟨x.kb,0,none⟩), .string (textOf (keyL e.r x.cs)++textOf (numL e.id))] w λ e' w2=> (∃v,e'=.returned v)/\St w0 fp0 (exA (λ h'=> objA true 16 h' (delK e.id e.r x.cs x.km) x.kb)::L') w2):=by intro x hx L' w h;have hk:=(hok.ixs x hx).2.2.2.1;have h1:=Delete_calls (β:=true) (o:=16) (by omega) (by omega) x.kh x.km x.kb (.str (ixKey e.id e.r x.cs)) trivial (okK hk) w0 w fp0 L' (by rw [hk.len];omega) h;rw [textOf_append];exact h1.mono λ e' w2 ⟨h2,h',h3⟩=> ⟨⟨_,h2⟩,h3.exI h'⟩
   have HKL:Hid (∀x∈s.ixs,(textOf (keyL e.r x.cs)).size < 1000000000000):=λ x hx=> by rw [text_size];have h1:(keyL e.r x.cs).length<=x.cs.length * 2097161:=keyL_len hro.2.2.s x.cs;have h2:=(hok.ixs x hx).2.1;have:x.cs.length * 2097161<=1000 * 2097161:=Nat.mul_le_mul_right _ h2;omega
   have HVAL:Hid (∀(w:World) (f:List Nat),(reA e).p w f->ValsAt w e.r (encV e.va)):=λ w f hf=> ⟨row_sl hf (length_flat _),λ v hv=> by have:=(hro.2.2.s v hv).2;unfold maxLen;omega⟩
   have HFIN:Hid (∀ys h' w',UpTo (delK e.id e.r) s.ixs ys->St w0 fp0 (stoH S { s with h:=h',es:=A++B } s.ixs.length (ixV s.ixs) ys []++(reA e::R)) w'->St w0 fp0 (rowA 68 3 (encV e.va) e.r.length (flat e.r)::storeA S cols I (delL e.id L) next::R) w'):=by
    intro ys h' w' hu h;have hv:=upTo_V hu;have h2:St w0 fp0 (stoL S { s with h:=h',es:=A++B,ixs:=ys }++(reA e::R)) w':=by unfold stoL;rw [hv.1,hv.2];simp only [stoH,List.map_nil,List.append_nil] at h;exact h
    refine (St.shutS (hok.del he hA hB hu (λ y hy=> ?_) h') h2).perm (List.Perm.swap _ _ _);obtain ⟨A2,B2,rfl⟩:=List.append_of_mem hy;have h3:St w0 fp0 (ixA y::(blkA S 113 #[.int .i64 s.cols,ptrV s.tb, .int .i64 s.next,s.iv]::objA false 16 h' (reM (A++B)) s.tb::rowA 152 2 s.iv (A2++y::B2).length (ixV (A2++y::B2))::((A++B).map reA++(A2.map ixA++(B2.map ixA++(reA e::R)))))) w':=by
     refine h2.perm ?_
     classical exact List.perm_iff_count.2 λ a=> by simp only [stoL,List.map_append,List.map_cons,List.cons_append,List.count_append,List.count_cons];omega
    have h4:=(St.star.1 h3).perm (List.Perm.swap _ _ _);exact obj_asc h4
   have HH0:Hid (∀h' w',St w0 fp0 (objA false 16 h' (reM (A++B)) s.tb::blkA S 113 #[.int .i64 s.cols,ptrV s.tb, .int .i64 s.next,s.iv]::rowA 152 2 s.iv s.ixs.length (ixV s.ixs)::(s.es.map reA++s.ixs.map ixA)++R) w'->St w0 fp0 (stoH S { s with h:=h',es:=A++B } s.ixs.length (ixV s.ixs) [] (s.ixs.drop 0)++(reA e::R)) w'):=by
    intro h' w' h;refine h.perm ?_;rw [he]
    classical exact List.perm_iff_count.2 λ a=> by simp only [stoH,List.map_append,List.map_cons,List.map_nil,List.cons_append,List.count_append,List.count_cons,List.count_nil,List.drop_zero];omega
   have hix:∀x∈s.ixs,x∈s.ixs:=λ x hx=> hx;obtain ⟨sc,snx,sh,stb,siv,ses,sixs⟩:=s;obtain ⟨eid,eva,er⟩:=e;simp only at *;obtain ⟨RE,hRE⟩:∃RE,reA ⟨eid,eva,er⟩=RE:=⟨_,rfl⟩
   rw [hRE] at HVAL HFIN HH0;clear hRE;obtain ⟨rv,hrv⟩:∃rv,encV eva=rv:=⟨_,rfl⟩
   rw [hrv] at HVAL HFIN HKEY hD;clear hrv;have HD:=Lib.hid hD;obtain ⟨n,hn⟩:∃n,sixs.length=n:=⟨_,rfl⟩
   have HN:=Lib.hid hn;rw [hn] at HFIN HH0;obtain ⟨V,hV⟩:∃V,ixV sixs=V:=⟨_,rfl⟩
   have HV:=Lib.hid hV;rw [hV] at HFIN HH0;have HID:=Lib.hid hid;clear hS hs hb hD hok hL hg hm hgM hdM hro hasc he hA hB hn hV _hc hlen hes hix hid;unfold ptrV at *;go_enter Tryz.func51,Tryz.ntmps51;go_wp2_with fail;(with_reducible refine HD.out.mono ?_);rintro e w1 ⟨rfl,h',h1⟩;have H1:Hid (∃ys,UpTo (delK eid er) (sixs.take 0) ys/\St w0 fp0 (stoH S ⟨sc,snx,h',stb,siv,A++B,sixs⟩ n V ys (sixs.drop 0)++(RE::R)) w1):=by
    refine ⟨[],?_,HH0.out _ _ ?_⟩
    · rw [List.take_zero];exact .nil
    · rw [HN.out,HV.out] at h1
      exact h1
   obtain ⟨_,hb⟩:=h1.has 1 rfl;have c3:=(blk_get hb).1 3;have hbl:=(blk_get hb).2.2;simp only [List.getElem?_toArray,List.getElem?_cons_zero,List.getElem?_cons_succ] at c3;obtain ⟨_,hr⟩:=h1.has 2 rfl;obtain ⟨ia,ic,rfl,hic,hicm, -⟩:=row_shape hr;rw [HN.out] at hic c3 H1 HFIN;have hn63:n<=9223372036854775807:=by unfold maxLen at hicm;omega
   clear h1 hb hr c1 hic hicm;go_wp2;go_loopg [26] n (λ g z wr=> ∃k:Nat,z=.int .i64 k/\g+k=n/\Hid (∃ys,UpTo (delK eid er) (sixs.take k) ys/\St w0 fp0 (stoH S ⟨sc,snx,h',stb, .slice ia n ic,A++B,sixs⟩ n V ys (sixs.drop k)++(RE::R)) wr))
   case atStart=> exact ⟨0,rfl,by omega,H1⟩
   case round=>
    clear H1;obtain ⟨k,rfl,hgk,Hs⟩:=hrel;by_cases hk:k < n
    · obtain ⟨ys,hu,hst⟩:=Hs.out
      have hkl:k < sixs.length:=by rw [HN.out];exact hk
      have hdr:sixs.drop k=sixs[k]::sixs.drop (k+1):=List.drop_eq_getElem_cons hkl;have htk:sixs.take (k+1)=sixs.take k++[sixs[k]]:=by rw [List.take_add_one,List.getElem?_eq_getElem hkl];rfl
      rw [hdr] at hst;have hop:=stoH_open hst;obtain ⟨_,hr⟩:=hop.has 4 rfl;have hrow:=row_sl hr (by rw [<-HV.out,ixV_len,HN.out]);rw [<-HV.out,<-HN.out] at hrow;obtain ⟨ib,io,ic',e4,q1,q2⟩:=ix_cells hrow k hkl;obtain ⟨rfl, -,rfl⟩:=Value.slice.inj e4;have HKEY2:=Lib.hid (HKEY.out sixs[k] (List.getElem_mem hkl));have HDEL2:=Lib.hid (HDEL.out sixs[k] (List.getElem_mem hkl));have HKL2:=Lib.hid (HKL.out sixs[k] (List.getElem_mem hkl));generalize sixs[k]=x at *;obtain ⟨xcv,xcs,xkb,xkh,xkm⟩:=x;obtain ⟨_,hsl⟩:=hop.has 1 rfl;obtain ⟨xa,xn,xc,hxv⟩:=sl_shape hsl;simp only at q1 q2 hsl hxv HKEY2 HDEL2 HKL2 hop;subst hxv;have HOP:=Lib.hid hop;have HU:=Lib.hid hu;have HTK:=Lib.hid htk;have Hgk:=Lib.hid hgk;have hql:=World.block_lt_of_cell? wr _ q1;have hkn:(k:Int) < n:=by omega
      unfold ptrV at q2;clear hu hst hkl hdr htk hop hr hrow e4 hsl hgk Hs;go_upto_region 7 with (fail)
      refine rSd7 (w0:=w0) (fp0:=fp0) wr.heap.size xkb (.slice xa xn xc) rv (textOf (keyL er xcs)) eid (objA true 16 xkh xkm xkb) (exA λ h'=> objA true 16 h' (delK eid er xcs xkm) xkb) (slA 3 (.slice xa xn xc) (xcs.map intC)::(stoH S ⟨sc,snx,h',stb, .slice (some ⟨ib,io,none⟩) n ic,A++B,sixs⟩ n V ys (sixs.drop (k+1))++(RE::R))) ?_ HID.out HKL2.out HDEL2.out rfl (by kernel_rfl) rfl rfl rfl rfl rfl ?_ ?_
      · intro L' w' h
        obtain ⟨f1,h1⟩:=h.hasM (A:=slA 3 (.slice xa xn xc) (xcs.map intC)) (by simp);obtain ⟨f2,h2⟩:=h.hasM (A:=RE) (by simp);exact HKEY2.out w' (HVAL.out w' f2 h2) (intsX_of h1)
      · exact (HOP.out.newblk 152 #[.slice xa xn xc, .pointer (some ⟨xkb,0,none⟩)]).perm (List.Perm.swap _ _ _)
      · intro u39 w2 h
        have H2:Hid (∃ys,UpTo (delK eid er) (sixs.take (k+1)) ys/\St w0 fp0 (stoH S ⟨sc,snx,h',stb, .slice (some ⟨ib,io,none⟩) n ic,A++B,sixs⟩ n V ys (sixs.drop (k+1))++(RE::R)) w2):=by obtain ⟨h2,h3⟩:=St.exE (show St w0 fp0 (exA (λ h'=> objA true 16 h' (delK eid er xcs xkm) xkb)::blkA wr.heap.size 152 #[.slice xa xn xc, .pointer (some ⟨xkb,0,none⟩)]::(slA 3 (.slice xa xn xc) (xcs.map intC)::(stoH S ⟨sc,snx,h',stb, .slice (some ⟨ib,io,none⟩) n ic,A++B,sixs⟩ n V ys (sixs.drop (k+1))++(RE::R)))) w2 from h);have h4:=(h3.perm (List.Perm.swap _ _ _)).drop;refine ⟨ys++[⟨.slice xa xn xc,xcs,xkb,h2,delK eid er xcs xkm⟩],?_,stoH_shut (y:=⟨.slice xa xn xc,xcs,xkb,h2,delK eid er xcs xkm⟩) h4⟩;rw [HTK.out];exact upTo_snoc HU.out ⟨rfl,rfl,rfl,rfl⟩
        clear h;simp only [putL,List.foldl,Act.put,List.setIfInBounds_toArray,List.set_cons_succ,List.set_cons_zero];go_wp2;go_roundg (gk - 1)
        case rel=> exact ⟨k+1,by go_num,by have:=Hgk.out;omega,H2⟩
        case measure=> have:=Hgk.out;omega
    · obtain rfl:k=n:=by omega
      have HF:Hid (St w0 fp0 (rowA 68 3 rv er.length (flat er)::storeA S cols I (delL eid L) next::R) wr):=by obtain ⟨ys,hu,hst⟩:=Hs.out;rw [List.drop_of_length_le (by rw [HN.out];exact Nat.le_refl _)] at hst;rw [List.take_of_length_le (by rw [HN.out];exact Nat.le_refl _)] at hu;exact HFIN.out ys h' wr hu hst
      clear hgk hk Hs;go_wp2;refine bodyPost_ret (v:=.tuple #[rv, .bool true]) (by simp [results,Tryz.results51,go_sem]) rfl ?_;exact ⟨_,rfl,HF.out⟩
 · have hL:L=reL A++reL B:=by rw [<-hok.rows,he,reL_append]
   have hg:getL L id=none:=by rw [hL,getL_split (reL_lt hA) (reL_gt hB)]
   have hd:delL id L=L:=by rw [hL,delL_split (reL_lt hA) (reL_gt hB)]
   have hgM:getM (reM s.es) (.int id)=none:=by rw [he,reM_append];exact getM_none (reM_lt hA) (reM_gt hB)
   have hdM:delM (reM s.es) (.int id)=reM s.es:=by rw [he,reM_append,delM_none (reM_lt hA) (reM_gt hB)]
   rw [hgM,hdM] at hD;rw [hg,hd];dsimp only [Option.getD_none,Option.isSome_none,fDelete,encK,va0,encV] at hD ⊢;have HFIN:Hid (∀h' w',St w0 fp0 (objA false 16 h' (reM s.es) s.tb::blkA S 113 #[.int .i64 s.cols,ptrV s.tb, .int .i64 s.next,s.iv]::rowA 152 2 s.iv s.ixs.length (ixV s.ixs)::(s.es.map reA++s.ixs.map ixA)++R) w'->St w0 fp0 (rowA 68 3 (.slice none 0 0) 0 (flat [])::storeA S cols I L next::R) w'):=by
    intro h' w' h;have hok2:({ s with h:=h' }:Sto).Ok cols I L next:=⟨hok.eixs,hok.ecols,hok.enext,hok.rows,hok.asc,hok.nx,hok.row,hok.ixs⟩
    have h2:St w0 fp0 (stoL S { s with h:=h' }++R) w':=h.perm (List.Perm.swap _ _ _);exact St.nilR 68 3 (St.shutS hok2 h2)
   have HD:=Lib.hid hD;clear hS hs hb hD hok hL hg hd hgM hdM hasc he hA hB _hc hlen hes hid;unfold ptrV at *;go_enter Tryz.func51,Tryz.ntmps51;go_wp2_with fail;(with_reducible refine HD.out.mono ?_);rintro e w1 ⟨rfl,h',h1⟩;have H1:=Lib.hid (HFIN.out h' w1 h1);clear h1 HD HFIN;go_wp2;refine bodyPost_ret (v:=.tuple #[.slice none 0 0, .bool false]) (by simp [results,Tryz.results51,go_sem]) rfl ?_;exact ⟨_,rfl,H1.out⟩
def putOk (cols:Nat) (id:Int) (r:Rw):Bool:=decide (1<=id/\id<=4611686018427387904) && storB cols r
def errV (q:Bool):Value:=.int .i64 (if q then 0 else 1)
def putLL (cols:Nat) (id:Int) (r:Rw) (L:LL):LL:=if putOk cols id r then putL' id r L else L
def putN (cols:Nat) (id:Int) (r:Rw) (next:Int):Int:=if putOk cols id r then max next (id+1) else next
def putK (id:Int) (r:Rw) (cs:List Int) (km:MM):MM:=putM km (.str (ixKey id r cs)) (.int id)
theorem storB_ok {cols:Nat} {r:Rw} (hi:∀v∈r,I64 v.int) (h:storB cols r=true):RowOk cols r:=by
 unfold storB at h;simp only [Bool.and_eq_true,decide_eq_true_eq,List.all_eq_true] at h;exact ⟨h.1,λ v hv=> ⟨h.2 v hv,hi v hv⟩⟩
theorem Sto.Ok.put {s:Sto} {cols:Nat} {I:List (List Int)} {L:LL} {next:Int} (h:s.Ok cols I L next) {A B:List Re} {id:Int} {va:Va} {r:Rw} (he:s.es=A++B) (hA:∀a∈A,a.id < id) (hB:∀b∈B,id < b.id) (h1:1<=id) (h2:id<=4611686018427387904) (hr:RowOk cols r)
 {ys:List Ix} (hu:UpTo (putK id r) s.ixs ys) (hy:∀y∈ys,AscM y.km) (h':Nat):
 ({ s with h:=h',es:=A++⟨id,va,r⟩::B,ixs:=ys,next:=max next (id+1) }:Sto).Ok cols I (putL' id r L) (max next (id+1)):=by
 have hL:L=reL A++reL B:=by rw [<-h.rows,he,reL_append]
 have hn:∀x∈L,x.1≠id:=by
  intro x hx;rw [hL] at hx;rcases List.mem_append.1 hx with hx | hx
  · have:=reL_lt hA x hx;omega
  · have:=reL_gt hB x hx;omega
 have hid:I64 id:=by unfold I64;omega
 refine ⟨(upTo_cs hu).trans h.eixs,h.ecols,rfl,?_,asc_putL h.asc _ _,?_,λ x hx=> ?_,λ y hy'=> ?_⟩
 · rw [hL,putL_split (reL_lt hA) (reL_gt hB)]
   exact reL_append A _
 · have:=h.nx;omega
 · rcases mem_putL.1 hx with rfl | ⟨h3, -⟩
   · exact ⟨h1,by dsimp only;omega,hr⟩
   · obtain ⟨p1,p2,p3⟩:=h.row x h3
     exact ⟨p1,by omega,p3⟩
 · obtain ⟨x,hx,h3⟩:=upTo_mem hu hy'
   obtain ⟨p1,p2,p3,p4,p5⟩:=h.ixs x hx;refine ⟨by rw [h3.cs];exact p1,by rw [h3.cs];exact p2,by rw [h3.cs];exact p3,?_,hy y hy'⟩;rw [h3.cs,h3.km];exact p4.put h.asc p5 h.i64 hid r hn
theorem St.setB {w0 w:World} {fp0:List Nat} {R:List Asn} {b:Nat} {t:TypeId} {c:Array Value} (h:St w0 fp0 (blkA b t c::R) w) (i:Nat) (_hi:i < c.size) (v:Value):St w0 fp0 (blkA b t (c.setIfInBounds i v)::R) (w.setCell ⟨b,i,none⟩ v):=by
 obtain ⟨f,h1,h2⟩:=h.get 0 rfl;obtain ⟨h3,h4⟩:=blk_set h1 i v;exact h2 _ _ _ h3 h4
theorem ixAsc {w0 w:World} {fp0:List Nat} {R R1:List Asn} {ys:List Ix} (h:St w0 fp0 (R1++(ys.map ixA++R)) w):∀y∈ys,AscM y.km:=by
 intro y hy;obtain ⟨A2,B2,rfl⟩:=List.append_of_mem hy;have h3:St w0 fp0 (ixA y::(R1++(A2.map ixA++(B2.map ixA++R)))) w:=by
  refine h.perm ?_
  classical exact List.perm_iff_count.2 λ a=> by simp only [List.map_append,List.map_cons,List.count_append,List.count_cons];omega
 exact obj_asc ((St.star.1 h3).perm (List.Perm.swap _ _ _))
theorem SPut_calls (S cols:Nat) (I:List (List Int)) (L:LL) (next id:Int) (r:Rw) (v:Value) (hid:I64 id) (hri:∀v∈r,I64 v.int) (hc:cols<=1000000) (hlen:L.length < 1099511627775) (w0 w:World) (fp0:List Nat) (R:List Asn) (hv:Rd w0 fp0 R λ w=> ValsAt w r v) (hS:St w0 fp0 (storeA S cols I L next::R) w):
 Calls Tryz.prog 52 #[ptrV S, .int .i64 id,v] w λ e w'=> e=.returned (errV (putOk cols id r))/\St w0 fp0 (storeA S cols I (putLL cols id r L) (putN cols id r next)::R) w':=by
 have hvw:=hv.at (M:=[_]) hS;obtain ⟨va,vn,vc,rfl, -⟩:=hvw.shape;have hcell:w.cell? ⟨S,0,none⟩=some (.int .i64 cols):=by obtain ⟨s,hok,hs⟩:=hS.openS;obtain ⟨_,hb⟩:=hs.has 0 rfl;have c0:=(blk_get hb).1 0;rw [<-hok.ecols];exact c0
 have HST:=Lib.hid (storable_calls S cols r _ w hcell hvw);have HS:=Lib.hid hS;unfold putLL putN;obtain ⟨q,hq⟩:∃q,putOk cols id r=q:=⟨_,rfl⟩
 have HQ:Hid ((decide (1<=id/\id<=4611686018427387904) && storB cols r)=q):=hq;rw [hq];by_cases h1:id < 1
 · have hqf:q=false:=by rw [<-HQ.out,decide_eq_false (by omega)];rfl
   subst hqf;clear hv hS hvw hq HST hcell HQ;unfold ptrV;go_enter Tryz.func52,Tryz.ntmps52;go_wp2;go_ret;exact ⟨rfl,HS.out⟩
 · by_cases h2:id > 4611686018427387904
   · have hqf:q=false:=by rw [<-HQ.out,decide_eq_false (by omega)];rfl
     subst hqf;clear hv hS hvw hq HST hcell HQ;unfold ptrV;go_enter Tryz.func52,Tryz.ntmps52;go_wp2;go_ret;exact ⟨rfl,HS.out⟩
   · have hd:decide (1<=id/\id<=4611686018427387904)=true:=decide_eq_true (by omega)
     rw [hd,Bool.true_and] at HQ;rw [HQ.out] at HST;cases q
     · clear hv hS hvw hq hcell hd
       unfold ptrV at *;go_enter Tryz.func52,Tryz.ntmps52;go_wp2_with fail;(with_reducible refine HST.out.mono ?_);rintro e w1 ⟨rfl,hb⟩;have H1:=Lib.hid (HS.out.mono hb);clear HST HS hb;go_wp2;go_ret;exact ⟨rfl,H1.out⟩
     · have hro:=storB_ok hri HQ.out
       have HRO:=Lib.hid hro;have HHV:=Lib.hid hv;have HH1:Hid (1<=id):=by show _<=_;omega
       have HH2:Hid (id<=4611686018427387904):=by show _<=_;omega
       have HID:=Lib.hid hid;have HDEL0:Hid (∀w',St w0 fp0 (storeA S cols I L next::R) w'->Calls Tryz.prog 51 #[ptrV S, .int .i64 id] w' λ e w''=> (∃v,e=.returned v)/\St w0 fp0 (storeA S cols I (delL id L) next::R) w''):=λ w' h=>
        (SDelete_calls S cols I L next id hid hc hlen w0 w' fp0 R h).mono λ e w'' ⟨u,e1,h3⟩=> ⟨⟨_,e1⟩,h3.drop⟩
       have HLEN:Hid ((delL id L).length < 1099511627775):=Nat.lt_of_le_of_lt (delL_len _ _) hlen;have HND:Hid (∀x∈delL id L,x.1≠id):=λ x hx=> (mem_delL.1 hx).2;have HPD:Hid (putL' id r (delL id L)=putL' id r L):=putL_delL _ _ _;have HC1:=Lib.hid hc;clear hv hS hvw hq hcell hd hro hlen hri hc hid h1 h2;have h1:¬ id < 1:=by have:=HH1.out;omega
       have h2:¬ 4611686018427387904 < id:=by have:=HH2.out;omega
       unfold ptrV at *;go_enter Tryz.func52,Tryz.ntmps52;go_wp2_with fail;(with_reducible refine HST.out.mono ?_);rintro e w1 ⟨rfl,hb⟩;have H1:=Lib.hid (HDEL0.out w1 (HS.out.mono hb));clear HST HS hb;go_wp2_with fail;(with_reducible refine H1.out.mono ?_);rintro e w2 ⟨⟨u,rfl⟩,h3⟩;have hrw:=HHV.out.at (M:=[_]) h3;have hrl:r.length<=1000000:=by rw [HRO.out.1];exact HC1.out
       have HCL:=Lib.hid (cloneW (flat r) r.length _ w2 hrw.1 (one_flat _) (by omega));have H3:=Lib.hid h3;clear H1 h3 hrw hrl;go_wp2_with fail;(with_reducible refine HCL.out.mono ?_);rintro e w3 ⟨v',f',rfl,h4,h5,h6⟩;have h7:=St.add H3.out h5 h4 h6;obtain ⟨s,hok,hs⟩:=St.openS h7;have hes:(reM s.es).length=(delL id L).length:=by rw [<-hok.rows];simp [reM,reL]
       have hasc:=reL_asc (es:=s.es) (by rw [hok.rows];exact hok.asc);obtain ⟨A,B,he,hA,hB⟩:∃A B,s.es=A++B/\(∀a∈A,a.id < id)/\∀b∈B,id < b.id:=by
        rcases split_id (λ e:Re=> e.id) s.es hasc id with ⟨A,e,B,he,he2,hA,hB⟩ | ⟨A,B,he,hA,hB⟩
        · exfalso
          refine HND.out (e.id,e.r) ?_ he2;rw [<-hok.rows,he,reL_append,reL_cons];simp
        · exact ⟨A,B,he,hA,hB⟩
       obtain ⟨ra,rc,rfl, -⟩:=row_shape h4;have hP:=Put_calls (β:=false) (o:=16) (by omega) (by omega) s.h (reM s.es) s.tb (.int id) (.sl ra r.length rc) trivial (okR s.es) w0 w3 fp0 _ (by rw [hes];exact HLEN.out) (show St w0 fp0 (objA false 16 s.h (reM s.es) s.tb::blkA S 113 #[.int .i64 s.cols,ptrV s.tb, .int .i64 s.next,s.iv]::rowA 152 2 s.iv s.ixs.length (ixV s.ixs)::(s.es.map reA++s.ixs.map ixA)++(R++[rowA 68 3 (.slice ra r.length rc) r.length (flat r)])) w3 from hs.perm (List.Perm.swap _ _ _));have hpM:putM (reM s.es) (.int id) (.sl ra r.length rc)=reM (A++⟨id, .sl ra r.length rc,r⟩::B):=by rw [he,reM_append,reM_append,reM_cons,putM_new (reM_lt hA) (reM_gt hB)]
       rw [hpM] at hP;generalize encV ((getM (reM s.es) (.int id)).getD (va0 false))=uu at hP;generalize (getM (reM s.es) (.int id)).isSome=ub at hP;obtain ⟨_,hb⟩:=hs.has 0 rfl;have c1:=(blk_get hb).1 1;have hbl:=(blk_get hb).2.2;simp only [List.getElem?_toArray,List.getElem?_cons_zero,List.getElem?_cons_succ] at c1;have HKEY:Hid (∀(x:Ix),x∈s.ixs->∀(w:World),ValsAt w r (.slice ra r.length rc)->IntsX [] w x.cs x.cv->Calls Tryz.prog 85 #[.slice ra r.length rc,x.cv] w λ e' w'=> e'=.returned (.string (textOf (keyL r x.cs)))/\Below w.heap.size w w'):=
        λ x hx w h1 h2=> key_calls r x.cs _ _ HRO.out.s (by have:=(hok.ixs x hx).2.1;omega) w h1 h2
       have HPUT:Hid (∀(x:Ix),x∈s.ixs->∀(L':List Asn) (w:World),St w0 fp0 (objA true 16 x.kh x.km x.kb::L') w->Calls Tryz.prog 89 #[.pointer (some ⟨x.kb,0,none⟩), .string (textOf (keyL r x.cs)++textOf (numL id)), .int .i64 id] w λ e' w2=> (∃v,e'=.returned v)/\St w0 fp0 (exA (λ h'=> objA true 16 h' (putK id r x.cs x.km) x.kb)::L') w2):=by intro x hx L' w h;have hk:=(hok.ixs x hx).2.2.2.1;have h1:=Put_calls (β:=true) (o:=16) (by omega) (by omega) x.kh x.km x.kb (.str (ixKey id r x.cs)) (.int id) trivial (okK hk) w0 w fp0 L' (by rw [hk.len];exact HLEN.out) h;rw [textOf_append];exact h1.mono λ e' w2 ⟨h2,h',h3⟩=> ⟨⟨_,h2⟩,h3.exI h'⟩
       have HKL:Hid (∀x∈s.ixs,(textOf (keyL r x.cs)).size < 1000000000000):=λ x hx=> by rw [text_size];have h1:(keyL r x.cs).length<=x.cs.length * 2097161:=keyL_len HRO.out.s x.cs;have h2:=(hok.ixs x hx).2.1;have:x.cs.length * 2097161<=1000 * 2097161:=Nat.mul_le_mul_right _ h2;omega
       have HVAL:Hid (∀(w:World) (f:List Nat),(reA ⟨id, .sl ra r.length rc,r⟩).p w f->ValsAt w r (.slice ra r.length rc)):=λ w f hf=> ⟨row_sl hf (length_flat _),λ v hv=> by have:=(HRO.out.s v hv).2;unfold maxLen;omega⟩
       have HFIN:Hid (∀ys h' w',UpTo (putK id r) s.ixs ys->St w0 fp0 (stoH S { s with h:=h',es:=A++⟨id, .sl ra r.length rc,r⟩::B,next:=max next (id+1) } s.ixs.length (ixV s.ixs) ys []++R) w'->St w0 fp0 (storeA S cols I (putL' id r L) (max next (id+1))::R) w'):=by
        intro ys h' w' hu h;have hv:=upTo_V hu;have h2:St w0 fp0 (stoL S { s with h:=h',es:=A++⟨id, .sl ra r.length rc,r⟩::B,ixs:=ys,next:=max next (id+1) }++R) w':=by unfold stoL;rw [hv.1,hv.2];simp only [stoH,List.map_nil,List.append_nil] at h;exact h
        have hya:∀y∈ys,AscM y.km:=ixAsc (w0:=w0) (fp0:=fp0) (R:=R) (w:=w') (R1:=[blkA S 113 #[.int .i64 s.cols,ptrV s.tb, .int .i64 (max next (id+1)),s.iv],objA false 16 h' (reM (A++⟨id, .sl ra r.length rc,r⟩::B)) s.tb,rowA 152 2 s.iv ys.length (ixV ys)]++(A++⟨id, .sl ra r.length rc,r⟩::B).map reA) (h2.perm (by classical exact List.perm_iff_count.2 λ a=> by simp only [stoL,List.map_append,List.map_cons,List.cons_append,List.nil_append,List.count_append,List.count_cons];omega));have h3:=St.shutS (hok.put (va:=.sl ra r.length rc) he hA hB HH1.out HH2.out HRO.out hu hya h') h2;rw [HPD.out] at h3;exact h3
       have HH0:Hid (∀h' w',St w0 fp0 (objA false 16 h' (reM (A++⟨id, .sl ra r.length rc,r⟩::B)) s.tb::blkA S 113 #[.int .i64 s.cols,ptrV s.tb, .int .i64 s.next,s.iv]::rowA 152 2 s.iv s.ixs.length (ixV s.ixs)::(s.es.map reA++s.ixs.map ixA)++(R++[rowA 68 3 (.slice ra r.length rc) r.length (flat r)])) w'->St w0 fp0 (stoH S { s with h:=h',es:=A++⟨id, .sl ra r.length rc,r⟩::B } s.ixs.length (ixV s.ixs) [] (s.ixs.drop 0)++R) w'):=by
        intro h' w' h;refine h.perm ?_;rw [he]
        classical exact List.perm_iff_count.2 λ a=> by simp only [stoH,reA,encV,List.map_append,List.map_cons,List.map_nil,List.cons_append,List.count_append,List.count_cons,List.count_nil,List.drop_zero];omega
       have HNX:Hid (s.next=next):=hok.enext;have hnb:=hok.nx;obtain ⟨sc,snx,sh,stb,siv,ses,sixs⟩:=s;simp only at *;obtain ⟨new,hnew⟩:∃new,(⟨id, .sl ra r.length rc,r⟩:Re)=new:=⟨_,rfl⟩
       rw [hnew] at HVAL HFIN HH0 hP;clear hnew;have HP:=Lib.hid hP;obtain ⟨n,hn⟩:∃n,sixs.length=n:=⟨_,rfl⟩
       have HN:=Lib.hid hn;obtain ⟨V,hV⟩:∃V,ixV sixs=V:=⟨_,rfl⟩
       have HV:=Lib.hid hV;rw [hn,hV] at HFIN HH0;have hnx':snx=next:=HNX.out
       subst hnx';clear hs hb hP hok hpM hasc he hA hB hn hV hes h4 h5 h6 h7 H3 HDEL0 HNX HCL;dsimp only [fPut,encK,encV] at HP;unfold ptrV at *;go_wp2_with fail;(with_reducible refine HP.out.mono ?_);rintro e w4 ⟨rfl,h',h1'⟩;have H1:Hid (∃ys,UpTo (putK id r) (sixs.take 0) ys/\St w0 fp0 (stoH S ⟨sc,snx,h',stb,siv,A++new::B,sixs⟩ n V ys (sixs.drop 0)++R) w4):=by
        refine ⟨[],?_,HH0.out _ _ ?_⟩
        · rw [List.take_zero];exact .nil
        · rw [HN.out,HV.out] at h1'
          exact h1'
       obtain ⟨_,hb⟩:=h1'.has 1 rfl;have c3:=(blk_get hb).1 3;have hbl:=(blk_get hb).2.2;simp only [List.getElem?_toArray,List.getElem?_cons_zero,List.getElem?_cons_succ] at c3;obtain ⟨_,hr⟩:=h1'.has 2 rfl;obtain ⟨ia,ic,rfl,hic,hicm, -⟩:=row_shape hr;rw [HN.out] at hic c3 H1 HFIN;have hn63:n<=9223372036854775807:=by unfold maxLen at hicm;omega
       clear h1' hb hr c1 hic hicm HP HH0;go_wp2;go_loopg [38] n (λ g z wr=> ∃k:Nat,z=.int .i64 k/\g+k=n/\Hid (∃ys,UpTo (putK id r) (sixs.take k) ys/\St w0 fp0 (stoH S ⟨sc,snx,h',stb, .slice ia n ic,A++new::B,sixs⟩ n V ys (sixs.drop k)++R) wr))
       case atStart=> exact ⟨0,rfl,by omega,H1⟩
       case round=>
        clear H1;obtain ⟨k,rfl,hgk,Hs⟩:=hrel;by_cases hk:k < n
        · obtain ⟨ys,hu,hst⟩:=Hs.out
          have hkl:k < sixs.length:=by rw [HN.out];exact hk
          have hdr:sixs.drop k=sixs[k]::sixs.drop (k+1):=List.drop_eq_getElem_cons hkl;have htk:sixs.take (k+1)=sixs.take k++[sixs[k]]:=by rw [List.take_add_one,List.getElem?_eq_getElem hkl];rfl
          rw [hdr] at hst;have hop:=stoH_open hst;obtain ⟨_,hr⟩:=hop.has 4 rfl;have hrow:=row_sl hr (by rw [<-HV.out,ixV_len,HN.out]);rw [<-HV.out,<-HN.out] at hrow;obtain ⟨ib,io,ic',e4,q1,q2⟩:=ix_cells hrow k hkl;obtain ⟨rfl, -,rfl⟩:=Value.slice.inj e4;have HKEY2:=Lib.hid (HKEY.out sixs[k] (List.getElem_mem hkl));have HDEL2:=Lib.hid (HPUT.out sixs[k] (List.getElem_mem hkl));have HKL2:=Lib.hid (HKL.out sixs[k] (List.getElem_mem hkl));generalize sixs[k]=x at *;obtain ⟨xcv,xcs,xkb,xkh,xkm⟩:=x;obtain ⟨_,hsl⟩:=hop.has 1 rfl;obtain ⟨xa,xn,xc,hxv⟩:=sl_shape hsl;simp only at q1 q2 hsl hxv HKEY2 HDEL2 HKL2 hop;subst hxv;have HOP:=Lib.hid hop;have HU:=Lib.hid hu;have HTK:=Lib.hid htk;have Hgk:=Lib.hid hgk;have hql:=World.block_lt_of_cell? wr _ q1;have hkn:(k:Int) < n:=by omega
          unfold ptrV at q2;clear hu hst hkl hdr htk hop hr hrow e4 hsl hgk Hs;go_upto_region 9 with (fail)
          refine rSp9 (w0:=w0) (fp0:=fp0) wr.heap.size xkb (.slice xa xn xc) (.slice ra r.length rc) (textOf (keyL r xcs)) id (objA true 16 xkh xkm xkb) (exA λ h'=> objA true 16 h' (putK id r xcs xkm) xkb) (slA 3 (.slice xa xn xc) (xcs.map intC)::(stoH S ⟨sc,snx,h',stb, .slice (some ⟨ib,io,none⟩) n ic,A++new::B,sixs⟩ n V ys (sixs.drop (k+1))++R)) ?_ HID.out HKL2.out HDEL2.out rfl (by kernel_rfl) rfl rfl rfl rfl rfl ?_ ?_
          · intro L' w' h
            obtain ⟨f1,h1⟩:=h.hasM (A:=slA 3 (.slice xa xn xc) (xcs.map intC)) (by simp);obtain ⟨f2,h2⟩:=h.hasM (A:=reA new) (by simp [stoH]);exact HKEY2.out w' (HVAL.out w' f2 h2) (intsX_of h1)
          · exact (HOP.out.newblk 152 #[.slice xa xn xc, .pointer (some ⟨xkb,0,none⟩)]).perm (List.Perm.swap _ _ _)
          · intro u52 w5 h
            have H2:Hid (∃ys,UpTo (putK id r) (sixs.take (k+1)) ys/\St w0 fp0 (stoH S ⟨sc,snx,h',stb, .slice (some ⟨ib,io,none⟩) n ic,A++new::B,sixs⟩ n V ys (sixs.drop (k+1))++R) w5):=by obtain ⟨h2,h3⟩:=St.exE (show St w0 fp0 (exA (λ h'=> objA true 16 h' (putK id r xcs xkm) xkb)::blkA wr.heap.size 152 #[.slice xa xn xc, .pointer (some ⟨xkb,0,none⟩)]::(slA 3 (.slice xa xn xc) (xcs.map intC)::(stoH S ⟨sc,snx,h',stb, .slice (some ⟨ib,io,none⟩) n ic,A++new::B,sixs⟩ n V ys (sixs.drop (k+1))++R))) w5 from h);have h4:=(h3.perm (List.Perm.swap _ _ _)).drop;refine ⟨ys++[⟨.slice xa xn xc,xcs,xkb,h2,putK id r xcs xkm⟩],?_,stoH_shut (y:=⟨.slice xa xn xc,xcs,xkb,h2,putK id r xcs xkm⟩) h4⟩;rw [HTK.out];exact upTo_snoc HU.out ⟨rfl,rfl,rfl,rfl⟩
            clear h;simp only [putL,List.foldl,Act.put,List.setIfInBounds_toArray,List.set_cons_succ,List.set_cons_zero];go_wp2;go_roundg (gk - 1)
            case rel=> exact ⟨k+1,by go_num,by have:=Hgk.out;omega,H2⟩
            case measure=> have:=Hgk.out;omega
        · obtain rfl:k=n:=by omega
          obtain ⟨ys,hu,hst⟩:=Hs.out;rw [List.drop_of_length_le (by rw [HN.out];exact Nat.le_refl _)] at hst;rw [List.take_of_length_le (by rw [HN.out];exact Nat.le_refl _)] at hu;obtain ⟨_,hb⟩:=hst.has 0 rfl;have d2:=(blk_get hb).1 2;have d3:=(blk_get hb).2.1 2;have hbl2:=(blk_get hb).2.2;simp only [List.getElem?_toArray,List.getElem?_cons_zero,List.getElem?_cons_succ] at d2;have HF:Hid (St w0 fp0 (storeA S cols I (putL' id r L) (max snx (id+1))::R) (wr.setCell ⟨S,2,none⟩ (.int .i64 (max snx (id+1))))):=
           HFIN.out ys h' _ hu (hst.setB 2 (by simp) (.int .i64 (max snx (id+1))))
          have hw:IntKind.i64.wrap (id+1)=id+1:=IntWalk.i64_in _ (by have:=HH1.out;have:=HH2.out;omega);clear hgk hk Hs hst hu hb;go_wp2
          all_goals go_ret
          all_goals
           refine ⟨rfl,?_⟩;have h:=HF.out
           first
            | (rw [show Value.int .i64 (max snx (id+1))=.int .i64 (id+1) by rw [show max snx (id+1)=id+1 by omega]] at h;exact h)
            | (rw [show Value.int .i64 (max snx (id+1))=.int .i64 snx by rw [show max snx (id+1)=snx by omega]] at h;exact h)
theorem appIX:AppSrc Tryz.prog 111 111 152 2:=appSrc (z:=.agg #[.slice none 0 0, .pointer none]) (bytes:=32) (by kernel_rfl) (by kernel_rfl) rfl (by decide) (by decide)
theorem boxs_src {P:Program} {w:World} {tx e e':TypeId} {s:Value} {size:Nat} {f:List Nat} {cs:Array Value} (hk:P.underlying tx=some (.slice e')) (h:(boxsA e s cs).p w f) (hn:cs.size=size) (h1:∀u∈cs.toList,u.oneCell'=true):Go.Src P size tx (.slice (some ⟨pb s,0,none⟩) 1 1) 1 cs.toList w:=by
 obtain ⟨vb,rfl,h2,_⟩:=h;exact Go.Src.ofSlice w hk _ 1 1 _ (by simp [hn]) (λ j u hj=> by show w.cell? ((⟨vb,0,none⟩:Addr).add j)=_;rw [add_plain,Nat.zero_add,cell_of_row w vb j cs e (0,0) h2];simpa using hj) h1
theorem clamp16:clampO 16=16:=by decide
def gSa4 (vb S tb n cols:Nat) (next:Int) (iv cv:Value) (V:List Value) (cs:List Value):=rgx Tryz.prog Tryz.f113 4 40 [27,28,29,30,31,32,33,34,35,36,37,38,39] [(1,cv),(2,pV vb 0)] (Vq 0 27 [Kp S 0,Kp S 0,Kp S 0,Kp S 3,Kv iv,Kv cv,Vf.slice,Vf.ptr,Fv [33,34] λ g=> .agg #[.slice (sa (g 33)) (sn (g 33)) (sc (g 33)), .pointer (some ⟨pb (g 34),0,none⟩)],Vf.box,Vf.slice,Kp S 0,Kp S 3]) [Bk vb (46) [pV S 0], .blk S (113) [⟨.int .i64 cols,[]⟩,⟨pV tb 0,[]⟩,⟨.int .i64 next,[]⟩,⟨iv,[(13, .s 37)]⟩], .new 6 [33] λ g=> slA 3 (g 33) cs, .new 7 [34] λ g=> objA true 16 0 [] (pb (g 34)), .new 9 [36,33,34] λ g=> boxsA 152 (g 36) #[.slice (sa (g 33)) (sn (g 33)) (sc (g 33)), .pointer (some ⟨pb (g 34),0,none⟩)], .gen [10] [37,33,34] λ L g=> match L 10 with | true=> rowA 152 2 (g 37) (n+1) (V++[Value.slice (sa (g 33)) (sn (g 33)) (sc (g 33)),Value.pointer (some ⟨pb (g 34),0,none⟩)]) | false=> rowA 152 2 iv n V]
theorem rSa4 (vb S tb n cols:Nat) (next:Int) (iv cv:Value) (V:List Value) (cs:List Value) (w0:World) (fp0:List Nat) (R:List Asn) (hcl:∀(L:List Asn) (w:World),St w0 fp0 (L++R) w->Calls Tryz.prog 110 #[cv] w λ e w2=> ∃v f,e=.returned v/\(slA 3 v cs).p w2 f/\Below w.heap.size w w2/\∀k∈f,w.heap.size<=k) (hl:n+1 < 1099511627776) {w:World} {c:Code} {a:Act} {Q:Exit->Act->World->Prop} (c1:isReg c=true) (c2:cops c=opsR Tryz.f113 4) (c3:a.tmps.size=40) (_c4:a.defers=a.defers) (i1:a.eval (.tmp 1)=cv) (i2:a.eval (.tmp 2)=.pointer (some ⟨vb,0,none⟩))
 (hS:St w0 fp0 ([blkA vb (46) #[.pointer (some ⟨S,0,none⟩)],blkA S (113) #[.int .i64 cols, .pointer (some ⟨tb,0,none⟩), .int .i64 next,iv],emp,emp,emp,rowA 152 2 iv n V]++R) w)
 (hQ:∀(u33 u34 u35 u36 u37:Value) (w1:World),(∃a n c,u33=.slice a n c)->(∃b,u34=.pointer (some ⟨b,0,none⟩))->u35=.agg #[.slice (sa (u33)) (sn (u33)) (sc (u33)), .pointer (some ⟨pb (u34),0,none⟩)]->(∃b,u36=.slice (some ⟨b,0,none⟩) 1 1)->(∃a n c,u37=.slice a n c)->St w0 fp0 ([blkA vb (46) #[.pointer (some ⟨S,0,none⟩)],blkA S (113) #[.int .i64 cols, .pointer (some ⟨tb,0,none⟩), .int .i64 next,u37],slA 3 (u33) cs,objA true 16 0 [] (pb (u34)),boxsA 152 (u36) #[.slice (sa (u33)) (sn (u33)) (sc (u33)), .pointer (some ⟨pb (u34),0,none⟩)],rowA 152 2 (u37) (n+1) (V++[Value.slice (sa (u33)) (sn (u33)) (sc (u33)),Value.pointer (some ⟨pb (u34),0,none⟩)])]++R) w1->Q .normal (putL a [(27, .pointer (some ⟨S,0,none⟩)),(28, .pointer (some ⟨S,0,none⟩)),(29, .pointer (some ⟨S,0,none⟩)),(30, .pointer (some ⟨S,3,none⟩)),(31,iv),(32,cv),(33,u33),(34,u34),(35,u35),(36,u36),(37,u37),(38, .pointer (some ⟨S,0,none⟩)),(39, .pointer (some ⟨S,3,none⟩))]) w1):c.wp Tryz.prog Q a w:=by
 have ok:(gSa4 vb S tb n cols next iv cv V cs w0 fp0 R).Ok 14:=Rg.ok _ 14 [0,1,4,6,7,9,10,13] ⟨.load _ 0 0 0, .load _ 1 0 0, .load _ 4 1 3, .callG _ 6 (λ g=> [blkA vb 46 #[.pointer (some ⟨S,0,none⟩)],blkA S 113 #[.int .i64 cols, .pointer (some ⟨tb,0,none⟩), .int .i64 next,iv],emp,emp,emp,rowA 152 2 iv n V]) (λ g v=> [blkA vb 46 #[.pointer (some ⟨S,0,none⟩)],blkA S 113 #[.int .i64 cols, .pointer (some ⟨tb,0,none⟩), .int .i64 next,iv],slA 3 v cs,emp,emp,rowA 152 2 iv n V]) (λ g w h=> (hcl _ _ h).mono λ e w2 ⟨v,f,e1,h2,h3,h4⟩=> (by obtain ⟨a,n,c,rfl⟩:=sl_shape h2;exact ⟨_,e1,kr (by kernel_rfl),h.newA 2 rfl h2 h3 h4⟩)), .callG _ 7 (λ g=> [blkA vb 46 #[.pointer (some ⟨S,0,none⟩)],blkA S 113 #[.int .i64 cols, .pointer (some ⟨tb,0,none⟩), .int .i64 next,iv],slA 3 (g 33) cs,emp,emp,rowA 152 2 iv n V]) (λ g v=> [blkA vb 46 #[.pointer (some ⟨S,0,none⟩)],blkA S 113 #[.int .i64 cols, .pointer (some ⟨tb,0,none⟩), .int .i64 next,iv],slA 3 (g 33) cs,objA true 16 0 [] (pb v),emp,rowA 152 2 iv n V]) (λ g w h=> (NewT_calls (β:=true) 16 w0 w fp0 _ h).mono λ e w2 ⟨tb,e1,h2⟩=> ⟨_,e1,kr (by kernel_rfl),by rw [clamp16] at h2;exact St.emp.1 (St_re (L:=[_,_,_,_,_,_,_]) h2 [4,1,2,3,0,5,6] [] (by kernel_rfl))⟩), .boxsG _ 9 4, .appG _ 10 (λ g=> [blkA vb 46 #[.pointer (some ⟨S,0,none⟩)],blkA S 113 #[.int .i64 cols, .pointer (some ⟨tb,0,none⟩), .int .i64 next,iv],slA 3 (g 33) cs,objA true 16 0 [] (pb (g 34)),boxsA 152 (g 36) #[.slice (sa (g 33)) (sn (g 33)) (sc (g 33)), .pointer (some ⟨pb (g 34),0,none⟩)],rowA 152 2 iv n V]) (λ g v=> [blkA vb 46 #[.pointer (some ⟨S,0,none⟩)],blkA S 113 #[.int .i64 cols, .pointer (some ⟨tb,0,none⟩), .int .i64 next,iv],slA 3 (g 33) cs,objA true 16 0 [] (pb (g 34)),boxsA 152 (g 36) #[.slice (sa (g 33)) (sn (g 33)) (sc (g 33)), .pointer (some ⟨pb (g 34),0,none⟩)],rowA 152 2 v (n+1) (V++[Value.slice (sa (g 33)) (sn (g 33)) (sc (g 33)),Value.pointer (some ⟨pb (g 34),0,none⟩)])]) (λ ty g w h=> (by obtain ⟨fb,hfb⟩:=h.has 4 rfl;obtain ⟨v,w2,h1,h2⟩:=St.appSrc appIX ty (St_re (L:=[_,_,_,_,_,_]) h [5,0,1,2,3,4] [] (by kernel_rfl)) (boxs_src (tx:=111) (e':=152) (by kernel_rfl) hfb rfl (by simp;exact ⟨rfl,rfl⟩)) hl;obtain ⟨_,hr⟩:=h2.has 0 rfl;obtain ⟨a,c,rfl, -⟩:=row_shape hr;exact ⟨_,w2,h1,kr (by kernel_rfl),St_re (L:=[_,_,_,_,_,_]) h2 [1,2,3,4,5,0] [] (by kernel_rfl)⟩)), .store _ 13 1 3,trivial⟩;refine wp_regD ok (by kernel_rfl) ⟨c1,c2⟩ ⟨c3,λ p hp=> ?_⟩ hS λ A1 w1 N1 H1=> ?_
 · simp only [gSa4,rgx,List.map_nil,List.append_nil,List.mem_cons,List.not_mem_nil,or_false] at hp
   rcases hp with rfl | rfl
   · exact i1
   · exact i2
 exact N1.fin [33,34,35,36,37] (hQ (slots A1 33) (slots A1 34) (slots A1 35) (slots A1 36) (slots A1 37) w1 ⟨_,_,_,(N1.val 6 rfl)⟩ ⟨_,(N1.val 7 rfl)⟩ (N1.val 8 rfl) ⟨_,(N1.val 9 rfl)⟩ ⟨_,_,_,(N1.val 10 rfl)⟩ H1) (by kernel_rfl)
def gSn1 (tv n cc:Nat) (nm kv fv xv:Value) (ca:Option Addr):=rgx Tryz.prog Tryz.f75 1 38 [8,9,10,11,12,13,3] [(1,pV tv 0)] (Vq 0 8 [Kp tv 1,Kv (.slice ca n cc),Kv (.int .i64 n),Vf.ptr,Fv [11] λ g=> .agg #[.int .i64 n, .pointer (some ⟨pb (g 11),0,none⟩), .int .i64 1, .slice none 0 0],Vf.ptr]++Vq 6 3 [Fv [13] λ g=> .pointer (some ⟨pb (g 13),0,none⟩)]) [Bk tv (89) [nm, .slice ca n cc,kv,fv,xv], .new 3 [11] λ g=> objA false 16 0 [] (pb (g 11)), .new 5 [13,11] λ g=> atA 113 (g 13) #[.int .i64 n, .pointer (some ⟨pb (g 11),0,none⟩), .int .i64 1, .slice none 0 0]]
theorem rSn1 (tv n cc:Nat) (nm kv fv xv:Value) (ca:Option Addr) (w0:World) (fp0:List Nat) (R:List Asn)  {w:World} {c:Code} {a:Act} {Q:Exit->Act->World->Prop} (c1:isReg c=true) (c2:cops c=opsR Tryz.f75 1) (c3:a.tmps.size=38) (_c4:a.defers=a.defers) (i1:a.eval (.tmp 1)=.pointer (some ⟨tv,0,none⟩))
 (hS:St w0 fp0 ([blkA tv (89) #[nm, .slice ca n cc,kv,fv,xv],emp,emp]++R) w)
 (hQ:∀(u3 u11 u12 u13:Value) (w1:World),(∃b,u11=.pointer (some ⟨b,0,none⟩))->u12=.agg #[.int .i64 n, .pointer (some ⟨pb (u11),0,none⟩), .int .i64 1, .slice none 0 0]->(∃b,u13=.pointer (some ⟨b,0,none⟩))->u3=.pointer (some ⟨pb (u13),0,none⟩)->St w0 fp0 ([blkA tv (89) #[nm, .slice ca n cc,kv,fv,xv],objA false 16 0 [] (pb (u11)),atA 113 (u13) #[.int .i64 n, .pointer (some ⟨pb (u11),0,none⟩), .int .i64 1, .slice none 0 0]]++R) w1->Q .normal (putL a [(8, .pointer (some ⟨tv,1,none⟩)),(9, .slice ca n cc),(10, .int .i64 n),(11,u11),(12,u12),(13,u13),(3,u3)]) w1):c.wp Tryz.prog Q a w:=by
 have ok:(gSn1 tv n cc nm kv fv xv ca w0 fp0 R).Ok 7:=Rg.ok _ 7 [1,3,5] ⟨.load _ 1 0 1, .callG _ 3 (λ _=> [blkA tv 89 #[nm, .slice ca n cc,kv,fv,xv],emp,emp]) (λ g v=> [blkA tv 89 #[nm, .slice ca n cc,kv,fv,xv],objA false 16 0 [] (pb v),emp]) (λ g w h=> (NewT_calls (β:=false) 16 w0 w fp0 _ h).mono λ e w2 ⟨tb,e1,h2⟩=> ⟨_,e1,kr (by kernel_rfl),by rw [clamp16] at h2;exact St.emp.1 (St_re (L:=[_,_,_,_]) h2 [2,1,0,3] [] (by kernel_rfl))⟩), .lay _ 5 2,trivial⟩;refine wp_regD ok (by kernel_rfl) ⟨c1,c2⟩ ⟨c3,λ p hp=> ?_⟩ hS λ A1 w1 N1 H1=> ?_
 · simp only [gSn1,rgx,List.map_nil,List.append_nil,List.mem_cons,List.not_mem_nil,or_false] at hp
   subst hp
   · exact i1
 exact N1.fin [11,12,13,3] (hQ (slots A1 3) (slots A1 11) (slots A1 12) (slots A1 13) w1 ⟨_,(N1.val 3 rfl)⟩ (N1.val 4 rfl) ⟨_,(N1.val 5 rfl)⟩ (N1.val 6 rfl) H1) (by kernel_rfl)
theorem add1_calls (S cols vb:Nat) (c:Int) (w:World) (hv:w.cell? ⟨vb,0,none⟩=some (ptrV S)) (hc:w.cell? ⟨S,0,none⟩=some (.int .i64 cols)):
 Calls Tryz.prog 138 #[.int .i64 c, .pointer (some ⟨vb,0,none⟩)] w λ e w'=> e=.returned (.bool (!decide (0<=c/\c < cols)))/\Below w.heap.size w w':=by
 have HC:=Lib.hid (has_calls S cols c w hc);have hl:=World.block_lt_of_cell? w _ hv;unfold ptrV at *;generalize decide (0<=c/\c < (cols:Int))=q at *;clear hc;go_enter Tryz.func138,Tryz.ntmps138;go_wp2_with fail;(with_reducible refine HC.out.mono ?_);rintro e w1 ⟨rfl,rfl⟩;clear HC;go_wp2;go_ret;exact ⟨rfl,Below.refl _ _⟩
def addB (cols:Nat) (I:List (List Int)) (cs:List Int):Bool:=!(cs.any λ c=> !decide (0<=c/\c < (cols:Int))) && (!(I.any λ x=> decide (x=cs)) && decide (0 < cs.length))
def addI (cols:Nat) (I:List (List Int)) (cs:List Int):List (List Int):=if addB cols I cs then I++[cs] else I
theorem findIx_some (ixs:List Ix) (cs:List Int):(findIx ixs cs).isSome=(ixs.map (·.cs)).any λ x=> decide (x=cs):=by
 unfold findIx;rw [List.any_map,Bool.eq_iff_iff,List.find?_isSome,List.any_eq_true];rfl
theorem ix_ints {w:World} {f:List Nat} {S:Nat} {s:Sto} (h:Star w (stoL S s) f) {x:Ix} (hx:x∈s.ixs):IntsX [] w x.cs x.cv:=by
 obtain ⟨i,hi,rfl⟩:=List.mem_iff_getElem.1 hx;obtain ⟨g,hg, -⟩:=Star.get (s.es.length+i+3) (A:=ixA s.ixs[i]) (by show (blkA _ _ _::_::_::(s.es.map reA++s.ixs.map ixA))[s.es.length+i+3]? =_;simp only [List.getElem?_cons_succ];rw [List.getElem?_append_right (by simp),List.length_map,Nat.add_sub_cancel_left,List.getElem?_map,List.getElem?_eq_getElem hi];rfl) h;have hg':Star w [slA 3 s.ixs[i].cv (s.ixs[i].cs.map intC),objA true 16 s.ixs[i].kh s.ixs[i].km s.ixs[i].kb] g:=hg;obtain ⟨g2,hg2, -⟩:=Star.get 0 rfl hg';exact intsX_of hg2
theorem sto_row {w:World} {f:List Nat} {S:Nat} {s:Sto} (h:Star w (stoL S s) f):SlX [] w 2 s.ixs.length (ixV s.ixs) s.iv:=by
 obtain ⟨g,hg, -⟩:=Star.get 2 (A:=rowA 152 2 s.iv s.ixs.length (ixV s.ixs)) rfl h;exact row_sl hg (ixV_len _)
theorem sto_blk {w:World} {f:List Nat} {S:Nat} {s:Sto} (h:Star w (stoL S s) f):∀j,w.cell? ⟨S,j,none⟩=#[Value.int .i64 s.cols,ptrV s.tb, .int .i64 s.next,s.iv][j]? :=by
 obtain ⟨g,hg, -⟩:=Star.get 0 (A:=blkA S 113 #[.int .i64 s.cols,ptrV s.tb, .int .i64 s.next,s.iv]) rfl h;exact (blk_get hg).1
theorem SAdd_calls (S cols:Nat) (I:List (List Int)) (cs:List Int) (cv:Value) (hcl:cs.length<=1000) (hI:I.length+1 < 1099511627776) (w0 w:World) (fp0:List Nat) (R:List Asn) (hv:Rd w0 fp0 R λ w=> IntsX [] w cs cv) (hS:St w0 fp0 (storeA S cols I [] 1::R) w):
 Calls Tryz.prog 113 #[ptrV S,cv] w λ e w'=> e=.returned (.tuple #[])/\St w0 fp0 (storeA S cols (addI cols I cs) [] 1::R) w':=by
 obtain ⟨s,hok,hs⟩:=hS.openS;have hb1:Below w.heap.size w (w.alloc (.cells #[ptrV S] 46)):=(Below.refl _ _).alloc (Nat.le_refl _) _;have hs1:=(hs.newblk 46 #[ptrV S])
 obtain ⟨f1,hf1⟩:=(hs.mono hb1).star_of;have hvb:(w.alloc (.cells #[ptrV S] 46)).cell? ⟨w.heap.size,0,none⟩=some (ptrV S):=World.cell?_alloc_new _ _ _ 0;have hcell:(w.alloc (.cells #[ptrV S] 46)).cell? ⟨S,0,none⟩=some (.int .i64 cols):=by rw [sto_blk hf1 0,<-hok.ecols];rfl
 have hrd:∀w',St w0 fp0 (blkA w.heap.size 46 #[ptrV S]::(stoL S s++R)) w'->IntsX [] w' cs cv:=λ w' h=> hv.at (M:=blkA w.heap.size 46 #[ptrV S]::stoL S s) h;obtain ⟨ca,cn,cc,rfl,hcn, -⟩:=(hrd _ hs1).shape;have HC:=Lib.hid (containsI_calls cs _ 138 (.pointer (some ⟨w.heap.size,0,none⟩)) (λ c=> !decide (0<=c/\c < (cols:Int))) _ (enters_own Tryz.func138 (by kernel_rfl) rfl) (hrd _ hs1) λ i _ w' hb=> add1_calls S cols w.heap.size i w' ((hb.cell (p:=⟨w.heap.size,0,none⟩) (by simp)).trans hvb) ((hb.cell (p:=⟨S,0,none⟩) (World.block_lt_of_cell? _ _ hcell)).trans hcell));have HF:Hid (∀w',St w0 fp0 (blkA w.heap.size 46 #[ptrV S]::(stoL S s++R)) w'->Calls Tryz.prog 140 #[ptrV S, .slice ca cn cc] w' λ e w''=> e=.returned (.tuple #[findV (findIx s.ixs cs), .bool (findIx s.ixs cs).isSome])/\Below w'.heap.size w' w''):=by intro w' h;obtain ⟨f,hf⟩:=h.drop.star_of;exact sfind_calls S s.ixs s.iv cs _ w' (by rw [sto_blk hf 3];rfl) (sto_row hf) (λ x hx=> ix_ints hf hx) (hrd _ h)
 have hfi:=findIx_some s.ixs cs;rw [hok.eixs] at hfi;obtain ⟨q1,hq1⟩:∃q,(cs.any λ c=> !decide (0<=c/\c < (cols:Int)))=q:=⟨_,rfl⟩
 rw [hq1] at HC;have HQ:Hid (addI cols I cs=if (!q1 && (!(findIx s.ixs cs).isSome && decide (0 < cs.length))) then I++[cs] else I):=by show _=_;rw [addI,addB,hq1,hfi]
 have HSH:Hid (∀x,findIx s.ixs cs=some x->x∈s.ixs):=λ x hx=> List.mem_of_find?_eq_some hx;have HS1:=Lib.hid hs1;have HNO:Hid (∀w',St w0 fp0 (blkA w.heap.size 46 #[ptrV S]::(stoL S s++R)) w'->St w0 fp0 (storeA S cols I [] 1::R) w'):=λ w' h=> St.shutS hok h.drop;generalize findIx s.ixs cs=fo at *;rw [<-hcn] at HQ;have HCN:=Lib.hid hcn;have HADD:Hid (q1=false->0 < cn->∀(w':World) (xa:Option Addr) (xn xc kb b:Nat) (bx:Asn),St w0 fp0 ([blkA w.heap.size 46 #[ptrV S],blkA S 113 #[.int .i64 s.cols,ptrV s.tb, .int .i64 s.next, .slice (some ⟨b,0,none⟩) xn xc],bx]++R) w'->True):=λ _ _ _ _ _ _ _ _ _ _=> trivial;clear HADD;have hok':=hok;have HOK:=Lib.hid hok;have HCL:=Lib.hid hcl;have HIL:=Lib.hid hI;have HV:=Lib.hid hv;have HQ1:=Lib.hid hq1;have hixl:s.ixs.length=I.length:=by rw [<-hok.eixs,List.length_map]
 have HIXL:=Lib.hid hixl;clear hS hs hb1 hs1 hf1 hvb hcell hrd hv hok hok' hfi hq1 hcl hI hcn hixl;obtain ⟨scl,snx,sh,stb,siv,ses,sixs⟩:=s;simp only at *;generalize addI cols I cs=I2 at *;unfold ptrV at *;go_enter Tryz.func113,Tryz.ntmps113;go_wp2_with fail;(with_reducible refine HC.out.mono ?_);rintro e w1 ⟨rfl,hb⟩;have H1:=Lib.hid (HS1.out.mono hb);have HF1:=Lib.hid (HF.out w1 H1.out);obtain ⟨_,hbv⟩:=H1.out.has 0 rfl;have v0:=(blk_get hbv).1 0;have vl:=(blk_get hbv).2.2;simp only [List.getElem?_toArray,List.getElem?_cons_zero] at v0;clear hb HC HS1 HF hbv;generalize w.heap.size=vb at *;go_wp2_with fail;(with_reducible refine HF1.out.mono ?_);rintro e w2 ⟨rfl,hb⟩;have H2:=Lib.hid (H1.out.mono hb);obtain ⟨_,hbv⟩:=H2.out.has 0 rfl;have v0:=(blk_get hbv).1 0;have vl:=(blk_get hbv).2.2;simp only [List.getElem?_toArray,List.getElem?_cons_zero] at v0;clear hb HF1 H1 hbv;cases fo with
 | some x=>
  have HE:Hid (I2=I):=by show _=_;rw [HQ.out];simp
  obtain ⟨_,hsx⟩:∃f,IntsX [] w2 x.cs x.cv/\f=0:=by obtain ⟨f,hf⟩:=H2.out.drop.star_of;exact ⟨0,ix_ints hf (HSH.out x rfl),rfl⟩
  obtain ⟨xa,xn,xc,hxv, -⟩:=hsx.1.shape;obtain ⟨xcv,xcs,xkb,xkh,xkm⟩:=x;simp only at hxv;subst hxv;unfold findV ptrV;have HFI:Hid (∀w',Below w2.heap.size w2 w'->St w0 fp0 (storeA S cols I2 [] 1::R) w'):=λ w' hb=> by rw [HE.out];exact HNO.out w' (H2.out.mono hb)
  clear hsx HSH HNO H2;cases q1
  all_goals
   go_wp2;go_end0;exact ⟨rfl,HFI.out _ ((Below.refl _ _).alloc (Nat.le_refl _) _)⟩
 | none=>
  unfold findV;cases q1
  · by_cases h0:0 < cn
    · have h0':(0:Int) < cn:=by omega
      have H0:=Lib.hid h0;have HE:Hid (I2=I++[cs]):=by show _=_;rw [HQ.out];simp [h0]
      clear HQ h0 HNO;go_upto_region 4 with (fail)
      refine rSa4 (w0:=w0) (fp0:=fp0) vb S stb sixs.length scl snx siv (.slice ca cn cc) (ixV sixs) (cs.map intC) (objA false 16 sh (reM ses) stb::(ses.map reA++sixs.map ixA)++R) (λ L w' h=> ?_) (by have:=HIL.out;have:=HIXL.out;omega) rfl (by kernel_rfl) rfl rfl rfl rfl ?_ ?_
      · have h1:IntsX [] w' cs (.slice ca cn cc):=HV.out.at (M:=L++(objA false 16 sh (reM ses) stb::(ses.map reA++sixs.map ixA))) (by rw [List.append_assoc];exact h)
        have h2:=cloneI (cs.map intC) cs.length _ w' h1 (by intro u hu;obtain ⟨b,_,rfl⟩:=List.mem_map.1 hu;rfl) (by have:=HCL.out;omega);refine h2.mono λ e w3 ⟨v,f,e1,h3,h4,h5⟩=> ⟨v,f,e1,?_,h4,h5⟩
        rw [<-List.length_map (f:=intC)] at h3;exact h3
      · have h1:=H2.out.mono ((Below.refl _ w2).alloc (Nat.le_refl _) (.cells #[.slice none 0 0, .pointer none] 152))
        have h2:=St.emp.2 (St.emp.2 (St.emp.2 h1));refine h2.perm ?_
        classical exact List.perm_iff_count.2 λ a=> by simp only [stoL,ptrV,List.cons_append,List.nil_append,List.count_append,List.count_cons];omega
      · intro u33 u34 u35 u36 u37 w3 s33 s34 s35 s36 s37 h
        obtain ⟨xa,xn,xc,rfl⟩:=s33;obtain ⟨xb,rfl⟩:=s34;have HF:Hid (St w0 fp0 (storeA S cols I2 [] 1::R) w3):=by
         have hok:=HOK.out;have h1:St w0 fp0 (stoL S ⟨scl,snx,sh,stb,u37,ses,sixs++[⟨.slice xa xn xc,cs,xb,0,[]⟩]⟩++R) w3:=by
          have h2:St w0 fp0 ([blkA vb 46 #[.pointer (some ⟨S,0,none⟩)],boxsA 152 u36 #[.slice xa xn xc, .pointer (some ⟨xb,0,none⟩)]]++([blkA S 113 #[.int .i64 scl, .pointer (some ⟨stb,0,none⟩), .int .i64 snx,u37],slA 3 (.slice xa xn xc) (cs.map intC),objA true 16 0 [] xb,rowA 152 2 u37 (sixs.length+1) (ixV sixs++[Value.slice xa xn xc,Value.pointer (some ⟨xb,0,none⟩)])]++(objA false 16 sh (reM ses) stb::(ses.map reA++sixs.map ixA)++R))) w3:=by
           refine h.perm ?_
           classical exact List.perm_iff_count.2 λ a=> by simp only [sa,sn,sc,pb,List.cons_append,List.nil_append,List.count_append,List.count_cons];omega
          have h3:=St.dropAll h2;have h4:St w0 fp0 (ixA ⟨.slice xa xn xc,cs,xb,0,[]⟩::(blkA S 113 #[.int .i64 scl, .pointer (some ⟨stb,0,none⟩), .int .i64 snx,u37]::rowA 152 2 u37 (sixs.length+1) (ixV sixs++[Value.slice xa xn xc,Value.pointer (some ⟨xb,0,none⟩)])::(objA false 16 sh (reM ses) stb::(ses.map reA++sixs.map ixA)++R))) w3:=by
           refine St.star.2 (h3.perm ?_)
           classical exact List.perm_iff_count.2 λ a=> by simp only [List.cons_append,List.nil_append,List.count_append,List.count_cons];omega
          refine h4.perm ?_;have e1:ixV (sixs++[⟨.slice xa xn xc,cs,xb,0,[]⟩])=ixV sixs++[Value.slice xa xn xc,Value.pointer (some ⟨xb,0,none⟩)]:=by simp [ixV,ptrV]
          classical exact List.perm_iff_count.2 λ a=> by simp only [stoL,ptrV,e1,List.length_append,List.length_cons,List.length_nil,Nat.zero_add,List.map_append,List.map_cons,List.map_nil,List.cons_append,List.count_append,List.count_cons,List.count_nil];omega
         rw [HE.out];refine St.shutS (s:=⟨scl,snx,sh,stb,u37,ses,sixs++[⟨.slice xa xn xc,cs,xb,0,[]⟩]⟩) ⟨?_,hok.ecols,hok.enext,hok.rows,hok.asc,hok.nx,hok.row,λ y hy=> ?_⟩ h1
         · have:=hok.eixs
           simp only at this;simp only [List.map_append,List.map_cons,List.map_nil,this]
         · rcases List.mem_append.1 hy with hy | hy
           · exact hok.ixs y hy
           · rw [List.mem_singleton.1 hy]
             refine ⟨?_,HCL.out,?_,IxOk.nil _,List.Pairwise.nil⟩
             · intro e
               have:=H0.out;rw [HCN.out,show cs=[] from e] at this;exact absurd this (by simp)
             · have:=HQ1.out
               rw [List.any_eq_false] at this;intro c hc;simpa using this c hc
        clear h HSH H2 HV HOK;simp only [putL,List.foldl,Act.put,List.setIfInBounds_toArray,List.set_cons_succ,List.set_cons_zero];go_wp2;go_end0;exact ⟨rfl,HF.out⟩
    · have HE:Hid (I2=I):=by show _=_;rw [HQ.out];simp [h0]
      have HFI:Hid (∀w',Below w2.heap.size w2 w'->St w0 fp0 (storeA S cols I2 [] 1::R) w'):=λ w' hb=> by rw [HE.out];exact HNO.out w' (H2.out.mono hb)
      have h0':¬ (0:Int) < cn:=by omega
      clear HSH HNO H2 HQ h0;go_wp2;go_end0;exact ⟨rfl,HFI.out _ ((Below.refl _ _).alloc (Nat.le_refl _) _)⟩
  · have HE:Hid (I2=I):=by show _=_;rw [HQ.out];simp
    have HFI:Hid (∀w',Below w2.heap.size w2 w'->St w0 fp0 (storeA S cols I2 [] 1::R) w'):=λ w' hb=> by rw [HE.out];exact HNO.out w' (H2.out.mono hb)
    clear HSH HNO H2 HQ;go_wp2;go_end0;exact ⟨rfl,HFI.out _ ((Below.refl _ _).alloc (Nat.le_refl _) _)⟩
def KeysX (w:World) (vs:List Value) (ks:List (List Int)) (v:Value):Prop:=SlX [] w 1 ks.length vs v/\∀i (h:i < ks.length),∃u,vs[i]? =some u/\IntsX [] w ks[i] u
def ForsX (w:World) (vs:List Value) (ks:List (List Int)) (v:Value):Prop:=SlX [] w 3 ks.length vs v/\∀i (h:i < ks.length),∃u a b,vs[i * 3]? =some u/\vs[i * 3+1]? =some (.int .i64 a)/\vs[i * 3+2]? =some (.int .i64 b)/\IntsX [] w ks[i] u
theorem addI_len (n:Nat):∀(l:List (List Int)) (I:List (List Int)),(l.foldl (addI n) I).length<=I.length+l.length
 | [],I=> by simp
 | c::l,I=> by
  have h1:=addI_len n l (addI n I c);have h2:(addI n I c).length<=I.length+1:=by unfold addI;split <;> simp
  simp only [List.foldl_cons,List.length_cons];omega
theorem SlX.some {X:List Nat} {w:World} {size n:Nat} {xs:List Value} {v:Value} (h:SlX X w size n xs v) {j:Nat} {u:Value} (hj:xs[j]? =some u):∃b o c,v=.slice (some ⟨b,o,none⟩) n c/\w.cell? ⟨b,o+j,none⟩=some u:=by
 obtain ⟨hl,rfl⟩:=List.getElem?_eq_some_iff.1 hj;obtain ⟨_,_,a,c,rfl,h4⟩:=h;obtain ⟨b,o,rfl,_,h7⟩:=h4 j hl;exact ⟨b,o,c,rfl,h7⟩
theorem SNew_calls (nm:ByteArray) (ca xa:Option Addr) (n cc xn xc:Nat) (kv fv:Value) (K F:List (List Int)) (kvs fvs:List Value) (hK:∀c∈K,c.length<=1000) (hF:∀c∈F,c.length<=1000) (hKl:K.length<=1000000) (hFl:F.length<=1000000) (w0 w:World) (fp0:List Nat) (R:List Asn)
 (hk:Rd w0 fp0 R λ w=> KeysX w kvs K kv) (hf:Rd w0 fp0 R λ w=> ForsX w fvs F fv) (hS:St w0 fp0 R w):
 Calls Tryz.prog 75 #[.agg #[.string nm, .slice ca n cc,kv,fv, .slice xa xn xc]] w λ e w'=> ∃S,e=.returned (ptrV S)/\St w0 fp0 (storeA S n ((K++F).foldl (addI n) []) [] 1::R) w':=by
 obtain ⟨ka,kc,rfl⟩:=(hk.here hS).1.shape;obtain ⟨fa,fc,rfl⟩:=(hf.here hS).1.shape;have HS:=Lib.hid (hS.newblk 89 #[.string nm, .slice ca n cc, .slice ka K.length kc, .slice fa F.length fc, .slice xa xn xc]);have HK:=Lib.hid hk;have HF:=Lib.hid hf;have HKC:=Lib.hid hK;have HFC:=Lib.hid hF;have HKL:=Lib.hid hKl;have HFL:=Lib.hid hFl;obtain ⟨IF,hIF⟩:∃IF,(K++F).foldl (addI n) []=IF:=⟨_,rfl⟩
 have HIF:=Lib.hid hIF;rw [hIF];obtain ⟨kn,hkn⟩:∃kn,K.length=kn:=⟨_,rfl⟩
 obtain ⟨fn,hfn⟩:∃fn,F.length=fn:=⟨_,rfl⟩
 have HKN:=Lib.hid hkn;have HFN:=Lib.hid hfn;have hkn63:kn<=9223372036854775807:=by omega
 have hfn63:fn<=9223372036854775807:=by omega
 have hkn6:kn<=1000000:=by omega
 rw [hkn] at HK;rw [hfn] at HF;rw [hkn,hfn] at HS ⊢;clear hk hf hS hK hF hIF hkn hfn hKl hFl;go_enter Tryz.func75,Tryz.ntmps75;go_upto_region 1 with (fail)
 obtain ⟨tv,htv⟩:∃tv,w.heap.size=tv:=⟨_,rfl⟩
 rw [htv] at HS ⊢;clear htv;refine rSn1 (w0:=w0) (fp0:=fp0) tv n cc (.string nm) (.slice ka kn kc) (.slice fa fn fc) (.slice xa xn xc) ca R rfl (by kernel_rfl) rfl rfl rfl ?_ ?_
 · refine (St.emp.2 (St.emp.2 HS.out)).perm ?_
   classical exact List.perm_iff_count.2 λ a=> by simp only [List.cons_append,List.nil_append,List.count_cons];omega
 intro u3 u11 u12 u13 w1 s11 s12 s13 s3 h;obtain ⟨tb,rfl⟩:=s11;obtain ⟨S,rfl⟩:=s13;obtain rfl:u3=.pointer (some ⟨S,0,none⟩):=s3;have H1:Hid (St w0 fp0 (storeA S n ((K.take 0).foldl (addI n) []) [] 1::blkA tv 89 #[.string nm, .slice ca n cc, .slice ka kn kc, .slice fa fn fc, .slice xa xn xc]::R) w1):=by
  have h2:St w0 fp0 (atA 113 (.pointer (some ⟨S,0,none⟩)) #[.int .i64 n, .pointer (some ⟨tb,0,none⟩), .int .i64 1, .slice none 0 0]::objA false 16 0 [] tb::blkA tv 89 #[.string nm, .slice ca n cc, .slice ka kn kc, .slice fa fn fc, .slice xa xn xc]::R) w1:=by
   refine h.perm ?_
   classical exact List.perm_iff_count.2 λ a=> by simp only [pb,List.cons_append,List.nil_append,List.count_cons];omega
  obtain ⟨b,e,h3⟩:=St.at_open h2;injection e with e;injection e with e;injection e with e;subst e;have h4:=St.nilR 152 2 h3;have h5:St w0 fp0 (stoL S ⟨n,1,0,tb, .slice none 0 0,[],[]⟩++(blkA tv 89 #[.string nm, .slice ca n cc, .slice ka kn kc, .slice fa fn fc, .slice xa xn xc]::R)) w1:=by
   refine h4.perm ?_
   classical exact List.perm_iff_count.2 λ a=> by simp only [stoL,ptrV,reM,ixV,List.map_nil,List.flatMap_nil,List.length_nil,List.cons_append,List.nil_append,List.count_cons];omega
  refine St.shutS ⟨rfl,rfl,rfl,rfl,List.Pairwise.nil,⟨by omega,by omega⟩,λ x hx=> absurd hx (by simp),λ x hx=> absurd hx (by simp)⟩ h5
 clear h HS s12;simp only [putL,List.foldl,Act.put,List.setIfInBounds_toArray,List.set_cons_succ,List.set_cons_zero];obtain ⟨_,hb⟩:=H1.out.has 1 rfl;have c2:=(blk_get hb).1 2;have hbl:=(blk_get hb).2.2;simp only [List.getElem?_toArray,List.getElem?_cons_zero,List.getElem?_cons_succ] at c2;clear hb;go_wp2;go_loopg [17] kn (λ g z wr=> ∃k:Nat,z=.int .i64 k/\g+k=kn/\Hid (St w0 fp0 (storeA S n ((K.take k).foldl (addI n) []) [] 1::blkA tv 89 #[.string nm, .slice ca n cc, .slice ka kn kc, .slice fa fn fc, .slice xa xn xc]::R) wr))
 case atStart=> exact ⟨0,rfl,rfl,H1⟩
 case round=>
  clear H1;obtain ⟨k,rfl,hgk,Hs⟩:=hrel;by_cases hk:k < kn
  · have hkl:k < K.length:=by rw [HKN.out];exact hk
    have hrd:=HK.out.at (M:=[_,_]) Hs.out;obtain ⟨u,hu, -⟩:=hrd.2 k hkl;have hrdk:Rd w0 fp0 (blkA tv 89 #[.string nm, .slice ca n cc, .slice ka kn kc, .slice fa fn fc, .slice xa xn xc]::R) λ w=> IntsX [] w K[k] u:=(HK.out.imp λ w h=> by obtain ⟨u',hu',h'⟩:=h.2 k hkl;rw [hu] at hu';obtain rfl:=Option.some.inj hu';exact h').cons _;obtain ⟨b,o,c,e1,q1⟩:=hrd.1.some hu;obtain ⟨rfl, -,rfl⟩:=Value.slice.inj e1;have hql:=World.block_lt_of_cell? wr _ q1;have hA:=SAdd_calls S n ((K.take k).foldl (addI n) []) K[k] u (HKC.out _ (List.getElem_mem hkl)) (by have:=addI_len n (K.take k) [];rw [List.length_take,List.length_nil] at this;omega) w0 wr fp0 _ hrdk Hs.out;have hst:addI n ((K.take k).foldl (addI n) []) K[k]=(K.take (k+1)).foldl (addI n) []:=by rw [List.take_add_one,List.getElem?_eq_getElem hkl,List.foldl_append];rfl
    rw [hst] at hA;have HA:=Lib.hid hA;have Hgk:=Lib.hid hgk;have hk':(k:Int) < kn:=by omega
    unfold ptrV at HA;clear hrd hrdk hA hst hu e1 hkl hgk Hs;go_wp2_with fail;(with_reducible refine HA.out.mono ?_);rintro e w3 ⟨rfl,h3⟩;have H3:=Lib.hid h3;clear h3 HA;go_wp2;go_roundg (gk - 1)
    case rel=> exact ⟨k+1,by go_num,by have:=Hgk.out;omega,H3⟩
    case measure=> have:=Hgk.out;omega
  · obtain rfl:k=kn:=by omega
    have H1:Hid (St w0 fp0 (storeA S n ((K++F.take 0).foldl (addI n) []) [] 1::blkA tv 89 #[.string nm, .slice ca n cc, .slice ka k kc, .slice fa fn fc, .slice xa xn xc]::R) wr):=by have h:=Hs.out;rw [List.take_of_length_le (by rw [HKN.out];exact Nat.le_refl _)] at h;rw [List.take_zero,List.append_nil];exact h
    obtain ⟨_,hb⟩:=H1.out.has 1 rfl;have c3:=(blk_get hb).1 3;have hbl:=(blk_get hb).2.2;simp only [List.getElem?_toArray,List.getElem?_cons_zero,List.getElem?_cons_succ] at c3;clear hb Hs hgk hk;go_wp2;go_loopg [28] fn (λ g z wr=> ∃k2:Nat,z=.int .i64 k2/\g+k2=fn/\Hid (St w0 fp0 (storeA S n ((K++F.take k2).foldl (addI n) []) [] 1::blkA tv 89 #[.string nm, .slice ca n cc, .slice ka k kc, .slice fa fn fc, .slice xa xn xc]::R) wr))
    case atStart=> exact ⟨0,rfl,rfl,H1⟩
    case round=>
     clear H1;obtain ⟨k2,rfl,hgk,Hs⟩:=hrel;by_cases hk:k2 < fn
     · have hkl:k2 < F.length:=by rw [HFN.out];exact hk
       have hrd:=HF.out.at (M:=[_,_]) Hs.out;obtain ⟨u,ua,ub,hu,hua,hub, -⟩:=hrd.2 k2 hkl;have hrdk:Rd w0 fp0 (blkA tv 89 #[.string nm, .slice ca n cc, .slice ka k kc, .slice fa fn fc, .slice xa xn xc]::R) λ w=> IntsX [] w F[k2] u:=(HF.out.imp λ w h=> by obtain ⟨u',_,_,hu',_,_,h'⟩:=h.2 k2 hkl;rw [hu] at hu';obtain rfl:=Option.some.inj hu';exact h').cons _;obtain ⟨b,o,c,e1,q1⟩:=hrd.1.some hu;obtain ⟨_,_,_,e2,q2⟩:=hrd.1.some hua;obtain ⟨_,_,_,e3,q3⟩:=hrd.1.some hub;obtain ⟨rfl, -,rfl⟩:=Value.slice.inj e1;obtain ⟨e2, -, -⟩:=Value.slice.inj e2;obtain ⟨e3, -, -⟩:=Value.slice.inj e3;injection e2 with e2;injection e2 with e2 e2';injection e3 with e3;injection e3 with e3 e3';subst e2 e2' e3 e3';rw [<-Nat.add_assoc] at q2 q3;obtain ⟨ua',un',uc',rfl, -⟩:=(hrdk.at (M:=[_]) Hs.out).shape;have hql:=World.block_lt_of_cell? wr _ q1;have hA:=λ w' hb=> SAdd_calls S n ((K++F.take k2).foldl (addI n) []) F[k2] (.slice ua' un' uc') (HFC.out _ (List.getElem_mem hkl)) (by have:=addI_len n (K++F.take k2) [];rw [List.length_append,List.length_take,List.length_nil,HKN.out] at this;have:=HFN.out;have:=HKL.out;have:=HFL.out;have:=HKN.out;omega) w0 w' fp0 _ hrdk (Hs.out.mono hb);have hst:addI n ((K++F.take k2).foldl (addI n) []) F[k2]=(K++F.take (k2+1)).foldl (addI n) []:=by rw [List.take_add_one,List.getElem?_eq_getElem hkl,<-List.append_assoc,List.foldl_append (l:=K++F.take k2)];rfl
       rw [hst] at hA;have HA:=Lib.hid hA;have Hgk:=Lib.hid hgk;have hk':(k2:Int) < fn:=by omega
       unfold ptrV at HA;clear hrd hrdk hA hst hu hua hub e1 hkl hgk Hs;go_wp2_with fail;(with_reducible refine (HA.out _ ((Below.refl _ _).alloc (Nat.le_refl _) _)).mono ?_);rintro e w3 ⟨rfl,h3⟩;have H3:=Lib.hid h3;clear h3 HA;go_wp2;go_roundg (gk - 1)
       case rel=> exact ⟨k2+1,by go_num,by have:=Hgk.out;omega,H3⟩
       case measure=> have:=Hgk.out;omega
     · obtain rfl:k2=fn:=by omega
       have HR:Hid (St w0 fp0 (storeA S n IF [] 1::R) wr):=by have h:=Hs.out;rw [List.take_of_length_le (by rw [HFN.out];exact Nat.le_refl _),HIF.out] at h;exact (h.perm (List.Perm.swap _ _ _)).drop
       clear Hs hgk hk;go_wp2;go_ret;exact ⟨_,rfl,HR.out⟩
section
structure Ri where
 id:Int
 a:Option Addr
 n:Nat
 c:Nat
 r:Rw
def Ri.v (x:Ri):Value:=.slice x.a x.n x.c
def riV (l:List Ri):List Value:=l.flatMap λ x=> [.int .i64 x.id,x.v]
def riA (v:Value) (l:List Ri):Asn:=rowA 109 2 v l.length (riV l)
def riL (l:List Ri):LL:=l.map λ x=> (x.id,x.r)
theorem riV_len (l:List Ri):(riV l).length=l.length * 2:=by
 induction l with
 | nil=> rfl
 | cons x l ih=> simp only [riV,List.flatMap_cons,List.length_append,List.length_cons,List.length_nil] at ih ⊢;omega
theorem riV_append (l m:List Ri):riV (l++m)=riV l++riV m:=List.flatMap_append
theorem riV_at (l:List Ri) (k:Nat) (hk:k < l.length):(riV l)[k * 2]? =some (.int .i64 l[k].id)/\(riV l)[k * 2+1]? =some l[k].v:=by
 induction l generalizing k with
 | nil=> simp at hk
 | cons x l ih=>
  have e:riV (x::l)=.int .i64 x.id::x.v::riV l:=rfl;cases k with
  | zero=> exact ⟨rfl,rfl⟩
  | succ k=>
   have:=ih k (by simpa using hk);rw [e,show (k+1) * 2=k * 2+1+1 by omega,show k * 2+1+1+1=(k * 2+1)+1+1 by omega];simpa using this
theorem ri_cells {X:List Nat} {w:World} {l:List Ri} {v:Value} (h:SlX X w 2 l.length (riV l) v) (k:Nat) (hk:k < l.length):∃b o c,v=.slice (some ⟨b,o,none⟩) l.length c/\w.cell? ⟨b,o+k * 2,none⟩=some (.int .i64 l[k].id)/\w.cell? ⟨b,o+k * 2+1,none⟩=some l[k].v:=by
 obtain ⟨e1,e2⟩:=riV_at l k hk;obtain ⟨b,o,c,h1,h2⟩:=h.some e1;obtain ⟨b',o',c',h3,h4⟩:=h.some e2;rw [h1] at h3;obtain ⟨h3, -, -⟩:=Value.slice.inj h3;injection h3 with h3;injection h3 with h3 h5;subst h3 h5;exact ⟨b,o,c,h1,h2,by rw [Nat.add_assoc];exact h4⟩
theorem riA_sl {w:World} {v:Value} {l:List Ri} {f:List Nat} (h:(riA v l).p w f):SlX [] w 2 l.length (riV l) v:=row_sl h (riV_len l)
section
variable {P:Program}
theorem wpList_appR {w:World} {ops:Array Oper} {rest:List Oper} {o:Oper} {a:Act} {Q:Exit->Act->World->Prop} (hgd:o.guard=none) (s x:Operand) (t tx:TypeId)
 (ho:o.op=.call { callee:=.builtin .append,args:=#[s,x],argTypes:=#[t,tx] }) {e:TypeId} {size:Nat} {v v2:Value} (hs:a.eval s=v) (hx:a.eval x=v2) (hC:AppSrc P t tx e size) {w0:World} {fp0:List Nat} {L:List Asn} {n m:Nat} {xs news:List Value}
 (hS:St w0 fp0 (rowA e size v n xs::L) w) (hsrc:Go.Src P size tx v2 m news w) (hl:n+m < 1099511627776)
 (h:∀v' w',Hid (St w0 fp0 (rowA e size v' (n+m) (xs++news)::L) w')->wpList P ops Q rest (a.put o.dst v') w'):wpList P ops Q (o::rest) a w:=by
 refine wpList_plain hgd λ K hK=> ?_;obtain ⟨v',w',hr,h2⟩:=St.appSrc hC o.type hS hsrc hl;unfold Oper.wp execOp;simp only [ho,resolve,invoke,builtin,Sem.run_bind,Sem.run_pure,Result.andThen_ok,List.map_toArray,List.map_cons,List.map_nil,hs,hx,hr];exact hK _ _ (h v' w' h2)
theorem src_litk {tx e':TypeId} (hk:P.underlying tx=some (.slice e')) (w:World) (size b m c:Nat) (t:TypeId) (fr:Nat×Nat) (cs:Array Value) (h:w.heap[b]? =some (.cells cs t fr)) (hn:cs.size=m * size) (h1:∀u∈cs.toList,u.oneCell'=true):Go.Src P size tx (.slice (some ⟨b,0,none⟩) m c) m cs.toList w:=
 Go.Src.ofSlice w hk _ m c _ (by simpa using hn) (λ j u hj=> by rw [add_plain,Nat.zero_add,cell_of_row w b j cs t fr h];simpa using hj) h1
end
theorem appRI:AppSrc Tryz.prog 42 42 109 2:=appSrc (z:=.agg #[.int .i64 0, .slice none 0 0]) (bytes:=32) (by kernel_rfl) (by kernel_rfl) rfl (by decide) (by decide)
def rsV (cols:Nat) (lv:Value) (next:Int):Value:=.agg #[.int .i64 cols,lv, .int .i64 next]
theorem RNew_calls (cols:Nat) (w:World):Calls Tryz.prog 77 #[.int .i64 cols] w λ e w'=> e=.returned (rsV cols (.slice none 0 0) 1)/\Below w.heap.size w w':=by
 unfold rsV;have hb:Below w.heap.size w (w.alloc (.cells #[.int .i64 0, .slice none 0 0, .int .i64 0] 44)):=(Below.refl _ _).alloc (Nat.le_refl _) _;have Hb:=Lib.hid hb;obtain ⟨V0,V1,V2⟩:=VarIs.new w #[.int .i64 0, .slice none 0 0, .int .i64 0] 44;clear hb;go_enter Tryz.func77,Tryz.ntmps77;go_wp2;refine bodyPost_ret (v:=.agg #[.int .i64 cols, .slice none 0 0, .int .i64 1]) (by simp [results,Tryz.results77,go_sem]) rfl ?_;exact ⟨rfl,(Below.refl _ _).alloc (Nat.le_refl _) _⟩
theorem setRS {w0 w:World} {fp0:List Nat} {R:List Asn} {A:Asn} {vb rb cols:Nat} {o:Value} {next:Int} {r0 r1 r2:Value} (h:St w0 fp0 (A::blkA vb 44 #[.int .i64 cols,o, .int .i64 next]::blkA rb 44 #[r0,r1,r2]::R) w) (v:Value):
 St w0 fp0 (A::R) ((((w.setCell ⟨vb,1,none⟩ v).setCell ⟨rb,0,none⟩ (.int .i64 cols)).setCell ⟨rb,1,none⟩ v).setCell ⟨rb,2,none⟩ (.int .i64 next)):=by
 have h1:=(h.perm (List.Perm.swap _ _ _)).setB 1 (by simp) v;have h2:=((h1.perm (List.Perm.swap _ _ _)).perm (List.Perm.cons _ (List.Perm.swap _ _ _))).perm (List.Perm.swap _ _ _);have h3:=((h2.setB 0 (by simp) (.int .i64 cols)).setB 1 (by simp) v).setB 2 (by simp) (.int .i64 next);exact (h3.drop.perm (List.Perm.swap _ _ _)).drop
structure RiX (w:World) (l:List Ri) (v:Value):Prop where
 sl:SlX [] w 2 l.length (riV l) v
 row:∀x∈l,ValsAt w x.r x.v
theorem riL_len (A:List Ri):(riL A).length=A.length:=List.length_map _
end
theorem RStorable_calls (cols:Nat) (r:Rw) (v:Value) (w:World) (hv:ValsAt w r v):
 Calls Tryz.prog 45 #[.int .i64 cols,v] w λ e w'=> e=.returned (.bool (storB cols r))/\Below w.heap.size w w':=by
 obtain ⟨a,n,c,rfl,hn,hm⟩:=hv.shape;have HV:=Lib.hid hv;have HN:=Lib.hid hn;have hm2:n<=9223372036854775807:=by unfold maxLen at hm;omega
 obtain ⟨q,hq⟩:∃q,storB cols r=q:=⟨_,rfl⟩
 have HQ:Hid ((decide (r.length=cols) && r.all okV)=q):=hq;rw [hq];clear hv hn hm hq;go_enter Tryz.func45,Tryz.ntmps45;go_wp2;go_loopg [5] n (λ g z wr=> ∃k:Nat,z=.int .i64 k/\g+k=n/\Hid (r.all okV=(r.drop k).all okV)/\Hid (Below w.heap.size w wr))
 case atStart=> exact ⟨0,rfl,rfl,(by show _=_;rw [List.drop_zero]),Below.refl _ _⟩
 case round=>
  obtain ⟨k,rfl,hgk,Hp,Hb⟩:=hrel;by_cases hk:k < n
  · have hkl:k < r.length:=by rw [<-HN.out];exact hk
    obtain ⟨b,o,rfl⟩:=HV.out.has k hk;obtain ⟨c0,c1,c2⟩:=(HV.out.mono Hb.out).cell k hkl;have hlt:=World.block_lt_of_cell? wr _ c0;have hk':(k:Int) < n:=by omega
    have HC:=Lib.hid (rvalid_calls r[k] wr (HV.out.txt _ (List.getElem_mem hkl)));have hst:(r.drop k).all okV=(okV r[k] && (r.drop (k+1)).all okV):=by rw [List.drop_eq_getElem_cons hkl,List.all_cons]
    have Hst:=Lib.hid hst;have Hgk:=Lib.hid hgk;clear hst hgk;generalize r[k]=x at *;clear hkl;unfold Vl.val at HC;cases hq:okV x
    · rw [hq] at HC Hst
      have HQF:Hid (q=false):=by show _=_;rw [<-HQ.out,Hp.out,Hst.out];simp
      obtain rfl:=HQF.out;clear hq;go_wp2_with fail;(with_reducible refine HC.out.mono ?_);rintro e w1 ⟨rfl,hb1⟩;have Hb1:=Lib.hid (Hb.out.trans (hb1.mono Hb.out.size));clear hb1;go_wp2;go_ret;exact ⟨rfl,Hb1.out⟩
    · rw [hq] at HC Hst
      clear hq;go_wp2_with fail;(with_reducible refine HC.out.mono ?_);rintro e w1 ⟨rfl,hb1⟩;have Hb1:=Lib.hid (Hb.out.trans (hb1.mono Hb.out.size));clear hb1;go_wp2;go_roundg (gk - 1)
      case rel=> exact ⟨k+1,by go_num,by have:=Hgk.out;omega,(by show _=_;rw [Hp.out,Hst.out,Bool.true_and]),Hb1⟩
      case measure=> have:=Hgk.out;omega
  · obtain rfl:k=n:=by omega
    have HE:Hid (((k:Int)==cols)=q):=by show _=_;rw [<-HQ.out,Hp.out,List.drop_of_length_le (by rw [<-HN.out];exact Nat.le_refl _),List.all_nil,Bool.and_true,<-HN.out,Bool.eq_iff_iff];simp;omega
    clear hgk hk;go_wp2;go_ret;exact ⟨by rw [<-HE.out];rfl,Hb.out⟩
def stepP (k:Int) (x:Ri) (s:List Ri×Bool) (y:Ri):List Ri×Bool:=
 let s1:=if s.2=false/\k<=y.id then (s.1++[x],true) else s
 if y.id=k then s1 else (s1.1++[y],s1.2)
def putR (k:Int) (x:Ri) (l:List Ri):List Ri:=(l.filter λ e=> decide (e.id < k))++x::l.filter λ e=> decide (k < e.id)
theorem riL_putR (k:Int) (x:Ri) (hx:x.id=k) (l:List Ri):riL (putR k x l)=putL' k x.r (riL l):=by
 unfold riL putR putL';rw [List.map_append,List.map_cons,List.filter_map,List.filter_map,hx];rfl
theorem stepP_lt {k:Int} {x:Ri}:∀(A:List Ri) (o:List Ri),(∀a∈A,a.id < k)->A.foldl (stepP k x) (o,false)=(o++A,false)
 | [],o,_=> by simp
 | a::A,o,h=> by
  have ha:=h a (by simp);have h1:¬ k<=a.id:=by omega
  have h2:a.id≠k:=by omega
  rw [List.foldl_cons,show stepP k x (o,false) a=(o++[a],false) by simp [stepP,h1,h2],stepP_lt A _ (λ b hb=> h b (by simp [hb]))];simp
theorem stepP_gt {k:Int} {x:Ri}:∀(B:List Ri) (o:List Ri),(∀b∈B,k < b.id)->B.foldl (stepP k x) (o,true)=(o++B,true)
 | [],o,_=> by simp
 | b::B,o,h=> by
  have hb:=h b (by simp);have h2:b.id≠k:=by omega
  rw [List.foldl_cons,show stepP k x (o,true) b=(o++[b],true) by simp [stepP,h2],stepP_gt B _ (λ c hc=> h c (by simp [hc]))];simp
theorem filt_id {A B:List Ri} {k:Int} (hA:∀a∈A,a.id < k) (hB:∀b∈B,k < b.id):(A++B).filter (λ e=> decide (e.id < k))=A/\(A++B).filter (λ e=> decide (k < e.id))=B:=by
 constructor
 · rw [List.filter_append,List.filter_eq_self.2 (λ a ha=> decide_eq_true (hA a ha)),List.filter_eq_nil_iff.2 (λ b hb=> by have:=hB b hb;simp;omega),List.append_nil]
 · rw [List.filter_append,List.filter_eq_self.2 (λ b hb=> decide_eq_true (hB b hb)),List.filter_eq_nil_iff.2 (λ a ha=> by have:=hA a ha;simp;omega),List.nil_append]
theorem stepP_all {k:Int} {x:Ri} {l:List Ri} (h:l.Pairwise λ a b=> a.id < b.id):(let s:=l.foldl (stepP k x) ([],false);if s.2 then s.1 else s.1++[x])=putR k x l:=by
 have key:∀(A B:List Ri),(∀a∈A,a.id < k)->(∀b∈B,k < b.id)->(let s:=B.foldl (stepP k x) (A,false);if s.2 then s.1 else s.1++[x])=A++x::B:=by
  intro A B hA hB;cases B with
  | nil=> simp
  | cons b B=>
   have hb:=hB b (by simp);have h2:b.id≠k:=by omega
   have h3:k<=b.id:=by omega
   rw [List.foldl_cons,show stepP k x (A,false) b=(A++[x]++[b],true) by simp [stepP,h2,h3],stepP_gt B _ (λ c hc=> hB c (by simp [hc]))];simp
 rcases split_id (λ e:Ri=> e.id) l h k with ⟨A,e,B,rfl,he,hA,hB⟩ | ⟨A,B,rfl,hA,hB⟩
 · have h4:putR k x (A++e::B)=A++x::B:=by
    have:=filt_id hA hB;unfold putR;rw [List.filter_append,List.filter_append] at *;rw [List.filter_cons,List.filter_cons,if_neg (by simp [he]),if_neg (by simp [he]),this.1,this.2]
   rw [h4,List.foldl_append,stepP_lt A [] hA,List.nil_append,List.foldl_cons];rw [show stepP k x (A,false) e=(A++[x],true) by simp [stepP,he],stepP_gt B _ hB];simp
 · have h4:putR k x (A++B)=A++x::B:=by
    unfold putR;rw [(filt_id hA hB).1,(filt_id hA hB).2]
   rw [h4,List.foldl_append,stepP_lt A [] hA,List.nil_append];exact key A B hA hB
theorem stepP_len (k:Int) (x:Ri):∀(l:List Ri) (s:List Ri×Bool),(l.foldl (stepP k x) s).1.length<=s.1.length+2 * l.length
 | [],s=> by simp
 | y::l,s=> by
  have h1:=stepP_len k x l (stepP k x s y);have h2:(stepP k x s y).1.length<=s.1.length+2:=by unfold stepP;split <;> split <;> simp
  simp only [List.foldl_cons,List.length_cons];omega
end
end Go.Proofs.YtpdlkdoogojboaaGreat
