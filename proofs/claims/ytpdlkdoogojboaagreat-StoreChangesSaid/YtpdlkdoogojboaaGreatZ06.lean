/- Part 6 of the proof: Ix, Fx, Rg, Cn, Sg, Dp, Sd, Su, Sa, Sb, Sw, Rf -/
import Derived.Test.YtpdlkdoogojboaaGreatZ05
import Derived.Deep.DeepCutAuto
import Derived.Test.YtpdlkdoogojboaaGreatZ01
import Derived.RangeFuncIn
import Derived.RangeFuncRecord
import Derived.RangeFuncLeaves
import Derived.RangeFuncSeq
import Derived.RangeFuncCalls
import Derived.OwnWalkIn
import Derived.Test.YtpdlkdoogojboaaGreatZ02
/- Helpers of the store: has, searches with a function, equality of integer lists. -/
namespace Go.Proofs.YtpdlkdoogojboaaGreat
open Go Go.RowKit
theorem has_calls (S cols:Nat) (c:Int) (w:World) (hc:w.cell? ⟨S,0,none⟩=some (.int .i64 cols)):
 Calls Tryz.prog 139 #[ptrV S, .int .i64 c] w fun e w'=> e=.returned (.bool (decide (0≤c∧c < cols)))∧w=w':=by
 have hl:=World.block_lt_of_cell? w _ hc
 unfold ptrV
 by_cases h1:0≤c
 · by_cases h2:c < cols
   · go_enter Tryz.func139,Tryz.ntmps139
     go_wp2
     go_ret
     exact ⟨by simp,rfl⟩
   · go_enter Tryz.func139,Tryz.ntmps139
     go_wp2
     go_ret
     exact ⟨by simp [h2],rfl⟩
 · go_enter Tryz.func139,Tryz.ntmps139
   go_wp2
   go_ret
   exact ⟨by simp;omega,rfl⟩
theorem enters_own {P:Program} {f:FuncId} {fn:Func} {c:Code} (hf:P.funcs[f]? =some fn) (hname:(fn.name== "runtime.NumGoroutine")=false) (hb:fn.body=some c) (args:Array Value) (w:World):(callFunc f args).run P w=.ok (.enter f args) w:=by
 have h1:fn.name≠ "runtime.NumGoroutine" :=by simpa using hname
 simp [callFunc,hf,h1,hb]
/-- The first place, or -1. -/
def firstI (p:Nat→Bool) (n:Nat):Int:=match (List.range n).find? p with
 | some i=> i
 | none=> -1
theorem firstI_at {p:Nat→Bool} {n k:Nat} (hk:k < n) (hp:p k=true) (h:∀j,j < k→p j=false):firstI p n=k:=by
 unfold firstI
 have:(List.range n).find? p=some k:=by
  rw [List.find?_range_eq_some]
  exact ⟨hp,by simpa using hk,fun j hj=> by simp [h j hj]⟩
 rw [this]
theorem firstI_none {p:Nat→Bool} {n:Nat} (h:∀j,j < n→p j=false):firstI p n= -1:=by
 unfold firstI
 have:(List.range n).find? p=none:=by
  rw [List.find?_eq_none]
  intro j hj
  simp [h j (by simpa using hj)]
 rw [this]
theorem firstI_some {p:Nat→Bool} {n:Nat}:(0≤firstI p n↔∃k,k < n∧p k=true):=by
 unfold firstI
 cases h:(List.range n).find? p with
 | some i=>
  rw [List.find?_range_eq_some] at h
  exact ⟨fun _=> ⟨i,by simpa using h.2.1,h.1⟩,fun _=> by simp⟩
 | none=>
  rw [List.find?_eq_none] at h
  constructor
  · intro h';simp at h'
  · rintro ⟨k,hk,hp⟩
    exact absurd hp (h k (by simpa using hk))
set_option maxHeartbeats 4000000 in
set_option maxRecDepth 20000 in
theorem indexI_calls (l:List Int) (v:Value) (f:Nat) (c:Value) (p:Int→Bool) (w:World) (he:∀args w,(callFunc f args).run Tryz.prog w=.ok (.enter f args) w) (hv:IntsX [] w l v) (hf:∀i∈l,∀w',Below w.heap.size w w'→Calls Tryz.prog f #[.int .i64 i,c] w' fun e w''=> e=.returned (.bool (p i))∧Below w'.heap.size w' w''):
 Calls Tryz.prog 174 #[v, .func (.func f) #[] #[c]] w fun e w'=> e=.returned (.int .i64 (firstI (fun i=> p (l.getD i 0)) l.length))∧Below w.heap.size w w':=by
 obtain ⟨a,n,cc,rfl,hn,hm⟩:=hv.shape
 have HV:=Lib.hid hv
 have HN:=Lib.hid hn
 have HF:=Lib.hid hf
 have hm2:n≤9223372036854775807:=by unfold maxLen at hm;omega
 clear hv hn hf hm
 go_enter Tryz.func174,Tryz.ntmps174
 go_wp2
 go_loopg [8] n (fun g z wr=> ∃k:Nat,z=.int .i64 k∧g+k=n∧RowKit.Hid (∀j,j < k→p (l.getD j 0)=false)∧RowKit.Hid (Below w.heap.size w wr))
 case atStart=> exact ⟨0,rfl,rfl,fun j hj=> absurd hj (Nat.not_lt_zero j),Below.refl _ _⟩
 case round=>
  obtain ⟨k,rfl,hgk,Hp,Hb⟩:=hrel
  by_cases hk:k < n
  · have hkl:k < l.length:=by rw [←HN.out];exact hk
    obtain ⟨b,o,rfl⟩:=HV.out.has k hk
    have hcell:=(HV.out.mono Hb.out).cell k hkl
    have hlt:=World.block_lt_of_cell? wr _ hcell
    have hk':(k:Int) < n:=by omega
    have HC:=Lib.hid (HF.out l[k] (List.getElem_mem hkl) wr Hb.out)
    have hget:l.getD k 0=l[k]:=by simp [List.getD,hkl]
    have Hget:=Lib.hid hget
    have Hgk:=Lib.hid hgk
    have Hkl:=Lib.hid hkl
    clear hget hgk
    generalize l[k]=x at *
    clear hkl
    cases hq:p x
    · rw [hq] at HC
      have Hq:=Lib.hid hq
      clear hq
      go_wp2_with fail
      (with_reducible refine HC.out.mono ?_)
      rintro e w1 ⟨rfl,hb1⟩
      have Hb1:=Lib.hid (Hb.out.trans (hb1.mono Hb.out.size))
      clear hb1
      go_wp2
      go_roundg (gk - 1)
      case rel=>
       refine ⟨k+1,by go_num,by have:=Hgk.out;omega,fun j hj=> ?_,Hb1⟩
       rcases Nat.lt_succ_iff_lt_or_eq.1 hj with h | h
       · exact Hp.out j h
       · subst h;rw [Hget.out];exact Hq.out
      case measure=> have:=Hgk.out;omega
    · rw [hq] at HC
      have Hq:=Lib.hid hq
      clear hq
      go_wp2_with fail
      (with_reducible refine HC.out.mono ?_)
      rintro e w1 ⟨rfl,hb1⟩
      have Hb1:=Lib.hid (Hb.out.trans (hb1.mono Hb.out.size))
      clear hb1
      go_wp2
      go_ret
      exact ⟨by rw [firstI_at Hkl.out (by rw [Hget.out];exact Hq.out) Hp.out];rfl,Hb1.out⟩
  · obtain rfl:k=n:=by omega
    have HR:RowKit.Hid (firstI (fun i=> p (l.getD i 0)) l.length= -1):=firstI_none (by rw [←HN.out];exact Hp.out)
    clear hgk hk
    go_wp2
    go_ret
    exact ⟨by rw [HR.out];rfl,Hb.out⟩
theorem containsI_calls (l:List Int) (v:Value) (f:Nat) (c:Value) (p:Int→Bool) (w:World) (he:∀args w,(callFunc f args).run Tryz.prog w=.ok (.enter f args) w) (hv:IntsX [] w l v) (hf:∀i∈l,∀w',Below w.heap.size w w'→Calls Tryz.prog f #[.int .i64 i,c] w' fun e w''=> e=.returned (.bool (p i))∧Below w'.heap.size w' w''):
 Calls Tryz.prog 137 #[v, .func (.func f) #[] #[c]] w fun e w'=> e=.returned (.bool (l.any p))∧Below w.heap.size w w':=by
 have HC:=Lib.hid (indexI_calls l v f c p w he hv hf)
 have HE:RowKit.Hid (decide (0≤firstI (fun i=> p (l.getD i 0)) l.length)=l.any p):=by
  show _=_
  rw [Bool.eq_iff_iff,decide_eq_true_iff,firstI_some,List.any_eq_true]
  constructor
  · rintro ⟨k,hk,hp⟩
    exact ⟨l[k],List.getElem_mem hk,by simpa [List.getD,hk] using hp⟩
  · rintro ⟨x,hx,hp⟩
    obtain ⟨k,hk,rfl⟩:=List.mem_iff_getElem.1 hx
    exact ⟨k,hk,by simpa [List.getD,hk] using hp⟩
 clear hv hf
 go_enter Tryz.func137,Tryz.ntmps137
 go_wp2_with fail
 (with_reducible refine HC.out.mono ?_)
 rintro e w1 ⟨rfl,hb⟩
 have Hb:=Lib.hid hb
 clear hb HC
 generalize firstI (fun i=> p (l.getD i 0)) l.length=z at *
 go_wp2
 go_ret
 exact ⟨by rw [←HE.out];rfl,Hb.out⟩
set_option maxHeartbeats 4000000 in
set_option maxRecDepth 20000 in
theorem indexV_calls (r:Rw) (v:Value) (f:Nat) (p:Vl→Bool) (w:World) (he:∀args w,(callFunc f args).run Tryz.prog w=.ok (.enter f args) w) (hv:ValsAt w r v) (hf:∀x∈r,∀w',Below w.heap.size w w'→Calls Tryz.prog f #[x.val] w' fun e w''=> e=.returned (.bool (p x))∧Below w'.heap.size w' w''):
 Calls Tryz.prog 92 #[v, .func (.func f) #[] #[]] w fun e w'=> e=.returned (.int .i64 (firstI (fun i=> p (r.getD i nullV)) r.length))∧Below w.heap.size w w':=by
 obtain ⟨a,n,cc,rfl,hn,hm⟩:=hv.shape
 have HV:=Lib.hid hv
 have HN:=Lib.hid hn
 have HF:=Lib.hid hf
 have hm2:n≤9223372036854775807:=by unfold maxLen at hm;omega
 clear hv hn hf hm
 go_enter Tryz.func92,Tryz.ntmps92
 go_wp2
 go_loopg [8] n (fun g z wr=> ∃k:Nat,z=.int .i64 k∧g+k=n∧RowKit.Hid (∀j,j < k→p (r.getD j nullV)=false)∧RowKit.Hid (Below w.heap.size w wr))
 case atStart=> exact ⟨0,rfl,rfl,fun j hj=> absurd hj (Nat.not_lt_zero j),Below.refl _ _⟩
 case round=>
  obtain ⟨k,rfl,hgk,Hp,Hb⟩:=hrel
  by_cases hk:k < n
  · have hkl:k < r.length:=by rw [←HN.out];exact hk
    obtain ⟨b,o,rfl⟩:=HV.out.has k hk
    obtain ⟨c0,c1,c2⟩:=(HV.out.mono Hb.out).cell k hkl
    have hlt:=World.block_lt_of_cell? wr _ c0
    have hk':(k:Int) < n:=by omega
    have HC:=Lib.hid (HF.out r[k] (List.getElem_mem hkl) wr Hb.out)
    have hget:r.getD k nullV=r[k]:=by simp [List.getD,hkl]
    have Hget:=Lib.hid hget
    have Hgk:=Lib.hid hgk
    have Hkl:=Lib.hid hkl
    clear hget hgk
    generalize r[k]=x at *
    clear hkl
    unfold Vl.val at HC
    cases hq:p x
    · rw [hq] at HC
      have Hq:=Lib.hid hq
      clear hq
      go_wp2_with fail
      (with_reducible refine HC.out.mono ?_)
      rintro e w1 ⟨rfl,hb1⟩
      have Hb1:=Lib.hid (Hb.out.trans (hb1.mono Hb.out.size))
      clear hb1
      go_wp2
      go_roundg (gk - 1)
      case rel=>
       refine ⟨k+1,by go_num,by have:=Hgk.out;omega,fun j hj=> ?_,Hb1⟩
       rcases Nat.lt_succ_iff_lt_or_eq.1 hj with h | h
       · exact Hp.out j h
       · subst h;rw [Hget.out];exact Hq.out
      case measure=> have:=Hgk.out;omega
    · rw [hq] at HC
      have Hq:=Lib.hid hq
      clear hq
      go_wp2_with fail
      (with_reducible refine HC.out.mono ?_)
      rintro e w1 ⟨rfl,hb1⟩
      have Hb1:=Lib.hid (Hb.out.trans (hb1.mono Hb.out.size))
      clear hb1
      go_wp2
      go_ret
      exact ⟨by rw [firstI_at Hkl.out (by rw [Hget.out];exact Hq.out) Hp.out];rfl,Hb1.out⟩
  · obtain rfl:k=n:=by omega
    have HR:RowKit.Hid (firstI (fun i=> p (r.getD i nullV)) r.length= -1):=firstI_none (by rw [←HN.out];exact Hp.out)
    clear hgk hk
    go_wp2
    go_ret
    exact ⟨by rw [HR.out];rfl,Hb.out⟩
theorem containsV_calls (r:Rw) (v:Value) (f:Nat) (p:Vl→Bool) (w:World) (he:∀args w,(callFunc f args).run Tryz.prog w=.ok (.enter f args) w) (hv:ValsAt w r v) (hf:∀x∈r,∀w',Below w.heap.size w w'→Calls Tryz.prog f #[x.val] w' fun e w''=> e=.returned (.bool (p x))∧Below w'.heap.size w' w''):
 Calls Tryz.prog 56 #[v, .func (.func f) #[] #[]] w fun e w'=> e=.returned (.bool (r.any p))∧Below w.heap.size w w':=by
 have HC:=Lib.hid (indexV_calls r v f p w he hv hf)
 have HE:RowKit.Hid (decide (0≤firstI (fun i=> p (r.getD i nullV)) r.length)=r.any p):=by
  show _=_
  rw [Bool.eq_iff_iff,decide_eq_true_iff,firstI_some,List.any_eq_true]
  constructor
  · rintro ⟨k,hk,hp⟩
    exact ⟨r[k],List.getElem_mem hk,by simpa [List.getD,hk] using hp⟩
  · rintro ⟨x,hx,hp⟩
    obtain ⟨k,hk,rfl⟩:=List.mem_iff_getElem.1 hx
    exact ⟨k,hk,by simpa [List.getD,hk] using hp⟩
 clear hv hf
 go_enter Tryz.func56,Tryz.ntmps56
 go_wp2_with fail
 (with_reducible refine HC.out.mono ?_)
 rintro e w1 ⟨rfl,hb⟩
 have Hb:=Lib.hid hb
 clear hb HC
 generalize firstI (fun i=> p (r.getD i nullV)) r.length=z at *
 go_wp2
 go_ret
 exact ⟨by rw [←HE.out];rfl,Hb.out⟩
theorem storable1_calls (v:Vl) (w:World) (hs:v.text.size≤maxLen):Calls Tryz.prog 125 #[v.val] w fun e w'=> e=.returned (.bool (!okV v))∧Below w.heap.size w w':=by
 have HC:=Lib.hid (valid_calls v (w.alloc (.cells #[.int .i64 v.kind, .int .i64 v.int, .string v.text] 68)) hs)
 have HB:=Lib.hid ((Below.refl _ w).alloc (Nat.le_refl _) (.cells #[.int .i64 v.kind, .int .i64 v.int, .string v.text] 68))
 unfold Vl.val at *
 generalize okV v=q at *
 clear hs
 go_enter Tryz.func125,Tryz.ntmps125
 go_wp2_with fail
 (with_reducible refine HC.out.mono ?_)
 rintro e w1 ⟨rfl,hb⟩
 have Hb:=Lib.hid (HB.out.trans (hb.mono HB.out.size))
 clear hb HC
 go_wp2
 go_ret
 exact ⟨rfl,Hb.out⟩
/-- Whether a row may be stored. -/
def storB (cols:Nat) (r:Rw):Bool:=decide (r.length=cols) && r.all okV
set_option maxHeartbeats 4000000 in
theorem storable_calls (S cols:Nat) (r:Rw) (v:Value) (w:World) (hc:w.cell? ⟨S,0,none⟩=some (.int .i64 cols)) (hv:ValsAt w r v):
 Calls Tryz.prog 87 #[ptrV S,v] w fun e w'=> e=.returned (.bool (storB cols r))∧Below w.heap.size w w':=by
 have hl:=World.block_lt_of_cell? w _ hc
 have HC:=Lib.hid (containsV_calls r v 125 (fun x=> !okV x) w (enters_own Tryz.func125 (by kernel_rfl) rfl) hv fun x hx w' hb=> storable1_calls x w' (hv.txt x hx))
 obtain ⟨a,n,cc,rfl,hn,hm⟩:=hv.shape
 have hq:r.any (fun x=> !okV x)=!r.all okV:=by rw [List.all_eq_not_any_not,Bool.not_not]
 rw [hq] at HC
 obtain ⟨q,hq'⟩:∃q,storB cols r=q:=⟨_,rfl⟩
 have HQ:RowKit.Hid ((decide (n=cols) && r.all okV)=q):=by show _=_;rw [hn];exact hq'
 rw [hq']
 unfold ptrV
 clear hv hn hq hq' hm
 generalize r.all okV=t at *
 by_cases he:n=cols
 · have he':((n:Int)==cols)=true:=by simp [he]
   have HE:=Lib.hid he
   clear he
   go_enter Tryz.func87,Tryz.ntmps87
   go_wp2_with fail
   (with_reducible refine HC.out.mono ?_)
   rintro e w1 ⟨rfl,hb⟩
   have Hb:=Lib.hid hb
   clear hb HC
   go_wp2
   go_ret
   exact ⟨by rw [←HQ.out];simp [HE.out],Hb.out⟩
 · have he':((n:Int)==cols)=false:=by simp;omega
   have HE:=Lib.hid he
   clear he
   go_enter Tryz.func87,Tryz.ntmps87
   go_wp2
   go_ret
   exact ⟨by rw [←HQ.out];simp [HE.out],Below.refl _ _⟩
/- The store's find. -/
set_option maxHeartbeats 4000000 in
theorem equalI_calls (l m:List Int) (v u:Value) (w:World) (hv:IntsX [] w l v) (hu:IntsX [] w m u):Calls Tryz.prog 177 #[v,u] w fun e w'=> e=.returned (.bool (decide (l=m)))∧Below w.heap.size w w':=by
 obtain ⟨a,n,c,rfl,hn,hnm⟩:=hv.shape
 obtain ⟨a2,n2,c2,rfl,hn2,hnm2⟩:=hu.shape
 have HV:=Lib.hid hv
 have HU:=Lib.hid hu
 have HN:=Lib.hid hn
 have HN2:=Lib.hid hn2
 have hb1:n≤9223372036854775807:=by unfold maxLen at hnm;omega
 obtain ⟨q,hq⟩:∃q,decide (l=m)=q:=⟨_,rfl⟩
 have HQ:=Lib.hid hq
 rw [hq]
 clear hv hu hnm hnm2 hq
 by_cases he:n=n2
 · have he':((n:Int) !=n2)=false:=by simp [he]
   have HE:RowKit.Hid (l.drop 0=m.drop 0↔l=m):=by show _↔_;simp
   clear hn hn2
   subst he
   have he':((n:Int) !=n)=false:=by simp
   go_enter Tryz.func177,Tryz.ntmps177
   go_wp2
   go_loopg [13] n (fun g z wr=> ∃k:Nat,z=.int .i64 k∧g+k=n∧RowKit.Hid (l.drop k=m.drop k↔l=m)∧RowKit.Hid (Below w.heap.size w wr))
   case atStart=> exact ⟨0,rfl,rfl,HE,Below.refl _ _⟩
   case round=>
    clear HE
    obtain ⟨k,rfl,hgk,He,Hb⟩:=hrel
    by_cases hk:k < n
    · have hkl:k < l.length:=by rw [←HN.out];exact hk
      have hkm:k < m.length:=by rw [←HN2.out];exact hk
      obtain ⟨b,o,rfl⟩:=HV.out.has k hk
      obtain ⟨b2,o2,rfl⟩:=HU.out.has k hk
      have c1:=(HV.out.mono Hb.out).cell k hkl
      have c2:=(HU.out.mono Hb.out).cell k hkm
      have hl1:=World.block_lt_of_cell? wr _ c1
      have hl2:=World.block_lt_of_cell? wr _ c2
      have hk':(k:Int) < n:=by omega
      have HD:RowKit.Hid (l.drop k=m.drop k↔l[k]=m[k]∧l.drop (k+1)=m.drop (k+1)):=by
       show _↔_
       rw [List.drop_eq_getElem_cons hkl,List.drop_eq_getElem_cons hkm,List.cons.injEq]
      have Hgk:=Lib.hid hgk
      clear hgk
      generalize l[k]=x at *
      generalize m[k]=y at *
      clear hkl hkm
      by_cases hxy:x=y
      · subst hxy
        have hne:(x !=x)=false:=by simp
        go_upto_region 6 with (fail)
        go_region
        go_wp2
        go_roundg (gk - 1)
        case rel=> exact ⟨k+1,by go_num,by have:=Hgk.out;omega,(by show _↔_;rw [←He.out,HD.out];simp),Below.drew Hb.out⟩
        case measure=> have:=Hgk.out;omega
      · have hne:(x !=y)=true:=by simp [hxy]
        have HX:=Lib.hid hxy
        clear hxy
        go_upto_region 6 with (fail)
        go_region
        go_wp2
        go_ret
        refine ⟨?_,Below.drew Hb.out⟩
        have:¬ l=m:=fun h=> HX.out (HD.out.1 (He.out.2 h)).1
        rw [←HQ.out,decide_eq_false this]
        rfl
    · obtain rfl:k=n:=by omega
      have HR:RowKit.Hid (l=m):=by
       refine He.out.1 ?_
       rw [List.drop_of_length_le (by rw [←HN.out];exact Nat.le_refl _),List.drop_of_length_le (by rw [←HN2.out];exact Nat.le_refl _)]
      clear hgk hk
      go_wp2
      go_ret
      refine ⟨?_,Hb.out⟩
      rw [←HQ.out,decide_eq_true HR.out]
      rfl
 · have he':((n:Int) !=n2)=true:=by simp;omega
   have HNE:RowKit.Hid (¬ l=m):=by
    intro h
    apply he
    rw [hn,hn2,h]
   clear he hn hn2
   go_enter Tryz.func177,Tryz.ntmps177
   go_wp2
   go_ret
   refine ⟨?_,Below.refl _ _⟩
   rw [←HQ.out,decide_eq_false HNE.out]
   rfl
theorem find1_calls (cs ds:List Int) (cv kp dv:Value) (p:Nat) (w:World) (hc:IntsX [] w cs cv) (hp:w.cell? ⟨p,0,none⟩=some dv) (hd:IntsX [] w ds dv):
 Calls Tryz.prog 176 #[.agg #[cv,kp], .pointer (some ⟨p,0,none⟩)] w fun e w'=> e=.returned (.bool (decide (cs=ds)))∧Below w.heap.size w w':=by
 have hb:Below w.heap.size w (w.alloc (.cells #[cv,kp] 152)):=(Below.refl _ _).alloc (Nat.le_refl _) _
 have HC:=Lib.hid (equalI_calls cs ds cv dv _ (hc.mono hb) (hd.mono hb))
 have Hb:=Lib.hid hb
 have hpl:=World.block_lt_of_cell? w _ hp
 obtain ⟨a,n,c,rfl, -⟩:=hc.shape
 obtain ⟨a2,n2,c2,rfl, -⟩:=hd.shape
 clear hc hd hb
 go_enter Tryz.func176,Tryz.ntmps176
 go_wp2_with fail
 (with_reducible refine HC.out.mono ?_)
 rintro e w1 ⟨rfl,hb1⟩
 have Hb1:=Lib.hid (Hb.out.trans (hb1.mono Hb.out.size))
 clear hb1 HC
 go_wp2
 go_ret
 exact ⟨rfl,Hb1.out⟩
theorem ixV_at (ixs:List Ix) (k:Nat) (hk:k < ixs.length):(ixV ixs)[k * 2]? =some ixs[k].cv∧(ixV ixs)[k * 2+1]? =some (ptrV ixs[k].kb):=by
 induction ixs generalizing k with
 | nil=> simp at hk
 | cons x l ih=>
  have e:ixV (x::l)=x.cv::ptrV x.kb::ixV l:=rfl
  cases k with
  | zero=> exact ⟨rfl,rfl⟩
  | succ k=>
   have:=ih k (by simpa using hk)
   rw [e,show (k+1) * 2=k * 2+1+1 by omega,show k * 2+1+1+1=(k * 2+1)+1+1 by omega]
   simpa using this
theorem ixV_len (ixs:List Ix):(ixV ixs).length=ixs.length * 2:=by
 induction ixs with
 | nil=> rfl
 | cons x l ih=> simp only [ixV,List.flatMap_cons,List.length_append,List.length_cons,List.length_nil] at ih ⊢;omega
theorem ix_cells {X:List Nat} {w:World} {ixs:List Ix} {v:Value} (h:SlX X w 2 ixs.length (ixV ixs) v) (k:Nat) (hk:k < ixs.length):∃b o c,v=.slice (some ⟨b,o,none⟩) ixs.length c∧w.cell? ⟨b,o+k * 2,none⟩=some ixs[k].cv∧w.cell? ⟨b,o+k * 2+1,none⟩=some (ptrV ixs[k].kb):=by
 obtain ⟨a,c,rfl⟩:=h.shape
 obtain ⟨b,o,rfl, -⟩:=h.has (by rw [ixV_len];omega)
 obtain ⟨e1,e2⟩:=ixV_at ixs k hk
 obtain ⟨l1,f1⟩:=List.getElem?_eq_some_iff.1 e1
 obtain ⟨l2,f2⟩:=List.getElem?_eq_some_iff.1 e2
 refine ⟨b,o,c,rfl,?_,?_⟩
 · rw [h.cell _ l1,f1]
 · rw [Nat.add_assoc,h.cell _ l2,f2]
set_option maxHeartbeats 4000000 in
set_option maxRecDepth 20000 in
theorem indexX_calls (ixs:List Ix) (v:Value) (f:Nat) (c:Value) (p:Ix→Bool) (w:World) (he:∀args w,(callFunc f args).run Tryz.prog w=.ok (.enter f args) w) (hv:SlX [] w 2 ixs.length (ixV ixs) v) (hf:∀x∈ixs,∀w',Below w.heap.size w w'→Calls Tryz.prog f #[.agg #[x.cv,ptrV x.kb],c] w' fun e w''=> e=.returned (.bool (p x))∧Below w'.heap.size w' w''):
 Calls Tryz.prog 175 #[v, .func (.func f) #[] #[c]] w fun e w'=> e=.returned (.int .i64 (firstI (fun i=> (ixs[i]?).any p) ixs.length))∧Below w.heap.size w w':=by
 obtain ⟨a,cc,rfl⟩:=hv.shape
 obtain ⟨n,hn⟩:∃n,ixs.length=n:=⟨_,rfl⟩
 have HV:=Lib.hid hv
 have HN:=Lib.hid hn
 have HF:=Lib.hid hf
 have hm2:n≤9223372036854775807:=by have:=hv.1;unfold maxLen at this;omega
 rw [hn]
 clear hv hn hf
 go_enter Tryz.func175,Tryz.ntmps175
 go_wp2
 go_loopg [8] n (fun g z wr=> ∃k:Nat,z=.int .i64 k∧g+k=n∧RowKit.Hid (∀j,j < k→(ixs[j]?).any p=false)∧RowKit.Hid (Below w.heap.size w wr))
 case atStart=> exact ⟨0,rfl,rfl,fun j hj=> absurd hj (Nat.not_lt_zero j),Below.refl _ _⟩
 case round=>
  obtain ⟨k,rfl,hgk,Hp,Hb⟩:=hrel
  by_cases hk:k < n
  · have hkl:k < ixs.length:=by rw [HN.out];exact hk
    obtain ⟨b,o,c',e1,c1,c2⟩:=ix_cells (HV.out.mono Hb.out) k hkl
    obtain ⟨rfl, -,rfl⟩:=Value.slice.inj e1
    have hlt:=World.block_lt_of_cell? wr _ c1
    have hk':(k:Int) < n:=by omega
    have HC:=Lib.hid (HF.out ixs[k] (List.getElem_mem hkl) wr Hb.out)
    have hget:ixs[k]? =some ixs[k]:=List.getElem?_eq_getElem hkl
    have Hget:=Lib.hid hget
    have Hgk:=Lib.hid hgk
    have Hk:=Lib.hid hk
    clear hget hgk e1
    generalize ixs[k]=x at *
    clear hkl
    unfold ptrV at *
    cases hq:p x
    · rw [hq] at HC
      have Hq:=Lib.hid hq
      clear hq
      go_wp2_with fail
      (with_reducible refine HC.out.mono ?_)
      rintro e w1 ⟨rfl,hb1⟩
      have Hb1:=Lib.hid (Hb.out.trans (hb1.mono Hb.out.size))
      clear hb1
      go_wp2
      go_roundg (gk - 1)
      case rel=>
       refine ⟨k+1,by go_num,by have:=Hgk.out;omega,fun j hj=> ?_,Hb1⟩
       rcases Nat.lt_succ_iff_lt_or_eq.1 hj with h | h
       · exact Hp.out j h
       · subst h;rw [Hget.out];exact Hq.out
      case measure=> have:=Hgk.out;omega
    · rw [hq] at HC
      have Hq:=Lib.hid hq
      clear hq
      go_wp2_with fail
      (with_reducible refine HC.out.mono ?_)
      rintro e w1 ⟨rfl,hb1⟩
      have Hb1:=Lib.hid (Hb.out.trans (hb1.mono Hb.out.size))
      clear hb1
      go_wp2
      go_ret
      exact ⟨by rw [firstI_at Hk.out (by rw [Hget.out];exact Hq.out) Hp.out];rfl,Hb1.out⟩
  · obtain rfl:k=n:=by omega
    have HR:RowKit.Hid (firstI (fun i=> (ixs[i]?).any p) k= -1):=firstI_none Hp.out
    clear hgk hk
    go_wp2
    go_ret
    exact ⟨by rw [HR.out];rfl,Hb.out⟩
/-- The index of some columns. -/
def findIx (ixs:List Ix) (cs:List Int):Option Ix:=ixs.find? fun x=> decide (x.cs=cs)
def findV:Option Ix→Value
 | some x=> .agg #[x.cv,ptrV x.kb]
 | none=> .agg #[.slice none 0 0, .pointer none]
theorem firstI_find (ixs:List Ix) (p:Ix→Bool):(∃k x,firstI (fun i=> (ixs[i]?).any p) ixs.length=(k:Nat)∧ixs[k]? =some x∧ixs.find? p=some x)∨(firstI (fun i=> (ixs[i]?).any p) ixs.length= -1∧ixs.find? p=none):=by
 cases h:ixs.find? p with
 | none=>
  refine .inr ⟨firstI_none fun j hj=> ?_,rfl⟩
  rw [List.find?_eq_none] at h
  rw [List.getElem?_eq_getElem hj]
  simpa using h _ (List.getElem_mem hj)
 | some x=>
  refine .inl ?_
  rw [List.find?_eq_some_iff_getElem] at h
  obtain ⟨hp,i,hi,rfl,hl⟩:=h
  refine ⟨i,ixs[i],firstI_at hi (by rw [List.getElem?_eq_getElem hi];exact hp) fun j hj=> ?_,List.getElem?_eq_getElem hi,rfl⟩
  rw [List.getElem?_eq_getElem (by omega)]
  simpa using hl j hj
set_option maxHeartbeats 4000000 in
theorem sfind_calls (S:Nat) (ixs:List Ix) (iv:Value) (cs:List Int) (cv:Value) (w:World) (hi:w.cell? ⟨S,3,none⟩=some iv) (hr:SlX [] w 2 ixs.length (ixV ixs) iv) (hx:∀x∈ixs,IntsX [] w x.cs x.cv) (hc:IntsX [] w cs cv):
 Calls Tryz.prog 140 #[ptrV S,cv] w fun e w'=> e=.returned (.tuple #[findV (findIx ixs cs), .bool (findIx ixs cs).isSome])∧Below w.heap.size w w':=by
 have hb:Below w.heap.size w ((w.alloc (.cells #[cv] 90)).alloc (.cells #[.slice none 0 0, .pointer none] 152)):=((Below.refl _ _).alloc (Nat.le_refl _) _).alloc (by simp) _
 have hcell:((w.alloc (.cells #[cv] 90)).alloc (.cells #[.slice none 0 0, .pointer none] 152)).cell? ⟨w.heap.size,0,none⟩=some cv:=by
  rw [World.cell?_alloc_lt _ _ _ (by simp)]
  exact World.cell?_alloc_new w _ _ 0
 have HC:=Lib.hid (indexX_calls ixs iv 176 (.pointer (some ⟨w.heap.size,0,none⟩)) (fun x=> decide (x.cs=cs)) _ (enters_own Tryz.func176 (by kernel_rfl) rfl) (hr.mono hb) fun x hx' w' hb'=> find1_calls x.cs cs x.cv (ptrV x.kb) cv w.heap.size w' ((hx x hx').mono (hb.trans (hb'.mono hb.size))) ((hb'.cell (p:=⟨w.heap.size,0,none⟩) (by simp;omega)).trans hcell) (hc.mono (hb.trans (hb'.mono hb.size))))
 have hsl:=World.block_lt_of_cell? w _ hi
 have hi':=(hb.cell (p:=⟨S,3,none⟩) hsl).trans hi
 obtain ⟨a,n,c,rfl, -⟩:=hc.shape
 obtain ⟨ia,ic,rfl⟩:=hr.shape
 have HR:=Lib.hid (hr.mono hb)
 have HXS:=Lib.hid hx
 have HI:=Lib.hid hi'
 have Hb:=Lib.hid hb
 have HV:=VarIs.new1 w (.cells #[.slice a n c] 90) #[.slice none 0 0, .pointer none] 152
 obtain ⟨HV0,HV1,HV2⟩:=HV
 have hf:=firstI_find ixs fun x=> decide (x.cs=cs)
 rw [show ixs.find? (fun x=> decide (x.cs=cs))=findIx ixs cs from rfl] at hf
 generalize findIx ixs cs=fo at *
 generalize firstI (fun i=> (ixs[i]?).any fun x=> decide (x.cs=cs)) ixs.length=fz at *
 have HF:=Lib.hid hf
 clear hf
 have hle:ixs.length≤9223372036854775807:=by have:=hr.1;unfold maxLen at this;omega
 clear hi hr hx hc hb hcell
 unfold ptrV
 go_enter Tryz.func140,Tryz.ntmps140
 go_upto_region 1 with (fail)
 generalize (w.alloc _).alloc _=W at *
 have hsl2:S < W.heap.size:=by have:S < w.heap.size:=hsl;omega
 go_wp2_with fail
 (with_reducible refine HC.out.mono ?_)
 rintro e w1 ⟨rfl,hb1⟩
 have hi1:=(hb1.cell (p:=⟨S,3,none⟩) hsl2).trans hi'
 have HV1':∀j,w1.cell? ⟨w.heap.size+1,j,none⟩=#[Value.slice none 0 0, .pointer none][j]? :=fun j=> (hb1.cell (p:=⟨w.heap.size+1,j,none⟩) HV0).trans (HV1 j)
 have HV2':∀j,w1.frozen? ⟨w.heap.size+1,j,none⟩=false:=fun j=> (hb1.frozen (p:=⟨w.heap.size+1,j,none⟩) HV0).trans (HV2 j)
 have hvl:w.heap.size+1 < w1.heap.size:=Nat.lt_of_lt_of_le HV0 hb1.size
 have Hb1:=Lib.hid (Hb.out.trans (hb1.mono Hb.out.size))
 have HR1:=Lib.hid (HR.out.mono hb1)
 obtain ⟨d0,d1⟩:w1.cell? ⟨w.heap.size+1,0,none⟩=some (.slice none 0 0)∧w1.cell? ⟨w.heap.size+1,1,none⟩=some (.pointer none):=⟨HV1' 0,HV1' 1⟩
 obtain ⟨g0,g1⟩:w1.frozen? ⟨w.heap.size+1,0,none⟩=false∧w1.frozen? ⟨w.heap.size+1,1,none⟩=false:=⟨HV2' 0,HV2' 1⟩
 clear HV1 HV2 HV1' HV2' HV0 hi' hb1 HC HI HR hsl2 hsl
 have hsl1:=World.block_lt_of_cell? w1 _ hi1
 rcases HF.out with ⟨k,x,rfl,e2,rfl⟩ | ⟨rfl,rfl⟩
 · obtain ⟨hk,hkx⟩:=List.getElem?_eq_some_iff.1 e2
   obtain ⟨b,o,c',e4,q1,q2⟩:=ix_cells HR1.out k hk
   obtain ⟨rfl, -,rfl⟩:=Value.slice.inj e4
   rw [hkx] at q1 q2
   have Hkx:=Lib.hid hkx
   have hkn:(k:Int) < ixs.length:=by omega
   have hql:=World.block_lt_of_cell? w1 _ q1
   clear e2 hkx e4 HF
   unfold ptrV at q2
   obtain ⟨xa,xn,xc,hxv, -⟩:=(HXS.out x (by rw [←Hkx.out];exact List.getElem_mem hk)).shape
   rw [hxv] at q1
   have Hxv:=Lib.hid hxv
   have Hk:=Lib.hid hk
   clear hxv
   go_wp2
   refine bodyPost_ret (v:=.tuple #[.agg #[.slice xa xn xc, .pointer (some ⟨x.kb,0,none⟩)], .bool true]) ?_ rfl ?_
   · clear HXS HR1
     simp [results,Tryz.results140,go_sem, *]
   · refine ⟨?_,?_⟩
     · show _=Ending.returned (.tuple #[.agg #[x.cv,ptrV x.kb], .bool true])
       rw [Hxv.out]
       rfl
     · exact below_set (below_set Hb1.out _ _ _ (by omega)) _ _ _ (by omega)
 · clear HF
   go_wp2
   refine bodyPost_ret (v:=.tuple #[.agg #[.slice none 0 0, .pointer none], .bool false]) ?_ rfl ?_
   · clear HXS HR1
     simp [results,Tryz.results140,go_sem, *]
   · exact ⟨rfl,below_set (below_set Hb1.out _ _ _ (by omega)) _ _ _ (by omega)⟩
/- A range over a function, in pieces: what the iterator promises, what the loop's body owes. -/
variable {P:Program}
theorem wpList_append_run {w w':World} {ops:Array Oper} {rest:List Oper} {o:Oper} {a:Act} {Q:Exit→Act→World→Prop} (hg:o.guard=none) (s x:Operand) (t:TypeId)
 (hop:o.op=Op.call { callee:=Callee.builtin Builtin.append,args:=#[s,x],argTypes:=#[t,t] }) {v v2 v':Value} (hs:a.eval s=v) (hx:a.eval x=v2) (hr:(Builtin.append_ #[t,t] o.type #[v,v2]).run P w=.ok v' w')
 (hK:wpList P ops Q rest (a.put o.dst v') w'):wpList P ops Q (o::rest) a w:=by
 refine wpList_plain hg fun K hK'=> ?_
 unfold Oper.wp execOp
 simp only [hop,resolve,invoke,builtin,Sem.run_bind,Sem.run_pure,Result.andThen_ok,List.map_toArray,List.map_cons,List.map_nil,hs,hx,hr]
 exact hK' _ _ hK
end Go.Proofs.YtpdlkdoogojboaaGreat
/- slices.Clone of a slice that is read: integers, rows. -/
namespace Go.Proofs.YtpdlkdoogojboaaGreat
open Go Go.RowKit
theorem SlX.cases {X:List Nat} {w:World} {size n:Nat} {xs:List Value} {v:Value} (h:SlX X w size n xs v) (h0:0 < size):(∃c,v=.slice none 0 c∧n=0∧xs=[])∨∃ad c,v=.slice (some ad) n c:=by
 obtain ⟨h2,h3,a,c,rfl,h4⟩:=h
 cases a with
 | some ad=> exact .inr ⟨ad,c,rfl⟩
 | none=>
  have hn:n=0:=by
   apply Classical.byContradiction
   intro hne
   have hp:0 < xs.length:=by rw [h3];exact Nat.mul_pos (by omega) h0
   obtain ⟨b,o,e1,_⟩:=h4 0 hp
   cases e1
  subst hn
  exact .inl ⟨c,rfl,rfl,List.eq_nil_of_length_eq_zero (by rw [h3,Nat.zero_mul])⟩
theorem appI:AppSrc Tryz.prog 90 90 3 1:=appSrc (z:=.int .i64 0) (bytes:=8) (by kernel_rfl) (by kernel_rfl) rfl (by decide) (by decide)
set_option maxHeartbeats 1000000 in
theorem cloneI (xs:List Value) (n:Nat) (v:Value) (w:World) (hs:SlX [] w 1 n xs v) (h1:∀u∈xs,u.oneCell'=true) (hlen:n < 1099511627776):
 Calls Tryz.prog 110 #[v] w fun e w'=> ∃v' f',e=.returned v'∧(rowA 3 1 v' n xs).p w' f'∧Below w.heap.size w w'∧∀k∈f',w.heap.size≤k:=by
 rcases hs.cases (by decide) with ⟨c,rfl,rfl,rfl⟩ | ⟨ad,c,rfl⟩
 · have hnil:=fun w'=> Lib.run_eql_slice_nil (P:=Tryz.prog) w' 90 3 none 0 c 0 0 Tryz.underlying90
   simp only [Option.isNone_none] at hnil
   clear hs hlen h1
   go_enter Tryz.func110,Tryz.ntmps110
   go_wp2
   go_ret
   exact ⟨_,[],rfl,row_nil _ _ _,Below.refl _ _,by simp⟩
 · have hb0:Below w.heap.size w (w.alloc (.cells #[] 3)):=(Below.refl _ _).alloc (Nat.le_refl _) _
   have hrow:(rowA 3 1 (.slice (some ⟨w.heap.size,0,none⟩) 0 0) 0 []).p (w.alloc (.cells #[] 3)) [w.heap.size]:=by
    have h:=World.ownsRow_lit (base:=0) (e:=3) (size:=1) w #[] 0 (Nat.zero_le _) (by simp) (by simp)
    exact ⟨h,rfl⟩
   obtain ⟨v',w',f',hr,h2,h3⟩:=appI 90 _ _ 0 [] _ _ _ _ hrow ((hs.mono hb0).src (tx:=90) (e':=3) (by kernel_rfl) (by decide) h1) (by omega)
   rw [Nat.zero_add,List.nil_append] at h2
   have hb:Below w.heap.size w w':=hb0.trans (h3.below (by simp) (by simp))
   have HO:RowKit.Hid ((rowA 3 1 v' n xs).p w' f'∧Below w.heap.size w w'∧∀k∈f',w.heap.size≤k):=by
    refine ⟨h2,hb,fun k hk=> ?_⟩
    rcases h3.new k hk with h | h
    · rw [List.mem_singleton.1 h];exact Nat.le_refl _
    · have:=hb0.size;omega
   have hnil:=fun w'=> Lib.run_eql_slice_nil (P:=Tryz.prog) w' 90 3 (some ad) n c 0 0 Tryz.underlying90
   simp only [Option.isNone_some] at hnil
   have HR:=Lib.hid hr
   clear hs hrow h2 h3 hb hb0 hr
   go_enter Tryz.func110,Tryz.ntmps110
   go_wp2_with (at_builtin;refine wpList_append_run rfl _ _ _ rfl rfl rfl HR.out ?_)
   go_ret
   exact ⟨_,_,rfl,HO.out⟩
theorem appW:AppSrc Tryz.prog 33 33 68 3:=appSrc (z:=.agg #[.int .i64 0, .int .i64 0, .string ⟨#[]⟩]) (bytes:=32) (by kernel_rfl) (by kernel_rfl) rfl (by decide) (by decide)
set_option maxHeartbeats 1000000 in
theorem cloneW (xs:List Value) (n:Nat) (v:Value) (w:World) (hs:SlX [] w 3 n xs v) (h1:∀u∈xs,u.oneCell'=true) (hlen:n < 1099511627776):
 Calls Tryz.prog 71 #[v] w fun e w'=> ∃v' f',e=.returned v'∧(rowA 68 3 v' n xs).p w' f'∧Below w.heap.size w w'∧∀k∈f',w.heap.size≤k:=by
 rcases hs.cases (by decide) with ⟨c,rfl,rfl,rfl⟩ | ⟨ad,c,rfl⟩
 · have hnil:=fun w'=> Lib.run_eql_slice_nil (P:=Tryz.prog) w' 33 68 none 0 c 0 0 Tryz.underlying33
   simp only [Option.isNone_none] at hnil
   clear hs hlen h1
   go_enter Tryz.func71,Tryz.ntmps71
   go_wp2
   go_ret
   exact ⟨_,[],rfl,row_nil _ _ _,Below.refl _ _,by simp⟩
 · have hb0:Below w.heap.size w (w.alloc (.cells #[] 68)):=(Below.refl _ _).alloc (Nat.le_refl _) _
   have hrow:(rowA 68 3 (.slice (some ⟨w.heap.size,0,none⟩) 0 0) 0 []).p (w.alloc (.cells #[] 68)) [w.heap.size]:=by
    have h:=World.ownsRow_lit (base:=0) (e:=68) (size:=3) w #[] 0 (Nat.zero_le _) (by simp) (by simp)
    exact ⟨h,rfl⟩
   obtain ⟨v',w',f',hr,h2,h3⟩:=appW 33 _ _ 0 [] _ _ _ _ hrow ((hs.mono hb0).src (tx:=33) (e':=68) (by kernel_rfl) (by decide) h1) (by omega)
   rw [Nat.zero_add,List.nil_append] at h2
   have hb:Below w.heap.size w w':=hb0.trans (h3.below (by simp) (by simp))
   have HO:RowKit.Hid ((rowA 68 3 v' n xs).p w' f'∧Below w.heap.size w w'∧∀k∈f',w.heap.size≤k):=by
    refine ⟨h2,hb,fun k hk=> ?_⟩
    rcases h3.new k hk with h | h
    · rw [List.mem_singleton.1 h];exact Nat.le_refl _
    · have:=hb0.size;omega
   have hnil:=fun w'=> Lib.run_eql_slice_nil (P:=Tryz.prog) w' 33 68 (some ad) n c 0 0 Tryz.underlying33
   simp only [Option.isNone_some] at hnil
   have HR:=Lib.hid hr
   clear hs hrow h2 h3 hb hb0 hr
   go_enter Tryz.func71,Tryz.ntmps71
   go_wp2_with (at_builtin;refine wpList_append_run rfl _ _ _ rfl rfl rfl HR.out ?_)
   go_ret
   exact ⟨_,_,rfl,HO.out⟩
/- The store: Next, Len, Get. -/
theorem Next_calls {S cols:Nat} {I:List (List Int)} {L:LL} {next:Int} {w:World} {f:List Nat} (h:(storeA S cols I L next).p w f):
 Calls Tryz.prog 41 #[ptrV S] w fun e w'=> e=.returned (.int .i64 next)∧w=w':=by
 obtain ⟨s,hs⟩:=h
 obtain ⟨_,⟨hok, -⟩, -⟩:=Star.get 0 rfl (show Star w (pureA (s.Ok cols I L next)::stoL S s) f from hs)
 obtain ⟨_,hb, -⟩:=Star.get 1 rfl (show Star w (pureA (s.Ok cols I L next)::stoL S s) f from hs)
 have c2:=(blk_get hb).1 2
 have hl:=(blk_get hb).2.2
 simp only [List.getElem?_toArray,List.getElem?_cons_zero,List.getElem?_cons_succ] at c2
 rw [hok.enext] at c2
 clear hs hok hb
 unfold ptrV
 go_enter Tryz.func41,Tryz.ntmps41
 go_wp2
 go_ret
 exact ⟨rfl,rfl⟩
theorem find_reL (es:List Re) (k:Int):getL (reL es) k=(es.find? fun e=> e.id==k).map (·.r):=by
 induction es with
 | nil=> rfl
 | cons x es ih=>
  unfold getL at ih ⊢
  rw [reL_cons,List.find?_cons,List.find?_cons]
  cases h:(x.id==k)
  · exact ih
  · rfl
/-- The rows as they are read. -/
theorem re_at {w:World} {f:List Nat} {S cols:Nat} {I:List (List Int)} {L:LL} {next:Int} {s:Sto} (hok:s.Ok cols I L next) (h:Star w (stoL S s) f) {e:Re} (he:e∈s.es):ValsAt w e.r (encV e.va):=by
 obtain ⟨i,hi,rfl⟩:=List.mem_iff_getElem.1 he
 obtain ⟨g,hg, -⟩:=Star.get (i+3) (A:=reA s.es[i]) (by
  show (blkA _ _ _::_::_::(s.es.map reA++s.ixs.map ixA))[i+3]? =_
  simp only [List.getElem?_cons_succ]
  rw [List.getElem?_append_left (by simpa using hi),List.getElem?_map,List.getElem?_eq_getElem hi]
  rfl) h
 refine ⟨SlX.of_row hg (by rw [length_flat]) (by simp),fun x hx=> ?_⟩
 have hm:(s.es[i].id,s.es[i].r)∈L:=by rw [←hok.rows];exact List.mem_map.2 ⟨_,List.getElem_mem hi,rfl⟩
 obtain ⟨-, -, -,h2⟩:=hok.row _ hm
 obtain ⟨h3, -⟩:=h2 x hx
 rcases okV_cases h3 with ⟨-, -,h⟩ | ⟨-,h⟩ | ⟨-, -, -,h⟩
 · rw [h];exact Nat.zero_le _
 · rw [h];exact Nat.zero_le _
 · unfold maxLen;omega
theorem St.star_of {w0 w:World} {fp0:List Nat} {L R:List Asn} (h:St w0 fp0 (L++R) w):∃f,Star w L f:=by
 obtain ⟨fp,hs, -⟩:=h
 obtain ⟨f,g,h1, -⟩:=Star.append hs
 exact ⟨f,h1⟩
set_option maxHeartbeats 4000000 in
theorem SGet_calls (S cols:Nat) (I:List (List Int)) (L:LL) (next id:Int) (w0 w:World) (fp0:List Nat) (R:List Asn) (hc:cols≤1000000) (hS:St w0 fp0 (storeA S cols I L next::R) w):
 Calls Tryz.prog 54 #[ptrV S, .int .i64 id] w fun e w'=> ∃v,e=.returned (.tuple #[v, .bool (getL L id).isSome])∧St w0 fp0 (rowA 68 3 v ((getL L id).getD []).length (flat ((getL L id).getD []))::storeA S cols I L next::R) w':=by
 obtain ⟨s,hok,hs⟩:=hS.openS
 obtain ⟨_,hb⟩:=hs.has 0 rfl
 have c1:=(blk_get hb).1 1
 have hbl:=(blk_get hb).2.2
 simp only [List.getElem?_toArray,List.getElem?_cons_zero,List.getElem?_cons_succ] at c1
 have hG:=Get_calls (o:=16) (by omega) s.h (reM s.es) s.tb (.int id) trivial (okR s.es) w0 w fp0 _ (show St w0 fp0 (objA false 16 s.h (reM s.es) s.tb::blkA S 113 #[.int .i64 s.cols,ptrV s.tb, .int .i64 s.next,s.iv]::rowA 152 2 s.iv s.ixs.length (ixV s.ixs)::(s.es.map reA++s.ixs.map ixA)++R) w from hs.perm (List.Perm.swap _ _ _))
 rw [getM_reM] at hG
 have hL:getL L id=(s.es.find? fun e=> e.id==id).map (·.r):=by rw [←hok.rows,find_reL]
 rw [hL]
 obtain ⟨o,ho⟩:∃o,s.es.find? (fun e=> e.id==id)=o:=⟨_,rfl⟩
 rw [ho] at hG ⊢
 simp only [Option.isSome_map] at hG ⊢
 have HM:RowKit.Hid (∀e,o=some e→e∈s.es∧(e.id,e.r)∈L):=fun e he=> by
  have h1:=List.mem_of_find?_eq_some (ho.trans he)
  exact ⟨h1,by rw [←hok.rows];exact List.mem_map.2 ⟨_,h1,rfl⟩⟩
 have HG:=Lib.hid hG
 have HOK:=Lib.hid hok
 clear hS hs hb hG hok ho hL
 obtain ⟨vv,hvv⟩:∃vv,encV ((o.map (·.va)).getD (va0 false))=vv:=⟨_,rfl⟩
 have HVV:=Lib.hid hvv
 dsimp only [fGet,encK] at HG
 rw [hvv] at HG
 clear hvv
 obtain ⟨rr,hrr⟩:∃rr,(o.map (·.r)).getD []=rr:=⟨_,rfl⟩
 have HRR:=Lib.hid hrr
 rw [hrr]
 clear hrr
 obtain ⟨q,hq⟩:∃q,o.isSome=q:=⟨_,rfl⟩
 rw [hq] at HG ⊢
 clear hq
 unfold ptrV at *
 go_enter Tryz.func54,Tryz.ntmps54
 go_wp2_with fail
 (with_reducible refine HG.out.mono ?_)
 rintro e w1 ⟨rfl,h1⟩
 have h2:St w0 fp0 (stoL S s++R) w1:=h1.perm (List.Perm.swap _ _ _)
 have hv:ValsAt w1 rr vv:=by
  obtain ⟨f,hf⟩:=h2.star_of
  cases o with
  | none=>
   have e1:vv=.slice none 0 0:=HVV.out.symm
   have e2:rr=[]:=HRR.out.symm
   rw [e1,e2]
   exact ValsX.nil _ _ _ _
  | some e=>
   have e1:vv=encV e.va:=HVV.out.symm
   have e2:rr=e.r:=HRR.out.symm
   rw [e1,e2]
   exact re_at HOK.out hf (HM.out e rfl).1
 have hlen:rr.length≤1000000:=by
  cases o with
  | none=> rw [show rr=[] from HRR.out.symm];simp
  | some e=>
   rw [show rr=e.r from HRR.out.symm,(HOK.out.row _ (HM.out e rfl).2).2.2.1]
   exact hc
 have HC:=Lib.hid (cloneW (flat rr) rr.length vv w1 hv.1 (one_flat _) (by omega))
 have H2:=Lib.hid h2
 clear h1 h2 hv hlen HG
 go_wp2_with fail
 (with_reducible refine HC.out.mono ?_)
 rintro e w2 ⟨v',f',rfl,h3,h4,h5⟩
 have H3:RowKit.Hid (St w0 fp0 (rowA 68 3 v' rr.length (flat rr)::storeA S cols I L next::R) w2):=by
  have h6:=St.shutS HOK.out (H2.out.mono h4)
  have h7:St w0 fp0 ((stoL S s++R)++[rowA 68 3 v' rr.length (flat rr)]) w2:=H2.out.add h4 h3 h5
  have h8:St w0 fp0 (stoL S s++(rowA 68 3 v' rr.length (flat rr)::R)) w2:=h7.perm (by
   rw [List.append_assoc]
   exact List.Perm.append_left _ List.perm_append_comm)
  exact (St.shutS HOK.out h8).perm (List.Perm.swap _ _ _)
 clear h3 h4 h5 HC H2
 go_wp2
 refine bodyPost_ret (v:=.tuple #[v', .bool q]) (by simp [results,Tryz.results54,go_sem]) rfl ?_
 exact ⟨_,rfl,H3.out⟩
/- The drawn regions of Delete and Put. -/
set_option maxRecDepth 100000
noncomputable def gSd7 (vb kb:Nat) (cv rv:Value) (kk:ByteArray) (id:Int) (O O2:Asn):=rgx Tryz.prog Tryz.f51 7 42 [30,31,32,33,34,35,36,37,38,39] [(1, .int .i64 id),(6,rv),(9,pV vb 0)] (Vq 0 30 [Kp vb 1,Kp kb 0,Kv rv,Kp vb 0,Kv cv,Kv (.string kk),Kv (.int .i64 id),Kv (.string (textOf (numL id))),Kv (.string (kk++textOf (numL id)))]) [.gen [9] [] fun L _g=> match L 9 with | true=> O2 | false=> O,Bk vb (152) [cv,pV kb 0]]
theorem rSd7 (vb kb:Nat) (cv rv:Value) (kk:ByteArray) (id:Int) (O O2:Asn) (w0:World) (fp0:List Nat) (R:List Asn) (hkey:∀(L:List Asn) (w:World),St w0 fp0 (L++R) w→Calls Tryz.prog 85 #[rv,cv] w fun e w2=> e=.returned (.string kk)∧Below w.heap.size w w2) (hn:I64 id) (hl:kk.size < 1000000000000) (hdel:∀(L:List Asn) (w:World),St w0 fp0 (O::L) w→Calls Tryz.prog 84 #[.pointer (some ⟨kb,0,none⟩), .string (kk++textOf (numL id))] w fun e w2=> (∃v,e=.returned v)∧St w0 fp0 (O2::L) w2) {w:World} {c:Code} {a:Act} {Q:Exit→Act→World→Prop} (c1:isReg c=true) (c2:cops c=opsR Tryz.f51 7) (c3:a.tmps.size=42) (_c4:a.defers=a.defers) (i1:a.eval (.tmp 1)=.int .i64 id) (i6:a.eval (.tmp 6)=rv) (i9:a.eval (.tmp 9)=.pointer (some ⟨vb,0,none⟩))
 (hS:St w0 fp0 ([O,blkA vb (152) #[cv, .pointer (some ⟨kb,0,none⟩)]]++R) w)
 (hQ:∀(u39:Value) (w1:World),St w0 fp0 ([O2,blkA vb (152) #[cv, .pointer (some ⟨kb,0,none⟩)]]++R) w1→Q .normal (putL a [(30, .pointer (some ⟨vb,1,none⟩)),(31, .pointer (some ⟨kb,0,none⟩)),(32,rv),(33, .pointer (some ⟨vb,0,none⟩)),(34,cv),(35, .string kk),(36, .int .i64 id),(37, .string (textOf (numL id))),(38, .string (kk++textOf (numL id))),(39,u39)]) w1):c.wp Tryz.prog Q a w:=by
 have ok:(gSd7 vb kb cv rv kk id O O2 w0 fp0 R).Ok 10:=Rg.ok _ 10 [1,4,5,7,8,9] ⟨.load _ 1 1 1, .load _ 4 1 0, .callG _ 5 (fun _=> [O,blkA vb 152 #[cv, .pointer (some ⟨kb,0,none⟩)]]) (fun _ _=> [O,blkA vb 152 #[cv, .pointer (some ⟨kb,0,none⟩)]]) (fun g w h=> (hkey _ _ h).mono fun e w2 ⟨e1,hb⟩=> ⟨_,e1,rfl,h.mono hb⟩), .callG _ 7 (fun _=> [O,blkA vb 152 #[cv, .pointer (some ⟨kb,0,none⟩)]]) (fun _ _=> [O,blkA vb 152 #[cv, .pointer (some ⟨kb,0,none⟩)]]) (fun g w h=> (number_calls id hn w).mono fun e w2 ⟨e1,hb⟩=> ⟨_,e1,rfl,h.mono hb⟩), .cat _ 8 kk (textOf (numL id)) (by rw [num_size];omega), .callG _ 9 (fun _=> [O,blkA vb 152 #[cv, .pointer (some ⟨kb,0,none⟩)]]) (fun _ _=> [O2,blkA vb 152 #[cv, .pointer (some ⟨kb,0,none⟩)]]) (fun g w h=> (hdel _ _ h).mono fun e w2 ⟨⟨v,e1⟩,h2⟩=> ⟨v,e1,rfl,h2⟩),trivial⟩
 refine wp_regD ok (by kernel_rfl) ⟨c1,c2⟩ ⟨c3,fun p hp=> ?_⟩ hS fun A1 w1 N1 H1=> ?_
 · simp only [gSd7,rgx,List.map_nil,List.append_nil,List.mem_cons,List.not_mem_nil,or_false] at hp
   rcases hp with rfl | rfl | rfl
   · exact i1
   · exact i6
   · exact i9
 have e30:=N1.val 0 rfl
 have e31:=N1.val 1 rfl
 have e32:=N1.val 2 rfl
 have e33:=N1.val 3 rfl
 have e34:=N1.val 4 rfl
 have e35:=N1.val 5 rfl
 have e36:=N1.val 6 rfl
 have e37:=N1.val 7 rfl
 have e38:=N1.val 8 rfl
 have h:=hQ (slots A1 39) w1  H1
 rw [frame_eq N1.frame (cons_eq e30 (cons_eq e31 (cons_eq e32 (cons_eq e33 (cons_eq e34 (cons_eq e35 (cons_eq e36 (cons_eq e37 (cons_eq e38 (cons_eq rfl rfl))))))))))]
 exact h
noncomputable def gSp9 (vb kb:Nat) (cv rv:Value) (kk:ByteArray) (id:Int) (O O2:Asn):=rgx Tryz.prog Tryz.f52 9 64 [42,43,44,45,46,47,48,49,50,51,52] [(1, .int .i64 id),(2,rv),(8,pV vb 0)] (Vq 0 42 [Kp vb 1,Kp kb 0,Kv rv,Kp vb 0,Kv cv,Kv (.string kk),Kv (.int .i64 id),Kv (.string (textOf (numL id))),Kv (.string (kk++textOf (numL id))),Kv (.int .i64 id)]) [.gen [10] [] fun L _g=> match L 10 with | true=> O2 | false=> O,Bk vb (152) [cv,pV kb 0]]
theorem rSp9 (vb kb:Nat) (cv rv:Value) (kk:ByteArray) (id:Int) (O O2:Asn) (w0:World) (fp0:List Nat) (R:List Asn) (hkey:∀(L:List Asn) (w:World),St w0 fp0 (L++R) w→Calls Tryz.prog 85 #[rv,cv] w fun e w2=> e=.returned (.string kk)∧Below w.heap.size w w2) (hn:I64 id) (hl:kk.size < 1000000000000) (hdel:∀(L:List Asn) (w:World),St w0 fp0 (O::L) w→Calls Tryz.prog 89 #[.pointer (some ⟨kb,0,none⟩), .string (kk++textOf (numL id)), .int .i64 id] w fun e w2=> (∃v,e=.returned v)∧St w0 fp0 (O2::L) w2) {w:World} {c:Code} {a:Act} {Q:Exit→Act→World→Prop} (c1:isReg c=true) (c2:cops c=opsR Tryz.f52 9) (c3:a.tmps.size=64) (_c4:a.defers=a.defers) (i1:a.eval (.tmp 1)=.int .i64 id) (i2:a.eval (.tmp 2)=rv) (i8:a.eval (.tmp 8)=.pointer (some ⟨vb,0,none⟩))
 (hS:St w0 fp0 ([O,blkA vb (152) #[cv, .pointer (some ⟨kb,0,none⟩)]]++R) w)
 (hQ:∀(u52:Value) (w1:World),St w0 fp0 ([O2,blkA vb (152) #[cv, .pointer (some ⟨kb,0,none⟩)]]++R) w1→Q .normal (putL a [(42, .pointer (some ⟨vb,1,none⟩)),(43, .pointer (some ⟨kb,0,none⟩)),(44,rv),(45, .pointer (some ⟨vb,0,none⟩)),(46,cv),(47, .string kk),(48, .int .i64 id),(49, .string (textOf (numL id))),(50, .string (kk++textOf (numL id))),(51, .int .i64 id),(52,u52)]) w1):c.wp Tryz.prog Q a w:=by
 have ok:(gSp9 vb kb cv rv kk id O O2 w0 fp0 R).Ok 11:=Rg.ok _ 11 [1,4,5,7,8,10] ⟨.load _ 1 1 1, .load _ 4 1 0, .callG _ 5 (fun _=> [O,blkA vb 152 #[cv, .pointer (some ⟨kb,0,none⟩)]]) (fun _ _=> [O,blkA vb 152 #[cv, .pointer (some ⟨kb,0,none⟩)]]) (fun g w h=> (hkey _ _ h).mono fun e w2 ⟨e1,hb⟩=> ⟨_,e1,rfl,h.mono hb⟩), .callG _ 7 (fun _=> [O,blkA vb 152 #[cv, .pointer (some ⟨kb,0,none⟩)]]) (fun _ _=> [O,blkA vb 152 #[cv, .pointer (some ⟨kb,0,none⟩)]]) (fun g w h=> (number_calls id hn w).mono fun e w2 ⟨e1,hb⟩=> ⟨_,e1,rfl,h.mono hb⟩), .cat _ 8 kk (textOf (numL id)) (by rw [num_size];omega), .callG _ 10 (fun _=> [O,blkA vb 152 #[cv, .pointer (some ⟨kb,0,none⟩)]]) (fun _ _=> [O2,blkA vb 152 #[cv, .pointer (some ⟨kb,0,none⟩)]]) (fun g w h=> (hdel _ _ h).mono fun e w2 ⟨⟨v,e1⟩,h2⟩=> ⟨v,e1,rfl,h2⟩),trivial⟩
 refine wp_regD ok (by kernel_rfl) ⟨c1,c2⟩ ⟨c3,fun p hp=> ?_⟩ hS fun A1 w1 N1 H1=> ?_
 · simp only [gSp9,rgx,List.map_nil,List.append_nil,List.mem_cons,List.not_mem_nil,or_false] at hp
   rcases hp with rfl | rfl | rfl
   · exact i1
   · exact i2
   · exact i8
 have e42:=N1.val 0 rfl
 have e43:=N1.val 1 rfl
 have e44:=N1.val 2 rfl
 have e45:=N1.val 3 rfl
 have e46:=N1.val 4 rfl
 have e47:=N1.val 5 rfl
 have e48:=N1.val 6 rfl
 have e49:=N1.val 7 rfl
 have e50:=N1.val 8 rfl
 have e51:=N1.val 9 rfl
 have h:=hQ (slots A1 52) w1  H1
 rw [frame_eq N1.frame (cons_eq e42 (cons_eq e43 (cons_eq e44 (cons_eq e45 (cons_eq e46 (cons_eq e47 (cons_eq e48 (cons_eq e49 (cons_eq e50 (cons_eq e51 (cons_eq rfl rfl)))))))))))]
 exact h
end Go.Proofs.YtpdlkdoogojboaaGreat
/- The store: Delete. -/
namespace Go.Proofs.YtpdlkdoogojboaaGreat
open Go Go.RowKit
theorem St.exI {α:Type} {w0 w:World} {fp0:List Nat} {L:List Asn} {F:α→Asn} (a:α) (h:St w0 fp0 (F a::L) w):St w0 fp0 (exA F::L) w:=
 St.fold (L1:=[F a]) h fun f hf=> ⟨a,by
  obtain ⟨f1,g1,h1,h2,_,rfl⟩:=hf
  rw [show g1=[] from h2,List.append_nil]
  exact h1⟩
theorem St.exE {α:Type} {w0 w:World} {fp0:List Nat} {L:List Asn} {F:α→Asn} (h:St w0 fp0 (exA F::L) w):∃a,St w0 fp0 (F a::L) w:=by
 obtain ⟨a,ha⟩:=h.unfold (L1:=fun a=> [F a]) fun f ⟨a,ha⟩=> ⟨a,f,[],ha,rfl,by simp,by simp⟩
 exact ⟨a,ha⟩
theorem obj_asc {β:Bool} {w0 w:World} {fp0:List Nat} {R:List Asn} {o h tb:Nat} {l:MM} (hs:St w0 fp0 (objA β o h l tb::R) w):AscM l:=by
 obtain ⟨x,rb,⟨_,g2,g3⟩,_⟩:=hs.openOT
 rw [←g3]
 exact g2
/-- An index after a change of its entries. -/
structure UpIx (f:List Int→MM→MM) (x y:Ix):Prop where
 cv:y.cv=x.cv
 cs:y.cs=x.cs
 kb:y.kb=x.kb
 km:y.km=f x.cs x.km
/-- The indexes of which the first ones have been changed. -/
inductive UpTo (f:List Int→MM→MM):List Ix→List Ix→Prop
 | nil:UpTo f [] []
 | cons {x y:Ix} {xs ys:List Ix}:UpIx f x y→UpTo f xs ys→UpTo f (x::xs) (y::ys)
theorem upTo_V {f:List Int→MM→MM} {xs ys:List Ix} (h:UpTo f xs ys):ixV ys=ixV xs∧ys.length=xs.length:=by
 induction h with
 | nil=> exact ⟨rfl,rfl⟩
 | cons h1 h2 ih=>
  simp only [ixV,List.flatMap_cons] at ih ⊢
  exact ⟨by rw [h1.cv,h1.kb,ih.1],by simp [ih.2]⟩
theorem upTo_cs {f:List Int→MM→MM} {xs ys:List Ix} (h:UpTo f xs ys):ys.map (·.cs)=xs.map (·.cs):=by
 induction h with
 | nil=> rfl
 | cons h1 h2 ih=> rw [List.map_cons,List.map_cons,h1.cs,ih]
theorem upTo_mem {f:List Int→MM→MM} {xs ys:List Ix} (h:UpTo f xs ys) {y:Ix} (hy:y∈ys):∃x∈xs,UpIx f x y:=by
 induction h with
 | nil=> cases hy
 | cons h1 h2 ih=>
  rcases List.mem_cons.1 hy with rfl | hy
  · exact ⟨_,by simp,h1⟩
  · obtain ⟨x,hx,h3⟩:=ih hy
    exact ⟨x,by simp [hx],h3⟩
theorem upTo_snoc {f:List Int→MM→MM} {xs ys:List Ix} (h:UpTo f xs ys) {x y:Ix} (h1:UpIx f x y):UpTo f (xs++[x]) (ys++[y]):=by
 induction h with
 | nil=> exact .cons h1 .nil
 | cons h2 _ ih=> exact .cons h2 ih
/-- The store's pieces with one index in front. -/
def stoH (S:Nat) (s:Sto) (n:Nat) (V:List Value) (ys:List Ix) (rest:List Ix):List Asn:=
 blkA S 113 #[.int .i64 s.cols,ptrV s.tb, .int .i64 s.next,s.iv]::objA false 16 s.h (reM s.es) s.tb::rowA 152 2 s.iv n V::(s.es.map reA++(ys.map ixA++rest.map ixA))
theorem stoH_open {w0 w:World} {fp0:List Nat} {R:List Asn} {S:Nat} {s:Sto} {n:Nat} {V:List Value} {ys rest:List Ix} {x:Ix} (h:St w0 fp0 (stoH S s n V ys (x::rest)++R) w):St w0 fp0 (objA true 16 x.kh x.km x.kb::(slA 3 x.cv (x.cs.map intC)::(stoH S s n V ys rest++R))) w:=by
 have h1:St w0 fp0 (ixA x::(stoH S s n V ys rest++R)) w:=by
  refine h.perm ?_
  unfold stoH
  simp only [List.map_cons,List.cons_append,List.append_assoc]
  refine List.Perm.trans ?_ (List.perm_middle (l₁:=[blkA S 113 #[.int .i64 s.cols,ptrV s.tb, .int .i64 s.next,s.iv],objA false 16 s.h (reM s.es) s.tb,rowA 152 2 s.iv n V]))
  refine List.Perm.cons _ (List.Perm.cons _ (List.Perm.cons _ ?_))
  refine List.Perm.trans (List.Perm.append_left _ List.perm_middle) List.perm_middle
 have h2:=St.star.1 h1
 exact h2.perm (List.Perm.swap _ _ _)
theorem stoH_shut {w0 w:World} {fp0:List Nat} {R:List Asn} {S:Nat} {s:Sto} {n:Nat} {V:List Value} {ys rest:List Ix} {y:Ix} (h:St w0 fp0 (objA true 16 y.kh y.km y.kb::(slA 3 y.cv (y.cs.map intC)::(stoH S s n V ys rest++R))) w):St w0 fp0 (stoH S s n V (ys++[y]) rest++R) w:=by
 have h1:St w0 fp0 (ixA y::(stoH S s n V ys rest++R)) w:=St.star.2 (h.perm (List.Perm.swap _ _ _))
 refine h1.perm ?_
 unfold stoH
 simp only [List.map_append,List.map_cons,List.map_nil,List.cons_append,List.append_assoc,List.nil_append]
 refine List.Perm.trans (List.perm_middle (l₁:=[blkA S 113 #[.int .i64 s.cols,ptrV s.tb, .int .i64 s.next,s.iv],objA false 16 s.h (reM s.es) s.tb,rowA 152 2 s.iv n V])).symm ?_
 refine List.Perm.cons _ (List.Perm.cons _ (List.Perm.cons _ ?_))
 refine List.Perm.trans List.perm_middle.symm (List.Perm.append_left _ List.perm_middle.symm)
theorem row_sl {w:World} {t:TypeId} {size n:Nat} {xs:List Value} {v:Value} {f:List Nat} (h:(rowA t size v n xs).p w f) (hl:xs.length=n * size):SlX [] w size n xs v:=SlX.of_row h hl (by simp)
theorem intsX_of {w:World} {l:List Int} {v:Value} {f:List Nat} (h:(slA 3 v (l.map intC)).p w f):IntsX [] w l v:=by
 have:=SlX.of_sl (X:=[]) h (by simp)
 rw [List.length_map] at this
 exact this
theorem St.hasM {w0 w:World} {fp0:List Nat} {L:List Asn} (h:St w0 fp0 L w) {A:Asn} (hA:A∈L):∃f,A.p w f:=by
 obtain ⟨i,hi⟩:=List.getElem?_of_mem hA
 exact h.has i hi
/-- What Delete does with an index. -/
def delK (id:Int) (r:Rw) (cs:List Int) (km:MM):MM:=delM km (.str (ixKey id r cs))
theorem RowOk.s {cols:Nat} {r:Rw} (h:RowOk cols r):RowS r:=fun v hv=> by
 obtain ⟨h1,h2⟩:=h.2 v hv
 refine ⟨h2,?_⟩
 rcases okV_cases h1 with ⟨-, -,h⟩ | ⟨-,h⟩ | ⟨-, -, -,h⟩
 · rw [h];exact Nat.zero_le _
 · rw [h];exact Nat.zero_le _
 · omega
theorem Sto.Ok.i64 {s:Sto} {cols:Nat} {I:List (List Int)} {L:LL} {next:Int} (h:s.Ok cols I L next):∀x∈L,I64 x.1:=AscI.i64 h.nx.2 fun x hx=> ⟨(h.row x hx).1,(h.row x hx).2.1⟩
theorem Sto.Ok.del {s:Sto} {cols:Nat} {I:List (List Int)} {L:LL} {next:Int} (h:s.Ok cols I L next) {A B:List Re} {e:Re} (he:s.es=A++e::B) (hA:∀a∈A,a.id < e.id) (hB:∀b∈B,e.id < b.id) {ys:List Ix} (hu:UpTo (delK e.id e.r) s.ixs ys) (hy:∀y∈ys,AscM y.km) (h':Nat):
 ({ s with h:=h',es:=A++B,ixs:=ys }:Sto).Ok cols I (delL e.id L) next:=by
 have hL:L=reL A++(e.id,e.r)::reL B:=by rw [←h.rows,he,reL_append,reL_cons]
 have hm:(e.id,e.r)∈L:=by rw [hL];simp
 refine ⟨(upTo_cs hu).trans h.eixs,h.ecols,h.enext,?_,asc_delL h.asc _,h.nx,fun x hx=> h.row x (mem_delL.1 hx).1,fun y hy'=> ?_⟩
 · rw [hL,delL_split1 (reL_lt hA) (reL_gt hB) rfl]
   exact reL_append A B
 · obtain ⟨x,hx,h1⟩:=upTo_mem hu hy'
   obtain ⟨p1,p2,p3,p4,p5⟩:=h.ixs x hx
   refine ⟨by rw [h1.cs];exact p1,by rw [h1.cs];exact p2,by rw [h1.cs];exact p3,?_,hy y hy'⟩
   rw [h1.cs,h1.km]
   exact p4.del h.asc p5 h.i64 hm
set_option maxHeartbeats 4000000 in
set_option maxRecDepth 20000 in
theorem SDelete_calls (S cols:Nat) (I:List (List Int)) (L:LL) (next id:Int) (hid:I64 id) (_hc:cols≤1000000) (hlen:L.length < 1099511627775) (w0 w:World) (fp0:List Nat) (R:List Asn) (hS:St w0 fp0 (storeA S cols I L next::R) w):
 Calls Tryz.prog 51 #[ptrV S, .int .i64 id] w fun e w'=> ∃v,e=.returned (.tuple #[v, .bool (getL L id).isSome])∧St w0 fp0 (rowA 68 3 v ((getL L id).getD []).length (flat ((getL L id).getD []))::storeA S cols I (delL id L) next::R) w':=by
 obtain ⟨s,hok,hs⟩:=hS.openS
 obtain ⟨_,hb⟩:=hs.has 0 rfl
 have c1:=(blk_get hb).1 1
 have hbl:=(blk_get hb).2.2
 simp only [List.getElem?_toArray,List.getElem?_cons_zero,List.getElem?_cons_succ] at c1
 have hes:(reM s.es).length=L.length:=by rw [←hok.rows];simp [reM,reL]
 have hD:=Delete_calls (β:=false) (o:=16) (by omega) (by omega) s.h (reM s.es) s.tb (.int id) trivial (okR s.es) w0 w fp0 _ (by omega) (show St w0 fp0 (objA false 16 s.h (reM s.es) s.tb::blkA S 113 #[.int .i64 s.cols,ptrV s.tb, .int .i64 s.next,s.iv]::rowA 152 2 s.iv s.ixs.length (ixV s.ixs)::(s.es.map reA++s.ixs.map ixA)++R) w from hs.perm (List.Perm.swap _ _ _))
 have hasc:=reL_asc (es:=s.es) (by rw [hok.rows];exact hok.asc)
 rcases split_id (fun e:Re=> e.id) s.es hasc id with ⟨A,e,B,he,rfl,hA,hB⟩ | ⟨A,B,he,hA,hB⟩
 · have hL:L=reL A++(e.id,e.r)::reL B:=by rw [←hok.rows,he,reL_append,reL_cons]
   have hg:getL L e.id=some e.r:=by rw [hL,getL_split1 (reL_lt hA) rfl]
   have hm:(e.id,e.r)∈L:=by rw [hL];simp
   have hgM:getM (reM s.es) (.int e.id)=some e.va:=by rw [he,reM_append,reM_cons];exact getM_here (reM_lt hA) rfl
   have hdM:delM (reM s.es) (.int e.id)=reM (A++B):=by rw [he,reM_append,reM_cons,delM_here (reM_lt hA) rfl,←reM_append]
   rw [hgM,hdM] at hD
   rw [hg]
   dsimp only [Option.getD_some,Option.isSome_some,fDelete,encK] at hD ⊢
   have hro:=hok.row _ hm
   have HKEY:RowKit.Hid (∀(x:Ix),x∈s.ixs→∀(w:World),ValsAt w e.r (encV e.va)→IntsX [] w x.cs x.cv→Calls Tryz.prog 85 #[encV e.va,x.cv] w fun e' w'=> e'=.returned (.string (textOf (keyL e.r x.cs)))∧Below w.heap.size w w'):=
    fun x hx w h1 h2=> key_calls e.r x.cs _ _ hro.2.2.s (by have:=(hok.ixs x hx).2.1;omega) w h1 h2
   have HDEL:RowKit.Hid (∀(x:Ix),x∈s.ixs→∀(L':List Asn) (w:World),St w0 fp0 (objA true 16 x.kh x.km x.kb::L') w→Calls Tryz.prog 84 #[.pointer (some ⟨x.kb,0,none⟩), .string (textOf (keyL e.r x.cs)++textOf (numL e.id))] w fun e' w2=> (∃v,e'=.returned v)∧St w0 fp0 (exA (fun h'=> objA true 16 h' (delK e.id e.r x.cs x.km) x.kb)::L') w2):=by
    intro x hx L' w h
    have hk:=(hok.ixs x hx).2.2.2.1
    have h1:=Delete_calls (β:=true) (o:=16) (by omega) (by omega) x.kh x.km x.kb (.str (ixKey e.id e.r x.cs)) trivial (okK hk) w0 w fp0 L' (by rw [hk.len];omega) h
    rw [textOf_append]
    exact h1.mono fun e' w2 ⟨h2,h',h3⟩=> ⟨⟨_,h2⟩,h3.exI h'⟩
   have HKL:RowKit.Hid (∀x∈s.ixs,(textOf (keyL e.r x.cs)).size < 1000000000000):=fun x hx=> by
    rw [text_size]
    have h1:(keyL e.r x.cs).length≤x.cs.length * 2097161:=keyL_len hro.2.2.s x.cs
    have h2:=(hok.ixs x hx).2.1
    have:x.cs.length * 2097161≤1000 * 2097161:=Nat.mul_le_mul_right _ h2
    omega
   have HVAL:RowKit.Hid (∀(w:World) (f:List Nat),(reA e).p w f→ValsAt w e.r (encV e.va)):=fun w f hf=> ⟨row_sl hf (length_flat _),fun v hv=> by have:=(hro.2.2.s v hv).2;unfold maxLen;omega⟩
   have HFIN:RowKit.Hid (∀ys h' w',UpTo (delK e.id e.r) s.ixs ys→St w0 fp0 (stoH S { s with h:=h',es:=A++B } s.ixs.length (ixV s.ixs) ys []++(reA e::R)) w'→St w0 fp0 (rowA 68 3 (encV e.va) e.r.length (flat e.r)::storeA S cols I (delL e.id L) next::R) w'):=by
    intro ys h' w' hu h
    have hv:=upTo_V hu
    have h2:St w0 fp0 (stoL S { s with h:=h',es:=A++B,ixs:=ys }++(reA e::R)) w':=by
     unfold stoL
     rw [hv.1,hv.2]
     simp only [stoH,List.map_nil,List.append_nil] at h
     exact h
    refine (St.shutS (hok.del he hA hB hu (fun y hy=> ?_) h') h2).perm (List.Perm.swap _ _ _)
    obtain ⟨A2,B2,rfl⟩:=List.append_of_mem hy
    have h3:St w0 fp0 (ixA y::(blkA S 113 #[.int .i64 s.cols,ptrV s.tb, .int .i64 s.next,s.iv]::objA false 16 h' (reM (A++B)) s.tb::rowA 152 2 s.iv (A2++y::B2).length (ixV (A2++y::B2))::((A++B).map reA++(A2.map ixA++(B2.map ixA++(reA e::R)))))) w':=by
     refine h2.perm ?_
     classical
     exact List.perm_iff_count.2 fun a=> by simp only [stoL,List.map_append,List.map_cons,List.cons_append,List.count_append,List.count_cons];omega
    have h4:=(St.star.1 h3).perm (List.Perm.swap _ _ _)
    exact obj_asc h4
   have HH0:RowKit.Hid (∀h' w',St w0 fp0 (objA false 16 h' (reM (A++B)) s.tb::blkA S 113 #[.int .i64 s.cols,ptrV s.tb, .int .i64 s.next,s.iv]::rowA 152 2 s.iv s.ixs.length (ixV s.ixs)::(s.es.map reA++s.ixs.map ixA)++R) w'→St w0 fp0 (stoH S { s with h:=h',es:=A++B } s.ixs.length (ixV s.ixs) [] (s.ixs.drop 0)++(reA e::R)) w'):=by
    intro h' w' h
    refine h.perm ?_
    rw [he]
    classical
    exact List.perm_iff_count.2 fun a=> by simp only [stoH,List.map_append,List.map_cons,List.map_nil,List.cons_append,List.count_append,List.count_cons,List.count_nil,List.drop_zero];omega
   have hix:∀x∈s.ixs,x∈s.ixs:=fun x hx=> hx
   obtain ⟨sc,snx,sh,stb,siv,ses,sixs⟩:=s
   obtain ⟨eid,eva,er⟩:=e
   simp only at *
   obtain ⟨RE,hRE⟩:∃RE,reA ⟨eid,eva,er⟩=RE:=⟨_,rfl⟩
   rw [hRE] at HVAL HFIN HH0
   clear hRE
   obtain ⟨rv,hrv⟩:∃rv,encV eva=rv:=⟨_,rfl⟩
   rw [hrv] at HVAL HFIN HKEY hD
   clear hrv
   have HD:=Lib.hid hD
   obtain ⟨n,hn⟩:∃n,sixs.length=n:=⟨_,rfl⟩
   have HN:=Lib.hid hn
   rw [hn] at HFIN HH0
   obtain ⟨V,hV⟩:∃V,ixV sixs=V:=⟨_,rfl⟩
   have HV:=Lib.hid hV
   rw [hV] at HFIN HH0
   have HID:=Lib.hid hid
   clear hS hs hb hD hok hL hg hm hgM hdM hro hasc he hA hB hn hV _hc hlen hes hix hid
   unfold ptrV at *
   go_enter Tryz.func51,Tryz.ntmps51
   go_wp2_with fail
   (with_reducible refine HD.out.mono ?_)
   rintro e w1 ⟨rfl,h',h1⟩
   have H1:RowKit.Hid (∃ys,UpTo (delK eid er) (sixs.take 0) ys∧St w0 fp0 (stoH S ⟨sc,snx,h',stb,siv,A++B,sixs⟩ n V ys (sixs.drop 0)++(RE::R)) w1):=by
    refine ⟨[],?_,HH0.out _ _ ?_⟩
    · rw [List.take_zero];exact .nil
    · rw [HN.out,HV.out] at h1
      exact h1
   obtain ⟨_,hb⟩:=h1.has 1 rfl
   have c3:=(blk_get hb).1 3
   have hbl:=(blk_get hb).2.2
   simp only [List.getElem?_toArray,List.getElem?_cons_zero,List.getElem?_cons_succ] at c3
   obtain ⟨_,hr⟩:=h1.has 2 rfl
   obtain ⟨ia,ic,rfl,hic,hicm, -⟩:=row_shape hr
   rw [HN.out] at hic c3 H1 HFIN
   have hn63:n≤9223372036854775807:=by unfold maxLen at hicm;omega
   clear h1 hb hr c1 hic hicm
   go_wp2
   go_loopg [26] n (fun g z wr=> ∃k:Nat,z=.int .i64 k∧g+k=n∧RowKit.Hid (∃ys,UpTo (delK eid er) (sixs.take k) ys∧St w0 fp0 (stoH S ⟨sc,snx,h',stb, .slice ia n ic,A++B,sixs⟩ n V ys (sixs.drop k)++(RE::R)) wr))
   case atStart=> exact ⟨0,rfl,by omega,H1⟩
   case round=>
    clear H1
    obtain ⟨k,rfl,hgk,Hs⟩:=hrel
    by_cases hk:k < n
    · obtain ⟨ys,hu,hst⟩:=Hs.out
      have hkl:k < sixs.length:=by rw [HN.out];exact hk
      have hdr:sixs.drop k=sixs[k]::sixs.drop (k+1):=List.drop_eq_getElem_cons hkl
      have htk:sixs.take (k+1)=sixs.take k++[sixs[k]]:=by rw [List.take_add_one,List.getElem?_eq_getElem hkl];rfl
      rw [hdr] at hst
      have hop:=stoH_open hst
      obtain ⟨_,hr⟩:=hop.has 4 rfl
      have hrow:=row_sl hr (by rw [←HV.out,ixV_len,HN.out])
      rw [←HV.out,←HN.out] at hrow
      obtain ⟨ib,io,ic',e4,q1,q2⟩:=ix_cells hrow k hkl
      obtain ⟨rfl, -,rfl⟩:=Value.slice.inj e4
      have HKEY2:=Lib.hid (HKEY.out sixs[k] (List.getElem_mem hkl))
      have HDEL2:=Lib.hid (HDEL.out sixs[k] (List.getElem_mem hkl))
      have HKL2:=Lib.hid (HKL.out sixs[k] (List.getElem_mem hkl))
      generalize sixs[k]=x at *
      obtain ⟨xcv,xcs,xkb,xkh,xkm⟩:=x
      obtain ⟨_,hsl⟩:=hop.has 1 rfl
      obtain ⟨xa,xn,xc,hxv⟩:=sl_shape hsl
      simp only at q1 q2 hsl hxv HKEY2 HDEL2 HKL2 hop
      subst hxv
      have HOP:=Lib.hid hop
      have HU:=Lib.hid hu
      have HTK:=Lib.hid htk
      have Hgk:=Lib.hid hgk
      have hql:=World.block_lt_of_cell? wr _ q1
      have hkn:(k:Int) < n:=by omega
      unfold ptrV at q2
      clear hu hst hkl hdr htk hop hr hrow e4 hsl hgk Hs
      go_upto_region 7 with (fail)
      refine rSd7 (w0:=w0) (fp0:=fp0) wr.heap.size xkb (.slice xa xn xc) rv (textOf (keyL er xcs)) eid (objA true 16 xkh xkm xkb) (exA fun h'=> objA true 16 h' (delK eid er xcs xkm) xkb) (slA 3 (.slice xa xn xc) (xcs.map intC)::(stoH S ⟨sc,snx,h',stb, .slice (some ⟨ib,io,none⟩) n ic,A++B,sixs⟩ n V ys (sixs.drop (k+1))++(RE::R))) ?_ HID.out HKL2.out HDEL2.out rfl (by kernel_rfl) rfl rfl rfl rfl rfl ?_ ?_
      · intro L' w' h
        obtain ⟨f1,h1⟩:=h.hasM (A:=slA 3 (.slice xa xn xc) (xcs.map intC)) (by simp)
        obtain ⟨f2,h2⟩:=h.hasM (A:=RE) (by simp)
        exact HKEY2.out w' (HVAL.out w' f2 h2) (intsX_of h1)
      · exact (HOP.out.newblk 152 #[.slice xa xn xc, .pointer (some ⟨xkb,0,none⟩)]).perm (List.Perm.swap _ _ _)
      · intro u39 w2 h
        have H2:RowKit.Hid (∃ys,UpTo (delK eid er) (sixs.take (k+1)) ys∧St w0 fp0 (stoH S ⟨sc,snx,h',stb, .slice (some ⟨ib,io,none⟩) n ic,A++B,sixs⟩ n V ys (sixs.drop (k+1))++(RE::R)) w2):=by
         obtain ⟨h2,h3⟩:=St.exE (show St w0 fp0 (exA (fun h'=> objA true 16 h' (delK eid er xcs xkm) xkb)::blkA wr.heap.size 152 #[.slice xa xn xc, .pointer (some ⟨xkb,0,none⟩)]::(slA 3 (.slice xa xn xc) (xcs.map intC)::(stoH S ⟨sc,snx,h',stb, .slice (some ⟨ib,io,none⟩) n ic,A++B,sixs⟩ n V ys (sixs.drop (k+1))++(RE::R)))) w2 from h)
         have h4:=(h3.perm (List.Perm.swap _ _ _)).drop
         refine ⟨ys++[⟨.slice xa xn xc,xcs,xkb,h2,delK eid er xcs xkm⟩],?_,stoH_shut (y:=⟨.slice xa xn xc,xcs,xkb,h2,delK eid er xcs xkm⟩) h4⟩
         rw [HTK.out]
         exact upTo_snoc HU.out ⟨rfl,rfl,rfl,rfl⟩
        clear h
        simp only [putL,List.foldl,Act.put,List.setIfInBounds_toArray,List.set_cons_succ,List.set_cons_zero]
        go_wp2
        go_roundg (gk - 1)
        case rel=> exact ⟨k+1,by go_num,by have:=Hgk.out;omega,H2⟩
        case measure=> have:=Hgk.out;omega
    · obtain rfl:k=n:=by omega
      have HF:RowKit.Hid (St w0 fp0 (rowA 68 3 rv er.length (flat er)::storeA S cols I (delL eid L) next::R) wr):=by
       obtain ⟨ys,hu,hst⟩:=Hs.out
       rw [List.drop_of_length_le (by rw [HN.out];exact Nat.le_refl _)] at hst
       rw [List.take_of_length_le (by rw [HN.out];exact Nat.le_refl _)] at hu
       exact HFIN.out ys h' wr hu hst
      clear hgk hk Hs
      go_wp2
      refine bodyPost_ret (v:=.tuple #[rv, .bool true]) (by simp [results,Tryz.results51,go_sem]) rfl ?_
      exact ⟨_,rfl,HF.out⟩
 · have hL:L=reL A++reL B:=by rw [←hok.rows,he,reL_append]
   have hg:getL L id=none:=by rw [hL,getL_split (reL_lt hA) (reL_gt hB)]
   have hd:delL id L=L:=by rw [hL,delL_split (reL_lt hA) (reL_gt hB)]
   have hgM:getM (reM s.es) (.int id)=none:=by rw [he,reM_append];exact getM_none (reM_lt hA) (reM_gt hB)
   have hdM:delM (reM s.es) (.int id)=reM s.es:=by rw [he,reM_append,delM_none (reM_lt hA) (reM_gt hB)]
   rw [hgM,hdM] at hD
   rw [hg,hd]
   dsimp only [Option.getD_none,Option.isSome_none,fDelete,encK,va0,encV] at hD ⊢
   have HFIN:RowKit.Hid (∀h' w',St w0 fp0 (objA false 16 h' (reM s.es) s.tb::blkA S 113 #[.int .i64 s.cols,ptrV s.tb, .int .i64 s.next,s.iv]::rowA 152 2 s.iv s.ixs.length (ixV s.ixs)::(s.es.map reA++s.ixs.map ixA)++R) w'→St w0 fp0 (rowA 68 3 (.slice none 0 0) 0 (flat [])::storeA S cols I L next::R) w'):=by
    intro h' w' h
    have hok2:({ s with h:=h' }:Sto).Ok cols I L next:=⟨hok.eixs,hok.ecols,hok.enext,hok.rows,hok.asc,hok.nx,hok.row,hok.ixs⟩
    have h2:St w0 fp0 (stoL S { s with h:=h' }++R) w':=h.perm (List.Perm.swap _ _ _)
    exact St.nilR 68 3 (St.shutS hok2 h2)
   have HD:=Lib.hid hD
   clear hS hs hb hD hok hL hg hd hgM hdM hasc he hA hB _hc hlen hes hid
   unfold ptrV at *
   go_enter Tryz.func51,Tryz.ntmps51
   go_wp2_with fail
   (with_reducible refine HD.out.mono ?_)
   rintro e w1 ⟨rfl,h',h1⟩
   have H1:=Lib.hid (HFIN.out h' w1 h1)
   clear h1 HD HFIN
   go_wp2
   refine bodyPost_ret (v:=.tuple #[.slice none 0 0, .bool false]) (by simp [results,Tryz.results51,go_sem]) rfl ?_
   exact ⟨_,rfl,H1.out⟩
/- The store: Put, Insert. -/
/-- Whether Put changes the store; its error; what the store contains then. -/
def putOk (cols:Nat) (id:Int) (r:Rw):Bool:=decide (1≤id∧id≤4611686018427387904) && storB cols r
def errV (q:Bool):Value:=.int .i64 (if q then 0 else 1)
def putLL (cols:Nat) (id:Int) (r:Rw) (L:LL):LL:=if putOk cols id r then putL' id r L else L
def putN (cols:Nat) (id:Int) (r:Rw) (next:Int):Int:=if putOk cols id r then max next (id+1) else next
def putK (id:Int) (r:Rw) (cs:List Int) (km:MM):MM:=putM km (.str (ixKey id r cs)) (.int id)
theorem storB_ok {cols:Nat} {r:Rw} (hi:∀v∈r,I64 v.int) (h:storB cols r=true):RowOk cols r:=by
 unfold storB at h
 simp only [Bool.and_eq_true,decide_eq_true_eq,List.all_eq_true] at h
 exact ⟨h.1,fun v hv=> ⟨h.2 v hv,hi v hv⟩⟩
theorem Sto.Ok.put {s:Sto} {cols:Nat} {I:List (List Int)} {L:LL} {next:Int} (h:s.Ok cols I L next) {A B:List Re} {id:Int} {va:Va} {r:Rw} (he:s.es=A++B) (hA:∀a∈A,a.id < id) (hB:∀b∈B,id < b.id) (h1:1≤id) (h2:id≤4611686018427387904) (hr:RowOk cols r)
 {ys:List Ix} (hu:UpTo (putK id r) s.ixs ys) (hy:∀y∈ys,AscM y.km) (h':Nat):
 ({ s with h:=h',es:=A++⟨id,va,r⟩::B,ixs:=ys,next:=max next (id+1) }:Sto).Ok cols I (putL' id r L) (max next (id+1)):=by
 have hL:L=reL A++reL B:=by rw [←h.rows,he,reL_append]
 have hn:∀x∈L,x.1≠id:=by
  intro x hx
  rw [hL] at hx
  rcases List.mem_append.1 hx with hx | hx
  · have:=reL_lt hA x hx;omega
  · have:=reL_gt hB x hx;omega
 have hid:I64 id:=by unfold I64;omega
 refine ⟨(upTo_cs hu).trans h.eixs,h.ecols,rfl,?_,asc_putL h.asc _ _,?_,fun x hx=> ?_,fun y hy'=> ?_⟩
 · rw [hL,putL_split (reL_lt hA) (reL_gt hB)]
   exact reL_append A _
 · have:=h.nx;omega
 · rcases mem_putL.1 hx with rfl | ⟨h3, -⟩
   · exact ⟨h1,by dsimp only;omega,hr⟩
   · obtain ⟨p1,p2,p3⟩:=h.row x h3
     exact ⟨p1,by omega,p3⟩
 · obtain ⟨x,hx,h3⟩:=upTo_mem hu hy'
   obtain ⟨p1,p2,p3,p4,p5⟩:=h.ixs x hx
   refine ⟨by rw [h3.cs];exact p1,by rw [h3.cs];exact p2,by rw [h3.cs];exact p3,?_,hy y hy'⟩
   rw [h3.cs,h3.km]
   exact p4.put h.asc p5 h.i64 hid r hn
theorem St.setB {w0 w:World} {fp0:List Nat} {R:List Asn} {b:Nat} {t:TypeId} {c:Array Value} (h:St w0 fp0 (blkA b t c::R) w) (i:Nat) (_hi:i < c.size) (v:Value):St w0 fp0 (blkA b t (c.setIfInBounds i v)::R) (w.setCell ⟨b,i,none⟩ v):=by
 obtain ⟨f,h1,h2⟩:=h.get 0 rfl
 obtain ⟨h3,h4⟩:=blk_set h1 i v
 exact h2 _ _ _ h3 h4
theorem ixAsc {w0 w:World} {fp0:List Nat} {R R1:List Asn} {ys:List Ix} (h:St w0 fp0 (R1++(ys.map ixA++R)) w):∀y∈ys,AscM y.km:=by
 intro y hy
 obtain ⟨A2,B2,rfl⟩:=List.append_of_mem hy
 have h3:St w0 fp0 (ixA y::(R1++(A2.map ixA++(B2.map ixA++R)))) w:=by
  refine h.perm ?_
  classical
  exact List.perm_iff_count.2 fun a=> by simp only [List.map_append,List.map_cons,List.count_append,List.count_cons];omega
 exact obj_asc ((St.star.1 h3).perm (List.Perm.swap _ _ _))
set_option maxHeartbeats 4000000 in
set_option maxRecDepth 20000 in
theorem SPut_calls (S cols:Nat) (I:List (List Int)) (L:LL) (next id:Int) (r:Rw) (v:Value) (hid:I64 id) (hri:∀v∈r,I64 v.int) (hc:cols≤1000000) (hlen:L.length < 1099511627775) (w0 w:World) (fp0:List Nat) (R:List Asn) (hv:Rd w0 fp0 R fun w=> ValsAt w r v) (hS:St w0 fp0 (storeA S cols I L next::R) w):
 Calls Tryz.prog 52 #[ptrV S, .int .i64 id,v] w fun e w'=> e=.returned (errV (putOk cols id r))∧St w0 fp0 (storeA S cols I (putLL cols id r L) (putN cols id r next)::R) w':=by
 have hvw:=hv.at (M:=[_]) hS
 obtain ⟨va,vn,vc,rfl, -⟩:=hvw.shape
 have hcell:w.cell? ⟨S,0,none⟩=some (.int .i64 cols):=by
  obtain ⟨s,hok,hs⟩:=hS.openS
  obtain ⟨_,hb⟩:=hs.has 0 rfl
  have c0:=(blk_get hb).1 0
  rw [←hok.ecols]
  exact c0
 have HST:=Lib.hid (storable_calls S cols r _ w hcell hvw)
 have HS:=Lib.hid hS
 unfold putLL putN
 obtain ⟨q,hq⟩:∃q,putOk cols id r=q:=⟨_,rfl⟩
 have HQ:RowKit.Hid ((decide (1≤id∧id≤4611686018427387904) && storB cols r)=q):=hq
 rw [hq]
 by_cases h1:id < 1
 · have hqf:q=false:=by rw [←HQ.out,decide_eq_false (by omega)];rfl
   subst hqf
   clear hv hS hvw hq HST hcell HQ
   unfold ptrV
   go_enter Tryz.func52,Tryz.ntmps52
   go_wp2
   go_ret
   exact ⟨rfl,HS.out⟩
 · by_cases h2:id > 4611686018427387904
   · have hqf:q=false:=by rw [←HQ.out,decide_eq_false (by omega)];rfl
     subst hqf
     clear hv hS hvw hq HST hcell HQ
     unfold ptrV
     go_enter Tryz.func52,Tryz.ntmps52
     go_wp2
     go_ret
     exact ⟨rfl,HS.out⟩
   · have hd:decide (1≤id∧id≤4611686018427387904)=true:=decide_eq_true (by omega)
     rw [hd,Bool.true_and] at HQ
     rw [HQ.out] at HST
     cases q
     · clear hv hS hvw hq hcell hd
       unfold ptrV at *
       go_enter Tryz.func52,Tryz.ntmps52
       go_wp2_with fail
       (with_reducible refine HST.out.mono ?_)
       rintro e w1 ⟨rfl,hb⟩
       have H1:=Lib.hid (HS.out.mono hb)
       clear HST HS hb
       go_wp2
       go_ret
       exact ⟨rfl,H1.out⟩
     · have hro:=storB_ok hri HQ.out
       have HRO:=Lib.hid hro
       have HHV:=Lib.hid hv
       have HH1:RowKit.Hid (1≤id):=by show _≤_;omega
       have HH2:RowKit.Hid (id≤4611686018427387904):=by show _≤_;omega
       have HID:=Lib.hid hid
       have HDEL0:RowKit.Hid (∀w',St w0 fp0 (storeA S cols I L next::R) w'→Calls Tryz.prog 51 #[ptrV S, .int .i64 id] w' fun e w''=> (∃v,e=.returned v)∧St w0 fp0 (storeA S cols I (delL id L) next::R) w''):=fun w' h=>
        (SDelete_calls S cols I L next id hid hc hlen w0 w' fp0 R h).mono fun e w'' ⟨u,e1,h3⟩=> ⟨⟨_,e1⟩,h3.drop⟩
       have HLEN:RowKit.Hid ((delL id L).length < 1099511627775):=Nat.lt_of_le_of_lt (delL_len _ _) hlen
       have HND:RowKit.Hid (∀x∈delL id L,x.1≠id):=fun x hx=> (mem_delL.1 hx).2
       have HPD:RowKit.Hid (putL' id r (delL id L)=putL' id r L):=putL_delL _ _ _
       have HC1:=Lib.hid hc
       clear hv hS hvw hq hcell hd hro hlen hri hc hid h1 h2
       have h1:¬ id < 1:=by have:=HH1.out;omega
       have h2:¬ 4611686018427387904 < id:=by have:=HH2.out;omega
       unfold ptrV at *
       go_enter Tryz.func52,Tryz.ntmps52
       go_wp2_with fail
       (with_reducible refine HST.out.mono ?_)
       rintro e w1 ⟨rfl,hb⟩
       have H1:=Lib.hid (HDEL0.out w1 (HS.out.mono hb))
       clear HST HS hb
       go_wp2_with fail
       (with_reducible refine H1.out.mono ?_)
       rintro e w2 ⟨⟨u,rfl⟩,h3⟩
       have hrw:=HHV.out.at (M:=[_]) h3
       have hrl:r.length≤1000000:=by rw [HRO.out.1];exact HC1.out
       have HCL:=Lib.hid (cloneW (flat r) r.length _ w2 hrw.1 (one_flat _) (by omega))
       have H3:=Lib.hid h3
       clear H1 h3 hrw hrl
       go_wp2_with fail
       (with_reducible refine HCL.out.mono ?_)
       rintro e w3 ⟨v',f',rfl,h4,h5,h6⟩
       have h7:=St.add H3.out h5 h4 h6
       obtain ⟨s,hok,hs⟩:=St.openS h7
       have hes:(reM s.es).length=(delL id L).length:=by rw [←hok.rows];simp [reM,reL]
       have hasc:=reL_asc (es:=s.es) (by rw [hok.rows];exact hok.asc)
       obtain ⟨A,B,he,hA,hB⟩:∃A B,s.es=A++B∧(∀a∈A,a.id < id)∧∀b∈B,id < b.id:=by
        rcases split_id (fun e:Re=> e.id) s.es hasc id with ⟨A,e,B,he,he2,hA,hB⟩ | ⟨A,B,he,hA,hB⟩
        · exfalso
          refine HND.out (e.id,e.r) ?_ he2
          rw [←hok.rows,he,reL_append,reL_cons]
          simp
        · exact ⟨A,B,he,hA,hB⟩
       obtain ⟨ra,rc,rfl, -⟩:=row_shape h4
       have hP:=Put_calls (β:=false) (o:=16) (by omega) (by omega) s.h (reM s.es) s.tb (.int id) (.sl ra r.length rc) trivial (okR s.es) w0 w3 fp0 _ (by rw [hes];exact HLEN.out) (show St w0 fp0 (objA false 16 s.h (reM s.es) s.tb::blkA S 113 #[.int .i64 s.cols,ptrV s.tb, .int .i64 s.next,s.iv]::rowA 152 2 s.iv s.ixs.length (ixV s.ixs)::(s.es.map reA++s.ixs.map ixA)++(R++[rowA 68 3 (.slice ra r.length rc) r.length (flat r)])) w3 from hs.perm (List.Perm.swap _ _ _))
       have hpM:putM (reM s.es) (.int id) (.sl ra r.length rc)=reM (A++⟨id, .sl ra r.length rc,r⟩::B):=by rw [he,reM_append,reM_append,reM_cons,putM_new (reM_lt hA) (reM_gt hB)]
       rw [hpM] at hP
       generalize encV ((getM (reM s.es) (.int id)).getD (va0 false))=uu at hP
       generalize (getM (reM s.es) (.int id)).isSome=ub at hP
       obtain ⟨_,hb⟩:=hs.has 0 rfl
       have c1:=(blk_get hb).1 1
       have hbl:=(blk_get hb).2.2
       simp only [List.getElem?_toArray,List.getElem?_cons_zero,List.getElem?_cons_succ] at c1
       have HKEY:RowKit.Hid (∀(x:Ix),x∈s.ixs→∀(w:World),ValsAt w r (.slice ra r.length rc)→IntsX [] w x.cs x.cv→Calls Tryz.prog 85 #[.slice ra r.length rc,x.cv] w fun e' w'=> e'=.returned (.string (textOf (keyL r x.cs)))∧Below w.heap.size w w'):=
        fun x hx w h1 h2=> key_calls r x.cs _ _ HRO.out.s (by have:=(hok.ixs x hx).2.1;omega) w h1 h2
       have HPUT:RowKit.Hid (∀(x:Ix),x∈s.ixs→∀(L':List Asn) (w:World),St w0 fp0 (objA true 16 x.kh x.km x.kb::L') w→Calls Tryz.prog 89 #[.pointer (some ⟨x.kb,0,none⟩), .string (textOf (keyL r x.cs)++textOf (numL id)), .int .i64 id] w fun e' w2=> (∃v,e'=.returned v)∧St w0 fp0 (exA (fun h'=> objA true 16 h' (putK id r x.cs x.km) x.kb)::L') w2):=by
        intro x hx L' w h
        have hk:=(hok.ixs x hx).2.2.2.1
        have h1:=Put_calls (β:=true) (o:=16) (by omega) (by omega) x.kh x.km x.kb (.str (ixKey id r x.cs)) (.int id) trivial (okK hk) w0 w fp0 L' (by rw [hk.len];exact HLEN.out) h
        rw [textOf_append]
        exact h1.mono fun e' w2 ⟨h2,h',h3⟩=> ⟨⟨_,h2⟩,h3.exI h'⟩
       have HKL:RowKit.Hid (∀x∈s.ixs,(textOf (keyL r x.cs)).size < 1000000000000):=fun x hx=> by
        rw [text_size]
        have h1:(keyL r x.cs).length≤x.cs.length * 2097161:=keyL_len HRO.out.s x.cs
        have h2:=(hok.ixs x hx).2.1
        have:x.cs.length * 2097161≤1000 * 2097161:=Nat.mul_le_mul_right _ h2
        omega
       have HVAL:RowKit.Hid (∀(w:World) (f:List Nat),(reA ⟨id, .sl ra r.length rc,r⟩).p w f→ValsAt w r (.slice ra r.length rc)):=fun w f hf=> ⟨row_sl hf (length_flat _),fun v hv=> by have:=(HRO.out.s v hv).2;unfold maxLen;omega⟩
       have HFIN:RowKit.Hid (∀ys h' w',UpTo (putK id r) s.ixs ys→St w0 fp0 (stoH S { s with h:=h',es:=A++⟨id, .sl ra r.length rc,r⟩::B,next:=max next (id+1) } s.ixs.length (ixV s.ixs) ys []++R) w'→St w0 fp0 (storeA S cols I (putL' id r L) (max next (id+1))::R) w'):=by
        intro ys h' w' hu h
        have hv:=upTo_V hu
        have h2:St w0 fp0 (stoL S { s with h:=h',es:=A++⟨id, .sl ra r.length rc,r⟩::B,ixs:=ys,next:=max next (id+1) }++R) w':=by
         unfold stoL
         rw [hv.1,hv.2]
         simp only [stoH,List.map_nil,List.append_nil] at h
         exact h
        have hya:∀y∈ys,AscM y.km:=ixAsc (w0:=w0) (fp0:=fp0) (R:=R) (w:=w') (R1:=[blkA S 113 #[.int .i64 s.cols,ptrV s.tb, .int .i64 (max next (id+1)),s.iv],objA false 16 h' (reM (A++⟨id, .sl ra r.length rc,r⟩::B)) s.tb,rowA 152 2 s.iv ys.length (ixV ys)]++(A++⟨id, .sl ra r.length rc,r⟩::B).map reA) (h2.perm (by
         classical
         exact List.perm_iff_count.2 fun a=> by simp only [stoL,List.map_append,List.map_cons,List.cons_append,List.nil_append,List.count_append,List.count_cons];omega))
        have h3:=St.shutS (hok.put (va:=.sl ra r.length rc) he hA hB HH1.out HH2.out HRO.out hu hya h') h2
        rw [HPD.out] at h3
        exact h3
       have HH0:RowKit.Hid (∀h' w',St w0 fp0 (objA false 16 h' (reM (A++⟨id, .sl ra r.length rc,r⟩::B)) s.tb::blkA S 113 #[.int .i64 s.cols,ptrV s.tb, .int .i64 s.next,s.iv]::rowA 152 2 s.iv s.ixs.length (ixV s.ixs)::(s.es.map reA++s.ixs.map ixA)++(R++[rowA 68 3 (.slice ra r.length rc) r.length (flat r)])) w'→St w0 fp0 (stoH S { s with h:=h',es:=A++⟨id, .sl ra r.length rc,r⟩::B } s.ixs.length (ixV s.ixs) [] (s.ixs.drop 0)++R) w'):=by
        intro h' w' h
        refine h.perm ?_
        rw [he]
        classical
        exact List.perm_iff_count.2 fun a=> by simp only [stoH,reA,encV,List.map_append,List.map_cons,List.map_nil,List.cons_append,List.count_append,List.count_cons,List.count_nil,List.drop_zero];omega
       have HNX:RowKit.Hid (s.next=next):=hok.enext
       have hnb:=hok.nx
       obtain ⟨sc,snx,sh,stb,siv,ses,sixs⟩:=s
       simp only at *
       obtain ⟨new,hnew⟩:∃new,(⟨id, .sl ra r.length rc,r⟩:Re)=new:=⟨_,rfl⟩
       rw [hnew] at HVAL HFIN HH0 hP
       clear hnew
       have HP:=Lib.hid hP
       obtain ⟨n,hn⟩:∃n,sixs.length=n:=⟨_,rfl⟩
       have HN:=Lib.hid hn
       obtain ⟨V,hV⟩:∃V,ixV sixs=V:=⟨_,rfl⟩
       have HV:=Lib.hid hV
       rw [hn,hV] at HFIN HH0
       have hnx':snx=next:=HNX.out
       subst hnx'
       clear hs hb hP hok hpM hasc he hA hB hn hV hes h4 h5 h6 h7 H3 HDEL0 HNX HCL
       dsimp only [fPut,encK,encV] at HP
       unfold ptrV at *
       go_wp2_with fail
       (with_reducible refine HP.out.mono ?_)
       rintro e w4 ⟨rfl,h',h1'⟩
       have H1:RowKit.Hid (∃ys,UpTo (putK id r) (sixs.take 0) ys∧St w0 fp0 (stoH S ⟨sc,snx,h',stb,siv,A++new::B,sixs⟩ n V ys (sixs.drop 0)++R) w4):=by
        refine ⟨[],?_,HH0.out _ _ ?_⟩
        · rw [List.take_zero];exact .nil
        · rw [HN.out,HV.out] at h1'
          exact h1'
       obtain ⟨_,hb⟩:=h1'.has 1 rfl
       have c3:=(blk_get hb).1 3
       have hbl:=(blk_get hb).2.2
       simp only [List.getElem?_toArray,List.getElem?_cons_zero,List.getElem?_cons_succ] at c3
       obtain ⟨_,hr⟩:=h1'.has 2 rfl
       obtain ⟨ia,ic,rfl,hic,hicm, -⟩:=row_shape hr
       rw [HN.out] at hic c3 H1 HFIN
       have hn63:n≤9223372036854775807:=by unfold maxLen at hicm;omega
       clear h1' hb hr c1 hic hicm HP HH0
       go_wp2
       go_loopg [38] n (fun g z wr=> ∃k:Nat,z=.int .i64 k∧g+k=n∧RowKit.Hid (∃ys,UpTo (putK id r) (sixs.take k) ys∧St w0 fp0 (stoH S ⟨sc,snx,h',stb, .slice ia n ic,A++new::B,sixs⟩ n V ys (sixs.drop k)++R) wr))
       case atStart=> exact ⟨0,rfl,by omega,H1⟩
       case round=>
        clear H1
        obtain ⟨k,rfl,hgk,Hs⟩:=hrel
        by_cases hk:k < n
        · obtain ⟨ys,hu,hst⟩:=Hs.out
          have hkl:k < sixs.length:=by rw [HN.out];exact hk
          have hdr:sixs.drop k=sixs[k]::sixs.drop (k+1):=List.drop_eq_getElem_cons hkl
          have htk:sixs.take (k+1)=sixs.take k++[sixs[k]]:=by rw [List.take_add_one,List.getElem?_eq_getElem hkl];rfl
          rw [hdr] at hst
          have hop:=stoH_open hst
          obtain ⟨_,hr⟩:=hop.has 4 rfl
          have hrow:=row_sl hr (by rw [←HV.out,ixV_len,HN.out])
          rw [←HV.out,←HN.out] at hrow
          obtain ⟨ib,io,ic',e4,q1,q2⟩:=ix_cells hrow k hkl
          obtain ⟨rfl, -,rfl⟩:=Value.slice.inj e4
          have HKEY2:=Lib.hid (HKEY.out sixs[k] (List.getElem_mem hkl))
          have HDEL2:=Lib.hid (HPUT.out sixs[k] (List.getElem_mem hkl))
          have HKL2:=Lib.hid (HKL.out sixs[k] (List.getElem_mem hkl))
          generalize sixs[k]=x at *
          obtain ⟨xcv,xcs,xkb,xkh,xkm⟩:=x
          obtain ⟨_,hsl⟩:=hop.has 1 rfl
          obtain ⟨xa,xn,xc,hxv⟩:=sl_shape hsl
          simp only at q1 q2 hsl hxv HKEY2 HDEL2 HKL2 hop
          subst hxv
          have HOP:=Lib.hid hop
          have HU:=Lib.hid hu
          have HTK:=Lib.hid htk
          have Hgk:=Lib.hid hgk
          have hql:=World.block_lt_of_cell? wr _ q1
          have hkn:(k:Int) < n:=by omega
          unfold ptrV at q2
          clear hu hst hkl hdr htk hop hr hrow e4 hsl hgk Hs
          go_upto_region 9 with (fail)
          refine rSp9 (w0:=w0) (fp0:=fp0) wr.heap.size xkb (.slice xa xn xc) (.slice ra r.length rc) (textOf (keyL r xcs)) id (objA true 16 xkh xkm xkb) (exA fun h'=> objA true 16 h' (putK id r xcs xkm) xkb) (slA 3 (.slice xa xn xc) (xcs.map intC)::(stoH S ⟨sc,snx,h',stb, .slice (some ⟨ib,io,none⟩) n ic,A++new::B,sixs⟩ n V ys (sixs.drop (k+1))++R)) ?_ HID.out HKL2.out HDEL2.out rfl (by kernel_rfl) rfl rfl rfl rfl rfl ?_ ?_
          · intro L' w' h
            obtain ⟨f1,h1⟩:=h.hasM (A:=slA 3 (.slice xa xn xc) (xcs.map intC)) (by simp)
            obtain ⟨f2,h2⟩:=h.hasM (A:=reA new) (by simp [stoH])
            exact HKEY2.out w' (HVAL.out w' f2 h2) (intsX_of h1)
          · exact (HOP.out.newblk 152 #[.slice xa xn xc, .pointer (some ⟨xkb,0,none⟩)]).perm (List.Perm.swap _ _ _)
          · intro u52 w5 h
            have H2:RowKit.Hid (∃ys,UpTo (putK id r) (sixs.take (k+1)) ys∧St w0 fp0 (stoH S ⟨sc,snx,h',stb, .slice (some ⟨ib,io,none⟩) n ic,A++new::B,sixs⟩ n V ys (sixs.drop (k+1))++R) w5):=by
             obtain ⟨h2,h3⟩:=St.exE (show St w0 fp0 (exA (fun h'=> objA true 16 h' (putK id r xcs xkm) xkb)::blkA wr.heap.size 152 #[.slice xa xn xc, .pointer (some ⟨xkb,0,none⟩)]::(slA 3 (.slice xa xn xc) (xcs.map intC)::(stoH S ⟨sc,snx,h',stb, .slice (some ⟨ib,io,none⟩) n ic,A++new::B,sixs⟩ n V ys (sixs.drop (k+1))++R))) w5 from h)
             have h4:=(h3.perm (List.Perm.swap _ _ _)).drop
             refine ⟨ys++[⟨.slice xa xn xc,xcs,xkb,h2,putK id r xcs xkm⟩],?_,stoH_shut (y:=⟨.slice xa xn xc,xcs,xkb,h2,putK id r xcs xkm⟩) h4⟩
             rw [HTK.out]
             exact upTo_snoc HU.out ⟨rfl,rfl,rfl,rfl⟩
            clear h
            simp only [putL,List.foldl,Act.put,List.setIfInBounds_toArray,List.set_cons_succ,List.set_cons_zero]
            go_wp2
            go_roundg (gk - 1)
            case rel=> exact ⟨k+1,by go_num,by have:=Hgk.out;omega,H2⟩
            case measure=> have:=Hgk.out;omega
        · obtain rfl:k=n:=by omega
          obtain ⟨ys,hu,hst⟩:=Hs.out
          rw [List.drop_of_length_le (by rw [HN.out];exact Nat.le_refl _)] at hst
          rw [List.take_of_length_le (by rw [HN.out];exact Nat.le_refl _)] at hu
          obtain ⟨_,hb⟩:=hst.has 0 rfl
          have d2:=(blk_get hb).1 2
          have d3:=(blk_get hb).2.1 2
          have hbl2:=(blk_get hb).2.2
          simp only [List.getElem?_toArray,List.getElem?_cons_zero,List.getElem?_cons_succ] at d2
          have HF:RowKit.Hid (St w0 fp0 (storeA S cols I (putL' id r L) (max snx (id+1))::R) (wr.setCell ⟨S,2,none⟩ (.int .i64 (max snx (id+1))))):=
           HFIN.out ys h' _ hu (hst.setB 2 (by simp) (.int .i64 (max snx (id+1))))
          have hw:IntKind.i64.wrap (id+1)=id+1:=IntWalk.i64_in _ (by have:=HH1.out;have:=HH2.out;omega)
          clear hgk hk Hs hst hu hb
          go_wp2
          all_goals go_ret
          all_goals
           refine ⟨rfl,?_⟩
           have h:=HF.out
           first
            | (rw [show Value.int .i64 (max snx (id+1))=.int .i64 (id+1) by rw [show max snx (id+1)=id+1 by omega]] at h;exact h)
            | (rw [show Value.int .i64 (max snx (id+1))=.int .i64 snx by rw [show max snx (id+1)=snx by omega]] at h;exact h)
/- The drawn regions of add and New. -/
set_option maxRecDepth 100000
theorem appIX:AppSrc Tryz.prog 111 111 152 2:=appSrc (z:=.agg #[.slice none 0 0, .pointer none]) (bytes:=32) (by kernel_rfl) (by kernel_rfl) rfl (by decide) (by decide)
theorem boxs_src {P:Program} {w:World} {tx e e':TypeId} {s:Value} {size:Nat} {f:List Nat} {cs:Array Value} (hk:P.underlying tx=some (.slice e')) (h:(boxsA e s cs).p w f) (hn:cs.size=size) (h1:∀u∈cs.toList,u.oneCell'=true):Go.Src P size tx (.slice (some ⟨pb s,0,none⟩) 1 1) 1 cs.toList w:=by
 obtain ⟨vb,rfl,h2,_⟩:=h
 exact Go.Src.ofSlice w hk _ 1 1 _ (by simp [hn]) (fun j u hj=> by
  show w.cell? ((⟨vb,0,none⟩:Addr).add j)=_
  rw [add_plain,Nat.zero_add,cell_of_row w vb j cs e (0,0) h2]
  simpa using hj) h1
theorem clamp16:clampO 16=16:=by decide
noncomputable def gSa4 (vb S tb n cols:Nat) (next:Int) (iv cv:Value) (V:List Value) (cs:List Value):=rgx Tryz.prog Tryz.f113 4 40 [27,28,29,30,31,32,33,34,35,36,37,38,39] [(1,cv),(2,pV vb 0)] (Vq 0 27 [Kp S 0,Kp S 0,Kp S 0,Kp S 3,Kv iv,Kv cv,Vf.slice,Vf.ptr,Fv [33,34] fun g=> .agg #[.slice (sa (g 33)) (sn (g 33)) (sc (g 33)), .pointer (some ⟨pb (g 34),0,none⟩)],Vf.box,Vf.slice,Kp S 0,Kp S 3]) [Bk vb (46) [pV S 0], .blk S (113) [⟨.int .i64 cols,[]⟩,⟨pV tb 0,[]⟩,⟨.int .i64 next,[]⟩,⟨iv,[(13, .s 37)]⟩], .new 6 [33] fun g=> slA 3 (g 33) cs, .new 7 [34] fun g=> objA true 16 0 [] (pb (g 34)), .new 9 [36,33,34] fun g=> boxsA 152 (g 36) #[.slice (sa (g 33)) (sn (g 33)) (sc (g 33)), .pointer (some ⟨pb (g 34),0,none⟩)], .gen [10] [37,33,34] fun L g=> match L 10 with | true=> rowA 152 2 (g 37) (n+1) (V++[Value.slice (sa (g 33)) (sn (g 33)) (sc (g 33)),Value.pointer (some ⟨pb (g 34),0,none⟩)]) | false=> rowA 152 2 iv n V]
theorem rSa4 (vb S tb n cols:Nat) (next:Int) (iv cv:Value) (V:List Value) (cs:List Value) (w0:World) (fp0:List Nat) (R:List Asn) (hcl:∀(L:List Asn) (w:World),St w0 fp0 (L++R) w→Calls Tryz.prog 110 #[cv] w fun e w2=> ∃v f,e=.returned v∧(slA 3 v cs).p w2 f∧Below w.heap.size w w2∧∀k∈f,w.heap.size≤k) (hl:n+1 < 1099511627776) {w:World} {c:Code} {a:Act} {Q:Exit→Act→World→Prop} (c1:isReg c=true) (c2:cops c=opsR Tryz.f113 4) (c3:a.tmps.size=40) (_c4:a.defers=a.defers) (i1:a.eval (.tmp 1)=cv) (i2:a.eval (.tmp 2)=.pointer (some ⟨vb,0,none⟩))
 (hS:St w0 fp0 ([blkA vb (46) #[.pointer (some ⟨S,0,none⟩)],blkA S (113) #[.int .i64 cols, .pointer (some ⟨tb,0,none⟩), .int .i64 next,iv],emp,emp,emp,rowA 152 2 iv n V]++R) w)
 (hQ:∀(u33 u34 u35 u36 u37:Value) (w1:World),(∃a n c,u33=.slice a n c)→(∃b,u34=.pointer (some ⟨b,0,none⟩))→u35=.agg #[.slice (sa (u33)) (sn (u33)) (sc (u33)), .pointer (some ⟨pb (u34),0,none⟩)]→(∃b,u36=.slice (some ⟨b,0,none⟩) 1 1)→(∃a n c,u37=.slice a n c)→St w0 fp0 ([blkA vb (46) #[.pointer (some ⟨S,0,none⟩)],blkA S (113) #[.int .i64 cols, .pointer (some ⟨tb,0,none⟩), .int .i64 next,u37],slA 3 (u33) cs,objA true 16 0 [] (pb (u34)),boxsA 152 (u36) #[.slice (sa (u33)) (sn (u33)) (sc (u33)), .pointer (some ⟨pb (u34),0,none⟩)],rowA 152 2 (u37) (n+1) (V++[Value.slice (sa (u33)) (sn (u33)) (sc (u33)),Value.pointer (some ⟨pb (u34),0,none⟩)])]++R) w1→Q .normal (putL a [(27, .pointer (some ⟨S,0,none⟩)),(28, .pointer (some ⟨S,0,none⟩)),(29, .pointer (some ⟨S,0,none⟩)),(30, .pointer (some ⟨S,3,none⟩)),(31,iv),(32,cv),(33,u33),(34,u34),(35,u35),(36,u36),(37,u37),(38, .pointer (some ⟨S,0,none⟩)),(39, .pointer (some ⟨S,3,none⟩))]) w1):c.wp Tryz.prog Q a w:=by
 have ok:(gSa4 vb S tb n cols next iv cv V cs w0 fp0 R).Ok 14:=Rg.ok _ 14 [0,1,4,6,7,9,10,13] ⟨.load _ 0 0 0, .load _ 1 0 0, .load _ 4 1 3, .callG _ 6 (fun g=> [blkA vb 46 #[.pointer (some ⟨S,0,none⟩)],blkA S 113 #[.int .i64 cols, .pointer (some ⟨tb,0,none⟩), .int .i64 next,iv],emp,emp,emp,rowA 152 2 iv n V]) (fun g v=> [blkA vb 46 #[.pointer (some ⟨S,0,none⟩)],blkA S 113 #[.int .i64 cols, .pointer (some ⟨tb,0,none⟩), .int .i64 next,iv],slA 3 v cs,emp,emp,rowA 152 2 iv n V]) (fun g w h=> (hcl _ _ h).mono fun e w2 ⟨v,f,e1,h2,h3,h4⟩=> (by obtain ⟨a,n,c,rfl⟩:=sl_shape h2;exact ⟨_,e1,kr (by kernel_rfl),h.newA 2 rfl h2 h3 h4⟩)), .callG _ 7 (fun g=> [blkA vb 46 #[.pointer (some ⟨S,0,none⟩)],blkA S 113 #[.int .i64 cols, .pointer (some ⟨tb,0,none⟩), .int .i64 next,iv],slA 3 (g 33) cs,emp,emp,rowA 152 2 iv n V]) (fun g v=> [blkA vb 46 #[.pointer (some ⟨S,0,none⟩)],blkA S 113 #[.int .i64 cols, .pointer (some ⟨tb,0,none⟩), .int .i64 next,iv],slA 3 (g 33) cs,objA true 16 0 [] (pb v),emp,rowA 152 2 iv n V]) (fun g w h=> (NewT_calls (β:=true) 16 w0 w fp0 _ h).mono fun e w2 ⟨tb,e1,h2⟩=> ⟨_,e1,kr (by kernel_rfl),by rw [clamp16] at h2;exact St.emp.1 (St_re (L:=[_,_,_,_,_,_,_]) h2 [4,1,2,3,0,5,6] [] (by kernel_rfl))⟩), .boxsG _ 9 4, .appG _ 10 (fun g=> [blkA vb 46 #[.pointer (some ⟨S,0,none⟩)],blkA S 113 #[.int .i64 cols, .pointer (some ⟨tb,0,none⟩), .int .i64 next,iv],slA 3 (g 33) cs,objA true 16 0 [] (pb (g 34)),boxsA 152 (g 36) #[.slice (sa (g 33)) (sn (g 33)) (sc (g 33)), .pointer (some ⟨pb (g 34),0,none⟩)],rowA 152 2 iv n V]) (fun g v=> [blkA vb 46 #[.pointer (some ⟨S,0,none⟩)],blkA S 113 #[.int .i64 cols, .pointer (some ⟨tb,0,none⟩), .int .i64 next,iv],slA 3 (g 33) cs,objA true 16 0 [] (pb (g 34)),boxsA 152 (g 36) #[.slice (sa (g 33)) (sn (g 33)) (sc (g 33)), .pointer (some ⟨pb (g 34),0,none⟩)],rowA 152 2 v (n+1) (V++[Value.slice (sa (g 33)) (sn (g 33)) (sc (g 33)),Value.pointer (some ⟨pb (g 34),0,none⟩)])]) (fun ty g w h=> (by obtain ⟨fb,hfb⟩:=h.has 4 rfl;obtain ⟨v,w2,h1,h2⟩:=St.appSrc appIX ty (St_re (L:=[_,_,_,_,_,_]) h [5,0,1,2,3,4] [] (by kernel_rfl)) (boxs_src (tx:=111) (e':=152) (by kernel_rfl) hfb rfl (by simp;exact ⟨rfl,rfl⟩)) hl;obtain ⟨_,hr⟩:=h2.has 0 rfl;obtain ⟨a,c,rfl, -⟩:=row_shape hr;exact ⟨_,w2,h1,kr (by kernel_rfl),St_re (L:=[_,_,_,_,_,_]) h2 [1,2,3,4,5,0] [] (by kernel_rfl)⟩)), .store _ 13 1 3,trivial⟩
 refine wp_regD ok (by kernel_rfl) ⟨c1,c2⟩ ⟨c3,fun p hp=> ?_⟩ hS fun A1 w1 N1 H1=> ?_
 · simp only [gSa4,rgx,List.map_nil,List.append_nil,List.mem_cons,List.not_mem_nil,or_false] at hp
   rcases hp with rfl | rfl
   · exact i1
   · exact i2
 have e27:=N1.val 0 rfl
 have e28:=N1.val 1 rfl
 have e29:=N1.val 2 rfl
 have e30:=N1.val 3 rfl
 have e31:=N1.val 4 rfl
 have e32:=N1.val 5 rfl
 have e33:=N1.val 6 rfl
 have e34:=N1.val 7 rfl
 have e35:=N1.val 8 rfl
 have e36:=N1.val 9 rfl
 have e37:=N1.val 10 rfl
 have e38:=N1.val 11 rfl
 have e39:=N1.val 12 rfl
 have h:=hQ (slots A1 33) (slots A1 34) (slots A1 35) (slots A1 36) (slots A1 37) w1 ⟨_,_,_,e33⟩ ⟨_,e34⟩ e35 ⟨_,e36⟩ ⟨_,_,_,e37⟩ H1
 rw [frame_eq N1.frame (cons_eq e27 (cons_eq e28 (cons_eq e29 (cons_eq e30 (cons_eq e31 (cons_eq e32 (cons_eq rfl (cons_eq rfl (cons_eq rfl (cons_eq rfl (cons_eq rfl (cons_eq e38 (cons_eq e39 rfl)))))))))))))]
 exact h
noncomputable def gSn1 (tv n cc:Nat) (nm kv fv xv:Value) (ca:Option Addr):=rgx Tryz.prog Tryz.f75 1 38 [8,9,10,11,12,13,3] [(1,pV tv 0)] (Vq 0 8 [Kp tv 1,Kv (.slice ca n cc),Kv (.int .i64 n),Vf.ptr,Fv [11] fun g=> .agg #[.int .i64 n, .pointer (some ⟨pb (g 11),0,none⟩), .int .i64 1, .slice none 0 0],Vf.ptr]++Vq 6 3 [Fv [13] fun g=> .pointer (some ⟨pb (g 13),0,none⟩)]) [Bk tv (89) [nm, .slice ca n cc,kv,fv,xv], .new 3 [11] fun g=> objA false 16 0 [] (pb (g 11)), .new 5 [13,11] fun g=> atA 113 (g 13) #[.int .i64 n, .pointer (some ⟨pb (g 11),0,none⟩), .int .i64 1, .slice none 0 0]]
theorem rSn1 (tv n cc:Nat) (nm kv fv xv:Value) (ca:Option Addr) (w0:World) (fp0:List Nat) (R:List Asn)  {w:World} {c:Code} {a:Act} {Q:Exit→Act→World→Prop} (c1:isReg c=true) (c2:cops c=opsR Tryz.f75 1) (c3:a.tmps.size=38) (_c4:a.defers=a.defers) (i1:a.eval (.tmp 1)=.pointer (some ⟨tv,0,none⟩))
 (hS:St w0 fp0 ([blkA tv (89) #[nm, .slice ca n cc,kv,fv,xv],emp,emp]++R) w)
 (hQ:∀(u3 u11 u12 u13:Value) (w1:World),(∃b,u11=.pointer (some ⟨b,0,none⟩))→u12=.agg #[.int .i64 n, .pointer (some ⟨pb (u11),0,none⟩), .int .i64 1, .slice none 0 0]→(∃b,u13=.pointer (some ⟨b,0,none⟩))→u3=.pointer (some ⟨pb (u13),0,none⟩)→St w0 fp0 ([blkA tv (89) #[nm, .slice ca n cc,kv,fv,xv],objA false 16 0 [] (pb (u11)),atA 113 (u13) #[.int .i64 n, .pointer (some ⟨pb (u11),0,none⟩), .int .i64 1, .slice none 0 0]]++R) w1→Q .normal (putL a [(8, .pointer (some ⟨tv,1,none⟩)),(9, .slice ca n cc),(10, .int .i64 n),(11,u11),(12,u12),(13,u13),(3,u3)]) w1):c.wp Tryz.prog Q a w:=by
 have ok:(gSn1 tv n cc nm kv fv xv ca w0 fp0 R).Ok 7:=Rg.ok _ 7 [1,3,5] ⟨.load _ 1 0 1, .callG _ 3 (fun _=> [blkA tv 89 #[nm, .slice ca n cc,kv,fv,xv],emp,emp]) (fun g v=> [blkA tv 89 #[nm, .slice ca n cc,kv,fv,xv],objA false 16 0 [] (pb v),emp]) (fun g w h=> (NewT_calls (β:=false) 16 w0 w fp0 _ h).mono fun e w2 ⟨tb,e1,h2⟩=> ⟨_,e1,kr (by kernel_rfl),by rw [clamp16] at h2;exact St.emp.1 (St_re (L:=[_,_,_,_]) h2 [2,1,0,3] [] (by kernel_rfl))⟩), .lay _ 5 2,trivial⟩
 refine wp_regD ok (by kernel_rfl) ⟨c1,c2⟩ ⟨c3,fun p hp=> ?_⟩ hS fun A1 w1 N1 H1=> ?_
 · simp only [gSn1,rgx,List.map_nil,List.append_nil,List.mem_cons,List.not_mem_nil,or_false] at hp
   subst hp
   · exact i1
 have e8:=N1.val 0 rfl
 have e9:=N1.val 1 rfl
 have e10:=N1.val 2 rfl
 have e11:=N1.val 3 rfl
 have e12:=N1.val 4 rfl
 have e13:=N1.val 5 rfl
 have e3:=N1.val 6 rfl
 have h:=hQ (slots A1 3) (slots A1 11) (slots A1 12) (slots A1 13) w1 ⟨_,e11⟩ e12 ⟨_,e13⟩ e3 H1
 rw [frame_eq N1.frame (cons_eq e8 (cons_eq e9 (cons_eq e10 (cons_eq rfl (cons_eq rfl (cons_eq rfl (cons_eq rfl rfl)))))))]
 exact h
end Go.Proofs.YtpdlkdoogojboaaGreat
/- The store: add, New, Insert. -/
namespace Go.Proofs.YtpdlkdoogojboaaGreat
open Go Go.RowKit
theorem add1_calls (S cols vb:Nat) (c:Int) (w:World) (hv:w.cell? ⟨vb,0,none⟩=some (ptrV S)) (hc:w.cell? ⟨S,0,none⟩=some (.int .i64 cols)):
 Calls Tryz.prog 138 #[.int .i64 c, .pointer (some ⟨vb,0,none⟩)] w fun e w'=> e=.returned (.bool (!decide (0≤c∧c < cols)))∧Below w.heap.size w w':=by
 have HC:=Lib.hid (has_calls S cols c w hc)
 have hl:=World.block_lt_of_cell? w _ hv
 unfold ptrV at *
 generalize decide (0≤c∧c < (cols:Int))=q at *
 clear hc
 go_enter Tryz.func138,Tryz.ntmps138
 go_wp2_with fail
 (with_reducible refine HC.out.mono ?_)
 rintro e w1 ⟨rfl,rfl⟩
 clear HC
 go_wp2
 go_ret
 exact ⟨rfl,Below.refl _ _⟩
/-- Whether add adds an index; the columns of the indexes then. -/
def addB (cols:Nat) (I:List (List Int)) (cs:List Int):Bool:=!(cs.any fun c=> !decide (0≤c∧c < (cols:Int))) && (!(I.any fun x=> decide (x=cs)) && decide (0 < cs.length))
def addI (cols:Nat) (I:List (List Int)) (cs:List Int):List (List Int):=if addB cols I cs then I++[cs] else I
theorem findIx_some (ixs:List Ix) (cs:List Int):(findIx ixs cs).isSome=(ixs.map (·.cs)).any fun x=> decide (x=cs):=by
 unfold findIx
 rw [List.any_map,Bool.eq_iff_iff,List.find?_isSome,List.any_eq_true]
 rfl
theorem ix_ints {w:World} {f:List Nat} {S:Nat} {s:Sto} (h:Star w (stoL S s) f) {x:Ix} (hx:x∈s.ixs):IntsX [] w x.cs x.cv:=by
 obtain ⟨i,hi,rfl⟩:=List.mem_iff_getElem.1 hx
 obtain ⟨g,hg, -⟩:=Star.get (s.es.length+i+3) (A:=ixA s.ixs[i]) (by
  show (blkA _ _ _::_::_::(s.es.map reA++s.ixs.map ixA))[s.es.length+i+3]? =_
  simp only [List.getElem?_cons_succ]
  rw [List.getElem?_append_right (by simp),List.length_map,Nat.add_sub_cancel_left,List.getElem?_map,List.getElem?_eq_getElem hi]
  rfl) h
 have hg':Star w [slA 3 s.ixs[i].cv (s.ixs[i].cs.map intC),objA true 16 s.ixs[i].kh s.ixs[i].km s.ixs[i].kb] g:=hg
 obtain ⟨g2,hg2, -⟩:=Star.get 0 rfl hg'
 exact intsX_of hg2
theorem sto_row {w:World} {f:List Nat} {S:Nat} {s:Sto} (h:Star w (stoL S s) f):SlX [] w 2 s.ixs.length (ixV s.ixs) s.iv:=by
 obtain ⟨g,hg, -⟩:=Star.get 2 (A:=rowA 152 2 s.iv s.ixs.length (ixV s.ixs)) rfl h
 exact row_sl hg (ixV_len _)
theorem sto_blk {w:World} {f:List Nat} {S:Nat} {s:Sto} (h:Star w (stoL S s) f):∀j,w.cell? ⟨S,j,none⟩=#[Value.int .i64 s.cols,ptrV s.tb, .int .i64 s.next,s.iv][j]? :=by
 obtain ⟨g,hg, -⟩:=Star.get 0 (A:=blkA S 113 #[.int .i64 s.cols,ptrV s.tb, .int .i64 s.next,s.iv]) rfl h
 exact (blk_get hg).1
set_option maxHeartbeats 4000000 in
set_option maxRecDepth 20000 in
theorem SAdd_calls (S cols:Nat) (I:List (List Int)) (cs:List Int) (cv:Value) (hcl:cs.length≤1000) (hI:I.length+1 < 1099511627776) (w0 w:World) (fp0:List Nat) (R:List Asn) (hv:Rd w0 fp0 R fun w=> IntsX [] w cs cv) (hS:St w0 fp0 (storeA S cols I [] 1::R) w):
 Calls Tryz.prog 113 #[ptrV S,cv] w fun e w'=> e=.returned (.tuple #[])∧St w0 fp0 (storeA S cols (addI cols I cs) [] 1::R) w':=by
 obtain ⟨s,hok,hs⟩:=hS.openS
 have hb1:Below w.heap.size w (w.alloc (.cells #[ptrV S] 46)):=(Below.refl _ _).alloc (Nat.le_refl _) _
 have hs1:=(hs.newblk 46 #[ptrV S])
 obtain ⟨f1,hf1⟩:=(hs.mono hb1).star_of
 have hvb:(w.alloc (.cells #[ptrV S] 46)).cell? ⟨w.heap.size,0,none⟩=some (ptrV S):=World.cell?_alloc_new _ _ _ 0
 have hcell:(w.alloc (.cells #[ptrV S] 46)).cell? ⟨S,0,none⟩=some (.int .i64 cols):=by rw [sto_blk hf1 0,←hok.ecols];rfl
 have hrd:∀w',St w0 fp0 (blkA w.heap.size 46 #[ptrV S]::(stoL S s++R)) w'→IntsX [] w' cs cv:=fun w' h=> hv.at (M:=blkA w.heap.size 46 #[ptrV S]::stoL S s) h
 obtain ⟨ca,cn,cc,rfl,hcn, -⟩:=(hrd _ hs1).shape
 have HC:=Lib.hid (containsI_calls cs _ 138 (.pointer (some ⟨w.heap.size,0,none⟩)) (fun c=> !decide (0≤c∧c < (cols:Int))) _ (enters_own Tryz.func138 (by kernel_rfl) rfl) (hrd _ hs1) fun i _ w' hb=> add1_calls S cols w.heap.size i w' ((hb.cell (p:=⟨w.heap.size,0,none⟩) (by simp)).trans hvb) ((hb.cell (p:=⟨S,0,none⟩) (World.block_lt_of_cell? _ _ hcell)).trans hcell))
 have HF:RowKit.Hid (∀w',St w0 fp0 (blkA w.heap.size 46 #[ptrV S]::(stoL S s++R)) w'→Calls Tryz.prog 140 #[ptrV S, .slice ca cn cc] w' fun e w''=> e=.returned (.tuple #[findV (findIx s.ixs cs), .bool (findIx s.ixs cs).isSome])∧Below w'.heap.size w' w''):=by
  intro w' h
  obtain ⟨f,hf⟩:=h.drop.star_of
  exact sfind_calls S s.ixs s.iv cs _ w' (by rw [sto_blk hf 3];rfl) (sto_row hf) (fun x hx=> ix_ints hf hx) (hrd _ h)
 have hfi:=findIx_some s.ixs cs
 rw [hok.eixs] at hfi
 obtain ⟨q1,hq1⟩:∃q,(cs.any fun c=> !decide (0≤c∧c < (cols:Int)))=q:=⟨_,rfl⟩
 rw [hq1] at HC
 have HQ:RowKit.Hid (addI cols I cs=if (!q1 && (!(findIx s.ixs cs).isSome && decide (0 < cs.length))) then I++[cs] else I):=by
  show _=_
  rw [addI,addB,hq1,hfi]
 have HSH:RowKit.Hid (∀x,findIx s.ixs cs=some x→x∈s.ixs):=fun x hx=> List.mem_of_find?_eq_some hx
 have HS1:=Lib.hid hs1
 have HNO:RowKit.Hid (∀w',St w0 fp0 (blkA w.heap.size 46 #[ptrV S]::(stoL S s++R)) w'→St w0 fp0 (storeA S cols I [] 1::R) w'):=fun w' h=> St.shutS hok h.drop
 generalize findIx s.ixs cs=fo at *
 rw [←hcn] at HQ
 have HCN:=Lib.hid hcn
 have HADD:RowKit.Hid (q1=false→0 < cn→∀(w':World) (xa:Option Addr) (xn xc kb b:Nat) (bx:Asn),St w0 fp0 ([blkA w.heap.size 46 #[ptrV S],blkA S 113 #[.int .i64 s.cols,ptrV s.tb, .int .i64 s.next, .slice (some ⟨b,0,none⟩) xn xc],bx]++R) w'→True):=fun _ _ _ _ _ _ _ _ _ _=> trivial
 clear HADD
 have hok':=hok
 have HOK:=Lib.hid hok
 have HCL:=Lib.hid hcl
 have HIL:=Lib.hid hI
 have HV:=Lib.hid hv
 have HQ1:=Lib.hid hq1
 have hixl:s.ixs.length=I.length:=by rw [←hok.eixs,List.length_map]
 have HIXL:=Lib.hid hixl
 clear hS hs hb1 hs1 hf1 hvb hcell hrd hv hok hok' hfi hq1 hcl hI hcn hixl
 obtain ⟨scl,snx,sh,stb,siv,ses,sixs⟩:=s
 simp only at *
 generalize addI cols I cs=I2 at *
 unfold ptrV at *
 go_enter Tryz.func113,Tryz.ntmps113
 go_wp2_with fail
 (with_reducible refine HC.out.mono ?_)
 rintro e w1 ⟨rfl,hb⟩
 have H1:=Lib.hid (HS1.out.mono hb)
 have HF1:=Lib.hid (HF.out w1 H1.out)
 obtain ⟨_,hbv⟩:=H1.out.has 0 rfl
 have v0:=(blk_get hbv).1 0
 have vl:=(blk_get hbv).2.2
 simp only [List.getElem?_toArray,List.getElem?_cons_zero] at v0
 clear hb HC HS1 HF hbv
 generalize w.heap.size=vb at *
 go_wp2_with fail
 (with_reducible refine HF1.out.mono ?_)
 rintro e w2 ⟨rfl,hb⟩
 have H2:=Lib.hid (H1.out.mono hb)
 obtain ⟨_,hbv⟩:=H2.out.has 0 rfl
 have v0:=(blk_get hbv).1 0
 have vl:=(blk_get hbv).2.2
 simp only [List.getElem?_toArray,List.getElem?_cons_zero] at v0
 clear hb HF1 H1 hbv
 cases fo with
 | some x=>
  have HE:RowKit.Hid (I2=I):=by show _=_;rw [HQ.out];simp
  obtain ⟨_,hsx⟩:∃f,IntsX [] w2 x.cs x.cv∧f=0:=by
   obtain ⟨f,hf⟩:=H2.out.drop.star_of
   exact ⟨0,ix_ints hf (HSH.out x rfl),rfl⟩
  obtain ⟨xa,xn,xc,hxv, -⟩:=hsx.1.shape
  obtain ⟨xcv,xcs,xkb,xkh,xkm⟩:=x
  simp only at hxv
  subst hxv
  unfold findV ptrV
  have HFI:RowKit.Hid (∀w',Below w2.heap.size w2 w'→St w0 fp0 (storeA S cols I2 [] 1::R) w'):=fun w' hb=> by rw [HE.out];exact HNO.out w' (H2.out.mono hb)
  clear hsx HSH HNO H2
  cases q1
  all_goals
   go_wp2
   go_end0
   exact ⟨rfl,HFI.out _ ((Below.refl _ _).alloc (Nat.le_refl _) _)⟩
 | none=>
  unfold findV
  cases q1
  · by_cases h0:0 < cn
    · have h0':(0:Int) < cn:=by omega
      have H0:=Lib.hid h0
      have HE:RowKit.Hid (I2=I++[cs]):=by show _=_;rw [HQ.out];simp [h0]
      clear HQ h0 HNO
      go_upto_region 4 with (fail)
      refine rSa4 (w0:=w0) (fp0:=fp0) vb S stb sixs.length scl snx siv (.slice ca cn cc) (ixV sixs) (cs.map intC) (objA false 16 sh (reM ses) stb::(ses.map reA++sixs.map ixA)++R) (fun L w' h=> ?_) (by have:=HIL.out;have:=HIXL.out;omega) rfl (by kernel_rfl) rfl rfl rfl rfl ?_ ?_
      · have h1:IntsX [] w' cs (.slice ca cn cc):=HV.out.at (M:=L++(objA false 16 sh (reM ses) stb::(ses.map reA++sixs.map ixA))) (by rw [List.append_assoc];exact h)
        have h2:=cloneI (cs.map intC) cs.length _ w' h1 (by intro u hu;obtain ⟨b,_,rfl⟩:=List.mem_map.1 hu;rfl) (by have:=HCL.out;omega)
        refine h2.mono fun e w3 ⟨v,f,e1,h3,h4,h5⟩=> ⟨v,f,e1,?_,h4,h5⟩
        rw [←List.length_map (f:=intC)] at h3
        exact h3
      · have h1:=H2.out.mono ((Below.refl _ w2).alloc (Nat.le_refl _) (.cells #[.slice none 0 0, .pointer none] 152))
        have h2:=St.emp.2 (St.emp.2 (St.emp.2 h1))
        refine h2.perm ?_
        classical
        exact List.perm_iff_count.2 fun a=> by simp only [stoL,ptrV,List.cons_append,List.nil_append,List.count_append,List.count_cons];omega
      · intro u33 u34 u35 u36 u37 w3 s33 s34 s35 s36 s37 h
        obtain ⟨xa,xn,xc,rfl⟩:=s33
        obtain ⟨xb,rfl⟩:=s34
        have HF:RowKit.Hid (St w0 fp0 (storeA S cols I2 [] 1::R) w3):=by
         have hok:=HOK.out
         have h1:St w0 fp0 (stoL S ⟨scl,snx,sh,stb,u37,ses,sixs++[⟨.slice xa xn xc,cs,xb,0,[]⟩]⟩++R) w3:=by
          have h2:St w0 fp0 ([blkA vb 46 #[.pointer (some ⟨S,0,none⟩)],boxsA 152 u36 #[.slice xa xn xc, .pointer (some ⟨xb,0,none⟩)]]++([blkA S 113 #[.int .i64 scl, .pointer (some ⟨stb,0,none⟩), .int .i64 snx,u37],slA 3 (.slice xa xn xc) (cs.map intC),objA true 16 0 [] xb,rowA 152 2 u37 (sixs.length+1) (ixV sixs++[Value.slice xa xn xc,Value.pointer (some ⟨xb,0,none⟩)])]++(objA false 16 sh (reM ses) stb::(ses.map reA++sixs.map ixA)++R))) w3:=by
           refine h.perm ?_
           classical
           exact List.perm_iff_count.2 fun a=> by simp only [sa,sn,sc,pb,List.cons_append,List.nil_append,List.count_append,List.count_cons];omega
          have h3:=St.dropAll h2
          have h4:St w0 fp0 (ixA ⟨.slice xa xn xc,cs,xb,0,[]⟩::(blkA S 113 #[.int .i64 scl, .pointer (some ⟨stb,0,none⟩), .int .i64 snx,u37]::rowA 152 2 u37 (sixs.length+1) (ixV sixs++[Value.slice xa xn xc,Value.pointer (some ⟨xb,0,none⟩)])::(objA false 16 sh (reM ses) stb::(ses.map reA++sixs.map ixA)++R))) w3:=by
           refine St.star.2 (h3.perm ?_)
           classical
           exact List.perm_iff_count.2 fun a=> by simp only [List.cons_append,List.nil_append,List.count_append,List.count_cons];omega
          refine h4.perm ?_
          have e1:ixV (sixs++[⟨.slice xa xn xc,cs,xb,0,[]⟩])=ixV sixs++[Value.slice xa xn xc,Value.pointer (some ⟨xb,0,none⟩)]:=by simp [ixV,ptrV]
          classical
          exact List.perm_iff_count.2 fun a=> by simp only [stoL,ptrV,e1,List.length_append,List.length_cons,List.length_nil,Nat.zero_add,List.map_append,List.map_cons,List.map_nil,List.cons_append,List.count_append,List.count_cons,List.count_nil];omega
         rw [HE.out]
         refine St.shutS (s:=⟨scl,snx,sh,stb,u37,ses,sixs++[⟨.slice xa xn xc,cs,xb,0,[]⟩]⟩) ⟨?_,hok.ecols,hok.enext,hok.rows,hok.asc,hok.nx,hok.row,fun y hy=> ?_⟩ h1
         · have:=hok.eixs
           simp only at this
           simp only [List.map_append,List.map_cons,List.map_nil,this]
         · rcases List.mem_append.1 hy with hy | hy
           · exact hok.ixs y hy
           · rw [List.mem_singleton.1 hy]
             refine ⟨?_,HCL.out,?_,IxOk.nil _,List.Pairwise.nil⟩
             · intro e
               have:=H0.out
               rw [HCN.out,show cs=[] from e] at this
               exact absurd this (by simp)
             · have:=HQ1.out
               rw [List.any_eq_false] at this
               intro c hc
               simpa using this c hc
        clear h HSH H2 HV HOK
        simp only [putL,List.foldl,Act.put,List.setIfInBounds_toArray,List.set_cons_succ,List.set_cons_zero]
        go_wp2
        go_end0
        exact ⟨rfl,HF.out⟩
    · have HE:RowKit.Hid (I2=I):=by show _=_;rw [HQ.out];simp [h0]
      have HFI:RowKit.Hid (∀w',Below w2.heap.size w2 w'→St w0 fp0 (storeA S cols I2 [] 1::R) w'):=fun w' hb=> by rw [HE.out];exact HNO.out w' (H2.out.mono hb)
      have h0':¬ (0:Int) < cn:=by omega
      clear HSH HNO H2 HQ h0
      go_wp2
      go_end0
      exact ⟨rfl,HFI.out _ ((Below.refl _ _).alloc (Nat.le_refl _) _)⟩
  · have HE:RowKit.Hid (I2=I):=by show _=_;rw [HQ.out];simp
    have HFI:RowKit.Hid (∀w',Below w2.heap.size w2 w'→St w0 fp0 (storeA S cols I2 [] 1::R) w'):=fun w' hb=> by rw [HE.out];exact HNO.out w' (H2.out.mono hb)
    clear HSH HNO H2 HQ
    go_wp2
    go_end0
    exact ⟨rfl,HFI.out _ ((Below.refl _ _).alloc (Nat.le_refl _) _)⟩
/- The store: New, Insert. -/
/-- Lists of columns that are read: of keys; of foreign keys. -/
def KeysX (w:World) (vs:List Value) (ks:List (List Int)) (v:Value):Prop:=SlX [] w 1 ks.length vs v∧∀i (h:i < ks.length),∃u,vs[i]? =some u∧IntsX [] w ks[i] u
def ForsX (w:World) (vs:List Value) (ks:List (List Int)) (v:Value):Prop:=SlX [] w 3 ks.length vs v∧∀i (h:i < ks.length),∃u a b,vs[i * 3]? =some u∧vs[i * 3+1]? =some (.int .i64 a)∧vs[i * 3+2]? =some (.int .i64 b)∧IntsX [] w ks[i] u
theorem addI_len (n:Nat):∀(l:List (List Int)) (I:List (List Int)),(l.foldl (addI n) I).length≤I.length+l.length
 | [],I=> by simp
 | c::l,I=> by
  have h1:=addI_len n l (addI n I c)
  have h2:(addI n I c).length≤I.length+1:=by unfold addI;split <;> simp
  simp only [List.foldl_cons,List.length_cons]
  omega
theorem SlX.some {X:List Nat} {w:World} {size n:Nat} {xs:List Value} {v:Value} (h:SlX X w size n xs v) {j:Nat} {u:Value} (hj:xs[j]? =some u):∃b o c,v=.slice (some ⟨b,o,none⟩) n c∧w.cell? ⟨b,o+j,none⟩=some u:=by
 obtain ⟨hl,rfl⟩:=List.getElem?_eq_some_iff.1 hj
 obtain ⟨_,_,a,c,rfl,h4⟩:=h
 obtain ⟨b,o,rfl,_,h7⟩:=h4 j hl
 exact ⟨b,o,c,rfl,h7⟩
set_option maxHeartbeats 4000000 in
set_option maxRecDepth 20000 in
theorem SNew_calls (nm:ByteArray) (ca xa:Option Addr) (n cc xn xc:Nat) (kv fv:Value) (K F:List (List Int)) (kvs fvs:List Value) (hK:∀c∈K,c.length≤1000) (hF:∀c∈F,c.length≤1000) (hKl:K.length≤1000000) (hFl:F.length≤1000000) (w0 w:World) (fp0:List Nat) (R:List Asn)
 (hk:Rd w0 fp0 R fun w=> KeysX w kvs K kv) (hf:Rd w0 fp0 R fun w=> ForsX w fvs F fv) (hS:St w0 fp0 R w):
 Calls Tryz.prog 75 #[.agg #[.string nm, .slice ca n cc,kv,fv, .slice xa xn xc]] w fun e w'=> ∃S,e=.returned (ptrV S)∧St w0 fp0 (storeA S n ((K++F).foldl (addI n) []) [] 1::R) w':=by
 obtain ⟨ka,kc,rfl⟩:=(hk.here hS).1.shape
 obtain ⟨fa,fc,rfl⟩:=(hf.here hS).1.shape
 have HS:=Lib.hid (hS.newblk 89 #[.string nm, .slice ca n cc, .slice ka K.length kc, .slice fa F.length fc, .slice xa xn xc])
 have HK:=Lib.hid hk
 have HF:=Lib.hid hf
 have HKC:=Lib.hid hK
 have HFC:=Lib.hid hF
 have HKL:=Lib.hid hKl
 have HFL:=Lib.hid hFl
 obtain ⟨IF,hIF⟩:∃IF,(K++F).foldl (addI n) []=IF:=⟨_,rfl⟩
 have HIF:=Lib.hid hIF
 rw [hIF]
 obtain ⟨kn,hkn⟩:∃kn,K.length=kn:=⟨_,rfl⟩
 obtain ⟨fn,hfn⟩:∃fn,F.length=fn:=⟨_,rfl⟩
 have HKN:=Lib.hid hkn
 have HFN:=Lib.hid hfn
 have hkn63:kn≤9223372036854775807:=by omega
 have hfn63:fn≤9223372036854775807:=by omega
 have hkn6:kn≤1000000:=by omega
 rw [hkn] at HK
 rw [hfn] at HF
 rw [hkn,hfn] at HS ⊢
 clear hk hf hS hK hF hIF hkn hfn hKl hFl
 go_enter Tryz.func75,Tryz.ntmps75
 go_upto_region 1 with (fail)
 obtain ⟨tv,htv⟩:∃tv,w.heap.size=tv:=⟨_,rfl⟩
 rw [htv] at HS ⊢
 clear htv
 refine rSn1 (w0:=w0) (fp0:=fp0) tv n cc (.string nm) (.slice ka kn kc) (.slice fa fn fc) (.slice xa xn xc) ca R rfl (by kernel_rfl) rfl rfl rfl ?_ ?_
 · refine (St.emp.2 (St.emp.2 HS.out)).perm ?_
   classical
   exact List.perm_iff_count.2 fun a=> by simp only [List.cons_append,List.nil_append,List.count_cons];omega
 intro u3 u11 u12 u13 w1 s11 s12 s13 s3 h
 obtain ⟨tb,rfl⟩:=s11
 obtain ⟨S,rfl⟩:=s13
 obtain rfl:u3=.pointer (some ⟨S,0,none⟩):=s3
 have H1:RowKit.Hid (St w0 fp0 (storeA S n ((K.take 0).foldl (addI n) []) [] 1::blkA tv 89 #[.string nm, .slice ca n cc, .slice ka kn kc, .slice fa fn fc, .slice xa xn xc]::R) w1):=by
  have h2:St w0 fp0 (atA 113 (.pointer (some ⟨S,0,none⟩)) #[.int .i64 n, .pointer (some ⟨tb,0,none⟩), .int .i64 1, .slice none 0 0]::objA false 16 0 [] tb::blkA tv 89 #[.string nm, .slice ca n cc, .slice ka kn kc, .slice fa fn fc, .slice xa xn xc]::R) w1:=by
   refine h.perm ?_
   classical
   exact List.perm_iff_count.2 fun a=> by simp only [pb,List.cons_append,List.nil_append,List.count_cons];omega
  obtain ⟨b,e,h3⟩:=St.at_open h2
  injection e with e
  injection e with e
  injection e with e
  subst e
  have h4:=St.nilR 152 2 h3
  have h5:St w0 fp0 (stoL S ⟨n,1,0,tb, .slice none 0 0,[],[]⟩++(blkA tv 89 #[.string nm, .slice ca n cc, .slice ka kn kc, .slice fa fn fc, .slice xa xn xc]::R)) w1:=by
   refine h4.perm ?_
   classical
   exact List.perm_iff_count.2 fun a=> by simp only [stoL,ptrV,reM,ixV,List.map_nil,List.flatMap_nil,List.length_nil,List.cons_append,List.nil_append,List.count_cons];omega
  refine St.shutS ⟨rfl,rfl,rfl,rfl,List.Pairwise.nil,⟨by omega,by omega⟩,fun x hx=> absurd hx (by simp),fun x hx=> absurd hx (by simp)⟩ h5
 clear h HS s12
 simp only [putL,List.foldl,Act.put,List.setIfInBounds_toArray,List.set_cons_succ,List.set_cons_zero]
 obtain ⟨_,hb⟩:=H1.out.has 1 rfl
 have c2:=(blk_get hb).1 2
 have hbl:=(blk_get hb).2.2
 simp only [List.getElem?_toArray,List.getElem?_cons_zero,List.getElem?_cons_succ] at c2
 clear hb
 go_wp2
 go_loopg [17] kn (fun g z wr=> ∃k:Nat,z=.int .i64 k∧g+k=kn∧RowKit.Hid (St w0 fp0 (storeA S n ((K.take k).foldl (addI n) []) [] 1::blkA tv 89 #[.string nm, .slice ca n cc, .slice ka kn kc, .slice fa fn fc, .slice xa xn xc]::R) wr))
 case atStart=> exact ⟨0,rfl,rfl,H1⟩
 case round=>
  clear H1
  obtain ⟨k,rfl,hgk,Hs⟩:=hrel
  by_cases hk:k < kn
  · have hkl:k < K.length:=by rw [HKN.out];exact hk
    have hrd:=HK.out.at (M:=[_,_]) Hs.out
    obtain ⟨u,hu, -⟩:=hrd.2 k hkl
    have hrdk:Rd w0 fp0 (blkA tv 89 #[.string nm, .slice ca n cc, .slice ka kn kc, .slice fa fn fc, .slice xa xn xc]::R) fun w=> IntsX [] w K[k] u:=(HK.out.imp fun w h=> by
     obtain ⟨u',hu',h'⟩:=h.2 k hkl
     rw [hu] at hu'
     obtain rfl:=Option.some.inj hu'
     exact h').cons _
    obtain ⟨b,o,c,e1,q1⟩:=hrd.1.some hu
    obtain ⟨rfl, -,rfl⟩:=Value.slice.inj e1
    have hql:=World.block_lt_of_cell? wr _ q1
    have hA:=SAdd_calls S n ((K.take k).foldl (addI n) []) K[k] u (HKC.out _ (List.getElem_mem hkl)) (by have:=addI_len n (K.take k) [];rw [List.length_take,List.length_nil] at this;omega) w0 wr fp0 _ hrdk Hs.out
    have hst:addI n ((K.take k).foldl (addI n) []) K[k]=(K.take (k+1)).foldl (addI n) []:=by
     rw [List.take_add_one,List.getElem?_eq_getElem hkl,List.foldl_append]
     rfl
    rw [hst] at hA
    have HA:=Lib.hid hA
    have Hgk:=Lib.hid hgk
    have hk':(k:Int) < kn:=by omega
    unfold ptrV at HA
    clear hrd hrdk hA hst hu e1 hkl hgk Hs
    go_wp2_with fail
    (with_reducible refine HA.out.mono ?_)
    rintro e w3 ⟨rfl,h3⟩
    have H3:=Lib.hid h3
    clear h3 HA
    go_wp2
    go_roundg (gk - 1)
    case rel=> exact ⟨k+1,by go_num,by have:=Hgk.out;omega,H3⟩
    case measure=> have:=Hgk.out;omega
  · obtain rfl:k=kn:=by omega
    have H1:RowKit.Hid (St w0 fp0 (storeA S n ((K++F.take 0).foldl (addI n) []) [] 1::blkA tv 89 #[.string nm, .slice ca n cc, .slice ka k kc, .slice fa fn fc, .slice xa xn xc]::R) wr):=by
     have h:=Hs.out
     rw [List.take_of_length_le (by rw [HKN.out];exact Nat.le_refl _)] at h
     rw [List.take_zero,List.append_nil]
     exact h
    obtain ⟨_,hb⟩:=H1.out.has 1 rfl
    have c3:=(blk_get hb).1 3
    have hbl:=(blk_get hb).2.2
    simp only [List.getElem?_toArray,List.getElem?_cons_zero,List.getElem?_cons_succ] at c3
    clear hb Hs hgk hk
    go_wp2
    go_loopg [28] fn (fun g z wr=> ∃k2:Nat,z=.int .i64 k2∧g+k2=fn∧RowKit.Hid (St w0 fp0 (storeA S n ((K++F.take k2).foldl (addI n) []) [] 1::blkA tv 89 #[.string nm, .slice ca n cc, .slice ka k kc, .slice fa fn fc, .slice xa xn xc]::R) wr))
    case atStart=> exact ⟨0,rfl,rfl,H1⟩
    case round=>
     clear H1
     obtain ⟨k2,rfl,hgk,Hs⟩:=hrel
     by_cases hk:k2 < fn
     · have hkl:k2 < F.length:=by rw [HFN.out];exact hk
       have hrd:=HF.out.at (M:=[_,_]) Hs.out
       obtain ⟨u,ua,ub,hu,hua,hub, -⟩:=hrd.2 k2 hkl
       have hrdk:Rd w0 fp0 (blkA tv 89 #[.string nm, .slice ca n cc, .slice ka k kc, .slice fa fn fc, .slice xa xn xc]::R) fun w=> IntsX [] w F[k2] u:=(HF.out.imp fun w h=> by
        obtain ⟨u',_,_,hu',_,_,h'⟩:=h.2 k2 hkl
        rw [hu] at hu'
        obtain rfl:=Option.some.inj hu'
        exact h').cons _
       obtain ⟨b,o,c,e1,q1⟩:=hrd.1.some hu
       obtain ⟨_,_,_,e2,q2⟩:=hrd.1.some hua
       obtain ⟨_,_,_,e3,q3⟩:=hrd.1.some hub
       obtain ⟨rfl, -,rfl⟩:=Value.slice.inj e1
       obtain ⟨e2, -, -⟩:=Value.slice.inj e2
       obtain ⟨e3, -, -⟩:=Value.slice.inj e3
       injection e2 with e2
       injection e2 with e2 e2'
       injection e3 with e3
       injection e3 with e3 e3'
       subst e2 e2' e3 e3'
       rw [←Nat.add_assoc] at q2 q3
       obtain ⟨ua',un',uc',rfl, -⟩:=(hrdk.at (M:=[_]) Hs.out).shape
       have hql:=World.block_lt_of_cell? wr _ q1
       have hA:=fun w' hb=> SAdd_calls S n ((K++F.take k2).foldl (addI n) []) F[k2] (.slice ua' un' uc') (HFC.out _ (List.getElem_mem hkl)) (by have:=addI_len n (K++F.take k2) [];rw [List.length_append,List.length_take,List.length_nil,HKN.out] at this;have:=HFN.out;have:=HKL.out;have:=HFL.out;have:=HKN.out;omega) w0 w' fp0 _ hrdk (Hs.out.mono hb)
       have hst:addI n ((K++F.take k2).foldl (addI n) []) F[k2]=(K++F.take (k2+1)).foldl (addI n) []:=by
        rw [List.take_add_one,List.getElem?_eq_getElem hkl,←List.append_assoc,List.foldl_append (l:=K++F.take k2)]
        rfl
       rw [hst] at hA
       have HA:=Lib.hid hA
       have Hgk:=Lib.hid hgk
       have hk':(k2:Int) < fn:=by omega
       unfold ptrV at HA
       clear hrd hrdk hA hst hu hua hub e1 hkl hgk Hs
       go_wp2_with fail
       (with_reducible refine (HA.out _ ((Below.refl _ _).alloc (Nat.le_refl _) _)).mono ?_)
       rintro e w3 ⟨rfl,h3⟩
       have H3:=Lib.hid h3
       clear h3 HA
       go_wp2
       go_roundg (gk - 1)
       case rel=> exact ⟨k2+1,by go_num,by have:=Hgk.out;omega,H3⟩
       case measure=> have:=Hgk.out;omega
     · obtain rfl:k2=fn:=by omega
       have HR:RowKit.Hid (St w0 fp0 (storeA S n IF [] 1::R) wr):=by
        have h:=Hs.out
        rw [List.take_of_length_le (by rw [HFN.out];exact Nat.le_refl _),HIF.out] at h
        exact (h.perm (List.Perm.swap _ _ _)).drop
       clear Hs hgk hk
       go_wp2
       go_ret
       exact ⟨_,rfl,HR.out⟩
/- The reference's store: New, Get, Delete. -/
section
variable {P:Program}
theorem wpList_appR {w:World} {ops:Array Oper} {rest:List Oper} {o:Oper} {a:Act} {Q:Exit→Act→World→Prop} (hgd:o.guard=none) (s x:Operand) (t tx:TypeId)
 (ho:o.op=.call { callee:=.builtin .append,args:=#[s,x],argTypes:=#[t,tx] }) {e:TypeId} {size:Nat} {v v2:Value} (hs:a.eval s=v) (hx:a.eval x=v2) (hC:AppSrc P t tx e size) {w0:World} {fp0:List Nat} {L:List Asn} {n m:Nat} {xs news:List Value}
 (hS:St w0 fp0 (rowA e size v n xs::L) w) (hsrc:Go.Src P size tx v2 m news w) (hl:n+m < 1099511627776)
 (h:∀v' w',RowKit.Hid (St w0 fp0 (rowA e size v' (n+m) (xs++news)::L) w')→wpList P ops Q rest (a.put o.dst v') w'):wpList P ops Q (o::rest) a w:=by
 refine wpList_plain hgd fun K hK=> ?_
 obtain ⟨v',w',hr,h2⟩:=St.appSrc hC o.type hS hsrc hl
 unfold Oper.wp execOp
 simp only [ho,resolve,invoke,builtin,Sem.run_bind,Sem.run_pure,Result.andThen_ok,List.map_toArray,List.map_cons,List.map_nil,hs,hx,hr]
 exact hK _ _ (h v' w' h2)
theorem src_litk {tx e':TypeId} (hk:P.underlying tx=some (.slice e')) (w:World) (size b m c:Nat) (t:TypeId) (fr:Nat×Nat) (cs:Array Value) (h:w.heap[b]? =some (.cells cs t fr)) (hn:cs.size=m * size) (h1:∀u∈cs.toList,u.oneCell'=true):Go.Src P size tx (.slice (some ⟨b,0,none⟩) m c) m cs.toList w:=
 Go.Src.ofSlice w hk _ m c _ (by simpa using hn) (fun j u hj=> by
  rw [add_plain,Nat.zero_add,cell_of_row w b j cs t fr h]
  simpa using hj) h1
end
end Go.Proofs.YtpdlkdoogojboaaGreat
