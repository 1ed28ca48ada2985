/- Part 8 of the proof: W7, W9, W8, Wa, Wb, Wc, Wi, Wd, Ti, Tg, Ea, Cp -/
import Derived.Test.YtpdlkdoogojboaaGreatH07
import Derived.Deep.RegionWith
import Derived.Test.YtpdlkdoogojboaaGreatH05
import Derived.Test.YtpdlkdoogojboaaGreatH00
import Derived.Test.YtpdlkdoogojboaaGreatH06
import Derived.OrdersIn
import Derived.OwnWalkIn
import Derived.TacticsInMore
import Derived.LoopIn
import Derived.LoopNIn
import Derived.Test.YtpdlkdoogojboaaGreatH03
import Derived.Test.YtpdlkdoogojboaaGreatH02
/- Rows of a bag. -/
namespace Go.Proofs.YtpdlkdoogojboaaGreat
open Go Go.RowKit
variable {G:Nat→Prop}
theorem rowsB_append (b c:List Ent):rowsB (b++c)=rowsB b++rowsB c:=by simp [rowsB]
/-- A block of another type stays where a list of rows grows. -/
theorem block_grown {w w':World} {B:Nat} {L:List Rw} {v:Value} {k:Nat} {cur:Array Value} {t:TypeId} (h:w.heap[k]? =some (.cells cur t (0,0))) (ht:t≠33) (hv:RowsNew AllB w B L v) (hg:w.grownBy w' v.ownBlock):w'.heap[k]? =some (.cells cur t (0,0)):=by
 refine (hg.block k (Array.getElem?_eq_some_iff.1 h).1 fun e=> ?_).trans h
 obtain ⟨xs,⟨_,⟨rfl,_⟩ | ⟨g,cap,cur',rfl,_,hg',_⟩⟩,_⟩:=hv
 · simp [Value.ownBlock] at e
 · simp only [Value.ownBlock,Option.some.injEq] at e
   rw [e,hg'] at h
   injection h with h
   injection h with _ h
   exact ht h.symm
set_option maxHeartbeats 4000000 in
set_option maxRecDepth 20000 in
theorem brows_calls (B pb:Nat) (s:Value) (b:List Ent) (w:World) (hb:BagAt G w B pb s b) (hlen:(rowsB b).length < 1099511627776) (hR:∀e∈b,e.1.length < 1099511627776):
 Calls Tryz.prog 31 #[.pointer (some ⟨pb,0,none⟩)] w fun e w'=> ∃v,e=.returned v∧RowsNew AllB w' w.heap.size (rowsB b) v∧Below w.heap.size w w':=by
 have hs:=hb.ents
 obtain ⟨a,n,c,rfl,hn,hm⟩:=hs.shape
 obtain ⟨c0,c1⟩:=hb.cell
 have hlt:=hb.lt
 have Hs:=Lib.hid hs
 have Hn:=Lib.hid hn
 have HR:=Lib.hid hR
 have Hlen:=Lib.hid hlen
 have Hwf:=Lib.hid hb.wf
 unfold maxLen at hm
 clear hs hn hR hb hlen c1
 go_enter Tryz.func31,Tryz.ntmps31
 go_wp2
 go_loopw [3,11] (fun v i wr=> ∃(k:Nat),k≤n∧i=.int .i64 k∧RowKit.Hid (RowsNew AllB wr w.heap.size (rowsB (b.take k)) v)∧RowKit.Hid (Below w.heap.size w wr)) (fun _ i _=> n - (intOf i).toNat)
 case atStart=> exact ⟨0,Nat.zero_le _,rfl,RowsNew.nil _ _,Below.refl _ _⟩
 case round=>
  obtain ⟨k,hk,rfl,Ho,Hb⟩:=hrel
  obtain ⟨am,cm,rfl⟩:=Ho.out.own.shape
  generalize hnm:(rowsB (b.take k)).length=nm at *
  have Hnm:=Lib.hid hnm
  clear hnm
  by_cases hlt':k < n
  · obtain ⟨W,rfl⟩:∃W:World,W=wr:=⟨_,rfl⟩
    have hk1:k < b.length:=by have:=Hn.out;omega
    obtain ⟨g,o,rfl⟩:=Hs.out.has k hlt'
    obtain ⟨ax,nx,cx,Hcell⟩:=Hs.out.entry k hk1
    have Htk:RowKit.Hid (rowsB (b.take (k+1))=rowsB (b.take k)++List.replicate b[k].2 b[k].1):=by
     show _=_
     rw [List.take_add_one,List.getElem?_eq_getElem hk1,rowsB_append]
     simp [rowsB]
    have Hle:RowKit.Hid (nm+b[k].2 < 1099511627776):=by
     show _ < _
     have h1:=Hlen.out
     have h2:rowsB b=rowsB (b.take (k+1))++rowsB (b.drop (k+1)):=by
      have:b=b.take (k+1)++b.drop (k+1):=(List.take_append_drop _ _).symm
      conv=> lhs;rw [this]
      simp only [rowsB,List.flatMap_append]
     rw [h2,Htk.out,List.length_append,List.length_append,List.length_replicate,Hnm.out] at h1
     omega
    obtain ⟨d0,d1,hx,hbl⟩:=Hcell.out _ Hb.out
    have HXl:=Lib.hid (HR.out b[k] (List.getElem_mem hk1))
    have Hx:=Lib.hid hx
    have Hbs:=Lib.hid Hb.out.size
    generalize b[k].1=X at *
    generalize b[k].2=N at *
    have i1:(0:Int)≤k:=by omega
    have i2:(k:Int) < n:=by omega
    have Hblk:RowKit.Hid ((W.alloc (.cells #[.slice ax nx cx, .int .i64 N] 139)).heap[W.heap.size]? =some (.cells #[.slice ax nx cx, .int .i64 N] 139 (0,0))):=heap_alloc_new W _
    have Ho1:=Lib.hid (Ho.out.alloc (.cells #[.slice ax nx cx, .int .i64 N] 139))
    have Hb1:RowKit.Hid (Below w.heap.size w (W.alloc (.cells #[.slice ax nx cx, .int .i64 N] 139))):=Hb.out.alloc Hbs.out _
    have hN:(N:Int) < 1099511627776:=by have:=Hle.out;omega
    clear hk1 hx
    go_wp2
    go_loopw [3,17] (fun v i wx=> ∃(j:Nat),j≤N∧i=.int .i64 j∧RowKit.Hid (RowsNew AllB wx w.heap.size (rowsB (b.take k)++List.replicate j X) v)∧RowKit.Hid (Below w.heap.size w wx)∧RowKit.Hid (wx.heap[W.heap.size]? =some (.cells #[.slice ax nx cx, .int .i64 N] 139 (0,0)))) (fun _ i _=> N - (intOf i).toNat)
    case atStart=> exact ⟨0,Nat.zero_le _,rfl,by show RowsNew _ _ _ _ _;simpa using Ho1.out,Hb1,Hblk⟩
    case round=>
     obtain ⟨j,hj,rfl,Ho2,Hb2,Hv⟩:=hrel
     obtain ⟨a2,cm2,rfl⟩:=Ho2.out.own.shape
     generalize hnm2:(rowsB (b.take k)++List.replicate j X).length=nm2 at *
     have Hnm2:=Lib.hid hnm2
     clear hnm2
     by_cases hjN:j < N
     · have v0:=cell_of_row wr W.heap.size 0 _ 139 (0,0) Hv.out
       have v1:=cell_of_row wr W.heap.size 1 _ 139 (0,0) Hv.out
       have vlt:=(Array.getElem?_eq_some_iff.1 Hv.out).1
       simp only [List.getElem?_toArray,List.getElem?_cons_zero,List.getElem?_cons_succ] at v0 v1
       have HC:=Lib.hid (clone_calls X _ wr (Hcell.out _ Hb2.out).2.2.1 HXl.out (fun _ _=> trivial))
       have Hrep:RowKit.Hid (rowsB (b.take k)++List.replicate (j+1) X=(rowsB (b.take k)++List.replicate j X)++[X]):=by show _=_;rw [List.replicate_succ',List.append_assoc]
       have Hl1:RowKit.Hid ((rowsB (b.take k)++List.replicate j X).length+1≤1099511627776):=by
        show _≤_
        rw [List.length_append,List.length_replicate,Hnm.out];have:=Hle.out;omega
       have Hbs2:=Lib.hid Hb2.out.size
       go_wp2_with fail
       (with_reducible refine HC.out.mono ?_)
       rintro e w1 ⟨cv,rfl,hcv,hb1⟩
       have Hcv:=Lib.hid (hcv.base Hbs2.out)
       have Ho4:=Lib.hid (Ho2.out.mono hb1)
       have Hb4:=Lib.hid (Hb2.out.trans (hb1.mono Hbs2.out))
       have Hbs4:=Lib.hid Hb4.out.size
       have Hv4:RowKit.Hid (w1.heap[W.heap.size]? =some (.cells #[.slice ax nx cx, .int .i64 N] 139 (0,0))):=(hb1.block _ vlt).trans Hv.out
       clear hcv hb1 v0 v1 vlt HC
       obtain ⟨ac,nc,cc,rfl,p1,p2⟩:=Hcv.out.vals.shape
       clear p1 p2
       go_wp2_with (at_builtin;go_loud (refine wpList_rowN rfl _ _ rfl w.heap.size (rowsB (b.take k)++List.replicate j X) X _ rfl (Ho4.out.alloc _) _ _ (.slice ac nc cc) rfl (by simp) (Hcv.out.alloc _) Hl1.out ?d2 ?_))
       case d2=> have:=Hbs4.out;simp;omega
       intro v2 w2 ho2 hb2 hg2
       have Ho5:RowKit.Hid (RowsNew AllB w2 w.heap.size (rowsB (b.take k)++List.replicate (j+1) X) v2):=by show RowsNew _ _ _ _ _;rw [Hrep.out,List.append_assoc];exact ho2
       have Hb5:RowKit.Hid (Below w.heap.size w w2):=(Hb4.out.alloc Hbs4.out _).trans hb2
       have Hv5:RowKit.Hid (w2.heap[W.heap.size]? =some (.cells #[.slice ax nx cx, .int .i64 N] 139 (0,0))):=by
        refine block_grown ?_ (by decide) (Ho4.out.alloc _) hg2
        rw [Below.heap_alloc _ _ _ (Array.getElem?_eq_some_iff.1 Hv4.out).1]
        exact Hv4.out
       clear ho2 hb2 hg2
       go_wp2
       go_roundw
       case rel=> exact ⟨j+1,by omega,by go_num,Ho5,Hb5,Hv5⟩
       case measure=> simp [intOf];omega
     · obtain rfl:j=N:=by omega
       have Ho3:RowKit.Hid (RowsNew AllB wr w.heap.size (rowsB (b.take (k+1))) (.slice a2 nm2 cm2)):=by show RowsNew _ _ _ _ _;rw [Htk.out];exact Ho2.out
       go_wp2
       go_roundw
       case rel=> exact ⟨k+1,by omega,by go_num,Ho3,Hb2⟩
       case measure=> simp [intOf];omega
  · obtain rfl:k=n:=by omega
    go_wp2
    go_ret
    have e:b.take k=b:=List.take_of_length_le (by have:=Hn.out;omega)
    rw [e] at Ho
    exact ⟨_,rfl,Ho.out,Hb.out⟩
end Go.Proofs.YtpdlkdoogojboaaGreat
/- A bag that is changed. -/
namespace Go.Proofs.YtpdlkdoogojboaaGreat
open Go Go.RowKit
variable {G:Nat→Prop}
theorem putB_has {b:List Ent} (hw:Wf b) {R:Rw} (h:hasB b R=true) (n:Nat):putB b R n=b.set (posB b R) (R,cntB b R+n):=by
 induction b with
 | nil=> simp [hasB] at h
 | cons x b ih=>
  have hx:=List.pairwise_cons.1 hw.asc
  by_cases e:x.1=R
  · have h1:¬ ltR x.1 R:=by rw [e];exact ltR_irrefl _
    have h0:posB (x::b) R=0:=by simp [posB,h1]
    rw [putB,if_neg h1,if_pos e,h0,cntB,if_pos e]
    simp
  · have h1:hasB b R=true:=by simpa [hasB,e] using h
    obtain ⟨h2,h3,h4⟩:=hasB_pos (wf_tail hw) h1
    have hlt:ltR x.1 R:=by rw [←h3];exact hx.1 _ (List.getElem_mem h2)
    have h0:posB (x::b) R=posB b R+1:=by simp [posB,hlt]
    rw [putB,if_pos hlt,h0,ih (wf_tail hw) h1,cntB,if_neg e]
    simp
theorem putB_not {b:List Ent} (hw:Wf b) {R:Rw} (h:hasB b R=false) (n:Nat):putB b R n=b.take (posB b R)++(R,n)::b.drop (posB b R):=by
 induction b with
 | nil=> simp [putB,posB]
 | cons x b ih=>
  have e:¬ x.1=R:=by intro e;simp [hasB,e] at h
  have h1:hasB b R=false:=by simpa [hasB,e] using h
  by_cases hlt:ltR x.1 R
  · have h0:posB (x::b) R=posB b R+1:=by simp [posB,hlt]
    rw [putB,if_pos hlt,h0,ih (wf_tail hw) h1]
    simp
  · have h0:posB (x::b) R=0:=by simp [posB,hlt]
    rw [putB,if_neg hlt,if_neg e,h0]
    simp
theorem set_ins {α:Type} (b:List α) (i:Nat) (hi:i≤b.length) (x y:α):(b.take i++x::b.drop i).set i y=b.take i++y::b.drop i:=by
 rw [List.set_append_right _ _ (by simp;omega)]
 simp [Nat.min_eq_left hi]
theorem cnt_le_len {b:List Ent} (hw:Wf b) (R:Rw):cntB b R≤lenB b:=by
 rw [←count_rowsB hw]
 exact List.count_le_length
theorem length_le_len {b:List Ent} (hw:Wf b):b.length≤lenB b:=by
 unfold lenB
 induction b with
 | nil=> simp
 | cons x b ih=>
  have:=hw.pos x (by simp)
  have:=ih (wf_tail hw)
  rw [rowsB_cons,List.length_append,List.length_replicate,List.length_cons]
  omega
/-- A bag's block and its entries, whatever the length says. -/
structure BagRaw (G:Nat→Prop) (w:World) (B pb:Nat) (s:Value) (b:List Ent) (m:Int):Prop where
 ge:B≤pb
 ptr:w.heap[pb]? =some (.cells #[s, .int .i64 m] 137 (0,0))
 ent:∃cs,w.ownsRow B 139 2 s b.length cs∧EntVs G w B b cs
theorem BagAt.raw {w:World} {B pb:Nat} {s:Value} {b:List Ent} (h:BagAt G w B pb s b):BagRaw G w B pb s b (lenB b):=⟨h.ge,h.ptr,h.ent⟩
theorem BagRaw.bag {w:World} {B pb:Nat} {s:Value} {b:List Ent} (h:BagRaw G w B pb s b (lenB b)) (hw:Wf b):BagAt G w B pb s b:=⟨h.ge,h.ptr,h.ent,hw⟩
theorem BagRaw.lt {w:World} {B pb:Nat} {s:Value} {b:List Ent} {m:Int} (h:BagRaw G w B pb s b m):pb < w.heap.size:=(Array.getElem?_eq_some_iff.1 h.ptr).1
theorem BagRaw.cell {w:World} {B pb:Nat} {s:Value} {b:List Ent} {m:Int} (h:BagRaw G w B pb s b m):w.cell? ⟨pb,0,none⟩=some s∧w.cell? ⟨pb,1,none⟩=some (.int .i64 m)∧∀j,w.frozen? ⟨pb,j,none⟩=false:=by
 have e0:=cell_of_row w pb 0 _ 137 (0,0) h.ptr
 have e1:=cell_of_row w pb 1 _ 137 (0,0) h.ptr
 exact ⟨by simpa using e0,by simpa using e1,fun j=> frozen_of_row w pb j _ 137 h.ptr⟩
theorem BagRaw.ne {w:World} {B pb:Nat} {s:Value} {b:List Ent} {m:Int} (h:BagRaw G w B pb s b m):s.ownBlock≠some pb:=by
 obtain ⟨cs,⟨_,⟨rfl,_⟩ | ⟨g,cap,cur,rfl,hb,hg,_⟩⟩,_⟩:=h.ent
 · simp [Value.ownBlock]
 · intro e
   simp only [Value.ownBlock,Option.some.injEq] at e
   rw [e,h.ptr] at hg
   injection hg with hg
   injection hg with _ hg
   exact absurd hg (by decide)
theorem EntVs.set {w:World} {B:Nat} {b:List Ent} {cs:List Value} (h:EntVs G w B b cs) (i:Nat) (hi:i < b.length) (c:Nat):EntVs G w B (b.set i (b[i].1,c)) (cs.set (i * 2+1) (.int .i64 c)):=by
 induction h generalizing i with
 | nil=> simp at hi
 | cons h1 h2 ih=>
  cases i with
  | zero=> exact .cons h1 h2
  | succ i=>
   rw [show (i+1) * 2+1=i * 2+1+1+1 by omega]
   simp only [List.set_cons_succ,List.getElem_cons_succ]
   exact .cons h1 (ih i (by simpa using hi))
theorem EntVs.append {w:World} {B:Nat} {b c:List Ent} {xs ys:List Value} (h:EntVs G w B b xs) (h':EntVs G w B c ys):EntVs G w B (b++c) (xs++ys):=by
 induction h with
 | nil=> exact h'
 | cons h1 _ ih=> exact .cons h1 ih
theorem EntVs.take {w:World} {B:Nat} {b:List Ent} {cs:List Value} (h:EntVs G w B b cs) (i:Nat):EntVs G w B (b.take i) (cs.take (i * 2)):=by
 induction h generalizing i with
 | nil=> simp;exact .nil
 | cons h1 _ ih=>
  cases i with
  | zero=> simp;exact .nil
  | succ i=> rw [show (i+1) * 2=i * 2+1+1 by omega];exact .cons h1 (ih i)
theorem EntVs.drop {w:World} {B:Nat} {b:List Ent} {cs:List Value} (h:EntVs G w B b cs) (i:Nat):EntVs G w B (b.drop i) (cs.drop (i * 2)):=by
 induction h generalizing i with
 | nil=> simp;exact .nil
 | cons h1 h2 ih=>
  cases i with
  | zero=> exact .cons h1 h2
  | succ i=> rw [show (i+1) * 2=i * 2+1+1 by omega];exact ih i
theorem no38 {w:World} {g:Nat} {cur:Array Value} {t:TypeId} {fr:Nat×Nat} (h:w.heap[g]? =some (.cells cur t fr)) (ht:t≠68):∀cur fr,w.heap[g]? ≠some (.cells cur 68 fr):=by
 intro cur' fr' e
 rw [h] at e
 injection e with e
 injection e with _ e
 exact ht e
theorem ownBlock57 {w:World} {B n:Nat} {s:Value} {cs:List Value} (h:w.ownsRow B 139 2 s n cs):∀k,s.ownBlock=some k→∃cur fr,w.heap[k]? =some (.cells cur 139 fr):=by
 intro k hk
 obtain ⟨_,⟨rfl,_⟩ | ⟨g,cap,cur,rfl,hb,hg,_⟩⟩:=h
 · simp [Value.ownBlock] at hk
 · simp only [Value.ownBlock,Option.some.injEq] at hk
   subst hk
   exact ⟨cur,_,hg⟩
/-- A count is written. -/
theorem BagRaw.count {w:World} {B pb g cap:Nat} {b:List Ent} {m:Int} (h:BagRaw G w B pb (.slice (some ⟨g,0,none⟩) b.length cap) b m) (i:Nat) (hi:i < b.length) (c:Nat):
 BagRaw G (w.setCell ⟨g,i * 2+1,none⟩ (.int .i64 c)) B pb (.slice (some ⟨g,0,none⟩) b.length cap) (b.set i (b[i].1,c)) m∧ChgB w (w.setCell ⟨g,i * 2+1,none⟩ (.int .i64 c)) pb (some g):=by
 have hne:=h.ne
 simp only [Value.ownBlock,ne_eq,Option.some.injEq] at hne
 obtain ⟨h1,h2,cs,h3,h4⟩:=h
 have h5:=h3.stored (i * 2+1) (.int .i64 c)
 have hc:=ChgB.of_grown h5.2 pb
 refine ⟨⟨h1,(Below.heap_setCell w ⟨g,i * 2+1,none⟩ _ pb (fun e=> hne e.symm)).trans h2,_,by simpa using h5.1,(h4.set i hi c).chg hc (no38 h2 (by decide)) ?_⟩,hc⟩
 intro k hk
 obtain ⟨cur,fr,e⟩:=ownBlock57 h3 k hk
 exact no38 e (by decide)
theorem setCell_chg (w:World) (pb i:Nat) (u:Value) (g:Option Nat):ChgB w (w.setCell ⟨pb,i,none⟩ u) pb g:=
 ⟨rfl,rfl,rfl,by simp,fun k _ hk _=> Below.heap_setCell w ⟨pb,i,none⟩ u k hk⟩
/-- The length is written. -/
theorem BagRaw.length {w:World} {B pb:Nat} {s:Value} {b:List Ent} {m:Int} (h:BagRaw G w B pb s b m) (m':Int):
 BagRaw G (w.setCell ⟨pb,1,none⟩ (.int .i64 m')) B pb s b m'∧ChgB w (w.setCell ⟨pb,1,none⟩ (.int .i64 m')) pb none:=by
 have hne:=h.ne
 obtain ⟨h1,h2,cs,h3,h4⟩:=h
 have hc:=setCell_chg w pb 1 (.int .i64 m') none
 refine ⟨⟨h1,?_,cs,?_,h4.chg hc (no38 h2 (by decide)) (by simp)⟩,hc⟩
 · exact heap_setCell_same w pb 1 _ 137 _ h2
 · refine ⟨h3.1,?_⟩
   rcases h3.2 with e | ⟨g,cap,cur,hv,hb,hg,rest⟩
   · exact .inl e
   · refine .inr ⟨g,cap,cur,hv,hb,?_,rest⟩
     rw [Below.heap_setCell w ⟨pb,1,none⟩ _ g (fun e=> hne (by rw [hv];show some g=_;rw [e]))]
     exact hg
/-- What a call that writes a bag leaves. -/
def Mut (G:Nat→Prop) (w:World) (B pb:Nat) (s:Value) (b:List Ent) (w':World):Prop:=
 ∃s',BagAt G w' B pb s' b∧ChgB w w' pb s.ownBlock∧∀k,s'.ownBlock=some k→s.ownBlock=some k∨w.heap.size≤k
end Go.Proofs.YtpdlkdoogojboaaGreat
/- slices.Insert at entries. -/
namespace Go.Proofs.YtpdlkdoogojboaaGreat
open Go Go.RowKit
theorem Tryz.info139':(Tryz.prog.info? 139).map (fun i=> (i.zero,i.size,i.bytes))=some (some (.agg #[.slice none 0 0, .int .i64 0]),2,32):=by kernel_rfl
/-- What Insert leaves. -/
def Ins (w:World) (B:Nat) (s:Value) (n i:Nat) (cs vs:List Value) (e:Ending) (w':World):Prop:=
 ∃s',e=.returned s'∧w'.ownsRow B 139 2 s' (n+1) (cs.take (i * 2)++vs++cs.drop (i * 2))∧w.grownBy w' s.ownBlock∧∀k,s'.ownBlock=some k→s.ownBlock=some k∨w.heap.size≤k
set_option maxHeartbeats 2000000 in
set_option maxRecDepth 100000 in
theorem insert_end (B:Nat) (s:Value) (n vb:Nat) (cs:List Value) (x:Value) (w:World) (hs:w.ownsRow B 139 2 s n cs) (hn:n < 1099511627776) (hB:B≤w.heap.size)
 (hv:w.heap[vb]? =some (.cells #[x, .int .i64 0] 139 (0,0))) (hx:x.oneCell'=true):
 Calls Tryz.prog 136 #[s, .int .i64 n, .slice (some ⟨vb,0,none⟩) 1 1] w (Ins w B s n n cs [x, .int .i64 0]):=by
 obtain ⟨i0,ii,iz0,iz1,iz2⟩:=info_parts Tryz.info139'
 have Hs:=Lib.hid hs
 have Hv:RowKit.Hid (∀j u,[x,Value.int .i64 0][j]? =some u→w.cell? ((⟨vb,0,none⟩:Addr).add j)=some u):=by
  intro j u hu
  rw [Addr.add_lit,Nat.zero_add,cell_of_row w vb j _ 139 (0,0) hv]
  simpa using hu
 have H1:RowKit.Hid (∀u∈[x,Value.int .i64 0],u.oneCell'=true):=by
  intro u hu
  simp at hu
  rcases hu with rfl | rfl
  · exact hx
  · rfl
 have Hfin:RowKit.Hid (∀v' w',w'.ownsRow B 139 2 v' (n+1) (cs++[x, .int .i64 0])→w.grownBy w' s.ownBlock→(∀k,v'.ownBlock=some k→s.ownBlock=some k∨w.heap.size≤k)→Ins w B s n n cs [x, .int .i64 0] (.returned v') w'):=by
  intro v' w' h1 h2 h3
  refine ⟨v',rfl,?_,h2,h3⟩
  have hl:=hs.1
  rw [List.take_of_length_le (by omega),List.drop_of_length_le (by omega),List.append_nil]
  exact h1
 obtain ⟨a,c,hsl,hcn⟩:∃a c,s=.slice a n c∧n≤c:=by
  rcases hs.2 with ⟨rfl,rfl⟩ | ⟨g,cap,cur,rfl,_,_,h,_⟩
  · exact ⟨_,_,rfl,Nat.le_refl _⟩
  · exact ⟨_,_,rfl,h⟩
 subst hsl
 have hc63:c≤maxLen:=by
  rcases hs.2 with ⟨h,rfl⟩ | ⟨g,cap,cur,h,_,_,_,h2,_⟩
  · injection h with _ _ h;subst h;decide
  · injection h with _ _ h;subst h;exact h2
 unfold maxLen at hc63
 have Hsl:RowKit.Hid (a=none→n=0∧c=0):=by
  intro ha
  rcases hs.2 with ⟨h,rfl⟩ | ⟨g,cap,cur,h,_⟩
  · injection h with _ _ h;exact ⟨rfl,h⟩
  · injection h with h;rw [ha] at h;cases h
 clear hs hv hx
 go_enter Tryz.func136,Tryz.ntmps136
 cases a with
 | none=>
  obtain ⟨rfl,rfl⟩:=Hsl.out rfl
  go_wp2_with (at_builtin;go_loud (refine wpList_append_block _ rfl _ _ 135 rfl B 139 i0 (.agg #[.slice none 0 0, .int .i64 0]) 2 32 Tryz.underlying135 ii iz0 iz1 iz2 rfl (by decide) _ _ _ rfl Hs.out ⟨vb,0,none⟩ 1 1 [x, .int .i64 0] rfl rfl Hv.out H1.out (by decide) ?c1 ?c2 hB ?_))
  case c1=> unfold maxLen;omega
  intro v' w' h1 h2 h3
  have Hr:=Lib.hid (Hfin.out v' w' h1 h2 h3.out)
  clear h1 h2 h3
  go_wp2
  go_ret
  exact Hr.out
 | some ad=>
  obtain ⟨ab,ao,asp⟩:=ad
  go_wp2_with (at_builtin;refine wpList_append_block _ rfl _ _ 135 rfl B 139 i0 (.agg #[.slice none 0 0, .int .i64 0]) 2 32 Tryz.underlying135 ii iz0 iz1 iz2 rfl (by decide) _ _ _ rfl Hs.out ⟨vb,0,none⟩ 1 1 [x, .int .i64 0] rfl rfl Hv.out H1.out (by decide) (by unfold maxLen;omega) (by omega) hB ?_)
  all_goals
   intro v' w' h1 h2 h3
   have Hr:=Lib.hid (Hfin.out v' w' h1 h2 h3.out)
   clear h1 h2 h3
   go_wp2
   go_ret
   exact Hr.out
set_option maxHeartbeats 2000000 in
set_option maxRecDepth 100000 in
theorem insert_shift (B:Nat) (g n c i vb:Nat) (cs:List Value) (cur:Array Value) (x:Value) (w:World) (hn:n < 1099511627776) (hin:i < n) (hnc:n < c) (hcm:c≤maxLen)
 (hg:w.heap[g]? =some (.cells cur 139 (0,0))) (hbg:B≤g) (hcur:cur.size=c * 2) (htk:cur.toList.take (n * 2)=cs) (h1:∀u∈cs,u.oneCell'=true)
 (hv:w.heap[vb]? =some (.cells #[x, .int .i64 0] 139 (0,0))) (hx:x.oneCell'=true) (hne:vb≠g):
 Calls Tryz.prog 136 #[.slice (some ⟨g,0,none⟩) n c, .int .i64 i, .slice (some ⟨vb,0,none⟩) 1 1] w (Ins w B (.slice (some ⟨g,0,none⟩) n c) n i cs [x, .int .i64 0]):=by
 obtain ⟨i0,ii,iz0,iz1,iz2⟩:=info_parts Tryz.info139'
 have hov:∀lb cb,(callFunc 172 #[.slice (some ⟨vb,0,none⟩) 1 1, .slice (some ⟨g,(i+1) * 2,none⟩) lb cb]).run Tryz.prog w=.ok (.value (.bool false)) w:=fun lb cb=> by
  rw [run_callFunc_extern Tryz.func172 (by kernel_rfl) (by kernel_rfl) (by kernel_rfl) (e:=Extern.SlicesOverlaps.overlaps #[135,135] #[4]) (by kernel_rfl),
   Lib.run_overlaps_apart w 135 4 139 Tryz.underlying135 2 (fun w=> by simp [sizeOf,typeInfo,ii,iz1]) ⟨vb,0,none⟩ ⟨g,(i+1) * 2,none⟩ 1 1 lb cb hne 139 139 2 (c * 2) (by simp [World.shape?,hv]) (by simp [World.shape?,hg,hcur]) (by omega) (by simp [World.frozen?,hv]) (by simp [World.frozen?,hv])]
  rfl
 have hsz:(Tryz.prog.info? 139).map (·.size)=some 2:=by rw [ii];simp [iz1]
 have hl:cs.length=n * 2:=by rw [←htk];simp;omega
 unfold maxLen at hcm
 have Hsrc:RowKit.Hid (∀j u,(cs.drop (i * 2))[j]? =some u→w.cell? ((⟨g,i * 2,none⟩:Addr).add j)=some u):=by
  intro j u hu
  rw [Addr.add_lit,cell_of_row w g _ cur 139 (0,0) hg]
  rw [List.getElem?_drop,←htk,List.getElem?_take] at hu
  split at hu
  · simpa using hu
  · cases hu
 have Hv:RowKit.Hid (∀w',w.grownBy w' (some g)→∀j u,[x,Value.int .i64 0][j]? =some u→w'.cell? ((⟨vb,0,none⟩:Addr).add j)=some u):=by
  intro w' hw j u hu
  have hv':w'.heap[vb]? =some (.cells #[x, .int .i64 0] 139 (0,0)):=(hw.block vb (Array.getElem?_eq_some_iff.1 hv).1 (by simpa using hne)).trans hv
  rw [Addr.add_lit,Nat.zero_add,cell_of_row w' vb j _ 139 (0,0) hv']
  simpa using hu
 have H1:RowKit.Hid (∀u∈[x,Value.int .i64 0],u.oneCell'=true):=by
  intro u hu
  simp at hu
  rcases hu with rfl | rfl
  · exact hx
  · rfl
 have H1c:RowKit.Hid (∀u∈cs.drop (i * 2),u.oneCell'=true):=fun u hu=> h1 u (List.mem_of_mem_drop hu)
 have Hg:RowKit.Hid (w.heap[g]? =some (.cells cur.toList.toArray 139 (0,0))):=hg
 have Hfit:RowKit.Hid ((i+1) * 2+(cs.drop (i * 2)).length≤cur.toList.length):=by show _≤_;simp;omega
 have Hmin:RowKit.Hid ((cs.drop (i * 2)).length=Nat.min (n+1 - i) (n - i) * 2):=by show _=_;simp only [List.length_drop,Nat.min_def];split <;> omega
 have Hfit2:RowKit.Hid (i * 2+[x,Value.int .i64 0].length≤(splice cur.toList ((i+1) * 2) (cs.drop (i * 2))).length):=by show _≤_;rw [splice_length _ _ _ Hfit.out];simp;omega
 have Hmin2:RowKit.Hid ([x,Value.int .i64 0].length=Nat.min 1 (n+1 - i) * 2):=by show _=_;simp only [List.length_cons,List.length_nil,Nat.min_def];split <;> omega
 have Hfin:RowKit.Hid (∀w' w'',w.grownBy w' (some g)→w'.grownBy w'' (some g)→w''.heap[g]? =some (.cells (splice (splice cur.toList ((i+1) * 2) (cs.drop (i * 2))) (i * 2) [x, .int .i64 0]).toArray 139 (0,0))→
  Ins w B (.slice (some ⟨g,0,none⟩) n c) n i cs [x, .int .i64 0] (.returned (.slice (some ⟨g,0,none⟩) (n+1) c)) w''):=by
  intro w' w'' g1 g2 hw
  refine ⟨_,rfl,⟨by simp;omega, .inr ⟨g,c,_,rfl,hbg,hw,by omega,by unfold maxLen;omega,?_,?_⟩⟩,?_,fun k hk=> .inl hk⟩
  · have:=Hfit2.out
    have hh:=Hfit.out
    simp only [List.size_toArray,splice_length _ _ _ this,splice_length _ _ _ hh,Array.length_toList,hcur]
  · have:=row_shift cur.toList (i * 2) (n * 2) [x, .int .i64 0] (by simp;omega) (by omega)
    rw [htk] at this
    rw [show (n+1) * 2=n * 2+[x,Value.int .i64 0].length by simp;omega,show (i+1) * 2=i * 2+[x,Value.int .i64 0].length by simp;omega]
    simpa using this
  · exact ⟨g2.os.trans g1.os,g2.tape.trans g1.tape,g2.output.trans g1.output,Nat.le_trans g1.size g2.size,fun k hk hk'=> (g2.block k (Nat.lt_of_lt_of_le hk g1.size) hk').trans (g1.block k hk hk')⟩
 have hw1:IntKind.i64.wrap ((i:Int)+(1:Int))=(i:Int)+(1:Int):=by rw [IntKind.wrap_i64];omega
 have hb1:(0:Int)≤(i:Int)+(1:Int):=by omega
 have htn:((i:Int)+(1:Int)).toNat=i+1:=by omega
 have hb2:¬ (c=i+1):=by omega
 have hb4:¬ (c=i):=by omega
 have hin':i≤n:=by omega
 have hi0:(0:Int)≤(i:Int):=by omega
 have hi1:(i:Int) < (n:Int):=by omega
 have hi2:(i:Int)≤(n:Int)+1:=by omega
 have hz2:¬ ((i:Int)=(n:Int)):=by omega
 have hn0:(n:Int)+1≤c:=by omega
 clear hv hx h1 hg htk hl hcur hne
 go_enter Tryz.func136,Tryz.ntmps136
 go_wp2_with (simp only [hov])
 go_region_law ((refine step_copy2 rfl _ _ 135 135 rfl 139 2 Tryz.underlying135 hsz g ((i+1) * 2) (n - i) (c - (i+1)) ⟨g,i * 2,none⟩ (n+1 - i) (c - i) (by simp [Act.eval,Act.put, *]) (by simp [Act.eval,Act.put, *]) cur.toList 139 Hg.out (cs.drop (i * 2)) Hmin.out Hsrc.out Hfit.out H1c.out ?_;intro W1 hW1 hG1))
 go_wp2_with (first | (refine wpList_copy2 rfl _ _ 135 135 rfl 139 2 Tryz.underlying135 hsz g (i * 2) (n+1 - i) (c - i) ⟨vb,0,none⟩ 1 1 rfl rfl (splice cur.toList ((i+1) * 2) (cs.drop (i * 2))) 139 hW1.out [x, .int .i64 0] Hmin2.out ?e1 Hfit2.out H1.out ?_))
 case e1=> exact Hv.out W1 (grown_drew hG1.out)
 intro W2 hW2 hG2
 have Hr:=Lib.hid (Hfin.out W1 W2 (grown_drew hG1.out) hG2.out hW2.out)
 clear hG1 hG2 hW1 hW2
 go_wp2
 go_ret
 exact Hr.out
set_option maxHeartbeats 2000000 in
set_option maxRecDepth 100000 in
theorem insert_grow (B:Nat) (g n i vb:Nat) (cs:List Value) (cur:Array Value) (x:Value) (w:World) (hn:n < 1099511627776) (hin:i < n) (hB:B≤w.heap.size)
 (hg:w.heap[g]? =some (.cells cur 139 (0,0))) (hcur:cur.size=n * 2) (htk:cur.toList.take (n * 2)=cs) (h1:∀u∈cs,u.oneCell'=true)
 (hv:w.heap[vb]? =some (.cells #[x, .int .i64 0] 139 (0,0))) (hx:x.oneCell'=true):
 Calls Tryz.prog 136 #[.slice (some ⟨g,0,none⟩) n n, .int .i64 i, .slice (some ⟨vb,0,none⟩) 1 1] w (Ins w B (.slice (some ⟨g,0,none⟩) n n) n i cs [x, .int .i64 0]):=by
 obtain ⟨i0,ii,iz0,iz1,iz2⟩:=info_parts Tryz.info139'
 have hsz:(Tryz.prog.info? 139).map (·.size)=some 2:=by rw [ii];simp [iz1]
 have hl:cs.length=n * 2:=by rw [←htk];simp;omega
 have hgl:g < w.heap.size:=(Array.getElem?_eq_some_iff.1 hg).1
 have hvl:vb < w.heap.size:=(Array.getElem?_eq_some_iff.1 hv).1
 have Hold:RowKit.Hid (∀j u,(cs.take (i * 2))[j]? =some u→w.cell? ⟨g,j,none⟩=some u):=by
  intro j u hu
  rw [cell_of_row w g _ cur 139 (0,0) hg]
  rw [List.getElem?_take] at hu
  split at hu
  · rw [←htk,List.getElem?_take] at hu
    split at hu
    · simpa using hu
    · cases hu
  · cases hu
 have Hsrc:RowKit.Hid (∀w',Below w.heap.size w w'→∀j u,(cs.drop (i * 2))[j]? =some u→w'.cell? ((⟨g,i * 2,none⟩:Addr).add j)=some u):=by
  intro w' hb j u hu
  rw [Addr.add_lit,cell_of_row w' g _ cur 139 (0,0) ((hb.block g hgl).trans hg)]
  rw [List.getElem?_drop,←htk,List.getElem?_take] at hu
  split at hu
  · simpa using hu
  · cases hu
 have Hv:RowKit.Hid (∀w',Below w.heap.size w w'→∀j u,[x,Value.int .i64 0][j]? =some u→w'.cell? ((⟨vb,0,none⟩:Addr).add j)=some u):=by
  intro w' hb j u hu
  rw [Addr.add_lit,Nat.zero_add,cell_of_row w' vb j _ 139 (0,0) ((hb.block vb hvl).trans hv)]
  simpa using hu
 have H1:RowKit.Hid (∀u∈[x,Value.int .i64 0],u.oneCell'=true):=by
  intro u hu
  simp at hu
  rcases hu with rfl | rfl
  · exact hx
  · rfl
 have H1c:RowKit.Hid (∀u∈cs.drop (i * 2),u.oneCell'=true):=fun u hu=> h1 u (List.mem_of_mem_drop hu)
 have Hlt:RowKit.Hid ((cs.take (i * 2)).length=i * 2):=by show _=_;simp;omega
 have Hmin2:RowKit.Hid (∀m,1≤m→[x,Value.int .i64 0].length=Nat.min 1 m * 2):=by intro m hm;simp only [List.length_cons,List.length_nil,Nat.min_def];split <;> omega
 have Hmin:RowKit.Hid ((cs.drop (i * 2)).length=Nat.min (n - i) (n - i) * 2):=by show _=_;simp only [List.length_drop,Nat.min_def];split <;> omega
 have Hfit:RowKit.Hid (∀G Z,Z.length=(G - i) * 2→n+1≤G→i * 2+[x,Value.int .i64 0].length≤(cs.take (i * 2)++Z).length):=by intro G Z h1 h2;simp;omega
 have Hfit2:RowKit.Hid (∀G Z,Z.length=(G - i) * 2→n+1≤G→(i+1) * 2+(cs.drop (i * 2)).length≤(splice (cs.take (i * 2)++Z) (i * 2) [x,Value.int .i64 0]).length):=by
  intro G Z h1 h2;rw [splice_length _ _ _ (Hfit.out G Z h1 h2)];simp;omega
 have Hfin:RowKit.Hid (∀w1 w2 w3 G Z,Z.length=(G - i) * 2→n+1≤G→G≤maxLen→w.grownBy w1 none→w1.grownBy w2 (some w.heap.size)→w2.grownBy w3 (some w.heap.size)→w3.heap[w.heap.size]? =some (.cells (splice (splice (cs.take (i * 2)++Z) (i * 2) [x, .int .i64 0]) ((i+1) * 2) (cs.drop (i * 2))).toArray 139 (0,0))→
  Ins w B (.slice (some ⟨g,0,none⟩) n n) n i cs [x, .int .i64 0] (.returned (.slice (some ⟨w.heap.size,0,none⟩) (n+1) G)) w3):=by
  intro w1 w2 w3 G Z hZ hG hGm g1 g2 g3 hw
  have f1:=Hfit.out G Z hZ hG
  have f2:=Hfit2.out G Z hZ hG
  refine ⟨_,rfl,⟨by simp;omega, .inr ⟨w.heap.size,G,_,rfl,hB,hw,hG,hGm,?_,?_⟩⟩,?_,fun k hk=> .inr ?_⟩
  · simp only [List.size_toArray,splice_length _ _ _ f2,splice_length _ _ _ f1]
    simp;omega
  · have:=row_grow cs Z (i * 2) [x, .int .i64 0] (by omega) (by simp;omega)
    rw [show (n+1) * 2=cs.length+[x,Value.int .i64 0].length by simp;omega,show (i+1) * 2=i * 2+[x,Value.int .i64 0].length by simp;omega]
    simpa using this
  · refine ⟨g3.os.trans (g2.os.trans g1.os),g3.tape.trans (g2.tape.trans g1.tape),g3.output.trans (g2.output.trans g1.output),Nat.le_trans g1.size (Nat.le_trans g2.size g3.size),fun k hk hk'=> ?_⟩
    have a1:some k≠some w.heap.size:=by intro e;injection e;omega
    have:=g1.size
    have:=g2.size
    exact (g3.block k (by omega) a1).trans ((g2.block k (by omega) a1).trans (g1.block k hk (by simp)))
  · simp [Value.ownBlock] at hk;omega
 have Hb1:RowKit.Hid (∀w1,w.grownBy w1 none→Below w.heap.size w w1):=fun w1 g1=> (Below.refl _ _).grown g1 (Nat.le_refl _) (by simp)
 have Hb2:RowKit.Hid (∀w1 w2,w.grownBy w1 none→w1.grownBy w2 (some w.heap.size)→Below w.heap.size w w2):=fun w1 w2 g1 g2=> (Hb1.out w1 g1).grown g2 g1.size (by intro k hk;injection hk;omega)
 have hw1:IntKind.i64.wrap ((i:Int)+(1:Int))=(i:Int)+(1:Int):=by rw [IntKind.wrap_i64];omega
 have hb1:(0:Int)≤(i:Int)+(1:Int):=by omega
 have htn:((i:Int)+(1:Int)).toNat=i+1:=by omega
 have hb4:¬ (n=i):=by omega
 have hin':i≤n:=by omega
 have hi0:(0:Int)≤(i:Int):=by omega
 have hi1:(i:Int) < (n:Int):=by omega
 have hi2:(i:Int)≤(n:Int)+1:=by omega
 have hi3:(i:Int)≤(n:Int):=by omega
 have hz2:¬ ((i:Int)=(n:Int)):=by omega
 have hk1:(n:Int)+1 - (i:Int)=((n+1 - i:Nat):Int):=by omega
 have Hk2:RowKit.Hid (i+(n+1 - i)=n+1):=by show _=_;omega
 clear hv hx h1 hg htk hl hcur hgl hvl
 go_enter Tryz.func136,Tryz.ntmps136
 go_wp2_with (at_builtin;refine wpList_append_zeros rfl _ _ 135 3 rfl 139 i0 (.agg #[.slice none 0 0, .int .i64 0]) 2 32 .i64 .i64 Tryz.underlying135 (by kernel_rfl) ii iz0 iz1 iz2 rfl (by decide) g i n rfl (n+1 - i) rfl (cs.take (i * 2)) Hlt.out Hold.out (by omega) (by omega) hin' (by omega) (by omega) ?_)
 intro w1 G Z hw1' hZ hGn hGm hg1
 rw [Hk2.out] at hGn ⊢
 have Hb3:=Lib.hid (Hb1.out w1 hg1.out)
 have hG1:¬ (G=i):=by omega
 have hG2:¬ (G=i+1):=by omega
 go_wp2_with (first | (refine wpList_copy2 rfl _ _ 135 135 rfl 139 2 Tryz.underlying135 hsz w.heap.size (i * 2) (n+1 - i) (G - i) ⟨vb,0,none⟩ 1 1 rfl rfl (cs.take (i * 2)++Z) 139 hw1'.out [x, .int .i64 0] (Hmin2.out _ (by omega)) (Hv.out _ Hb3.out) (Hfit.out G Z hZ.out hGn) H1.out ?_))
 intro w2 hw2' hg2
 have Hb4:=Lib.hid (Hb2.out w1 w2 hg1.out hg2.out)
 go_wp2
 go_region_law ((refine step_copy2 rfl _ _ 135 135 rfl 139 2 Tryz.underlying135 hsz w.heap.size ((i+1) * 2) (n - i) (G - (i+1)) ⟨g,i * 2,none⟩ (n - i) (n - i) (by simp [Act.eval,Act.put, *]) (by simp [Act.eval,Act.put, *]) (splice (cs.take (i * 2)++Z) (i * 2) [x, .int .i64 0]) 139 hw2'.out (cs.drop (i * 2)) Hmin.out (Hsrc.out _ (Below.drew Hb4.out)) (Hfit2.out G Z hZ.out hGn) H1c.out ?_;intro w3 hw3' hg3))
 have Hr:=Lib.hid (Hfin.out w1 w2 w3 G Z hZ.out hGn hGm.out hg1.out hg2.out (grown_drew hg3.out) hw3'.out)
 clear hg1 hg2 hg3 hw1' hw2' hw3' hZ hGm
 go_wp2
 go_ret
 exact Hr.out
theorem insert_calls (B:Nat) (s:Value) (n i vb:Nat) (cs:List Value) (x:Value) (w:World) (hs:w.ownsRow B 139 2 s n cs) (h1:∀u∈cs,u.oneCell'=true) (hn:n < 1099511627776) (hi:i≤n) (hB:B≤w.heap.size)
 (hv:w.heap[vb]? =some (.cells #[x, .int .i64 0] 139 (0,0))) (hx:x.oneCell'=true) (hne:s.ownBlock≠some vb):
 Calls Tryz.prog 136 #[s, .int .i64 i, .slice (some ⟨vb,0,none⟩) 1 1] w (Ins w B s n i cs [x, .int .i64 0]):=by
 by_cases he:i=n
 · subst he
   exact insert_end B s i vb cs x w hs hn hB hv hx
 · obtain ⟨hl,⟨rfl,h0⟩ | ⟨g,c,cur,rfl,hbg,hg,hnc,hcm,hcur,htk⟩⟩:=hs
   · omega
   · have hne':vb≠g:=by intro e;subst e;exact hne rfl
     by_cases hc:n=c
     · subst hc
       exact insert_grow B g n i vb cs cur x w hn (by omega) hB hg hcur htk h1 hv hx
     · exact insert_shift B g n c i vb cs cur x w hn (by omega) (by omega) hcm hg hbg hcur htk h1 hv hx hne'
/- put. -/
variable {G:Nat→Prop}
/-- What is there behind the Insert of put, and when its result is stored. -/
def InsB (G:Nat→Prop) (w:World) (B pb:Nat) (s:Value) (b1:List Ent) (m:Int) (v:Value) (w':World):Prop:=
 w'.heap[pb]? =some (.cells #[s, .int .i64 m] 137 (0,0))∧BagRaw G (w'.setCell ⟨pb,0,none⟩ v) B pb v b1 m∧ChgB w (w'.setCell ⟨pb,0,none⟩ v) pb s.ownBlock∧∀k,v.ownBlock=some k→s.ownBlock=some k∨w.heap.size≤k
theorem insert_bag (B pb:Nat) (s:Value) (b:List Ent) (R:Rw) (w W:World) (vb:Nat) (x:Value) (hb:BagAt G w B pb s b) (hW:Below w.heap.size w W) (hvb:w.heap.size≤vb) (hx:RowO G W w.heap.size R x)
 (hv:W.heap[vb]? =some (.cells #[x, .int .i64 0] 139 (0,0))) (hlen:b.length < 1099511627776):
 Calls Tryz.prog 136 #[s, .int .i64 (posB b R), .slice (some ⟨vb,0,none⟩) 1 1] W fun e w'=> ∃a m c,e=.returned (.slice a m c)∧InsB G w B pb s (b.take (posB b R)++(R,0)::b.drop (posB b R)) (lenB b) (.slice a m c) w':=by
 have hpl:=posB_le b R
 have hpb:=hb.lt
 have hraw:=hb.raw
 have hge:=hb.ge
 obtain ⟨cs,ho,he⟩:=hb.ent
 have hx1:x.oneCell'=true:=by obtain ⟨a,n,c,rfl,_⟩:=hx.vals.shape;rfl
 have hlt:∀k,s.ownBlock=some k→k < w.heap.size:=fun k hk=> (ho.lt k hk).2
 refine (insert_calls B s b.length (posB b R) vb cs x W (own_below ho hW) he.one hlen hpl (by have:=hW.size;omega) hv hx1 (fun e=> by have:=hlt vb e;omega)).mono ?_
 rintro e w' ⟨s1,rfl,h1,h2,h3⟩
 have hsh:∃a m c,s1=.slice a m c:=by
  rcases h1.2 with ⟨rfl,_⟩ | ⟨g,cap,cur,rfl,_⟩ <;> exact ⟨_,_,_,rfl⟩
 obtain ⟨a,m,c,rfl⟩:=hsh
 have hcW:ChgB w W pb s.ownBlock:=ChgB.of_below hW _ _
 have hc1:ChgB w w' pb s.ownBlock:=hcW.trans (ChgB.of_grown h2 pb) (fun k hk=> .inl hk)
 have hptr:w'.heap[pb]? =some (.cells #[s, .int .i64 (lenB b)] 137 (0,0)):=by
  rw [h2.block pb (Nat.lt_of_lt_of_le hpb hW.size) (fun e=> hraw.ne e.symm),hW.block pb hpb]
  exact hb.ptr
 have hnew:∀k,(Value.slice a m c).ownBlock=some k→s.ownBlock=some k∨w.heap.size≤k:=by
  intro k hk
  rcases h3 k hk with h | h
  · exact .inl h
  · exact .inr (Nat.le_trans hW.size h)
 have hne:(Value.slice a m c).ownBlock≠some pb:=by
  intro e
  rcases hnew pb e with h | h
  · exact hraw.ne h
  · omega
 have hset:=setCell_chg w' pb 0 (.slice a m c) none
 refine ⟨a,m,c,rfl,hptr,⟨hge,heap_setCell_same w' pb 0 _ 137 _ hptr,cs.take (posB b R * 2)++[x, .int .i64 0]++cs.drop (posB b R * 2),?_,?_⟩,hc1.trans hset (by simp),hnew⟩
 · have hlen':(b.take (posB b R)++(R,0)::b.drop (posB b R)).length=b.length+1:=by simp;omega
   rw [hlen']
   refine ⟨h1.1,?_⟩
   rcases h1.2 with e | ⟨g,cap,cur,hvv,hbb,hg,rest⟩
   · exact .inl e
   · refine .inr ⟨g,cap,cur,hvv,hbb,?_,rest⟩
     rw [Below.heap_setCell w' ⟨pb,0,none⟩ _ g (fun e=> hne (by rw [hvv];show some g=_;rw [e]))]
     exact hg
 · have k1:EntVs G W B b cs:=he.mono hW
   have k2:EntVs G W B [((R,0):Ent)] [x, .int .i64 0]:=.cons (hx.base (by omega)) .nil
   have k3:=((k1.take (posB b R)).append k2).append (k1.drop (posB b R))
   simp only [List.append_assoc,List.cons_append,List.nil_append] at k3
   have hno:∀k,s.ownBlock=some k→∀cur fr,W.heap[k]? ≠some (.cells cur 68 fr):=by
    intro k hk
    obtain ⟨cur,fr,e⟩:=ownBlock57 (own_below ho hW) k hk
    exact no38 e (by decide)
   have hno1:∀cur fr,W.heap[pb]? ≠some (.cells cur 68 fr):=no38 ((hW.block pb hpb).trans hb.ptr) (by decide)
   have k4:=(k3.chg (ChgB.of_grown h2 pb) hno1 hno).chg hset (no38 hptr (by decide)) (by simp)
   simpa using k4
set_option maxHeartbeats 2000000 in
set_option maxRecDepth 20000 in
theorem bput_calls (B pb:Nat) (s:Value) (b:List Ent) (R:Rw) (n:Nat) (r:Value) (w:World) (hb:BagAt G w B pb s b) (hr:ValsAt w R r) (hn0:0 < n) (hR:R.length < 1099511627776) (hlen:lenB b+n < 1099511627776) (hG:∀k,w.heap.size≤k→G k):
 Calls Tryz.prog 106 #[.pointer (some ⟨pb,0,none⟩),r, .int .i64 n] w fun e w'=> e=.returned (.tuple #[])∧Mut G w B pb s (putB b R n) w':=by
 have hbl:=length_le_len hb.wf
 have hcl:=cnt_le_len hb.wf R
 have hpl:=posB_le b R
 have HC:=Lib.hid (bfind_calls B pb s b R r w hb hr (by omega))
 have Hbag:=Lib.hid hb
 have Hr:=Lib.hid hr
 have HR:=Lib.hid hR
 have HG:=Lib.hid hG
 obtain ⟨ar,nr,cr,rfl,p3,p4⟩:=hr.shape
 clear hb hr hR p3 p4 hG
 go_enter Tryz.func106,Tryz.ntmps106
 go_wp2_with fail
 (with_reducible refine HC.out.mono ?_)
 rintro e w1 ⟨rfl,hb1⟩
 have Hb1:=Lib.hid hb1
 clear hb1 HC
 go_upto_if 15 with (fail)
 go_cut [7] (fun _q wx=> ∃(s1:Value) (b1:List Ent) (N:Nat),N≤lenB b∧RowKit.Hid (BagRaw G wx B pb s1 b1 (lenB b))∧RowKit.Hid (ChgB w wx pb s.ownBlock)∧RowKit.Hid (∀k,s1.ownBlock=some k→s.ownBlock=some k∨w.heap.size≤k)∧RowKit.Hid (∃h:posB b R < b1.length,b1[posB b R].2=N∧b1.set (posB b R) (b1[posB b R].1,N+n)=putB b R n))
 case first=>
  have Hbag1:=Lib.hid (Hbag.out.mono Hb1.out)
  cases hh:hasB b R
  · have Hset:RowKit.Hid (∃h:posB b R < (b.take (posB b R)++(R,0)::b.drop (posB b R)).length,(b.take (posB b R)++(R,0)::b.drop (posB b R))[posB b R].2=0∧(b.take (posB b R)++(R,0)::b.drop (posB b R)).set (posB b R) ((b.take (posB b R)++(R,0)::b.drop (posB b R))[posB b R].1,0+n)=putB b R n):=by
     have hg:(b.take (posB b R)++(R,0)::b.drop (posB b R))[posB b R]? =some (R,0):=by
      rw [List.getElem?_append_right (by rw [List.length_take];omega)]
      rw [List.length_take,Nat.min_eq_left hpl,Nat.sub_self]
      rfl
     obtain ⟨h1,h2⟩:=List.getElem?_eq_some_iff.1 hg
     refine ⟨h1,by rw [h2],?_⟩
     rw [h2,set_ins b _ hpl,putB_not Hbag.out.wf hh,Nat.zero_add]
    have HCl:=Lib.hid (fun w' (h:Below w1.heap.size w1 w')=> clone_calls R _ w' ((Hr.out.mono Hb1.out).mono h) HR.out (fun k hk=> HG.out k (Nat.le_trans (Nat.le_trans Hb1.out.size h.size) hk)))
    have HI:=Lib.hid (fun W vb x (hW:Below w1.heap.size w1 W) hvb hx hv=> insert_bag B pb s b R w1 W vb x Hbag1.out hW hvb hx hv (by omega))
    obtain ⟨c0,c1⟩:=Hbag1.out.cell
    have hlt:=Hbag1.out.lt
    have Hptr:=Lib.hid Hbag1.out.ptr
    clear c1
    go_wp2_with fail
    go_region_with (first
     | (go_at_call 71;(with_reducible refine (HCl.out _ (Below.drew (Below.refl _ _))).mono ?_);rintro e w2 ⟨cv,rfl,hcv,hb2⟩;
        obtain ⟨ac,nc,cc,rfl, -, -⟩:=hcv.vals.shape;
        have hb2':Below w1.heap.size w1 w2:=(Below.drew (Below.refl _ _)).trans hb2;
        have HI2:=Lib.hid (HI.out (w2.alloc (.cells #[.slice ac nc cc, .int .i64 0] 139)) w2.heap.size (.slice ac nc cc) (hb2'.alloc hb2'.size _) hb2'.size (hcv.alloc _) (heap_alloc_new w2 _));
        have c2:w2.cell? ⟨pb,0,none⟩=some s:=(hb2'.cell (p:=⟨pb,0,none⟩) hlt).trans c0;
        have hlt2:pb < w2.heap.size:=Nat.lt_of_lt_of_le hlt hb2'.size;
        have HB2:=Lib.hid hb2';clear hb2 hb2' hcv)
     | (go_at_call 136;(with_reducible refine HI2.out.mono ?_);rintro e w3 ⟨a3,m3,c3,rfl,hI⟩;
        have d0:=cell_of_row w3 pb 0 _ 137 (0,0) hI.1;have d1:=frozen_of_row w3 pb 0 _ 137 hI.1;have d2:=(Array.getElem?_eq_some_iff.1 hI.1).1;simp only [List.getElem?_toArray,List.getElem?_cons_zero] at d0;have HI3:=Lib.hid hI;clear hI))
    all_goals
     have Hnew:RowKit.Hid (∀k,(Value.slice a3 m3 c3).ownBlock=some k→s.ownBlock=some k∨w.heap.size≤k):=by
      intro k hk
      rcases HI3.out.2.2.2 k hk with h | h
      · exact .inl h
      · exact .inr (Nat.le_trans Hb1.out.size h)
     clear d0 d1 d2 c0 c2 hlt hlt2
     go_wp2
     go_meet
     exact ⟨_,_,0,Nat.zero_le _,HI3.out.2.1,(ChgB.of_below Hb1.out _ _).trans HI3.out.2.2.1 (fun k hk=> .inl hk),Hnew,Hset⟩
  · obtain ⟨h1,h2,h3⟩:=hasB_pos Hbag.out.wf hh
    have Hset:RowKit.Hid (∃h:posB b R < b.length,b[posB b R].2=cntB b R∧b.set (posB b R) (b[posB b R].1,cntB b R+n)=putB b R n):=⟨h1,h3,by rw [h2,putB_has Hbag.out.wf hh]⟩
    clear h2 h3
    go_wp2
    go_meet
    exact ⟨s,b,cntB b R,hcl,Hbag1.out.raw,ChgB.of_below Hb1.out _ _,fun k hk=> .inl hk,Hset⟩
 obtain ⟨s1,b1,N,hN,Hraw,Hc,Hnew,Hset⟩:=hcut
 obtain ⟨hi,hN1,hset⟩:=Hset.out
 obtain ⟨a1,c1,rfl,hg⟩:∃a c,s1=.slice a b1.length c∧∃g,a=some ⟨g,0,none⟩:=by
  obtain ⟨cs,⟨_,⟨h1,h2⟩ | ⟨g,cap,cur,hv,_⟩⟩,_⟩:=Hraw.out.ent
  · omega
  · exact ⟨_,cap,hv,g,rfl⟩
 obtain ⟨g,rfl⟩:=hg
 have hraw:=Hraw.out
 have hne:=hraw.ne
 simp only [Value.ownBlock,ne_eq,Option.some.injEq] at hne
 have hne':¬ pb=g:=fun e=> hne e.symm
 obtain ⟨d0,d1,d2⟩:=hraw.cell
 have hlt:=hraw.lt
 obtain ⟨cs,ho,he⟩:=hraw.ent
 obtain ⟨x,e0,e1,e2⟩:=he.get (posB b R) hi
 have e3:=ho.cellAt (posB b R * 2+1) (by omega)
 have e4:=ho.frozenAt (posB b R * 2+1)
 have hgl:=(ho.lt g rfl).2
 rw [e1,hN1] at e3
 have Hfin:RowKit.Hid (Mut G w B pb s (putB b R n) ((wc.setCell ⟨g,posB b R * 2+1,none⟩ (.int .i64 ((N:Int)+n))).setCell ⟨pb,1,none⟩ (.int .i64 ((lenB b:Int)+n)))):=by
  have k1:=hraw.count (posB b R) hi (N+n)
  rw [hset] at k1
  have k2:=k1.1
  rw [show ((N+n:Nat):Int)=(N:Int)+n by simp] at k1
  obtain ⟨k3,k4⟩:=k2.length ((lenB b:Int)+n)
  have el:(lenB b:Int)+n=(lenB (putB b R n):Nat):=by rw [len_putB];simp
  rw [show ((N+n:Nat):Int)=(N:Int)+n by simp] at k3 k4
  refine ⟨_,BagRaw.bag (by rw [←el];exact k3) (wf_putB Hbag.out.wf R hn0),?_,Hnew.out⟩
  exact (Hc.out.trans k1.2 (fun k hk=> by injection hk with hk;subst hk;exact Hnew.out _ rfl)).trans k4 (by simp)
 have i1:(0:Int)≤posB b R:=by omega
 have i2:(posB b R:Int) < b1.length:=by omega
 clear hset hne hraw ho he e0 e1 e2 hN1 Hset Hraw Hnew
 generalize posB b R=p at *
 generalize b1.length=m1 at *
 generalize lenB b=q at *
 go_wp2
 refine bodyPost_end (results_none rfl _ _ _) rfl ?_
 exact ⟨rfl,Hfin.out⟩
end Go.Proofs.YtpdlkdoogojboaaGreat
/- Add. -/
namespace Go.Proofs.YtpdlkdoogojboaaGreat
open Go Go.RowKit
variable {G:Nat→Prop}
theorem badd_calls (B pb:Nat) (s:Value) (b:List Ent) (R:Rw) (r:Value) (w:World) (hb:BagAt G w B pb s b) (hr:ValsAt w R r) (hR:R.length < 1099511627776) (hlen:lenB b+1 < 1099511627776) (hG:∀k,w.heap.size≤k→G k):
 Calls Tryz.prog 70 #[.pointer (some ⟨pb,0,none⟩),r] w fun e w'=> e=.returned (.tuple #[])∧Mut G w B pb s (putB b R 1) w':=by
 have HC:=Lib.hid (show Calls Tryz.prog 106 #[.pointer (some ⟨pb,0,none⟩),r, .int .i64 1] w fun e w'=> e=.returned (.tuple #[])∧Mut G w B pb s (putB b R 1) w' from bput_calls B pb s b R 1 r w hb hr (by omega) hR hlen hG)
 obtain ⟨ar,nr,cr,rfl,p3,p4⟩:=hr.shape
 clear hb hr hR hlen p3 p4 hG
 go_enter Tryz.func70,Tryz.ntmps70
 go_wp2_with fail
 (with_reducible refine HC.out.mono ?_)
 rintro e w1 ⟨rfl,h⟩
 have H:=Lib.hid h
 clear h
 go_wp2
 go_end0
 exact ⟨rfl,H.out⟩
end Go.Proofs.YtpdlkdoogojboaaGreat
/- A bag as a piece of a frame. -/
namespace Go.Proofs.YtpdlkdoogojboaaGreat
open Go Go.RowKit
theorem EntVs.imp {G G':Nat→Prop} {w:World} {B:Nat} {b:List Ent} {cs:List Value} (h:EntVs G w B b cs) (hG:∀k,k < w.heap.size→G k→G' k):EntVs G' w B b cs:=by
 induction h with
 | nil=> exact .nil
 | cons h1 _ ih=> exact .cons ⟨h1.1,h1.2.1,fun k hk=> hG k (h1.1.lt k hk).2 (h1.2.2 k hk)⟩ ih
theorem EntVs.loc {G:Nat→Prop} {w w':World} {b:List Ent} {cs:List Value} (h:EntVs G w 0 b cs) (hs:∀k,G k→w'.heap[k]? =w.heap[k]?):EntVs G w' 0 b cs:=by
 induction h with
 | nil=> exact .nil
 | cons h1 _ ih=>
  refine .cons ⟨own_loc h1.1 fun k hk=> ?_,h1.2⟩ ih
  exact hs k (h1.2.2 k (by simpa using hk))
theorem BagAt.imp {G G':Nat→Prop} {w:World} {B pb:Nat} {s:Value} {b:List Ent} (h:BagAt G w B pb s b) (hG:∀k,k < w.heap.size→G k→G' k):BagAt G' w B pb s b:=by
 obtain ⟨h1,h2,⟨cs,h3,h4⟩,h5⟩:=h
 exact ⟨h1,h2,⟨cs,h3,h4.imp hG⟩,h5⟩
def bagA (pb:Nat) (b:List Ent):Asn:=
 ⟨fun w f=> ∃(s:Value) (g:List Nat),f=pb::(s.ownBlock.toList++g)∧BagAt (· ∈g) w 0 pb s b∧∀k∈g,k < w.heap.size,fun h k hk=> by
  obtain ⟨s,g,rfl,h1,h2⟩:=h
  rcases List.mem_cons.1 hk with rfl | hk
  · exact h1.lt
  · rcases List.mem_append.1 hk with hk | hk
    · obtain ⟨cs,h3, -⟩:=h1.ent
      exact (h3.lt k (by simpa using hk)).2
    · exact h2 k hk,fun {w w' f} h hs=> by
  obtain ⟨s,g,rfl,⟨h1,h2,⟨cs,h3,h4⟩,h5⟩,h6⟩:=h
  refine ⟨s,g,rfl,⟨h1,?_,⟨cs,own_loc h3 fun k hk=> hs k (by simp only [List.mem_cons,List.mem_append];exact .inr (.inl hk)),h4.loc fun k hk=> hs k (by simp only [List.mem_cons,List.mem_append];exact .inr (.inr hk))⟩,h5⟩,fun k hk=> ?_⟩
  · rw [hs pb (by simp)]
    exact h2
  · have e:=hs k (by simp only [List.mem_cons,List.mem_append];exact .inr (.inr hk))
    have h7:=h6 k hk
    rw [Array.getElem?_eq_getElem h7] at e
    exact (Array.getElem?_eq_some_iff.1 e).1⟩
theorem badd_st (pb:Nat) (b:List Ent) (R:Rw) (r:Value) (w0 w:World) (fp0:List Nat) (L:List Asn) (hr:ValsAt w R r) (hR:R.length < 1099511627776) (hlen:lenB b+1 < 1099511627776) (hS:St w0 fp0 (bagA pb b::L) w):
 Calls Tryz.prog 70 #[.pointer (some ⟨pb,0,none⟩),r] w fun e w'=> e=.returned (.tuple #[])∧St w0 fp0 (bagA pb (putB b R 1)::L) w':=by
 obtain ⟨f,⟨s,g,rfl,h1,h2⟩,hk⟩:=hS.get 0 rfl
 refine (badd_calls (G:=fun k=> k∈g∨w.heap.size≤k) 0 pb s b R r w (h1.imp fun k _ h=> .inl h) hr hR hlen (fun k hk=> .inr hk)).mono ?_
 rintro e w' ⟨rfl,s',h3,h4,h5⟩
 refine ⟨rfl,hk (bagA pb (putB b R 1)) w' (pb::(s'.ownBlock.toList++(g++(List.range w'.heap.size).filter fun k=> decide (w.heap.size≤k)))) ⟨s',_,rfl,h3.imp fun k hk h=> ?_,fun k hk=> ?_⟩ ⟨h4.os,h4.tape,h4.output,h4.size,fun k hk hn=> ?_,fun k hk=> ?_⟩⟩
 · rcases h with h | h
   · exact List.mem_append.2 (.inl h)
   · exact List.mem_append.2 (.inr (List.mem_filter.2 ⟨List.mem_range.2 hk,by simpa using h⟩))
 · rcases List.mem_append.1 hk with hk | hk
   · exact Nat.lt_of_lt_of_le (h2 k hk) h4.size
   · exact List.mem_range.1 (List.mem_filter.1 hk).1
 · refine h4.block k hk (fun e=> hn (by rw [e];simp)) fun e=> hn ?_
   rw [←e]
   simp
 · rcases List.mem_cons.1 hk with rfl | hk
   · exact .inl (by simp)
   · rcases List.mem_append.1 hk with hk | hk
     · rcases h5 k (by simpa using hk) with h | h
       · exact .inl (by rw [h];simp)
       · exact .inr h
     · rcases List.mem_append.1 hk with hk | hk
       · exact .inl (by simp [hk])
       · exact .inr (by simpa using (List.mem_filter.1 hk).2)
theorem brows_st (pb:Nat) (b:List Ent) (w0 w:World) (fp0:List Nat) (L:List Asn) (hlen:(rowsB b).length < 1099511627776) (hR:∀e∈b,e.1.length < 1099511627776) (hS:St w0 fp0 (bagA pb b::L) w):
 Calls Tryz.prog 31 #[.pointer (some ⟨pb,0,none⟩)] w fun e w'=> ∃v,e=.returned v∧RowsNew AllB w' w.heap.size (rowsB b) v∧Below w.heap.size w w':=by
 obtain ⟨f,s,g,rfl,h1,h2⟩:=hS.has 0 rfl
 exact brows_calls 0 pb s b w h1 hlen hR
/- Rows that are owned, whatever they contain. -/
def ownsN (w:World) (t:TypeId) (size:Nat) (v:Value) (n:Nat):Prop:=∃xs,w.ownsRow 0 t size v n xs
theorem ownsN.set {w:World} {t:TypeId} {size n:Nat} {v:Value} (h:ownsN w t size v n) (g j:Nat) (u:Value):ownsN (w.setCell ⟨g,j,none⟩ u) t size v n:=by
 obtain ⟨xs,hl,h⟩:=h
 rcases h with ⟨rfl,h0⟩ | ⟨g',cap,cur,rfl,hb,hg,hn,hc,hs,ht⟩
 · exact ⟨xs,hl, .inl ⟨rfl,h0⟩⟩
 · by_cases e:g'=g
   · subst e
     have h1:=heap_setCell_same w g' j _ t u hg
     refine ⟨((cur.setIfInBounds j u).toList.take (n * size)),?_, .inr ⟨g',cap,cur.setIfInBounds j u,rfl,hb,h1,hn,hc,by simpa using hs,rfl⟩⟩
     have h2:n * size≤cap * size:=Nat.mul_le_mul_right _ hn
     rw [List.length_take,Array.length_toList,Array.size_setIfInBounds,hs]
     omega
   · exact ⟨xs,hl, .inr ⟨g',cap,cur,rfl,hb,by rw [Below.heap_setCell w ⟨g,j,none⟩ u g' e];exact hg,hn,hc,hs,ht⟩⟩
theorem ownsN.loc {w w':World} {t:TypeId} {size n:Nat} {v:Value} (h:ownsN w t size v n) (hs:∀k,v.ownBlock=some k→w'.heap[k]? =w.heap[k]?):ownsN w' t size v n:=by
 obtain ⟨xs,h⟩:=h
 exact ⟨xs,own_loc h fun k hk=> hs k (by simpa using hk)⟩
/-- A list of rows that owns its rows, whatever they contain. -/
def heapA (v:Value) (xs:List Value) (ns:List Nat):Asn:=
 ⟨fun w f=> ∃g:List Nat,f=v.ownBlock.toList++g∧w.ownsRow 0 33 1 v ns.length xs∧(∀i (h:i < ns.length),∃x,xs[i]? =some x∧ownsN w 68 3 x ns[i]∧∀k,x.ownBlock=some k→k∈g)∧∀k∈g,k < w.heap.size∧some k≠v.ownBlock,fun {w f} h k hk=> by
  obtain ⟨g,rfl,h1,h2,h3⟩:=h
  rcases List.mem_append.1 hk with hk | hk
  · exact (h1.lt k (by simpa using hk)).2
  · exact (h3 k hk).1,fun {w w' f} h hs=> by
  obtain ⟨g,rfl,h1,h2,h3⟩:=h
  refine ⟨g,rfl,own_loc h1 fun k hk=> hs k (List.mem_append.2 (.inl hk)),fun i hi=> ?_,fun k hk=> ⟨?_,(h3 k hk).2⟩⟩
  · obtain ⟨x,e,h4,h5⟩:=h2 i hi
    exact ⟨x,e,h4.loc fun k hk=> hs k (List.mem_append.2 (.inr (h5 k hk))),h5⟩
  · have e:=hs k (List.mem_append.2 (.inr hk))
    rw [Array.getElem?_eq_getElem (h3 k hk).1] at e
    exact (Array.getElem?_eq_some_iff.1 e).1⟩
theorem own_low {w:World} {t:TypeId} {size n B:Nat} {v:Value} {xs:List Value} (h:w.ownsRow B t size v n xs):w.ownsRow 0 t size v n xs:=by
 obtain ⟨hl,h⟩:=h
 rcases h with h | ⟨g,cap,cur,rfl,hb,rest⟩
 · exact ⟨hl, .inl h⟩
 · exact ⟨hl, .inr ⟨g,cap,cur,rfl,Nat.zero_le _,rest⟩⟩
theorem own_ge {w:World} {t:TypeId} {size n B:Nat} {v:Value} {xs:List Value} (h:w.ownsRow B t size v n xs):∀k,v.ownBlock=some k→B≤k∧k < w.heap.size∧∃cur,w.heap[k]? =some (.cells cur t (0,0)):=by
 intro k hk
 have hl:=h.lt k hk
 obtain ⟨-,⟨rfl, -⟩ | ⟨g,cap,cur,rfl,hb,hg, -⟩⟩:=h
 · simp [Value.ownBlock] at hk
 · simp only [Value.ownBlock,Option.some.injEq] at hk
   subst hk
   exact ⟨hb,hl.2,cur,hg⟩
theorem RowVsO.get {G:Nat→Prop} {w:World} {B:Nat} {L:List Rw} {xs:List Value} (h:RowVsO G w B L xs) (i:Nat) (hi:i < L.length):∃x,xs[i]? =some x∧RowO G w B L[i] x:=by
 induction h generalizing i with
 | nil=> simp at hi
 | cons h1 _ ih=>
  cases i with
  | zero=> exact ⟨_,rfl,h1⟩
  | succ i=> exact ih i (by simpa using hi)
theorem heap_of_new {w0 w w':World} {fp0:List Nat} {L:List Rw} {v:Value} {R:List Asn} (h:RowsNew AllB w' w.heap.size L v) (hb:Below w.heap.size w w') (hS:St w0 fp0 R w):∃xs,St w0 fp0 (heapA v xs (L.map List.length)::R) w':=by
 obtain ⟨xs,h1,h2⟩:=h
 refine ⟨xs,?_⟩
 refine (St.add (A:=heapA v xs (L.map List.length)) (f:=v.ownBlock.toList++(List.range w'.heap.size).filter fun k=> decide (w.heap.size≤k∧some k≠v.ownBlock)) hS hb ?_ ?_).perm List.perm_append_comm
 · refine ⟨_,rfl,by rw [List.length_map];exact own_low h1,fun i hi=> ?_,fun k hk=> ?_⟩
   · have hi':i < L.length:=by simpa using hi
     obtain ⟨x,e,h3⟩:=h2.get i hi'
     refine ⟨x,e,?_,fun k hk=> ?_⟩
     · rw [List.getElem_map]
       exact ⟨_,own_low h3.1⟩
     · obtain ⟨q1,q2,cur,q3⟩:=own_ge h3.1 k hk
       refine List.mem_filter.2 ⟨List.mem_range.2 q2,decide_eq_true ⟨q1,fun e=> ?_⟩⟩
       obtain ⟨-, -,cur2,q4⟩:=own_ge h1 k e.symm
       rw [q3] at q4
       injection q4 with q4
       injection q4 with _ q4
       exact absurd q4 (by decide)
   · obtain ⟨q1,q2⟩:=List.mem_filter.1 hk
     exact ⟨List.mem_range.1 q1,(of_decide_eq_true q2).2⟩
 · intro k hk
   rcases List.mem_append.1 hk with hk | hk
   · exact (own_ge h1 k (by simpa using hk)).1
   · exact (of_decide_eq_true (List.mem_filter.1 hk).2).1
theorem heap_set {w0 w:World} {fp0:List Nat} {R:List Asn} {v x:Value} {xs:List Value} {ns:List Nat} (hS:St w0 fp0 (heapA v xs ns::R) w) (i:Nat) (hi:i < ns.length) (hx:xs[i]? =some x) (g:Nat) (hg:x.ownBlock=some g) (j:Nat) (u:Value):St w0 fp0 (heapA v xs ns::R) (w.setCell ⟨g,j,none⟩ u):=by
 obtain ⟨f,⟨gs,rfl,h1,h2,h3⟩,hk⟩:=hS.get 0 rfl
 obtain ⟨x',e,h4,h5⟩:=h2 i hi
 rw [hx] at e
 obtain rfl:=Option.some.inj e
 have hgm:=h5 g hg
 refine hk (heapA v xs ns) _ (v.ownBlock.toList++gs) ⟨gs,rfl,?_,fun i hi=> ?_,fun k hk=> ?_⟩ ⟨rfl,rfl,rfl,by simp,fun k _ hk=> ?_,fun k hk=> .inl hk⟩
 · refine own_loc h1 fun k hk=> Below.heap_setCell w ⟨g,j,none⟩ u k fun e=> (h3 g hgm).2 ?_
   have h8:v.ownBlock=some k:=by simpa using hk
   have e':k=g:=e
   rw [←e',h8]
 · obtain ⟨x,e,h6,h7⟩:=h2 i hi
   exact ⟨x,e,h6.set g j u,h7⟩
 · exact ⟨by simpa using (h3 k hk).1,(h3 k hk).2⟩
 · exact Below.heap_setCell w ⟨g,j,none⟩ u k fun e=> hk (List.mem_append.2 (.inr (e ▸ hgm)))
/- bag.New without rows. -/
set_option maxHeartbeats 4000000 in
theorem bnew_st (w0 w:World) (fp0:List Nat) (R:List Asn) (hS:St w0 fp0 R w):
 Calls Tryz.prog 68 #[.slice none 0 0] w fun e w'=> ∃pb,e=.returned (.pointer (some ⟨pb,0,none⟩))∧St w0 fp0 (bagA pb []::R) w':=by
 have HF:RowKit.Hid (St w0 fp0 (bagA w.heap.size []::R) (w.alloc (.cells #[.slice none 0 0, .int .i64 0] 137))):=by
  have ha:(bagA w.heap.size []).p (w.alloc (.cells #[.slice none 0 0, .int .i64 0] 137)) [w.heap.size]:=⟨.slice none 0 0,[],rfl,⟨Nat.zero_le _,heap_alloc_new w _,⟨[],World.ownsRow_nil _ _ _ _, .nil⟩,wf_nil⟩,by simp⟩
  exact (St.add hS ((Below.refl _ _).alloc (Nat.le_refl _) _) ha (fun k hk=> by rw [List.mem_singleton.1 hk];exact Nat.le_refl _)).perm List.perm_append_comm
 clear hS
 go_enter Tryz.func68,Tryz.ntmps68
 go_upto_region 3 with (fail)
 go_loopg [10] 0 (fun g z wr=> z=.int .i64 0∧g=0∧RowKit.Hid (St w0 fp0 (bagA w.heap.size []::R) wr))
 case atStart=> exact ⟨rfl,rfl,HF⟩
 case round=>
  clear HF
  obtain ⟨rfl,rfl,Hs⟩:=hrel
  go_wp2
  go_ret
  exact ⟨_,rfl,Hs.out⟩
/- A drawn region ahead of a call that yields: facts for its first operations, then its tail. (Over any program.) -/
theorem wpOpIn_wide {P:Program} {n:Nat} {ops:Array Oper} {Q:Exit→Act→World→Prop} {i:Nat} {K:Act→World→Prop} {a:Act} {w:World} {o:Oper} (ho:ops[i]? =some o) (hw:Region.wanted o (yielded ops a.tmps)=true) (hnd:∀c,o.op≠.defer c)
 (h:o.wp P a w K (NoPanic Q)):wpOpIn Fence.wide n P ops Q i K a w:=by
 unfold wpOpIn
 simp only [ho,hw,if_true]
 refine ⟨fun _ _=> trivial,?_⟩
 rw [Oper.semAt_plain _ _ _ hnd]
 unfold Oper.wp at h
 revert h
 generalize (execOp a.eval o).run P w=r
 intro h
 cases r with
 | ok x w'=>
  cases x with
  | enter f args=>
   refine ⟨(fun hh=> by cases hh),callsIn_wide.2 (Calls.mono h (fun e w'' he=> ?_))⟩
   cases e with
   | returned v=> exact he
   | panicked c=> exact (he:False).elim
   | outgrown=> exact he
  | row row args=>
   refine ⟨(fun hh=> by cases hh),fun c cs _=> ?_⟩
   obtain ⟨v,w'',r,s⟩:=h c cs
   exact ⟨v,w'',r,stepsIn_wide.2 s⟩
  | value v=> exact h
  | skip=> exact h
  | defer d=> exact h
  | _=> exact (h:False).elim
 | halt x w'=> cases x <;> exact (h:False).elim
theorem wpAnyIn_inv {F:Fence} {n:Nat} {P:Program} {ops:Array Oper} {Q:Exit→Act→World→Prop} {Inv:(Nat→Bool)→Act→World→Prop} (hf:forwardB ops=true)
 (hstep:∀(i:Nat) (o:Oper) (L:Nat→Bool) (a:Act) (w:World),ops[i]? =some o→L i=false→(∀e∈o.after,Region.binds .any e=true→L e.on=true)→Inv L a w→wpOpIn F n P ops Q i (fun a' w'=> Inv (fun j=> L j || decide (j=i)) a' w') a w)
 (hend:∀(L:Nat→Bool) (a:Act) (w:World),(∀i,i < ops.size→L i=true)→Inv L a w→Q .normal a w):
 ∀(fuel:Nat) (listed:Array Bool) (a:Act) (w:World),listed.size=ops.size→left listed≤fuel→Inv (fun j=> listed.getD j false) a w→wpAnyIn F n P .any ops Q fuel listed a w
 | 0,listed,a,w,hs,hl,hI=> by
  have hr:Region.ready .any ops listed=[]:=by
   rw [List.eq_nil_iff_forall_not_mem]
   intro j hj
   obtain ⟨hun,oj,hoj,_⟩:=mem_ready.1 hj
   have hlt:j < listed.size:=by have:=(Array.getElem?_eq_some_iff.1 hoj).1;omega
   have:0 < listed.toList.count false:=List.count_pos_iff.2 (by
    have hx:listed.toList[j]'(by simpa using hlt)=false:=by simpa [Array.getD,hlt] using hun
    rw [←hx];exact List.getElem_mem _)
   unfold left at hl
   omega
  exact wpAnyIn_done hr (hend _ _ _ (ready_nil hf hs hr) hI) 0
 | fuel+1,listed,a,w,hs,hl,hI=> by
  refine ⟨fun hr=> hend _ _ _ (ready_nil hf hs hr) hI,fun j hj=> ?_⟩
  obtain ⟨hun,oj,hoj,hall⟩:=mem_ready.1 hj
  have hlt:j < listed.size:=by have:=(Array.getElem?_eq_some_iff.1 hoj).1;omega
  have hun':listed.getD j false=false:=by simpa [Array.getD,hlt] using hun
  refine wpOpIn_mono (fun a' w' h'=> wpAnyIn_inv hf hstep hend fuel (listed.setIfInBounds j true) a' w' (by simpa using hs) ?_ ?_) (hstep j oj (fun j=> listed.getD j false) a w hoj hun' hall hI)
  · have:=left_set hlt hun'
    omega
  · have:(fun k=> (listed.setIfInBounds j true).getD k false)=fun k=> listed.getD k false || decide (k=j):=by
     funext k
     by_cases hk:k=j
     · subst hk
       simp [Array.getD,hlt]
     · rw [getD_set_ne false (fun h=> hk h.symm)]
       simp [hk]
    rw [this]
    exact h'
theorem wpIn_region_inv {P:Program} {m id:Nat} {ops ops':Array Oper} {Q:Exit→Act→World→Prop} {a:Act} {w:World} (Inv:(Nat→Bool)→Act→World→Prop) (he:ops=ops') (hm:P.follows .mixedOrders=true) (hf:forwardB ops'=true)
 (h0:Inv (fun _=> false) a w.drew)
 (hstep:∀(i:Nat) (o:Oper) (L:Nat→Bool) (a:Act) (w:World),ops'[i]? =some o→L i=false→(∀e∈o.after,Region.binds .any e=true→L e.on=true)→Inv L a w→wpOpIn Fence.wide m P ops' Q i (fun a' w'=> Inv (fun j=> L j || decide (j=i)) a' w') a w)
 (hend:∀(L:Nat→Bool) (a:Act) (w:World),(∀i,i < ops'.size→L i=true)→Inv L a w→Q .normal a w):(Code.region id ops true).wpIn Fence.wide m P Q a w:=by
 subst he
 refine wpIn_region_any hm (wpAnyIn_inv hf hstep hend _ _ _ _ (by simp) ?_ ?_)
 · unfold left
   exact Nat.le_trans List.count_le_length (by simp)
 · have:(fun j=> (Array.replicate ops.size false).getD j false)=fun _=> false:=by
    funext j
    simp [Array.getD]
   rw [this]
   exact h0
/-- **A drawn region by facts, then its tail.** -/
theorem wpIn_region_tail {P:Program} {m id:Nat} {ops ops':Array Oper} {Q:Exit→Act→World→Prop} {a:Act} {w:World} (N:Nat) (ks:List Nat) (fs:List Ft) (he:ops=ops') (hm:P.follows .mixedOrders=true) (hN:0 < N∧N≤ops'.size)
 (hf:forwardB ops'=true) (hnd:(List.range N).all (fun i=> match ops'[i]? with | some o=> (match o.op with | .defer _=> false | _=> true) | none=> true)=true) (hc:coverN ops' N (fs.map fun f=> (f.i,f.d))=true) (ht:tailN ops' N=true) (hi:(fs.map (·.i)).Nodup) (hd:(fs.map (·.d)).Nodup) (hk:∀f∈fs,f.d∈ks∧f.d < a.tmps.size∧f.i < N)
 (hstep:∀f∈fs,∀(o:Oper) (a1:Act) (w1:World),ops'[f.i]? =some o→Below w.heap.size w w1→(∀d,d ∉ ks→a1.eval (.tmp d)=a.eval (.tmp d))→(∀g∈fs,waitsB ops' f.i g.i=true→g.p w1 (a1.eval (.tmp g.d)))→
  ∀K:Act→World→Prop,(∀v w2,Below w1.heap.size w1 w2→f.p w2 v→K (a1.put (some f.d) v) w2)→o.wp P a1 w1 K (NoPanic Q))
 (hend:∀a1 w1,FrameLike a a1 ks→Below w.heap.size w w1→(∀f∈fs,f.p w1 (a1.eval (.tmp f.d)))→wpListIn Fence.wide m P ops' Q (ops'.toList.drop N) a1 w1):(Code.region id ops true).wpIn Fence.wide m P Q a w:=by
 have cov:∀i,i < N→∃o,ops'[i]? =some o∧o.guard=none∧∃f∈fs,f.i=i∧o.dst=some f.d:=by
  intro i hiN
  unfold coverN at hc
  have h1:=List.all_eq_true.1 hc i (List.mem_range.2 hiN)
  split at h1
  · cases h1
  · rename_i o ho
    simp only [Bool.and_eq_true,Option.isNone_iff_eq_none,List.any_eq_true,List.mem_map] at h1
    obtain ⟨h2,t,⟨f,hf,rfl⟩,h3⟩:=h1
    exact ⟨o,ho,h2,f,hf,by simpa using h3.1,by simpa using h3.2⟩
 have tl:∀i,N≤i→i < ops'.size→∀j,j < i→((closOf ops').getD i []).elem j=true:=by
  intro i h1 h2 j h3
  have h4:=List.all_eq_true.1 ht i (List.mem_range.2 h2)
  rcases Bool.or_eq_true_iff.1 h4 with h5 | h5
  · have:=of_decide_eq_true h5;omega
  · exact List.all_eq_true.1 h5 j (List.mem_range.2 h3)
 let J:(Nat→Bool)→Act→World→Prop:=fun L a1 w1=> Down ops' L∧
  (((∃j,j < N∧L j=false)∧FInv a ks fs w L a1 w1)∨((∀j,j < N→L j=true)∧∃i,N≤i∧i≤ops'.size∧(∀j,N≤j→j < ops'.size→(L j=true↔j < i))∧wpListIn Fence.wide m P ops' Q (ops'.toList.drop i) a1 w1))
 refine wpIn_region_inv J he hm hf ⟨fun _ _ _ h=> (nomatch h), .inl ⟨⟨0,hN.1,rfl⟩,FrameLike.refl _ _,Below.drew (Below.refl _ _),fun _ _ h=> (nomatch h)⟩⟩ ?_ ?_
 · rintro i o L a1 w1 ho hL hdep ⟨hdn,hI⟩
   have hsz:=(Array.getElem?_eq_some_iff.1 ho).1
   have hdn':Down ops' fun j=> L j || decide (j=i):=by
    intro j o' ho' hj e he' hb
    rcases Bool.or_eq_true_iff.1 hj with h | h
    · exact Bool.or_eq_true_iff.2 (.inl (hdn j o' ho' h e he' hb))
    · have:=of_decide_eq_true h
      subst this
      rw [ho] at ho'
      cases ho'
      exact Bool.or_eq_true_iff.2 (.inl (hdep e he' hb))
   have hall:∀j,((closOf ops').getD i []).elem j=true→L j=true:=fun j hj=> clos_true hdn ho hdep j (List.elem_iff.1 hj)
   rcases hI with ⟨⟨j0,hj0,hj0'⟩,hI⟩ | ⟨hh,k,k1,k2,k3,k4⟩
   · have hiN:i < N:=by
      apply Classical.byContradiction
      intro hn
      have:=hall j0 (tl i (by omega) hsz j0 (by omega))
      rw [hj0'] at this
      cases this
     obtain ⟨o',ho',hg,f,hfm,rfl,hdst⟩:=cov i hiN
     rw [ho] at ho'
     obtain rfl:=Option.some.inj ho'
     have hw:Region.wanted o (yielded ops' a1.tmps)=true:=by simp [Region.wanted,hg]
     have hlate:∀j,N≤j→j < ops'.size→L j=false:=by
      intro j h1 h2
      cases hj:L j with
      | false=> rfl
      | true=>
       have h3:=clos_true hdn (o:=ops'[j]) (Array.getElem?_eq_getElem h2) (fun e he' hb=> hdn j _ (Array.getElem?_eq_getElem h2) hj e he' hb) j0 (List.elem_iff.1 (tl j h1 h2 j0 (by omega)))
       rw [hj0'] at h3
       cases h3
     refine wpOpIn_wide ho hw (fun c hc=> by have h9:=List.all_eq_true.1 hnd f.i (List.mem_range.2 hiN);rw [ho] at h9;simp only [hc] at h9;cases h9) (hstep f hfm o a1 w1 ho hI.below (fun d hd=> hI.frame.same d hd) (fun g hgm hwt=> hI.facts g hgm (dep_of ho hdep hwt)) _ (fun v w2 hb hp=> ?_))
     have hI2:FInv a ks fs w (fun j=> L j || decide (j=f.i)) (a1.put o.dst v) w2:=by
      rw [hdst]
      refine ⟨hI.frame.put (hk f hfm).1 v,hI.below.trans (hb.mono hI.below.size),fun g hgm hL'=> ?_⟩
      by_cases e:g.i=f.i
      · have:=pair_nodup hi hgm hfm e
        subst this
        rw [eval_put_same (by rw [hI.frame.size];exact (hk g hgm).2.1)]
        exact hp
      · have hne:g.d≠f.d:=fun e'=> e (by rw [pair_nodup_d hd hgm hfm e'])
        rw [eval_put_ne hne.symm]
        exact g.mono _ _ _ (hI.facts g hgm (by simpa [e] using hL')) hb
     rw [←hdst]
     refine ⟨hdn',?_⟩
     by_cases hdone:∃j,j < N∧(L j || decide (j=f.i))=false
     · exact .inl ⟨hdone,hI2⟩
     · refine .inr ⟨fun j hj=> ?_,N,Nat.le_refl _,hN.2,fun j h1 h2=> ?_,hend _ _ hI2.frame hI2.below fun g hgm=> hI2.facts g hgm ?_⟩
       · show (L j || decide (j=f.i))=true
         cases hx:(L j || decide (j=f.i)) with
         | true=> rfl
         | false=> exact (hdone ⟨j,hj,hx⟩).elim
       · show (L j || decide (j=f.i))=true↔_
         rw [hlate j h1 h2]
         simp
         omega
       · show (L g.i || decide (g.i=f.i))=true
         cases hx:(L g.i || decide (g.i=f.i)) with
         | true=> rfl
         | false=> exact (hdone ⟨g.i,(hk g hgm).2.2,hx⟩).elim
   · have hiN:N≤i:=by
      apply Classical.byContradiction
      intro hn
      rw [hh i (by omega)] at hL
      cases hL
     have hik:i=k:=by
      have h1:¬ i < k:=fun h=> by rw [(k3 i hiN hsz).2 h] at hL;cases hL
      apply Classical.byContradiction
      intro hne
      have hk':k < i:=by omega
      have h2:=hall k (tl i hiN hsz k hk')
      have:=(k3 k k1 (by omega)).1 h2
      omega
     subst hik
     have hdr:ops'.toList.drop i=o::ops'.toList.drop (i+1):=drop_head (by rw [Array.getElem?_toList];exact ho)
     rw [hdr] at k4
     unfold wpOpIn
     simp only [ho]
     unfold wpListIn at k4
     have hnext:∀a2 w2,wpListIn Fence.wide m P ops' Q (ops'.toList.drop (i+1)) a2 w2→J (fun j=> L j || decide (j=i)) a2 w2:=fun a2 w2 h=> by
      refine ⟨hdn', .inr ⟨fun j hj=> by show (L j || decide (j=i))=true;rw [hh j hj];rfl,i+1,by omega,by omega,fun j h1 h2=> ?_,h⟩⟩
      show (L j || decide (j=i))=true↔_
      rw [Bool.or_eq_true_iff,k3 j h1 h2,decide_eq_true_iff]
      omega
     split
     · rename_i hw
       rw [if_pos hw] at k4
       exact Oper.wpIn_mono hnext k4
     · rename_i hw
       rw [if_neg hw] at k4
       exact ⟨k4.1,hnext _ _ k4.2⟩
 · rintro L a1 w1 hL ⟨_,⟨⟨j,hj,hj'⟩,_⟩ | ⟨_,i,h1,h2,h3,h4⟩⟩
   · rw [hL j (by omega)] at hj'
     cases hj'
   · have:i=ops'.size:=by
      apply Classical.byContradiction
      intro hne
      have:=(h3 i h1 (by omega)).1 (hL i (by omega))
      omega
     subst this
     rw [List.drop_of_length_le (by simp)] at h4
     exact h4
/-- What an iterator promises that hands over memory with each element: G x args. -/
def SeqG {α:Type} (n:Nat) (P:Program) (g:Nat) (lb:Array Value) (sz:Nat) (G:α→Array Value→Asn) (Qr:World→Prop) (xs:List α) (L0:List Asn):Prop:=
 ∀(l:Nat) (R:List Asn) (J Jx:List α→List Asn) (w0:World) (fp0:List Nat) (W:World),St w0 fp0 (L0++R) W→
  (∀Own W1,St w0 fp0 ((L0++R)++Own) W1→St w0 fp0 (J []++Own) W1)→(∀pre Own W1,St w0 fp0 (J pre++Own) W1→Qr W1)→
  (∀pre x rest Own W1 args,xs=pre++x::rest→args.size=sz→St w0 fp0 (G x args::(J pre++Own)) W1→YieldAt Fence.wide (n - 1) P l args W1 fun e W'=>
   (e=.returned (.bool true)∧St w0 fp0 (J (pre++[x])++Own) W')∨(e=.returned (.bool false)∧St w0 fp0 (Jx (pre++[x])++Own) W'))→
  CallsIn Fence.wide n P g (#[.func (.yield l) #[] #[]]++lb) W fun e W'=> (∃v,e=.returned v)∧(St w0 fp0 (J xs) W'∨∃pre x rest,xs=pre++x::rest∧St w0 fp0 (Jx (pre++[x])) W')
theorem wp_rangeFunc_g {P:Program} {α:Type} {n:Nat} {g:Operand} {ps:Array Tmp} {assign body:Code} {Q:Exit→Act→World→Prop} {a:Act} {w w0:World} {fp0:List Nat} {gf:Nat} {lb:Array Value} (hg:a.eval g=.func (.func gf) #[] lb)
 (eg:∀args w,(callFunc gf args).run P w=.ok (.enter gf args) w)
 {G:α→Array Value→Asn} {Qr:World→Prop} {xs:List α} {L0:List Asn} (hseq:SeqG (n - 1) P gf lb ps.size G Qr xs L0)
 (I:List α→List Asn) (Ix:Code→List α→List Asn) (R:List Asn) (hS:St w0 fp0 (L0++R) w) (h0:∀Own W,St w0 fp0 ((L0++R)++Own) W→St w0 fp0 (I []++Own) W) (hqr:∀pre Own W,St w0 fp0 (I pre++Own) W→Qr W)
 (hround:∀(l:Nat) (pre:List α) (x:α) (rest:List α) (args:Array Value) (Own:List Asn) (W:World),xs=pre++x::rest→args.size=ps.size→St w0 fp0 ((G x args::I pre)++Own) W→
  assign.wpIn (Fence.wide.inRound l) (n - 1 - 1) P (Exit.then (fun a₁ W1=> St w0 fp0 ((G x args::I pre)++Own) W1∧∀Own2 W2,St w0 fp0 ((G x args::I pre)++Own2) W2→body.wpIn (Fence.wide.inRound l) (n - 1 - 1) P (bodySt w0 fp0 I Ix (pre++[x]) Own2) a₁ W2) (fun _ _ _=> False))
   { tmps:=(ps.zip args).foldl (fun t (p,v)=> t.setIfInBounds p v) a.tmps,defers:=[] } W)
 (hdone:∀(D:Nat) (W:World),St w0 fp0 (defA D::I xs) W→Q .normal { a with defers:={ target:=.collected D,args:=#[] }::a.defers } W)
 (hstop:∀(D:Nat) (c:Code) (pre:List α) (x:α) (rest:List α) (W:World),xs=pre++x::rest→St w0 fp0 (defA D::Ix c (pre++[x])) W→c.wp P Q { a with defers:={ target:=.collected D,args:=#[] }::a.defers } W):
 (Code.rangeFunc g ps assign body).wp P Q a w:=by
 refine (wpIn_wide (n:=n)).1 (wpIn_rangeFunc ?_)
 intro fn hfn
 obtain ⟨D,hD⟩:∃D,w.heap.size=D:=⟨_,rfl⟩
 obtain ⟨rec,hrec⟩:∃rec:LoopState→Option Code→Loop,rec=fun st pe=> { state:=st,pending:=pe,fn,tmps:=a.tmps,params:=ps,assign,body,defers:=D }:=⟨_,rfl⟩
 obtain ⟨W1,hW1⟩:∃W1,(w.alloc (.deferred (some []))).alloc (.loop (rec .ready none))=W1:=⟨_,rfl⟩
 have hS1:St w0 fp0 (loopA (D+1) (rec .ready none)::defA D::(L0++R)) W1:=by rw [←hW1,←hD];exact hS.loop_new _
 have hbp:∀st pe,(rec st pe).params=ps:=by intro st pe;rw [hrec]
 have hbs:∀st pe,(rec st pe).state=st∧(rec st pe).pending=pe:=by intro st pe;rw [hrec];exact ⟨rfl,rfl⟩
 have hbr:∀st pe st' pe',{ rec st pe with state:=st',pending:=pe' }=rec st' pe':=by intro st pe st' pe';rw [hrec]
 have hbr1:∀st pe st',{ rec st pe with state:=st' }=rec st' pe:=by intro st pe st';rw [hrec]
 have hout:=run_enterLoop_outer (P:=P) (w:=w) fn a.tmps ps assign body
 rw [hD] at hout
 refine ⟨D+1,[{ target:=.collected D,args:=#[] }],W1,{ target:=.fn (.func gf) lb,args:=#[.func (.yield (D+1)) #[] #[]] },W1,gf,
  #[.func (.yield (D+1)) #[] #[]]++lb,W1,?_,?_,fun _ _=> trivial,?_,fun h=> (by cases h),?_⟩
 · rw [←hW1,hrec]
   exact hout
 · simp only [resolve,hg]
   simp [go_sem]
 · simp [invoke,go_sem,eg]
 clear hout
 obtain ⟨Bk,hBk⟩:∃Bk:LoopState→Option Code→List Asn,Bk=fun st pe=> [loopA (D+1) (rec st pe),defA D]:=⟨_,rfl⟩
 have hbk:∀st pe (A Own:List Asn) W,St w0 fp0 ((A++Bk st pe)++Own) W↔St w0 fp0 (loopA (D+1) (rec st pe)::(A++defA D::Own)) W:=by
  intro st pe A Own W
  rw [hBk]
  have hp:((A++[loopA (D+1) (rec st pe),defA D])++Own).Perm (loopA (D+1) (rec st pe)::(A++defA D::Own)):=by
   classical
   refine List.perm_iff_count.2 fun a=> ?_
   simp only [List.count_append,List.count_cons,List.count_nil]
   omega
  exact ⟨fun h=> h.perm hp,fun h=> h.perm hp.symm⟩
 refine (hseq (D+1) (R++Bk .ready none) (fun pre=> I pre++Bk .ready none) (fun pre=> [exA fun c=> starA (Ix c pre++Bk .done (some c))]) w0 fp0 W1 ?_ ?_ (fun pre Own W h=> hqr pre (Bk .ready none++Own) W (by simpa only [List.append_assoc] using h)) ?_).mono ?_
 · rw [←List.append_assoc]
   have:=(hbk .ready none (L0++R) [] W1).2 (hS1.perm (by
    classical
    refine List.perm_iff_count.2 fun a=> ?_
    simp only [List.count_append,List.count_cons,List.count_nil]
    omega))
   simpa using this
 · intro Own W h
   have h1:St w0 fp0 ((L0++R)++(Bk .ready none++Own)) W:=by simpa only [List.append_assoc] using h
   have:=h0 _ _ h1
   simpa only [List.append_assoc] using this
 · intro pre x rest Own W args hxs hsz h
   have h1:=(hbk .ready none (G x args::I pre) Own W).1 (by simpa only [List.cons_append,List.append_assoc] using h)
   have hl:=h1.loop_has
   have hy:=run_yield (P:=P) (args:=args) hl (by rw [hbp];exact hsz)
   rw [hrec] at hy
   have h1':St w0 fp0 ((G x args::I pre)++(loopA (D+1) (rec .ready none)::defA D::Own)) W:=h1.perm (by
    classical
    refine List.perm_iff_count.2 fun a=> ?_
    simp only [List.cons_append,List.count_append,List.count_cons]
    omega)
   refine ⟨fn,_,assign,body,hy,roundIn_of_wpIn hfn (wpIn_mono (hround _ pre x rest args _ W hxs hsz h1') ?_)⟩
   rintro e0 a0 W0 hp0
   have hn:e0=.normal:=by cases e0 <;> first | rfl | exact hp0.elim
   subst hn
   obtain ⟨h1,hbody⟩:=hp0
   have h1:St w0 fp0 (loopA (D+1) (rec .ready none)::((G x args::I pre)++defA D::Own)) W0:=h1.perm (by
    classical
    refine List.perm_iff_count.2 fun a=> ?_
    simp only [List.cons_append,List.count_append,List.count_cons]
    omega)
   have hl:=h1.loop_has
   have hb:=run_beginRound (P:=P) hl (hbs _ _).1
   rw [hbr1] at hb
   refine ⟨_,hb,?_⟩
   have h2:=h1.loop (rec .busy none)
   have h3:St w0 fp0 ((G x args::I pre)++(loopA (D+1) (rec .busy none)::defA D::Own)) (W0.putObj (D+1) (.loop (rec .busy none))):=h2.perm (by
    classical
    refine List.perm_iff_count.2 fun a=> ?_
    simp only [List.cons_append,List.count_append,List.count_cons]
    omega)
   refine wpIn_mono (hbody _ _ h3) ?_
   have fin:∀(A:List Asn) (jump:Option Code) (W3:World),St w0 fp0 (A++(loopA (D+1) (rec .busy none)::defA D::Own)) W3→
    (Instr.endRound (D+1) jump).run P W3=.ok (.bool jump.isNone) (W3.putObj (D+1) (.loop (rec (if jump.isNone then .ready else .done) jump)))∧
    St w0 fp0 ((A++Bk (if jump.isNone then .ready else .done) jump)++Own) (W3.putObj (D+1) (.loop (rec (if jump.isNone then .ready else .done) jump))):=by
    intro A jump W3 h
    have h4:St w0 fp0 (loopA (D+1) (rec .busy none)::(A++defA D::Own)) W3:=h.perm (by
     classical
     refine List.perm_iff_count.2 fun a=> ?_
     simp only [List.count_append,List.count_cons]
     omega)
    have hr:=run_endRound (P:=P) jump h4.loop_has
    rw [hbr] at hr
    exact ⟨hr,(hbk _ _ A Own _).2 (h4.loop _)⟩
   have ex:∀(c:Code) (A:List Asn) W3,St w0 fp0 ((Ix c (pre++[x])++Bk .done (some c))++Own) W3→St w0 fp0 ([exA fun c=> starA (Ix c (pre++[x])++Bk .done (some c))]++Own) W3:=by
    intro c A W3 h
    exact h.fold fun f hf=> ⟨c,hf⟩
   rintro e a3 W3 hp
   cases e with
   | normal=>
    obtain ⟨hr,h4⟩:=fin _ none W3 hp
    exact ⟨_,_,hr, .inl ⟨rfl,h4⟩⟩
   | ret=>
    obtain ⟨hr,h4⟩:=fin _ (some .ret) W3 hp
    exact ⟨_,_,hr, .inr ⟨rfl,ex _ [] _ h4⟩⟩
   | exit id=>
    obtain ⟨hr,h4⟩:=fin _ (some (.exit id)) W3 hp
    exact ⟨_,_,hr, .inr ⟨rfl,ex _ [] _ h4⟩⟩
   | goto t=>
    obtain ⟨hr,h4⟩:=fin _ (some (.goto t)) W3 hp
    exact ⟨_,_,hr, .inr ⟨rfl,ex _ [] _ h4⟩⟩
   | panic ch=> exact hp.elim
   | outgrown=> exact hp.elim
 · rintro e W2 ⟨⟨v,rfl⟩,h | ⟨pre,x,rest,hxs,h⟩⟩
   · have h1:=(hbk .ready none (I xs) [] W2).1 (by rwa [List.append_nil])
     have hr:=run_endLoop (P:=P) h1.loop_has (by rw [(hbs _ _).1];simp)
     rw [(hbs _ _).2] at hr
     refine ⟨none,_,hr,hdone D _ ?_⟩
     exact (h1.loop _).drop.perm (by
      classical
      refine List.perm_iff_count.2 fun a=> ?_
      simp only [List.count_append,List.count_cons,List.count_nil]
      omega)
   · obtain ⟨fp,⟨f,g',⟨c,hc⟩,hg',hd,rfl⟩,ht⟩:=h
     have h0':St w0 fp0 (Ix c (pre++[x])++Bk .done (some c)) W2:=by
      rw [show g'=[] from hg',List.append_nil] at ht
      exact ⟨f,hc,ht⟩
     have h1:=(hbk .done (some c) (Ix c (pre++[x])) [] W2).1 (by rwa [List.append_nil])
     have hr:=run_endLoop (P:=P) h1.loop_has (by rw [(hbs _ _).1];simp)
     rw [(hbs _ _).2] at hr
     refine ⟨some c,_,hr,wpIn_wide.2 (hstop D c pre x rest _ hxs ?_)⟩
     exact (h1.loop _).drop.perm (by
      classical
      refine List.perm_iff_count.2 fun a=> ?_
      simp only [List.count_append,List.count_cons,List.count_nil]
      omega)
/- Obligations and operations of any program. -/
/-- A call that lays a piece, whatever else was done. -/
theorem Rg.Ob.callNew (G:Rg) (i k:Nat) {d:Nat} {A:(Nat→Value)→Asn} (B:Value→Asn) (hB:∀v w f,(B v).p w f→∃a n c,v=.slice a n c) {f:Nat} {args:Array Value} (hc:∀L w,St G.w0 G.fp0 (L++G.R) w→Calls G.P f args w fun e w2=> ∃v f',e=.returned v∧(B v).p w2 f'∧Below w.heap.size w w2∧∀k∈f',w.heap.size≤k)
 (hk:G.pcs[k]? =some (.new i [d] A):=by rfl) (hA:∀g v,A (rv [d] (sput g (some d) v))=B v:=by intro _ _;exact kr (by kernel_rfl)) (hr:∀a w,(execOp (G.env i a) (opAt G.ops i)).run G.P w=.ok (.enter f args) w:=by intro _ _;exact kr (by kernel_rfl))
 (hd:dstOf G.ops i=some d:=by exact kr (by kernel_rfl)) (hself:((closOf G.ops).getD i []).elem i=false:=by exact kr (by kernel_rfl)) (hsh:∀g a n c,G.shp i g (.slice a n c)=.slice a n c:=by intro _ _ _ _;exact kr (by kernel_rfl))
 (hq:G.quiet i k=true:=by exact kr (by kernel_rfl)) (hw:∀a,wantE G.ops (opAt G.ops i) (G.env i a)=some true:=by intro _;exact kr (by kernel_rfl)):G.Ob i:=
 Rg.Ob.call G i k (args:=fun _=> args) hr (fun L a w fp _ hS hp=> by
  rw [new_before hself] at hp
  obtain rfl:fp=[]:=hp
  refine (hc _ w hS).mono ?_
  rintro e w2 ⟨v,f',rfl,h2,h3,h4⟩
  obtain ⟨va,vn,vc,rfl⟩:=hB _ _ _ h2
  refine ⟨_,rfl,hsh _ _ _ _,f',?_,⟨h3.os,h3.tape,h3.output,h3.size,fun k hk _=> h3.block k hk,fun k hk=> .inr (h4 k hk)⟩⟩
  rw [new_after,hd,hA]
  exact h2) hk hq hw
/-- An operation that is carried out at once and turns one piece, whatever else was done. -/
theorem Rg.Ob.run1 (G:Rg) (i k:Nat) {p:Pc} (PB:(Nat→Value)→Asn) (PA:(Nat→Value)→Value→Asn)
 (h:∀L a w fp,stP G (lk (closOf G.ops) i L) (slots a) w→(PB (slots a)).p w fp→∃v w' f',(execOp (G.env i a) (opAt G.ops i)).run G.P w=.ok (.value v) w'∧G.shp i (slots a) v=v∧(PA (slots a) v).p w' f'∧Tr w w' fp f')
 (hk:G.pcs[k]? =some p:=by rfl) (hB:∀L g,p.at (lk (closOf G.ops) i L) g=PB g:=by intro _ _;exact kr (by kernel_rfl)) (hA:∀L g v,p.at (ln (closOf G.ops) i L) (sput g (dstOf G.ops i) v)=PA g v:=by intro _ _ _;exact kr (by kernel_rfl))
 (hq:G.quiet i k=true:=by exact kr (by kernel_rfl)) (hw:∀a,wantE G.ops (opAt G.ops i) (G.env i a)=some true:=by intro _;exact kr (by kernel_rfl)):G.Ob i:=
 Rg.Ob.eff G i k hk (fun L a w fp _ hS hp=> by
  rw [hB] at hp
  obtain ⟨v,w',f',h1,h2,h3,h4⟩:=h L a w fp hS hp
  rw [h1]
  exact ⟨G.shp_of h2,f',by rw [hA];exact h3,h4⟩) hq hw
/-- .. without a value. -/
theorem Rg.Ob.skip1 (G:Rg) (i k:Nat) {p:Pc} (PB PA:(Nat→Value)→Asn)
 (h:∀L a w fp,stP G (lk (closOf G.ops) i L) (slots a) w→(PB (slots a)).p w fp→∃w' f',(execOp (G.env i a) (opAt G.ops i)).run G.P w=.ok .skip w'∧(PA (slots a)).p w' f'∧Tr w w' fp f')
 (hk:G.pcs[k]? =some p:=by rfl) (hB:∀L g,p.at (lk (closOf G.ops) i L) g=PB g:=by intro _ _;exact kr (by kernel_rfl)) (hA:∀L g,p.at (ln (closOf G.ops) i L) g=PA g:=by intro _ _;exact kr (by kernel_rfl))
 (hd:dstOf G.ops i=none:=by exact kr (by kernel_rfl)) (hvo:(G.valOf i).isNone=true:=by exact kr (by kernel_rfl)) (hq:G.quiet i k=true:=by exact kr (by kernel_rfl)) (hw:∀a,wantE G.ops (opAt G.ops i) (G.env i a)=some true:=by intro _;exact kr (by kernel_rfl)):G.Ob i:=
 Rg.Ob.eff G i k hk (fun L a w fp _ hS hp=> by
  have hvo':G.valOf i=none:=by simpa using hvo
  rw [hB] at hp
  obtain ⟨w',f',h1,h3,h4⟩:=h L a w fp hS hp
  rw [h1,hd,hvo']
  exact ⟨fun t h=> (nomatch h),f',by rw [sput_none,hA];exact h3,h4⟩) hq hw
theorem piece_of {w0 w:World} {A:Asn} (h:St w [] [A] w0):∃f,A.p w0 f∧Below w.heap.size w w0∧∀k∈f,w.heap.size≤k:=by
 obtain ⟨fp,⟨f,g,h3,hg, -,e⟩,ht⟩:=h
 obtain rfl:g=[]:=hg
 rw [List.append_nil] at e
 subst e
 exact ⟨_,h3,ht.below (Nat.le_refl _) (fun k hk=> nomatch hk),fun k hk=> (ht.new k hk).resolve_left (by simp)⟩
theorem exec_store {P:Program} {o:Oper} {env:Operand→Value} {w w':World} {ty:TypeId} {x y:Operand} {p u:Value} (hop:o.op=.store ty x y) (hx:env x=p) (hy:env y=u) (h:(Instr.storeAt ty p u).run P w=.ok () w'):(execOp env o).run P w=.ok .skip w':=by
 simp only [execOp,hop,hx,hy,Sem.run_bind,h,Result.andThen_ok,Sem.run_pure]
theorem slSelf {t:TypeId} {w:World} {v:Value} {xs:List Value} {f:List Nat} (h:(slA t v xs).p w f):(slA t (.slice (sa v) (sn v) (sc v)) xs).p w f:=by
 obtain ⟨a,n,c,rfl⟩:=sl_shape h
 exact h
theorem one_int (l:List Int):∀u∈l.map intC,u.oneCell'=true:=by
 intro u hu
 obtain ⟨z, -,rfl⟩:=List.mem_map.1 hu
 rfl
theorem Rg.Ob.eqlS (G:Rg) (i:Nat) (k:IntKind) (p:Int) {ty r:TypeId} {x y:Operand} (hop:(opAt G.ops i).op=.binOp .eql ty x y r:=by rfl) (hx:∀a,G.env i a x=.int k p:=by intro _;exact kr (by kernel_rfl)) (hy:∀a,G.env i a y=.int k p:=by intro _;exact kr (by kernel_rfl)) (hv:∀g,G.valD i g=.bool true:=by intro _;exact kr (by kernel_rfl))
 (hq:(G.quiet i G.pcs.length && G.okV i)=true:=by exact kr (by kernel_rfl)) (hw:∀a,wantE G.ops (opAt G.ops i) (G.env i a)=some true:=by intro _;exact kr (by kernel_rfl)):G.Ob i:=Rg.Ob.read G i hq hw fun L a w _ _=> by
 simp [execOp,hop,hx,hy,go_sem,hv]
/-- A piece is laid down. -/
theorem newB {w0 w w':World} {fp0:List Nat} {L:List Asn} {A:Asn} (h:St w0 fp0 L w) (h2:St w [] [A] w'):St w0 fp0 (A::L) w':=by
 obtain ⟨fp,⟨f,g,h3,hg, -,e⟩,ht⟩:=h2
 obtain rfl:g=[]:=hg
 rw [List.append_nil] at e
 subst e
 have h4:=St.add h (ht.below (Nat.le_refl _) (fun k hk=> nomatch hk)) h3 (fun k hk=> (ht.new k hk).resolve_left (by simp))
 exact h4.perm List.perm_append_comm
theorem wp_of_value {P:Program} {o:Oper} {a:Act} {w w':World} {K:Act→World→Prop} {Q:Exit→Act→World→Prop} {v:Value} {d:Nat} (hd:o.dst=some d) (hr:(execOp a.eval o).run P w=.ok (.value v) w') (h:K (a.put (some d) v) w'):o.wp P a w K Q:=by
 unfold Oper.wp
 rw [hr]
 show K (a.put o.dst v) w'
 rw [hd];exact h
theorem wp_of_call {P:Program} {o:Oper} {a:Act} {w:World} {K:Act→World→Prop} {Q:Exit→Act→World→Prop} {f:FuncId} {args:Array Value} {R:Ending→World→Prop} {d:Nat} (hd:o.dst=some d) (hr:(execOp a.eval o).run P w=.ok (.enter f args) w) (hR:Calls P f args w R)
 (h:∀e w',R e w'→∃v,e=.returned v∧K (a.put (some d) v) w'):o.wp P a w K Q:=by
 unfold Oper.wp
 rw [hr]
 refine hR.mono fun e w' hr=> ?_
 obtain ⟨v,rfl,h'⟩:=h e w' hr
 show K (a.put o.dst v) w'
 rw [hd];exact h'
theorem exec_load1 {P:Program} {o:Oper} {a:Act} {w:World} {ty:TypeId} {d b j:Nat} {v:Value} (hop:o.op=.load ty (.tmp d)) (ha:(isAgg ty).run P w=.ok false w) (hx:a.eval (.tmp d)=.pointer (some ⟨b,j,none⟩)) (hc:w.cell? ⟨b,j,none⟩=some v):(execOp a.eval o).run P w=.ok (.value v) w:=by
 simp only [execOp,hop,hx,Sem.run_bind,run_load1 ha hc,Result.andThen_ok,Sem.run_pure]
def tu:Value→Nat→Value
 | .tuple a,i=> a.getD i undef
 | _,_=> undef
/-- An element's address. -/
theorem Rg.Ob.indexO (G:Rg) (i b o n c m s:Nat) (hm:m < n) {t e:TypeId} {x y:Operand} (hop:(opAt G.ops i).op=.indexAddr t x y:=by rfl) (hu:G.P.underlying t=some (.slice e):=by rfl) (hz:∀w,(sizeOf e).run G.P w=.ok s w:=by intro _;exact kr (by kernel_rfl)) (hx:∀a,G.env i a x=.slice (some ⟨b,o,none⟩) n c:=by intro _;exact kr (by kernel_rfl)) (hy:∀a,G.env i a y=.int .i64 m:=by intro _;exact kr (by kernel_rfl)) (hv:∀g,G.valD i g=.pointer (some ⟨b,o+m * s,none⟩):=by intro _;exact kr (by kernel_rfl))
 (hq:(G.quiet i G.pcs.length && G.okV i)=true:=by exact kr (by kernel_rfl)) (hw:∀a,wantE G.ops (opAt G.ops i) (G.env i a)=some true:=by intro _;exact kr (by kernel_rfl)):G.Ob i:=Rg.Ob.read G i hq hw fun L a w _ _=> by
 simp only [execOp,hop,hx,hy,Sem.run_bind,run_index1 hu (hz w) hm,Result.andThen_ok,Sem.run_pure,hv]
/-- A struct is loaded. -/
theorem exec_loads {P:Program} {o:Oper} {env:Operand→Value} {w:World} {ty:TypeId} {x:Operand} {b off:Nat} {cs:List Value} (hop:o.op=.load ty x) (ha:(isAgg ty).run P w=.ok true w) (hs:(sizeOf ty).run P w=.ok cs.length w) (hx:env x=.pointer (some ⟨b,off,none⟩)) (hc:∀j u,cs[j]? =some u→w.cell? ⟨b,off+j,none⟩=some u):(execOp env o).run P w=.ok (.value (.agg cs.toArray)) w:=by
 have h:=run_loadCells_list (P:=P) (w:=w) ⟨b,off,none⟩ cs (fun j v hj=> by
  rw [add_plain]
  exact hc j v hj)
 simp [execOp,hop,hx,Instr.loadAt,Instr.sureAddr,loadVar,ha,hs,h]
/-- A load of what the frame says. -/
theorem Rg.Ob.loadR (G:Rg) (i:Nat) {b off:Nat} (cs:List Value) (hl:∀L w,St G.w0 G.fp0 (L++G.R) w→∀j u,cs[j]? =some u→w.cell? ⟨b,off+j,none⟩=some u) {ty:TypeId} {x:Operand} (hop:(opAt G.ops i).op=.load ty x:=by rfl) (ha:∀w,(isAgg ty).run G.P w=.ok true w:=by intro _;exact kr (by kernel_rfl)) (hs:∀w,(sizeOf ty).run G.P w=.ok cs.length w:=by intro _;exact kr (by kernel_rfl)) (hx:∀a,G.env i a x=.pointer (some ⟨b,off,none⟩):=by intro _;exact kr (by kernel_rfl)) (hv:∀g,G.valD i g=.agg cs.toArray:=by intro _;exact kr (by kernel_rfl))
 (hq:(G.quiet i G.pcs.length && G.okV i)=true:=by exact kr (by kernel_rfl)) (hw:∀a,wantE G.ops (opAt G.ops i) (G.env i a)=some true:=by intro _;exact kr (by kernel_rfl)):G.Ob i:=Rg.Ob.read G i hq hw fun L a w _ hS=> by
 rw [exec_loads hop (ha w) (hs w) (hx a) (hl _ w hS),hv]
theorem Rg.Ob.loadR1 (G:Rg) (i:Nat) {b off:Nat} (u:Value) (hl:∀L w,St G.w0 G.fp0 (L++G.R) w→w.cell? ⟨b,off,none⟩=some u) {ty:TypeId} {d:Nat} (hop:(opAt G.ops i).op=.load ty (.tmp d):=by rfl) (ha:∀w,(isAgg ty).run G.P w=.ok false w:=by intro _;exact kr (by kernel_rfl)) (hx:∀a,G.env i a (.tmp d)=.pointer (some ⟨b,off,none⟩):=by intro _;exact kr (by kernel_rfl)) (hv:∀g,G.valD i g=u:=by intro _;exact kr (by kernel_rfl))
 (hq:(G.quiet i G.pcs.length && G.okV i)=true:=by exact kr (by kernel_rfl)) (hw:∀a,wantE G.ops (opAt G.ops i) (G.env i a)=some true:=by intro _;exact kr (by kernel_rfl)):G.Ob i:=Rg.Ob.read G i hq hw fun L a w _ hS=> by
 simp only [execOp,hop,hx,Sem.run_bind,run_load1 (ha w) (hl _ w hS),Result.andThen_ok,Sem.run_pure,hv]
theorem row_empty {w:World} {b:Nat} {t:TypeId} {size:Nat} {f:List Nat} (h:(blkA b t #[]).p w f):(rowA t size (.slice (some ⟨b,0,none⟩) 0 0) 0 []).p w f:=
 ⟨⟨by simp, .inr ⟨b,0,#[],rfl,Nat.zero_le _,h.1,Nat.le_refl _,Nat.zero_le _,by simp,by simp⟩⟩,h.2⟩
/-- A call that reads the frame. -/
theorem Rg.Ob.askR (G:Rg) (i:Nat) {f:Nat} {args:Array Value} {v:Value} (hc:∀L w,St G.w0 G.fp0 (L++G.R) w→Calls G.P f args w fun e w'=> e=.returned v∧Below w.heap.size w w') (hv:∀g,G.valD i g=v:=by intro _;exact kr (by kernel_rfl))
 (hr:∀a w,(execOp (G.env i a) (opAt G.ops i)).run G.P w=.ok (.enter f args) w:=by intro _ _;exact kr (by kernel_rfl))
 (hq:(G.quiet i G.pcs.length && G.okV i)=true:=by exact kr (by kernel_rfl)) (hw:∀a,wantE G.ops (opAt G.ops i) (G.env i a)=some true:=by intro _;exact kr (by kernel_rfl)):G.Ob i:=
 Rg.Ob.ask G i (args:=fun _=> args) hr (fun L a w _ hS=> by rw [hv];exact hc _ w hS) hq hw
/- each: rows that are collected when an iteration starts, each handed over as a copy. -/
/-- What is handed over of a row: its number and a slice of its own. -/
def itG (x:Ri) (args:Array Value):Asn:=exA fun q:Option Addr×Nat=> starA [pureA (args=#[.int .i64 x.id, .slice q.1 x.r.length q.2]),rowA 68 3 (.slice q.1 x.r.length q.2) x.r.length (flat x.r)]
theorem itG_in {w0 w:World} {fp0:List Nat} {R:List Asn} {x:Ri} {v:Value} (h:St w0 fp0 (rowA 68 3 v x.r.length (flat x.r)::R) w):St w0 fp0 (itG x #[.int .i64 x.id,v]::R) w:=by
 obtain ⟨_,hr⟩:=h.has 0 rfl
 obtain ⟨a,c,rfl, -⟩:=row_shape hr
 have h1:St w0 fp0 ([pureA (#[Value.int .i64 x.id, .slice a x.r.length c]=#[Value.int .i64 x.id, .slice a x.r.length c]),rowA 68 3 (.slice a x.r.length c) x.r.length (flat x.r)]++R) w:=St.pure.2 ⟨rfl,h⟩
 exact h1.fold fun f hf=> ⟨(a,c),hf⟩
theorem itG_out {w0 w:World} {fp0:List Nat} {R:List Asn} {x:Ri} {args:Array Value} (h:St w0 fp0 (itG x args::R) w):∃a c,args=#[.int .i64 x.id, .slice a x.r.length c]∧St w0 fp0 (rowA 68 3 (.slice a x.r.length c) x.r.length (flat x.r)::R) w:=by
 obtain ⟨⟨a,c⟩,h1⟩:=St.exE h
 have h2:=St.star.1 h1
 obtain ⟨h3,h4⟩:=St.pure.1 h2
 exact ⟨a,c,h3,h4⟩
/-- A row in memory that was new then. -/
def rowF (i d:Nat) (B n:Nat) (xs:List Value):Ft:=⟨i,d,fun w v=> ∃f,(rowA 68 3 v n xs).p w f∧∀k∈f,B≤k,fun _w _w' v ⟨f,h1,h2⟩ hb=> ⟨f,(rowA 68 3 v n xs).loc h1 (fun k hk=> hb.block k ((rowA 68 3 v n xs).lt h1 k hk)),h2⟩⟩
noncomputable def oE3:Array Oper:=opsR Tryz.f133 3
def fE3 (l eb:Nat) (x:Ri) (B:Nat):List Ft:=[.const 0 12 (.func (.yield l) #[] #[]), .const 1 13 (.pointer (some ⟨eb,0,none⟩)), .const 2 14 (.int .i64 x.id), .const 3 15 (.pointer (some ⟨eb,1,none⟩)), .const 4 16 x.v,rowF 5 17 B x.r.length (flat x.r)]
set_option maxRecDepth 20000 in
/-- The drawn region of a round. -/
theorem each_reg (l eb m:Nat) (x:Ri) {c:Code} {a:Act} {w:World} {Q:Exit→Act→World→Prop} (c1:isReg c=true) (c2:c=.region 3 oE3 true) (hsz:a.tmps.size=21) (h0:a.eval (.tmp 0)=.func (.yield l) #[] #[]) (h4:a.eval (.tmp 4)=.pointer (some ⟨eb,0,none⟩))
 (e0:w.cell? ⟨eb,0,none⟩=some (.int .i64 x.id)) (e1:w.cell? ⟨eb,1,none⟩=some x.v) (hr:ValsAt w x.r x.v) (hl:x.r.length < 1099511627776)
 (hend:∀v w1,Below w.heap.size w w1→(∃f,(rowA 68 3 v x.r.length (flat x.r)).p w1 f∧∀k∈f,w.heap.size≤k)→wpListIn Fence.wide m Tryz.prog oE3 Q (oE3.toList.drop 6) (putL a [(12, .func (.yield l) #[] #[]),(13, .pointer (some ⟨eb,0,none⟩)),(14, .int .i64 x.id),(15, .pointer (some ⟨eb,1,none⟩)),(16,x.v),(17,v)]) w1):c.wpIn Fence.wide m Tryz.prog Q a w:=by
 subst c2
 have hebl:=World.block_lt_of_cell? w _ e0
 refine wpIn_region_tail 6 [12,13,14,15,16,17] (fE3 l eb x w.heap.size) rfl (by kernel_rfl) (by rw [show oE3.size=8 by kernel_rfl];omega) (by kernel_rfl) (by kernel_rfl) (by kernel_rfl) (by kernel_rfl) (by simp [fE3,Ft.const,rowF]) (by simp [fE3,Ft.const,rowF]) (by
  intro f hf
  simp only [fE3,List.mem_cons,List.not_mem_nil,or_false] at hf
  rcases hf with rfl | rfl | rfl | rfl | rfl | rfl <;> simp [Ft.const,rowF,hsz]) ?_ ?_
 · intro f hf o a1 w1 ho hb hold hfacts K hK
   simp only [fE3,List.mem_cons,List.not_mem_nil,or_false] at hf
   have D:∀g∈fE3 l eb x w.heap.size,waitsB oE3 f.i g.i=true→g.p w1 (a1.eval (.tmp g.d)):=hfacts
   have z0:=eval_spell ((hold 0 (by simp)).trans h0)
   have z4:=eval_spell ((hold 4 (by simp)).trans h4)
   rcases hf with rfl | rfl | rfl | rfl | rfl | rfl
   · have hl:oE3[0]? =some ⟨some 12,Op.move (.tmp 0),_,_,_,none⟩:=rfl
     obtain rfl:=Option.some.inj (ho.symm.trans hl)
     exact wp_of_value (d:=12) (v:=.func (.yield l) #[] #[]) (w':=w1) rfl (by simp [go_sem,execOp,Act.eval,z0]) (hK _ _ (Below.refl _ _) rfl)
   · have hl:oE3[1]? =some ⟨some 13,Op.fieldAddr _ (.tmp 4) 0,_,_,_,none⟩:=rfl
     obtain rfl:=Option.some.inj (ho.symm.trans hl)
     exact wp_of_value (d:=13) (v:=.pointer (some ⟨eb,0,none⟩)) (w':=w1) rfl (by simp [go_sem,execOp,Act.eval,z4]) (hK _ _ (Below.refl _ _) rfl)
   · have hl:oE3[2]? =some ⟨some 14,Op.load _ (.tmp 13),_,_,_,none⟩:=rfl
     obtain rfl:=Option.some.inj (ho.symm.trans hl)
     have x13:a1.eval (.tmp 13)=.pointer (some ⟨eb,0,none⟩):=D (.const 1 13 _) (by simp [fE3]) (by kernel_rfl:waitsB oE3 2 1=true)
     exact wp_of_value (d:=14) (v:=.int .i64 x.id) (w':=w1) rfl (exec_load1 rfl (by kernel_rfl) x13 ((hb.cell (p:=⟨eb,0,none⟩) hebl).trans e0)) (hK _ _ (Below.refl _ _) rfl)
   · have hl:oE3[3]? =some ⟨some 15,Op.fieldAddr _ (.tmp 4) 1,_,_,_,none⟩:=rfl
     obtain rfl:=Option.some.inj (ho.symm.trans hl)
     exact wp_of_value (d:=15) (v:=.pointer (some ⟨eb,1,none⟩)) (w':=w1) rfl (by simp [go_sem,execOp,Act.eval,z4]) (hK _ _ (Below.refl _ _) rfl)
   · have hl:oE3[4]? =some ⟨some 16,Op.load _ (.tmp 15),_,_,_,none⟩:=rfl
     obtain rfl:=Option.some.inj (ho.symm.trans hl)
     have x15:a1.eval (.tmp 15)=.pointer (some ⟨eb,1,none⟩):=D (.const 3 15 _) (by simp [fE3]) (by kernel_rfl:waitsB oE3 4 3=true)
     exact wp_of_value (d:=16) (v:=x.v) (w':=w1) rfl (exec_load1 rfl (by kernel_rfl) x15 ((hb.cell (p:=⟨eb,1,none⟩) hebl).trans e1)) (hK _ _ (Below.refl _ _) rfl)
   · have hl':oE3[5]? =some ⟨some 17,Op.call ⟨Callee.value (Operand.func _),#[Operand.tmp 16],_⟩,_,_,_,none⟩:=rfl
     obtain rfl:=Option.some.inj (ho.symm.trans hl')
     have x16:a1.eval (.tmp 16)=x.v:=D (.const 4 16 _) (by simp [fE3]) (by kernel_rfl:waitsB oE3 5 4=true)
     have z16:=eval_spell x16
     refine wp_of_call (d:=17) (f:=71) (args:=#[x.v]) rfl (by simp [go_sem,Act.eval,z16]) (cloneW (flat x.r) x.r.length x.v w1 (hr.mono hb).1 (one_flat _) hl) ?_
     rintro e w2 ⟨v,f,rfl,h2,h3,h5⟩
     exact ⟨_,rfl,hK _ _ h3 ⟨f,h2,fun k hk=> Nat.le_trans hb.size (h5 k hk)⟩⟩
 · intro a1 w1 hfr hb hall
   have g0:=hall (.const 0 12 (.func (.yield l) #[] #[])) (by simp [fE3])
   have g1:=hall (.const 1 13 (.pointer (some ⟨eb,0,none⟩))) (by simp [fE3])
   have g2:=hall (.const 2 14 (.int .i64 x.id)) (by simp [fE3])
   have g3:=hall (.const 3 15 (.pointer (some ⟨eb,1,none⟩))) (by simp [fE3])
   have g4:=hall (.const 4 16 x.v) (by simp [fE3])
   have g5:=hall (rowF 5 17 w.heap.size x.r.length (flat x.r)) (by simp [fE3])
   rw [frame_eq hfr (cons_eq g0 (cons_eq g1 (cons_eq g2 (cons_eq g3 (cons_eq g4 (cons_eq rfl rfl))))))]
   exact hend _ w1 hb g5
set_option maxHeartbeats 4000000 in
set_option maxRecDepth 20000 in
theorem each1_seq (f:Nat) (caps:Array Value) (cb:Nat) (its:List Ri) (LC:List Asn) (he:∀args w,(callFunc f args).run Tryz.prog w=.ok (.enter f args) w) (hlen:its.length < 1099511627776) (hrl:∀x∈its,x.r.length < 1099511627776)
 (hcol:∀(w0:World) (fp0:List Nat) (R:List Asn) (w:World),St w0 fp0 (blkA cb 171 #[.func (.func f) #[] caps]::(LC++R)) w→Calls Tryz.prog f caps w fun e w'=> ∃v,e=.returned v∧St w0 fp0 (rowA 212 2 v its.length (riV its)::blkA cb 171 #[.func (.func f) #[] caps]::(LC++R)) w') (n:Nat):
 SeqG n Tryz.prog 133 #[.pointer (some ⟨cb,0,none⟩)] 2 itG (fun W=> ∀x∈its,ValsAt W x.r x.v) its (blkA cb 171 #[.func (.func f) #[] caps]::LC):=by
 intro y R J Jx w0 fp0 W hS h0 hq hY
 refine callsIn_wide.2 ?_
 have hS':St w0 fp0 (blkA cb 171 #[.func (.func f) #[] caps]::(LC++R)) W:=hS
 have HC:=Lib.hid (hcol w0 fp0 R W hS')
 have H0:RowKit.Hid (∀v W,St w0 fp0 (rowA 212 2 v its.length (riV its)::blkA cb 171 #[.func (.func f) #[] caps]::(LC++R)) W→St w0 fp0 (J []++[rowA 212 2 v its.length (riV its)]) W):=fun v W h=> h0 [rowA 212 2 v its.length (riV its)] W (by
  have h1:St w0 fp0 ([rowA 212 2 v its.length (riV its)]++((blkA cb 171 #[.func (.func f) #[] caps]::LC)++R)) W:=h
  exact h1.comm)
 have HQ:=Lib.hid hq
 have HY:=Lib.hid hY
 have HRL:=Lib.hid hrl
 obtain ⟨N,hN⟩:∃N,its.length=N:=⟨_,rfl⟩
 have HN:=Lib.hid hN
 rw [hN] at HC H0
 obtain ⟨_,hb⟩:=hS'.has 0 rfl
 have c0:=(blk_get hb).1 0
 have cl:=(blk_get hb).2.2
 simp only [List.getElem?_toArray,List.getElem?_cons_zero] at c0
 have hn63:N≤9223372036854775807:=by omega
 clear hS hS' hcol h0 hq hY hrl hb hN hlen
 go_enter Tryz.func133,Tryz.ntmps133
 go_wp2_with fail
 (with_reducible refine HC.out.mono ?_)
 rintro e w1 ⟨v,rfl,h1⟩
 obtain ⟨_,hrow⟩:=h1.has 0 rfl
 obtain ⟨ga,gc,hgv, -⟩:=row_shape hrow
 subst hgv
 have H2:=Lib.hid (H0.out _ _ h1)
 clear HC H0 h1 hrow c0 cl
 go_wp2
 go_loopg [8] N (fun g z wr=> ∃k:Nat,z=.int .i64 k∧g+k=N∧RowKit.Hid (∃pre rest,its=pre++rest∧pre.length=k∧St w0 fp0 (J pre++[rowA 212 2 (.slice ga N gc) N (riV its)]) wr))
 case atStart=> exact ⟨0,rfl,rfl,⟨[],its,rfl,rfl,H2.out⟩⟩
 case round=>
  clear H2
  obtain ⟨k,rfl,hgk,Hr⟩:=hrel
  by_cases hk:k < N
  · obtain ⟨pre,rest,hxs,hpl,hs⟩:=Hr.out
    cases rest with
    | nil=>
     exfalso
     have:=congrArg List.length hxs
     rw [HN.out,List.append_nil] at this
     omega
    | cons x rest=>
     obtain ⟨_,hrw⟩:=St.has (i:=0) (A:=rowA 212 2 (.slice ga N gc) N (riV its)) hs.comm rfl
     have hkl:k < its.length:=by rw [HN.out];exact hk
     have hxk:its[k]=x:=by
      have:its[k]? =some x:=by rw [hxs,←hpl];simp
      rw [List.getElem?_eq_getElem hkl] at this
      exact Option.some.inj this
     have hsl:=row_sl hrw (by rw [riV_len,HN.out])
     rw [←HN.out] at hsl
     obtain ⟨gb,go,gc',e0,q0,q1⟩:=ri_cells hsl k hkl
     obtain ⟨rfl, -, -⟩:=Value.slice.inj e0
     rw [hxk] at q0 q1
     have hvr:=HQ.out pre _ wr hs x (by rw [hxs];simp)
     have hql:=World.block_lt_of_cell? wr _ q0
     have Hs:=Lib.hid hs
     have Hxs:=Lib.hid hxs
     have Hpl:=Lib.hid hpl
     have Hgk:=Lib.hid hgk
     have HVR:=Lib.hid hvr
     have Hxl:=Lib.hid (HRL.out x (by rw [hxs];simp))
     have hkn:(k:Int) < N:=by omega
     obtain ⟨xid,xa,xn,xc,xr⟩:=x
     unfold Ri.v at q1
     simp only at q0 q1
     clear hs hxs hpl hrw hkl hxk hsl e0 hvr Hr hgk
     go_upto_region 3 with (fail)
     generalize hW2:wr.alloc _=W2
     have hb2:Below wr.heap.size wr W2:=by rw [←hW2];exact (Below.refl _ _).alloc (Nat.le_refl _) _
     have d0:=World.cell?_alloc_new wr _ _ 0 |>.symm.trans (congrArg (fun w=> World.cell? w ⟨wr.heap.size,0,none⟩) hW2) |>.symm
     have d1:=World.cell?_alloc_new wr _ _ 1 |>.symm.trans (congrArg (fun w=> World.cell? w ⟨wr.heap.size,1,none⟩) hW2) |>.symm
     simp only [List.getElem?_toArray,List.getElem?_cons_zero,List.getElem?_cons_succ] at d0 d1
     have HS2:=Lib.hid (Hs.out.mono hb2)
     have HV2:=Lib.hid (HVR.out.mono hb2)
     clear hW2 hb2 q0 q1 hql Hs HVR
     refine (wpIn_wide (n:=n)).1 ?_
     refine each_reg y wr.heap.size n ⟨xid,xa,xn,xc,xr⟩ rfl rfl rfl rfl rfl d0 d1 HV2.out Hxl.out fun v w2 hb3 ⟨f3,h3,h4⟩=> ?_
     have HG:RowKit.Hid (St w0 fp0 (itG ⟨xid,xa,xn,xc,xr⟩ #[.int .i64 xid,v]::(J pre++[rowA 212 2 (.slice (some ⟨gb,go,none⟩) N gc) N (riV its)])) w2):=by
      have h5:=St.add HS2.out hb3 h3 h4
      refine itG_in (x:=⟨xid,xa,xn,xc,xr⟩) ?_
      exact (show St w0 fp0 ((J pre++[rowA 212 2 (.slice (some ⟨gb,go,none⟩) N gc) N (riV its)])++[rowA 68 3 v xr.length (flat xr)]) w2 from h5).comm
     obtain ⟨fn,tmps,assign,body,hy,hR⟩:=HY.out pre ⟨xid,xa,xn,xc,xr⟩ rest _ w2 #[.int .i64 xid,v] Hxs.out rfl HG.out
     have HR:=Lib.hid hR
     have HSo:RowKit.Hid (∀W' A,St w0 fp0 (A++[rowA 212 2 (.slice (some ⟨gb,go,none⟩) N gc) N (riV its)]) W'→St w0 fp0 A W'):=fun W' A h=> St.dropAll (A:=[rowA 212 2 (.slice (some ⟨gb,go,none⟩) N gc) N (riV its)]) h.comm
     clear hR HG HS2 HV2 d0 d1 hb3
     have hd:oE3.toList.drop 6=[⟨some 18, .call ⟨.value (.tmp 12),#[.tmp 14, .tmp 17],_⟩,_,_,_,none⟩,⟨some 19, .unOp .not _ (.tmp 18),_,_,_,none⟩]:=rfl
     rw [hd]
     clear hd
     simp only [putL,List.foldl,Act.put,List.setIfInBounds_toArray,List.set_cons_succ,List.set_cons_zero]
     gi_wp2
     refine ⟨fun h=> (by cases h),HR.out.mono ?_⟩
     rintro e W' (⟨rfl,hs'⟩ | ⟨rfl,hs'⟩)
     · have Hs':=Lib.hid hs'
       clear hs' HR hy
       gi_wp2
       go_wp2
       go_roundg (gk - 1)
       case rel=> exact ⟨k+1,by go_num,by have:=Hgk.out;omega,⟨pre++[⟨xid,xa,xn,xc,xr⟩],rest,by rw [Hxs.out];simp,by rw [List.length_append,Hpl.out];rfl,Hs'.out⟩⟩
       case measure=> have:=Hgk.out;omega
     · have Hs':=Lib.hid (HSo.out _ _ hs')
       clear hs' HR hy HSo
       gi_wp2
       go_wp2
       refine bodyPost_ret (results_none rfl _ _ _) rfl ?_
       exact ⟨⟨_,rfl⟩, .inr ⟨pre,_,rest,Hxs.out,Hs'.out⟩⟩
  · have hnk:k=N:=by omega
    have Hend:RowKit.Hid (St w0 fp0 (J its) wr):=by
     obtain ⟨pre,rest,hxs,hpl,hs⟩:=Hr.out
     have:rest=[]:=by
      have:=congrArg List.length hxs
      rw [HN.out,List.length_append] at this
      exact List.length_eq_zero_iff.1 (by omega)
     subst this
     rw [List.append_nil] at hxs
     have h2:St w0 fp0 ([rowA 212 2 (.slice ga N gc) N (riV its)]++J pre) wr:=hs.comm
     rw [←hxs] at h2
     exact St.dropAll h2
    clear Hr HY HQ hgk hk HN HRL
    subst hnk
    go_wp2
    go_end0
    exact ⟨⟨_,rfl⟩, .inl Hend.out⟩
/- collect, over both trees. -/
set_option maxRecDepth 100000
theorem rowE (β:Bool) [OkI β]:RowSpec Tryz.prog (tES β) (tE β) 2:=by
 cases β
 · exact rowSpec (z:=.agg #[.int .i64 0, .slice none 0 0]) (bytes:=32) (by kernel_rfl) (by kernel_rfl) rfl (by omega) (by omega)
 · exact rowSpec (z:=.agg #[.string ⟨#[]⟩, .int .i64 0]) (bytes:=24) (by kernel_rfl) (by kernel_rfl) rfl (by omega) (by omega)
theorem sqCo0 (β:Bool) [OkI β]:Sq (BCollect β) [1,1,1,0,4,4]:=by cases β <;> first | (exact absurd (OkI.ok (β:=true)) (by decide)) | exact isQ (by kernel_rfl)
noncomputable def gCo4 (β:Bool) (b i nk ck n2 c2:Nat) (vs:Value) (ak a2:Option Addr):=rg Tryz.prog (BCollect β) 4 88 [(20,7)] [(9,nV i),(0,pV b 0)] (Vq 0 20 [Kn i,Kp b 0,Kp b 0,Kp b 0,Kv (.slice ak nk ck),Kn nk,Kv (.bool (decide (i≤nk)))]) [Bk b (tN β) [.slice ak nk ck,vs, .slice a2 n2 c2]]
theorem obCo4 (β:Bool) [OkI β] (b i nk ck n2 c2:Nat) (vs:Value) (ak a2:Option Addr)  (w0:World) (fp0:List Nat) (R:List Asn):(gCo4 β b i nk ck n2 c2 vs ak a2 w0 fp0 R).Ok 7:=by
 cases β <;> first | (exact absurd (OkI.ok (β:=true)) (by decide)) | exact Rg.ok _ 7 [4,6] ⟨.load _ 4 0 0, .leq _ 6 i nk,trivial⟩
theorem cdCo4 (β:Bool) [OkI β]:IsSq (BCollect β) [1,1,1,0,4,4,0] 4:=by cases β <;> first | (exact absurd (OkI.ok (β:=true)) (by decide)) | exact isq (by kernel_rfl)
theorem ccCo26 (β:Bool) [OkI β]:isCond (csnd (cfst (cbody (cbody (cfst (csnd (csnd (csnd (bodyC (BCollect β))))))))))=true∧ccond (csnd (cfst (cbody (cbody (cfst (csnd (csnd (csnd (bodyC (BCollect β))))))))))=.tmp 26:=by cases β <;> first | (exact absurd (OkI.ok (β:=true)) (by decide)) | exact ⟨kr (by kernel_rfl),kr (by kernel_rfl)⟩
theorem isSkipCo1 (β:Bool) [OkI β]:isSkip (cthen (csnd (cfst (cbody (cbody (cfst (csnd (csnd (csnd (bodyC (BCollect β)))))))))))=true:=by cases β <;> first | (exact absurd (OkI.ok (β:=true)) (by decide)) | exact kr (by kernel_rfl)
theorem sqCo2 (β:Bool) [OkI β]:Sq (BCollect β) [1,1,1,0,4,4,1]:=by cases β <;> first | (exact absurd (OkI.ok (β:=true)) (by decide)) | exact isQ (by kernel_rfl)
theorem isBlkCo3 (β:Bool) [OkI β]:isBlk (cfst (csnd (cbody (cbody (cfst (csnd (csnd (csnd (bodyC (BCollect β))))))))))=true:=by cases β <;> first | (exact absurd (OkI.ok (β:=true)) (by decide)) | exact kr (by kernel_rfl)
theorem sqCo4 (β:Bool) [OkI β]:Sq (BCollect β) [1,1,1,0,4,4,1,0,4]:=by cases β <;> first | (exact absurd (OkI.ok (β:=true)) (by decide)) | exact isQ (by kernel_rfl)
noncomputable def gCo6 (β:Bool) (b nk ck n2 c2:Nat) (vs:Value) (ak a2:Option Addr):=rg Tryz.prog (BCollect β) 6 88 [(29,3)] [(0,pV b 0)] (Vq 0 29 [Kp b 0,Kv (.bool (n2==0)),Kv (.bool (!(n2==0)))]) [Bk b (tN β) [.slice ak nk ck,vs, .slice a2 n2 c2]]
theorem obCo6 (β:Bool) [OkI β] (b nk ck n2 c2:Nat) (vs:Value) (ak a2:Option Addr)  (w0:World) (fp0:List Nat) (R:List Asn):(gCo6 β b nk ck n2 c2 vs ak a2 w0 fp0 R).Ok 3:=by
 cases β <;> first | (exact absurd (OkI.ok (β:=true)) (by decide)) | exact Rg.ok _ 3 [1] ⟨.ask1 _ 1 0 (fun w fp h=> (leaf_calls b _ _ a2 n2 c2 w h).mono fun e w' ⟨h1,h2⟩=> ⟨h1,h2 ▸ Below.refl _ _⟩),trivial⟩
theorem cdCo6 (β:Bool) [OkI β]:IsSq (BCollect β) [1,1,1,0,4,4,1,0,4,0] 6:=by cases β <;> first | (exact absurd (OkI.ok (β:=true)) (by decide)) | exact isq (by kernel_rfl)
theorem ccCo31 (β:Bool) [OkI β]:isCond (csnd (cfst (cbody (cfst (csnd (cbody (cbody (cfst (csnd (csnd (csnd (bodyC (BCollect β)))))))))))))=true∧ccond (csnd (cfst (cbody (cfst (csnd (cbody (cbody (cfst (csnd (csnd (csnd (bodyC (BCollect β)))))))))))))=.tmp 31:=by cases β <;> first | (exact absurd (OkI.ok (β:=true)) (by decide)) | exact ⟨kr (by kernel_rfl),kr (by kernel_rfl)⟩
noncomputable def gCo7 (β:Bool) (b gp i nk ck n2 c2 cb N0 N1:Nat) (vs v0 pl ph:Value) (ak:Option Addr) (zs e0 e1:List Value) (KD OL OH:Asn):=rgq Tryz.prog (BCollect β) 7 88 [(32,11),(1,1)] [(0,pV b 0),(9,nV i),(2,pl),(3,ph)] [(1,v0,11)] (Vq 0 32 [Kp b 0,Kp b 0,Kp b 2,Ks gp n2 c2,Kn i,Kp gp i,Kp cb 0,Kv v0,Kv pl,Kv ph,Vf.slice]++Vq 11 1 [Fv [42] fun g=> .slice (sa (g 42)) (sn (g 42)) (sc (g 42))]) [.gen [10] [42] fun L g=> match L 10 with | true=> rowA (tE β) 2 (g 42) N1 e1 | false=> rowA (tE β) 2 v0 N0 e0,Bk b (tN β) [.slice ak nk ck,vs,sV gp n2 c2], .sl (tP β) (sV gp n2 c2) zs [], .all (KD), .all (OL), .all (OH)]
theorem obCo7 (β:Bool) [OkI β] (b gp i nk ck n2 c2 cb N0 N1:Nat) (vs v0 pl ph:Value) (ak:Option Addr) (zs e0 e1:List Value) (KD OL OH:Asn) (hi:i < n2) (hzi:zs[i]? =some (ptrV cb)) (hrec:∀(w0:World) (fp0:List Nat) (R:List Asn) (w:World),St w0 fp0 ([rowA (tE β) 2 v0 N0 e0,KD,OL,OH]++R) w→Calls Tryz.prog (fCollect β) #[ptrV cb,v0,pl,ph] w fun e w'=> ∃a n c,e=.returned (.slice a n c)∧St w0 fp0 ([rowA (tE β) 2 (.slice a n c) N1 e1,KD,OL,OH]++R) w') (w0:World) (fp0:List Nat) (R:List Asn):(gCo7 β b gp i nk ck n2 c2 cb N0 N1 vs v0 pl ph ak zs e0 e1 KD OL OH w0 fp0 R).Ok 12:=by
 have h10:∀w,St w0 fp0 ([rowA (tE β) 2 v0 N0 e0,blkA b (tN β) #[.slice ak nk ck,vs, .slice (some ⟨gp,0,none⟩) n2 c2],slA (tP β) (.slice (some ⟨gp,0,none⟩) n2 c2) zs,KD,OL,OH]++R) w→Calls Tryz.prog (fCollect β) #[ptrV cb,v0,pl,ph] w fun e w'=> ∃v a n c,v=.slice a n c∧e=.returned v∧St w0 fp0 ([rowA (tE β) 2 v N1 e1,blkA b (tN β) #[.slice ak nk ck,vs, .slice (some ⟨gp,0,none⟩) n2 c2],slA (tP β) (.slice (some ⟨gp,0,none⟩) n2 c2) zs,KD,OL,OH]++R) w':=fun w h=> (hrec _ _ _ w (St_re (L:=[_,_,_,_,_,_]) h [0,3,4,5] [1,2] (by kernel_rfl))).mono fun e w' ⟨a,n,c,h1,h2⟩=> ⟨.slice a n c,a,n,c,rfl,h1,St_re (L:=[_,_,_,_,_,_]) h2 [0,4,5,1,2,3] [] (by kernel_rfl)⟩
 cases β <;> first | (exact absurd (OkI.ok (β:=true)) (by decide)) | exact Rg.ok _ 12 [3,5,6,10] ⟨.load _ 3 1 2, .index _ 5 gp n2 c2 i hi, .elem _ 6 2 i hzi, .callV _ 10 _ _ h10,trivial⟩
theorem cdCo7 (β:Bool) [OkI β]:IsRg (BCollect β) [1,1,1,0,4,4,1,0,4,0,1,2] 7:=by cases β <;> first | (exact absurd (OkI.ok (β:=true)) (by decide)) | exact irg (by kernel_rfl)
theorem isSkipCo5 (β:Bool) [OkI β]:isSkip (celse (csnd (cfst (cbody (cfst (csnd (cbody (cbody (cfst (csnd (csnd (csnd (bodyC (BCollect β))))))))))))))=true:=by cases β <;> first | (exact absurd (OkI.ok (β:=true)) (by decide)) | exact kr (by kernel_rfl)
theorem sqCo6 (β:Bool) [OkI β]:Sq (BCollect β) [1,1,1,0,4,4,1,0,4,1]:=by cases β <;> first | (exact absurd (OkI.ok (β:=true)) (by decide)) | exact isQ (by kernel_rfl)
theorem sqCo7 (β:Bool) [OkI β]:Sq (BCollect β) [1,1,1,0,4,4,1,0,4,1,0]:=by cases β <;> first | (exact absurd (OkI.ok (β:=true)) (by decide)) | exact isQ (by kernel_rfl)
noncomputable def gCo8e (β:Bool) (b i nk ck n2 c2:Nat) (vs ph:Value) (ak a2:Option Addr):=rg Tryz.prog (BCollect β) 8 88 [(43,25)] [(9,nV i),(0,pV b 0),(3,ph)] (Vq 0 43 [Kn i,Kp b 0,Kp b 0,Kp b 0,Kv (.slice ak nk ck),Kn nk,Kv (.bool true),Kv (.bool true),Kv undef,Kv undef,Kv undef,Kv undef,Kv undef,Kv undef,Kv undef,Kv undef,Kv undef,Kv undef,Kv undef,Kv undef,Kv undef,Kv undef,Kv undef,Kv undef,Kv (.bool true)]) [Bk b (tN β) [.slice ak nk ck,vs, .slice a2 n2 c2]]
theorem obCo8e (β:Bool) [OkI β] (b i nk ck n2 c2:Nat) (vs ph:Value) (ak a2:Option Addr) (hin:i=nk) (w0:World) (fp0:List Nat) (R:List Asn):(gCo8e β b i nk ck n2 c2 vs ph ak a2 w0 fp0 R).Ok 25:=by
 cases β <;> first | (exact absurd (OkI.ok (β:=true)) (by decide)) | exact Rg.ok _ 25 [4,6,8,9,10,11,12,13,14,15,16,17,18,19,20,21,22,23] ⟨.load _ 4 0 0, .eqlT _ 6 i nk hin, .skip _ 8, .skip _ 9, .skip _ 10, .skip _ 11, .skip _ 12, .skip _ 13, .skip _ 14, .skip _ 15, .skip _ 16, .skip _ 17, .skip _ 18, .skip _ 19, .skip _ 20, .skip _ 21, .skip _ 22, .skip _ 23,trivial⟩
theorem cdCo8e (β:Bool) [OkI β]:IsRg (BCollect β) [1,1,1,0,4,4,1,0,4,1,0,0] 8:=by cases β <;> first | (exact absurd (OkI.ok (β:=true)) (by decide)) | exact irg (by kernel_rfl)
noncomputable def gCo8n (β:Bool) (b i nk ck n2 c2:Nat) (vs:Value) (ak a2:Option Addr):=rg Tryz.prog (BCollect β) 8 88 [(43,25)] [(9,nV i),(0,pV b 0),(3, .pointer none)] (Vq 0 43 [Kn i,Kp b 0,Kp b 0,Kp b 0,Kv (.slice ak nk ck),Kn nk,Kv (.bool false),Kv (.bool false),Kv (.pointer none),Kv (.bool false),Kv (.bool false),Kv undef,Kv undef,Kv undef,Kv undef,Kv undef,Kv undef,Kv undef,Kv undef,Kv undef,Kv undef,Kv undef,Kv undef,Kv (.bool false),Kv (.bool false)]) [Bk b (tN β) [.slice ak nk ck,vs, .slice a2 n2 c2]]
theorem obCo8n (β:Bool) [OkI β] (b i nk ck n2 c2:Nat) (vs:Value) (ak a2:Option Addr) (hin:i≠nk) (w0:World) (fp0:List Nat) (R:List Asn):(gCo8n β b i nk ck n2 c2 vs ak a2 w0 fp0 R).Ok 25:=by
 cases β <;> first | (exact absurd (OkI.ok (β:=true)) (by decide)) | exact Rg.ok _ 25 [4,6,11,12,13,14,15,16,17,18,19,20,21,22] ⟨.load _ 4 0 0, .eqlF _ 6 i nk hin, .skip _ 11, .skip _ 12, .skip _ 13, .skip _ 14, .skip _ 15, .skip _ 16, .skip _ 17, .skip _ 18, .skip _ 19, .skip _ 20, .skip _ 21, .skip _ 22,trivial⟩
theorem cdCo8n (β:Bool) [OkI β]:IsRg (BCollect β) [1,1,1,0,4,4,1,0,4,1,0,0] 8:=by cases β <;> first | (exact absurd (OkI.ok (β:=true)) (by decide)) | exact irg (by kernel_rfl)
noncomputable def gCo8k (β:Bool) (b hb gk i nk ck n2 c2:Nat) (vs hh:Value) (r:Int) (k:Ky) (a2:Option Addr) (xs:List Value):=rg Tryz.prog (BCollect β) 8 88 [(43,25)] [(9,nV i),(0,pV b 0),(3,pV hb 0)] (Vq 0 43 [Kn i,Kp b 0,Kp b 0,Kp b 0,Ks gk nk ck,Kn nk,Kv (.bool false),Kv (.bool false),Kp hb 0,Kv (.bool true),Kv (.bool true),Kp b 0,Kp b 0,Kp b 0,Ks gk nk ck,Kn i,Kp gk i,Kv (encK k),Kp hb 0,Kp hb 0,Kv hh,Kv (.int .i64 r),Kv (.bool (decide (0≤r))),Kv (.bool (decide (0≤r))),Kv (.bool (decide (0≤r)))]) [Bk b (tN β) [sV gk nk ck,vs, .slice a2 n2 c2], .sl (tK β) (sV gk nk ck) xs [],Bk hb (tK β) [hh]]
theorem obCo8k (β:Bool) [OkI β] (b hb gk i nk ck n2 c2:Nat) (vs hh:Value) (r:Int) (k:Ky) (a2:Option Addr) (xs:List Value) (hin:i≠nk) (hi:i < nk) (hki:xs[i]? =some (encK k)) (hcmp:∀w,Calls Tryz.prog (fCmp β) #[encK k,hh] w fun e w'=> e=.returned (.int .i64 r)∧Below w.heap.size w w') (w0:World) (fp0:List Nat) (R:List Asn):(gCo8k β b hb gk i nk ck n2 c2 vs hh r k a2 xs w0 fp0 R).Ok 25:=by
 have hc2:∀w fp,(blkA hb (tK β) #[hh]).p w fp→Calls Tryz.prog (fCmp β) #[encK k,hh] w fun e w'=> e=.returned (.int .i64 r)∧Below w.heap.size w w':=fun w _ _=> hcmp w
 cases β <;> first | (exact absurd (OkI.ok (β:=true)) (by decide)) | exact Rg.ok _ 25 [4,6,14,16,17,20,21,22] ⟨.load _ 4 0 0, .eqlF _ 6 i nk hin, .load _ 14 0 0, .index _ 16 gk nk ck i hi, .elem _ 17 1 i hki, .load _ 20 2 0, .ask1 _ 21 2 hc2, .geqI _ 22 r 0,trivial⟩
theorem cdCo8k (β:Bool) [OkI β]:IsRg (BCollect β) [1,1,1,0,4,4,1,0,4,1,0,0] 8:=by cases β <;> first | (exact absurd (OkI.ok (β:=true)) (by decide)) | exact irg (by kernel_rfl)
theorem ccCo67 (β:Bool) [OkI β]:isCond (csnd (cfst (csnd (cbody (cfst (csnd (cbody (cbody (cfst (csnd (csnd (csnd (bodyC (BCollect β))))))))))))))=true∧ccond (csnd (cfst (csnd (cbody (cfst (csnd (cbody (cbody (cfst (csnd (csnd (csnd (bodyC (BCollect β))))))))))))))=.tmp 67:=by cases β <;> first | (exact absurd (OkI.ok (β:=true)) (by decide)) | exact ⟨kr (by kernel_rfl),kr (by kernel_rfl)⟩
noncomputable def gCo9 (β:Bool) (v1:Value):=rg Tryz.prog (BCollect β) 9 88 [(68,1),(8,1)] [(1,v1)] (Vq 0 68 [Kv v1]++Vq 1 8 [Kv v1]) []
theorem obCo9 (β:Bool) [OkI β] (v1:Value)  (w0:World) (fp0:List Nat) (R:List Asn):(gCo9 β v1 w0 fp0 R).Ok 2:=by
 cases β <;> first | (exact absurd (OkI.ok (β:=true)) (by decide)) | exact Rg.ok _ 2 [] trivial
theorem cdCo9 (β:Bool) [OkI β]:IsSq (BCollect β) [1,1,1,0,4,4,1,0,4,1,0,1,2] 9:=by cases β <;> first | (exact absurd (OkI.ok (β:=true)) (by decide)) | exact isq (by kernel_rfl)
theorem isRetCo8 (β:Bool) [OkI β]:isRet (csnd (cthen (csnd (cfst (csnd (cbody (cfst (csnd (cbody (cbody (cfst (csnd (csnd (csnd (bodyC (BCollect β))))))))))))))))=true:=by cases β <;> first | (exact absurd (OkI.ok (β:=true)) (by decide)) | exact kr (by kernel_rfl)
theorem isSkipCo9 (β:Bool) [OkI β]:isSkip (celse (csnd (cfst (csnd (cbody (cfst (csnd (cbody (cbody (cfst (csnd (csnd (csnd (bodyC (BCollect β)))))))))))))))=true:=by cases β <;> first | (exact absurd (OkI.ok (β:=true)) (by decide)) | exact kr (by kernel_rfl)
noncomputable def gCo10 (β:Bool) (b gk gv cv i nk ck n2 c2 N1:Nat) (v1:Value) (k:Ky) (v:Va) (a2:Option Addr) (xs ys e1:List Value):=rgq Tryz.prog (BCollect β) 10 88 [(69,18),(1,1)] [(0,pV b 0),(9,nV i)] [(1,v1,18)] (Vq 0 69 [Kv v1,Kp b 0,Kp b 0,Kp b 0,Ks gk nk ck,Kn i,Kp gk i,Kv (encK k),Kp b 0,Kp b 0,Kp b 1,Ks gv ys.length cv,Kn i,Kp gv i,Kv (encV v),Kv (.agg #[encK k,encV v]),Vf.box,Vf.slice]++Vq 18 1 [Fv [86] fun g=> .slice (sa (g 86)) (sn (g 86)) (sc (g 86))]) [.new 16 [85] fun g=> boxsA (tE β) (g 85) [encK k,encV v].toArray, .gen [17] [86] fun L g=> match L 17 with | true=> rowA (tE β) 2 (g 86) (N1+1) (e1++[encK k,encV v]) | false=> rowA (tE β) 2 v1 N1 e1,Bk b (tN β) [sV gk nk ck,sV gv ys.length cv, .slice a2 n2 c2], .sl (tK β) (sV gk nk ck) xs [], .sl (tV β) (sV gv ys.length cv) ys []]
theorem obCo10 (β:Bool) [OkI β] (b gk gv cv i nk ck n2 c2 N1:Nat) (v1:Value) (k:Ky) (v:Va) (a2:Option Addr) (xs ys e1:List Value) (hi:i < nk) (hj:i < ys.length) (hki:xs[i]? =some (encK k)) (hvi:ys[i]? =some (encV v)) (hN1:N1+1 < 1099511627776) (w0:World) (fp0:List Nat) (R:List Asn):(gCo10 β b gk gv cv i nk ck n2 c2 N1 v1 k v a2 xs ys e1 w0 fp0 R).Ok 19:=by
 have h1:∀u∈[encK k,encV v],u.oneCell'=true:=by
  intro u hu
  rcases List.mem_cons.1 hu with rfl | hu
  · exact encK_one k
  · rw [List.mem_singleton.1 hu];exact encV_one v
 cases k <;> cases v <;> cases β <;> first | (exact absurd (OkI.ok (β:=true)) (by decide)) | exact Rg.ok _ 19 [4,6,7,11,13,14,16,17] ⟨.load _ 4 2 0, .index _ 6 gk nk ck i hi, .elem _ 7 3 i hki, .load _ 11 2 1, .index _ 13 gv ys.length cv i hj, .elem _ 14 4 i hvi, .boxs _ 16 0, .appE _ 17 0 1 (rowE _) hN1 rfl h1,trivial⟩
theorem cdCo10 (β:Bool) [OkI β]:IsRg (BCollect β) [1,1,1,0,4,4,1,0,4,1,1] 10:=by cases β <;> first | (exact absurd (OkI.ok (β:=true)) (by decide)) | exact irg (by kernel_rfl)
noncomputable def gCo5 (β:Bool) (i:Nat):=rgq Tryz.prog (BCollect β) 5 88 [(27,2),(9,1)] [] [(9,nV i,2)] (Vq 0 27 [Kn i,Kn (i+1)]++Vq 2 9 [Kn (i+1)]) []
theorem obCo5 (β:Bool) [OkI β] (i:Nat) (hi:i+1 < 1099511627777) (w0:World) (fp0:List Nat) (R:List Asn):(gCo5 β i w0 fp0 R).Ok 3:=by
 cases β <;> first | (exact absurd (OkI.ok (β:=true)) (by decide)) | exact Rg.ok _ 3 [1] ⟨.add _ 1 (i) (1) ((i+1:Nat):Int),trivial⟩
theorem cdCo5 (β:Bool) [OkI β]:IsRg (BCollect β) [1,1,1,0,4,4,1,1] 5:=by cases β <;> first | (exact absurd (OkI.ok (β:=true)) (by decide)) | exact irg (by kernel_rfl)
set_option maxHeartbeats 4000000 in
theorem col_round (β:Bool) [OkI β] (b i nk ck n2 c2 cb N0 N1:Nat) (vs v0 pl ph hh:Value) (r:Int) (k:Ky) (v:Va) (ak a2:Option Addr) (xs ys zs e0 e1:List Value) (KD OL OH:Asn) (hnk:nk=xs.length) (hxy:ys.length=xs.length) (hlx:xs.length < 1099511627776) (hn2:n2=zs.length) (hlz:zs.length < 1099511627776) (hN1:N1+1 < 1099511627776) (hik:i≤nk)
 (hky:i < nk→xs[i]? =some (encK k)) (hvy:i < nk→ys[i]? =some (encV v)) (hz:n2≠0→zs[i]? =some (ptrV cb))
 (hX:n2=0→N1=N0∧e1=e0)
 (hrec:n2≠0→∀(w0:World) (fp0:List Nat) (R:List Asn) (w:World),St w0 fp0 ([rowA (tE β) 2 v0 N0 e0,KD,OL,OH]++R) w→Calls Tryz.prog (fCollect β) #[ptrV cb,v0,pl,ph] w fun e w'=> ∃a n c,e=.returned (.slice a n c)∧St w0 fp0 ([rowA (tE β) 2 (.slice a n c) N1 e1,KD,OL,OH]++R) w')
 (hph:ph=.pointer none∨∃hb,ph=.pointer (some ⟨hb,0,none⟩)∧OH=blkA hb (tK β) #[hh])
 (hcmp:ph≠.pointer none→∀w,Calls Tryz.prog (fCmp β) #[encK k,hh] w fun e w'=> e=.returned (.int .i64 r)∧Below w.heap.size w w') (w0 w:World) (fp0:List Nat) (R:List Asn) (A0:Act) (Q:Exit→Act→World→Prop)
 (hStop:(i=nk∨(i < nk∧ph≠.pointer none∧0≤r))→∀(v1:Value) A w',Knows 88 A [(8,v1)]→St w0 fp0 ([rowA (tE β) 2 v1 N1 e1,blkA b (tN β) #[.slice ak nk ck,vs, .slice a2 n2 c2],slA (tK β) (.slice ak nk ck) xs,slA (tV β) (vs) ys,slA (tP β) (.slice a2 n2 c2) zs,KD,OL,OH]++R) w'→Q .ret A w')
 (hNext:i < nk→(ph=.pointer none∨(ph≠.pointer none∧r < 0))→∀(v2:Value) A w',Knows 88 A [(0, .pointer (some ⟨b,0,none⟩)),(1,v2),(2,pl),(3,ph),(9, .int .i64 ((i+1:Nat):Int))]→St w0 fp0 ([rowA (tE β) 2 v2 (N1+1) (e1++[encK k,encV v]),blkA b (tN β) #[.slice ak nk ck,vs, .slice a2 n2 c2],slA (tK β) (.slice ak nk ck) xs,slA (tV β) (vs) ys,slA (tP β) (.slice a2 n2 c2) zs,KD,OL,OH]++R) w'→Q .normal A w')
 (K0:Knows 88 A0 [(0, .pointer (some ⟨b,0,none⟩)),(1,v0),(2,pl),(3,ph),(9, .int .i64 i)]) (hS:St w0 fp0 ([rowA (tE β) 2 v0 N0 e0,blkA b (tN β) #[.slice ak nk ck,vs, .slice a2 n2 c2],slA (tK β) (.slice ak nk ck) xs,slA (tV β) (vs) ys,slA (tP β) (.slice a2 n2 c2) zs,KD,OL,OH]++R) w):(cbody (cbody (cfst (csnd (csnd (csnd (bodyC (BCollect β)))))))).wp Tryz.prog Q A0 w:=by
 refine wp_seqJ (sqCo0 β) (fun A w=> Knows 88 A [(0,pV b 0),(2,pl),(3,ph),(9,nV i),(1,v0)]∧St w0 fp0 ([rowA (tE β) 2 v0 N0 e0,blkA b (tN β) #[.slice ak nk ck,vs, .slice a2 n2 c2],slA (tK β) (.slice ak nk ck) xs,slA (tV β) (vs) ys,slA (tP β) (.slice a2 n2 c2) zs,KD,OL,OH]++R) w) ?_ ?_
 · skip
   refine wp_seqT (cdCo4 β).sq ?_
   refine wp_regT (obCo4 β b i nk ck n2 c2 vs ak a2  _ _ _) (by kernel_rfl) (cdCo4 β).cd (K0.sub (by kernel_rfl)) (St_re hS [1] [0,2,3,4,5,6,7] (by kernel_rfl)) fun A1 w1 N1 H1=> ?_
   have S1:St w0 fp0 ([blkA b (tN β) #[.slice ak nk ck,vs, .slice a2 n2 c2],rowA (tE β) 2 v0 N0 e0,slA (tK β) (.slice ak nk ck) xs,slA (tV β) (vs) ys,slA (tP β) (.slice a2 n2 c2) zs,KD,OL,OH]++R) w1:=H1
   have K1:Knows 88 A1 [(0,pV b 0),(1,v0),(2,pl),(3,ph),(9,nV i),(26, .bool (decide (i≤nk)))]:=N1.knows K0 (by kernel_rfl)
   refine wp_condK (ccCo26 β) K1 (by rfl) (fun hq=> ?_) (fun hq=> ?_)
   · skip
     refine wp_skipT (isSkipCo1 β) ?_
     exact ⟨K1.sub (by kernel_rfl),(St_re S1 [1,0,2,3,4,5,6,7] [] (by kernel_rfl))⟩
   · skip
     exact absurd hik (by simpa using hq)
 · rintro A2 w2 ⟨K2,S2⟩
   refine wp_seqJ (sqCo2 β) (fun A w=> ∃(v2:Value) (hin:i < nk) (hgo:(ph=.pointer none∨(ph≠.pointer none∧r < 0))),Knows 88 A [(0,pV b 0),(1,v2),(2,pl),(3,ph),(9,nV i)]∧St w0 fp0 ([rowA (tE β) 2 v2 (N1+1) (e1++[encK k,encV v]),blkA b (tN β) #[.slice ak nk ck,vs, .slice a2 n2 c2],slA (tK β) (.slice ak nk ck) xs,slA (tV β) (vs) ys,slA (tP β) (.slice a2 n2 c2) zs,KD,OL,OH]++R) w) ?_ ?_
   · skip
     refine wp_blkT (isBlkCo3 β) ?_
     refine wp_seqJ (sqCo4 β) (fun A w=> ∃(v1:Value),Knows 88 A [(0,pV b 0),(2,pl),(3,ph),(9,nV i),(1,v1)]∧St w0 fp0 ([rowA (tE β) 2 v1 N1 e1,blkA b (tN β) #[.slice ak nk ck,vs, .slice a2 n2 c2],slA (tK β) (.slice ak nk ck) xs,slA (tV β) (vs) ys,slA (tP β) (.slice a2 n2 c2) zs,KD,OL,OH]++R) w) ?_ ?_
     · skip
       refine wp_seqT (cdCo6 β).sq ?_
       refine wp_regT (obCo6 β b nk ck n2 c2 vs ak a2  _ _ _) (by kernel_rfl) (cdCo6 β).cd (K2.sub (by kernel_rfl)) (St_re S2 [1] [0,2,3,4,5,6,7] (by kernel_rfl)) fun A3 w3 N3 H3=> ?_
       have S3:St w0 fp0 ([blkA b (tN β) #[.slice ak nk ck,vs, .slice a2 n2 c2],rowA (tE β) 2 v0 N0 e0,slA (tK β) (.slice ak nk ck) xs,slA (tV β) (vs) ys,slA (tP β) (.slice a2 n2 c2) zs,KD,OL,OH]++R) w3:=H3
       have K3:Knows 88 A3 [(0,pV b 0),(2,pl),(3,ph),(9,nV i),(1,v0),(31, .bool (!(n2==0)))]:=N3.knows K2 (by kernel_rfl)
       refine wp_condK (ccCo31 β) K3 (by rfl) (fun hq=> ?_) (fun hq=> ?_)
       · skip
         have hn0:n2≠0:=by simpa using hq
         have hzi:=hz hn0
         have hzl:i < zs.length:=(List.getElem?_eq_some_iff.1 hzi).1
         obtain ⟨_,q5⟩:=St.has S3 4 rfl
         obtain ⟨gp,cp,ep,hpc, -⟩:=sl_some q5 (by omega)
         obtain ⟨rfl, -,rfl⟩:=Value.slice.inj ep
         refine wp_regT (obCo7 β b gp i nk ck n2 c2 cb N0 N1 vs v0 pl ph ak zs e0 e1 KD OL OH (by omega) hzi (hrec hn0) _ _ _) (by kernel_rfl) (cdCo7 β).cd (K3.sub (by kernel_rfl)) (St_re S3 [1,0,4,5,6,7] [2,3] (by kernel_rfl)) fun A4 w4 N4 H4=> ?_
         have S4:St w0 fp0 ([rowA (tE β) 2 (slots A4 42) N1 e1,blkA b (tN β) #[.slice ak nk ck,vs,sV gp n2 c2],slA (tP β) (sV gp n2 c2) zs,KD,OL,OH,slA (tK β) (.slice ak nk ck) xs,slA (tV β) (vs) ys]++R) w4:=H4
         have K4:Knows 88 A4 [(0,pV b 0),(2,pl),(3,ph),(9,nV i),(31, .bool (!(n2==0)))]:=N4.knows K3 (by kernel_rfl)
         obtain ⟨a1,n1,c1,e42⟩:∃a n c,slots A4 42=.slice a n c:=⟨_,_,_,N4.val 10 rfl⟩
         rw [e42] at S4
         have e1s:slots A4 1=.slice a1 n1 c1:=by have this:slots A4 1=.slice (sa (slots A4 42)) (sn (slots A4 42)) (sc (slots A4 42)):=N4.val 11 rfl;rw [e42] at this;exact this
         have K4:=K4.add 1 (.slice a1 n1 c1) e1s
         exact ⟨.slice a1 n1 c1,K4.sub (by kernel_rfl),(St_re S4 [0,1,6,7,2,3,4,5] [] (by kernel_rfl))⟩
       · skip
         refine wp_skipT (isSkipCo5 β) ?_
         have hn0:n2=0:=by simpa using hq
         obtain ⟨e3,e4⟩:=hX hn0
         obtain rfl:=e3.symm
         obtain rfl:=e4.symm
         exact ⟨v0,K3.sub (by kernel_rfl),(St_re S3 [1,0,2,3,4,5,6,7] [] (by kernel_rfl))⟩
     · rintro A5 w5 ⟨v1,K5,S5⟩
       refine wp_seqJ (sqCo6 β) (fun A w=> ∃(hin:i < nk) (hgo:(ph=.pointer none∨(ph≠.pointer none∧r < 0))),Knows 88 A [(0,pV b 0),(2,pl),(3,ph),(9,nV i),(1,v1)]∧St w0 fp0 ([rowA (tE β) 2 v1 N1 e1,blkA b (tN β) #[.slice ak nk ck,vs, .slice a2 n2 c2],slA (tK β) (.slice ak nk ck) xs,slA (tV β) (vs) ys,slA (tP β) (.slice a2 n2 c2) zs,KD,OL,OH]++R) w) ?_ ?_
       · skip
         refine wp_seqJ (sqCo7 β) (fun A w=> ∃(st:Bool) (hst:st=true→(i=nk∨(i < nk∧ph≠.pointer none∧0≤r))) (hgo2:st=false→i < nk∧(ph=.pointer none∨(ph≠.pointer none∧r < 0))),Knows 88 A [(0,pV b 0),(2,pl),(3,ph),(9,nV i),(1,v1),(67, .bool st)]∧St w0 fp0 ([rowA (tE β) 2 v1 N1 e1,blkA b (tN β) #[.slice ak nk ck,vs, .slice a2 n2 c2],slA (tK β) (.slice ak nk ck) xs,slA (tV β) (vs) ys,slA (tP β) (.slice a2 n2 c2) zs,KD,OL,OH]++R) w) ?_ ?_
         · skip
           by_cases hin:i=nk
           · skip
             refine wp_regT (obCo8e β b i nk ck n2 c2 vs ph ak a2 hin _ _ _) (by kernel_rfl) (cdCo8e β).cd (K5.sub (by kernel_rfl)) (St_re S5 [1] [0,2,3,4,5,6,7] (by kernel_rfl)) fun A6 w6 N6 H6=> ?_
             have S6:St w0 fp0 ([blkA b (tN β) #[.slice ak nk ck,vs, .slice a2 n2 c2],rowA (tE β) 2 v1 N1 e1,slA (tK β) (.slice ak nk ck) xs,slA (tV β) (vs) ys,slA (tP β) (.slice a2 n2 c2) zs,KD,OL,OH]++R) w6:=H6
             have K6:Knows 88 A6 [(0,pV b 0),(2,pl),(3,ph),(9,nV i),(1,v1),(67, .bool true)]:=N6.knows K5 (by kernel_rfl)
             exact ⟨true,fun _=> .inl hin,fun h=> (by cases h),K6.sub (by kernel_rfl),(St_re S6 [1,0,2,3,4,5,6,7] [] (by kernel_rfl))⟩
           · skip
             have hin2:i < nk:=by omega
             rcases hph with rfl | ⟨hb,rfl,rfl⟩
             · skip
               refine wp_regT (obCo8n β b i nk ck n2 c2 vs ak a2 hin _ _ _) (by kernel_rfl) (cdCo8n β).cd (K5.sub (by kernel_rfl)) (St_re S5 [1] [0,2,3,4,5,6,7] (by kernel_rfl)) fun A7 w7 N7 H7=> ?_
               have S7:St w0 fp0 ([blkA b (tN β) #[.slice ak nk ck,vs, .slice a2 n2 c2],rowA (tE β) 2 v1 N1 e1,slA (tK β) (.slice ak nk ck) xs,slA (tV β) (vs) ys,slA (tP β) (.slice a2 n2 c2) zs,KD,OL,OH]++R) w7:=H7
               have K7:Knows 88 A7 [(0,pV b 0),(2,pl),(3, .pointer none),(9,nV i),(1,v1),(67, .bool false)]:=N7.knows K5 (by kernel_rfl)
               exact ⟨false,fun h=> (by cases h),fun _=> ⟨hin2, .inl rfl⟩,K7.sub (by kernel_rfl),(St_re S7 [1,0,2,3,4,5,6,7] [] (by kernel_rfl))⟩
             · skip
               have hki:=hky hin2
               obtain ⟨_,q2⟩:=St.has S5 2 rfl
               obtain ⟨gk,cp,ep,hkc, -⟩:=sl_some q2 (by omega)
               obtain ⟨rfl, -,rfl⟩:=Value.slice.inj ep
               refine wp_regT (obCo8k β b hb gk i nk ck n2 c2 vs hh r k a2 xs hin hin2 hki (hcmp (by simp)) _ _ _) (by kernel_rfl) (cdCo8k β).cd (K5.sub (by kernel_rfl)) (St_re S5 [1,2,7] [0,3,4,5,6] (by kernel_rfl)) fun A8 w8 N8 H8=> ?_
               have S8:St w0 fp0 ([blkA b (tN β) #[sV gk nk ck,vs, .slice a2 n2 c2],slA (tK β) (sV gk nk ck) xs,blkA hb (tK β) #[hh],rowA (tE β) 2 v1 N1 e1,slA (tV β) (vs) ys,slA (tP β) (.slice a2 n2 c2) zs,KD,OL]++R) w8:=H8
               have K8:Knows 88 A8 [(0,pV b 0),(2,pl),(3,pV hb 0),(9,nV i),(1,v1),(67, .bool (decide (0≤r)))]:=N8.knows K5 (by kernel_rfl)
               exact ⟨decide (0≤r),fun h=> .inr ⟨hin2,by simp,by simpa using h⟩,fun h=> ⟨hin2, .inr ⟨by simp,by simpa using h⟩⟩,K8.sub (by kernel_rfl),(St_re S8 [3,0,1,4,5,6,7,2] [] (by kernel_rfl))⟩
         · rintro A9 w9 ⟨st,hst,hgo2,K9,S9⟩
           refine wp_condK (ccCo67 β) K9 (by rfl) (fun hq=> ?_) (fun hq=> ?_)
           · skip
             have hs2:=hst hq
             refine wp_seqT (cdCo9 β).sq ?_
             refine wp_regT (obCo9 β v1  _ _ _) (by kernel_rfl) (cdCo9 β).cd (K9.sub (by kernel_rfl)) (St_re S9 [] [0,1,2,3,4,5,6,7] (by kernel_rfl)) fun A10 w10 N10 H10=> ?_
             have S10:St w0 fp0 ([rowA (tE β) 2 v1 N1 e1,blkA b (tN β) #[.slice ak nk ck,vs, .slice a2 n2 c2],slA (tK β) (.slice ak nk ck) xs,slA (tV β) (vs) ys,slA (tP β) (.slice a2 n2 c2) zs,KD,OL,OH]++R) w10:=H10
             have K10:Knows 88 A10 [(0,pV b 0),(2,pl),(3,ph),(9,nV i),(1,v1),(67, .bool st),(8,v1)]:=N10.knows K9 (by kernel_rfl)
             refine wp_retT (isRetCo8 β) ?_
             exact hStop hs2 _ _ _ (K10.sub (by kernel_rfl)) (St_re S10 [0,1,2,3,4,5,6,7] [] (by kernel_rfl))
           · skip
             refine wp_skipT (isSkipCo9 β) ?_
             obtain ⟨hin,hgo⟩:=hgo2 hq
             exact ⟨hin,hgo,K9.sub (by kernel_rfl),(St_re S9 [0,1,2,3,4,5,6,7] [] (by kernel_rfl))⟩
       · rintro A11 w11 ⟨hin,hgo,K11,S11⟩
         have hki:=hky hin
         have hvi:=hvy hin
         obtain ⟨_,q2⟩:=St.has S11 2 rfl
         obtain ⟨_,q3⟩:=St.has S11 3 rfl
         obtain ⟨gk,cp,ep,hkc, -⟩:=sl_some q2 (by omega)
         obtain ⟨rfl, -,rfl⟩:=Value.slice.inj ep
         obtain ⟨gv,cv,rfl,hvc, -⟩:=sl_some q3 (by omega)
         refine wp_regT (obCo10 β b gk gv cv i nk ck n2 c2 N1 v1 k v a2 xs ys e1 hin (by omega) hki hvi hN1 _ _ _) (by kernel_rfl) (cdCo10 β).cd (K11.sub (by kernel_rfl)) (St.emp.2 (St_re S11 [0,1,2,3] [4,5,6,7] (by kernel_rfl))) fun A12 w12 N12 H12=> ?_
         have S12:St w0 fp0 ([rowA (tE β) 2 (slots A12 86) (N1+1) (e1++[encK k,encV v]),blkA b (tN β) #[sV gk nk ck,sV gv ys.length cv, .slice a2 n2 c2],slA (tK β) (sV gk nk ck) xs,slA (tV β) (sV gv ys.length cv) ys,slA (tP β) (.slice a2 n2 c2) zs,KD,OL,OH]++R) w12:=(St.drop H12)
         have K12:Knows 88 A12 [(0,pV b 0),(2,pl),(3,ph),(9,nV i)]:=N12.knows K11 (by kernel_rfl)
         obtain ⟨a3,n3,c3,e86⟩:∃a n c,slots A12 86=.slice a n c:=⟨_,_,_,N12.val 17 rfl⟩
         rw [e86] at S12
         have e1s:slots A12 1=.slice a3 n3 c3:=by have this:slots A12 1=.slice (sa (slots A12 86)) (sn (slots A12 86)) (sc (slots A12 86)):=N12.val 18 rfl;rw [e86] at this;exact this
         have K12:=K12.add 1 (.slice a3 n3 c3) e1s
         exact ⟨.slice a3 n3 c3,hin,hgo,K12.sub (by kernel_rfl),(St_re S12 [0,1,2,3,4,5,6,7] [] (by kernel_rfl))⟩
   · rintro A13 w13 ⟨v2,hin,hgo,K13,S13⟩
     refine wp_regT (obCo5 β i (by omega) _ _ _) (by kernel_rfl) (cdCo5 β).cd (K13.sub (by kernel_rfl)) (St_re S13 [] [0,1,2,3,4,5,6,7] (by kernel_rfl)) fun A14 w14 N14 H14=> ?_
     have S14:St w0 fp0 ([rowA (tE β) 2 v2 (N1+1) (e1++[encK k,encV v]),blkA b (tN β) #[.slice ak nk ck,vs, .slice a2 n2 c2],slA (tK β) (.slice ak nk ck) xs,slA (tV β) (vs) ys,slA (tP β) (.slice a2 n2 c2) zs,KD,OL,OH]++R) w14:=H14
     have K14:Knows 88 A14 [(0,pV b 0),(1,v2),(2,pl),(3,ph),(9,nV (i+1))]:=N14.knows K13 (by kernel_rfl)
     exact hNext hin hgo _ _ _ (K14.sub (by kernel_rfl)) (St_re S14 [0,1,2,3,4,5,6,7] [] (by kernel_rfl))
end Go.Proofs.YtpdlkdoogojboaaGreat
