/- Laws of counts; contracts with a known result. -/
import Derived.Test.YtekoemcckdhhnaaJ0
namespace Go.Proofs.Ytekoemcckdhhnaa
open Go.RowKit

theorem cntB_newB (l : List Rw) (q : Rw) : cntB (newB l) q = l.count q := by rw [← count_rowsB (newB_all l).1, (newB_all l).2, count_ofL]
theorem wf_cnt {b c : List Ent} (hb : Wf b) (hc : Wf c) (h : ∀ q, cntB b q = cntB c q) : b = c :=
  wf_ext hb hc (asc_ext (asc_rowsB hb) (asc_rowsB hc) fun q => by rw [count_rowsB hb, count_rowsB hc, h])
theorem subB_newB (x : Rw) (l : List Rw) : subB (newB (x :: l)) x = newB l := by
  refine wf_cnt (wf_subB (newB_all _).1 _) (newB_all _).1 fun q => ?_
  rw [cnt_subB (newB_all _).1, cntB_newB, cntB_newB, List.count_cons]
  simp
theorem sub_put (l : List Rw) (R : Rw) : subB (putB (newB l) R 1) R = newB l := by
  refine wf_cnt (wf_subB (wf_putB (newB_all _).1 R (by omega)) _) (newB_all _).1 fun q => ?_
  rw [cnt_subB (wf_putB (newB_all _).1 R (by omega)), cnt_putB (newB_all _).1]
  omega
theorem hasB_cnt {b : List Ent} (_ : Wf b) {R : Rw} (h : 0 < cntB b R) : hasB b R = true := by
  cases hh : hasB b R
  · rw [hasB_not hh] at h; omega
  · rfl
theorem hasB_put (l : List Rw) (R : Rw) : hasB (putB (newB l) R 1) R = true :=
  hasB_cnt (wf_putB (newB_all _).1 R (by omega)) (by rw [cnt_putB (newB_all _).1]; simp)
theorem hasB_newB_cons (x : Rw) (l : List Rw) : hasB (newB (x :: l)) x = true := hasB_cnt (newB_all _).1 (by rw [cntB_newB]; simp)
theorem SmB.nil (N : Nat) : SmB N [] := by unfold SmB; exact ⟨Nat.zero_le _, by simp⟩
theorem qremove_calls {b : List Ent} {R : Rw} {q : Bool} (h : hasB b R = q) (B pb : Nat) (s : Value) (r : Value) (w : World) (hb : BagAt w B pb s b) (hr : ValsAt w R r) (hlen : lenB b < 1099511627776) :
    Calls Try.prog 25 #[.pointer (some ⟨pb, 0, none⟩), r] w fun e w' => e = .returned (.bool q) ∧ Mut w B pb s (subB b R) w' := by
  have := bremove_calls B pb s b R r w hb hr hlen
  rwa [h] at this
theorem qcount_calls {b : List Ent} {R : Rw} {m : Int} (h : (cntB b R : Int) = m) (B pb : Nat) (s : Value) (r : Value) (w : World) (hb : BagAt w B pb s b) (hr : ValsAt w R r) (hlen : lenB b < 1099511627776) :
    Calls Try.prog 27 #[.pointer (some ⟨pb, 0, none⟩), r] w fun e w' => e = .returned (.int .i64 m) ∧ Below w.heap.size w w' := by
  have := bcount_calls B pb s b R r w hb hr (by have := length_le_len hb.wf; omega)
  rwa [h] at this
theorem RowsAt.one {w : World} {R : Rw} {r : Value} (h : ValsAt w R r) : RowsAt (w.alloc (.cells #[r] 33)) [R] (.slice (some ⟨w.heap.size, 0, none⟩) 1 1) := RowsAt.built (.one h) 1 rfl (by decide)
end Go.Proofs.Ytekoemcckdhhnaa
