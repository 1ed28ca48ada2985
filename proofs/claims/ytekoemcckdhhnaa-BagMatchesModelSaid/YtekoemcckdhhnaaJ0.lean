/- What the laws share: small rows; contracts in the form in which the laws use them. -/
import Derived.Test.YtekoemcckdhhnaaH5
import Derived.Test.YtekoemcckdhhnaaE3
import Derived.Test.YtekoemcckdhhnaaF4
namespace Go.Proofs.Ytekoemcckdhhnaa
open Go.RowKit

theorem smallL_len {L : List Rw} (h : smallL L = true) : L.length ≤ 60 ∧ ∀ r ∈ L, r.length ≤ 10 := by
  unfold smallL at h
  rw [Bool.and_eq_true] at h
  refine ⟨by simpa using h.2, fun r hr => ?_⟩
  have h1 := List.all_eq_true.1 h.1 r hr
  unfold okR at h1
  rw [Bool.and_eq_true] at h1
  simpa using h1.1
/-- A bag of at most N short rows. -/
def SmB (N : Nat) (b : List Ent) : Prop := lenB b ≤ N ∧ ∀ e ∈ b, e.1.length ≤ 10
theorem SmB.new {L : List Rw} (h : L.length ≤ 60 ∧ ∀ r ∈ L, r.length ≤ 10) : SmB 60 (newB L) := by
  refine ⟨by rw [lenB_newB]; exact h.1, fun e he => ?_⟩
  have hw := newB_all L
  have hp := hw.1.pos e he
  have h1 : e.1 ∈ rowsB (newB L) := by
    simp only [rowsB, List.mem_flatMap]
    exact ⟨e, he, List.mem_replicate.2 ⟨by omega, rfl⟩⟩
  rw [hw.2, ← List.count_pos_iff, count_ofL, List.count_pos_iff] at h1
  exact h.2 _ h1
theorem SmB.diff {N : Nat} {b : List Ent} (h : SmB N b) (c : List Ent) : SmB N (diffB b c) := by
  refine ⟨Nat.le_trans (lenB_diffB b c) h.1, fun e he => ?_⟩
  obtain ⟨x, hx, e2, _⟩ := mem_diffB he
  rw [← e2]
  exact h.2 x hx
theorem SmB.put {N : Nat} {b : List Ent} (h : SmB N b) (R : Rw) (hR : R.length ≤ 10) : SmB (N + 1) (putB b R 1) := by
  refine ⟨by rw [len_putB]; have := h.1; omega, fun e he => ?_⟩
  rcases mem_putB he with e1 | e1
  · rw [e1]; exact hR
  · exact h.2 e e1
theorem SmB.sub {N : Nat} {b : List Ent} (h : SmB N b) (hw : Wf b) (R : Rw) : SmB N (subB b R) := by
  refine ⟨?_, fun e he => ?_⟩
  · cases hh : hasB b R
    · rw [subB_not hh]; exact h.1
    · have := len_subB hw hh
      have := h.1
      omega
  · obtain ⟨x, hx, e2⟩ := mem_subB he
    rw [← e2]
    exact h.2 x hx
theorem SmB.mono {N M : Nat} {b : List Ent} (h : SmB N b) (hN : N ≤ M) : SmB M b := ⟨Nat.le_trans h.1 hN, h.2⟩

theorem srows_calls {N : Nat} (hN : N ≤ 1000000) (B pb : Nat) (s : Value) (b : List Ent) (w : World) (hb : BagAt w B pb s b) (h : SmB N b) :
    Calls Try.prog 16 #[.pointer (some ⟨pb, 0, none⟩)] w fun e w' => ∃ v, e = .returned v ∧ RowsNew w' w.heap.size (rowsB b) v ∧ Below w.heap.size w w' :=
  brows_calls B pb s b w hb (by have := h.1; unfold lenB at this; omega) (fun e he => by have := h.2 e he; omega)
theorem sminus_calls {N M : Nat} (hN : N ≤ 1000000) (hM : M ≤ 1000000) (B pb C pc : Nat) (s t : Value) (b c : List Ent) (w : World) (hb : BagAt w B pb s b) (hc : BagAt w C pc t c) (h : SmB N b) (h' : SmB M c) :
    Calls Try.prog 13 #[.pointer (some ⟨pb, 0, none⟩), .pointer (some ⟨pc, 0, none⟩)] w fun e w' => ∃ pd sd, e = .returned (.pointer (some ⟨pd, 0, none⟩)) ∧ BagAt w' w.heap.size pd sd (diffB b c) ∧ Below w.heap.size w w' :=
  bminus_calls B pb C pc s t b c w hb hc (by have := h.1; omega) (by have := h'.1; omega) (fun e he => by have := h.2 e he; omega)
theorem smade_calls (L : List Rw) (s : Value) (w : World) (hs : RowsAt w L s) (h : L.length ≤ 60 ∧ ∀ r ∈ L, r.length ≤ 10) :
    Calls Try.prog 12 #[s] w fun e w' => ∃ pb sb, e = .returned (.pointer (some ⟨pb, 0, none⟩)) ∧ BagAt w' w.heap.size pb sb (newB L) ∧ Below w.heap.size w w' :=
  made_calls L s w hs (by omega) (fun r hr => by have := h.2 r hr; omega)
theorem tsame_calls {L M : List Rw} (h : L = M) (s t : Value) (w : World) (hs : RowsAt w L s) (ht : RowsAt w M t) :
    Calls Try.prog 15 #[s, t] w fun e w' => e = .returned (.bool true) ∧ Below w.heap.size w w' := by
  have := same_calls L M s t w hs ht
  rwa [show decide (L = M) = true by simp [h]] at this
theorem qsame_calls {L M : List Rw} {q : Bool} (h : decide (L = M) = q) (s t : Value) (w : World) (hs : RowsAt w L s) (ht : RowsAt w M t) :
    Calls Try.prog 15 #[s, t] w fun e w' => e = .returned (.bool q) ∧ Below w.heap.size w w' := by
  have := same_calls L M s t w hs ht
  rwa [h] at this
theorem qequal_calls {b c : List Ent} {q : Bool} (h : decide (b = c) = q) (B pb C pc : Nat) (s t : Value) (w : World) (hb : BagAt w B pb s b) (hc : BagAt w C pc t c) :
    Calls Try.prog 23 #[.pointer (some ⟨pb, 0, none⟩), .pointer (some ⟨pc, 0, none⟩)] w fun e w' => e = .returned (.bool q) ∧ Below w.heap.size w w' := by
  have := bequal_calls B pb C pc s t b c w hb hc
  rwa [h] at this
theorem Below.step {w w1 w2 : World} (h : Below w.heap.size w w1) (h' : Below w1.heap.size w1 w2) : Below w.heap.size w w2 := h.trans (h'.mono h.size)
end Go.Proofs.Ytekoemcckdhhnaa
