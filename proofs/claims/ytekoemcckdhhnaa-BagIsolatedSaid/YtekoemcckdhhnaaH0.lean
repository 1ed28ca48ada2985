/- What the bag's put and Remove leave: plain laws; a bag whose fields are being written. -/
import Derived.Test.YtekoemcckdhhnaaF2
namespace Go.Proofs.Ytekoemcckdhhnaa
open Go.RowKit

theorem putB_has {b : List Ent} (hw : Wf b) {R : Rw} (h : hasB b R = true) (n : Nat) : putB b R n = b.set (posB b R) (R, cntB b R + n) := by
  induction b with
  | nil => simp [hasB] at h
  | cons x b ih =>
    have hx := List.pairwise_cons.1 hw.asc
    by_cases e : x.1 = R
    · have h1 : ¬ ltR x.1 R := by rw [e]; exact ltR_irrefl _
      have h0 : posB (x :: b) R = 0 := by simp [posB, h1]
      rw [putB, if_neg h1, if_pos e, h0, cntB, if_pos e]
      simp
    · have h1 : hasB b R = true := by simpa [hasB, e] using h
      obtain ⟨h2, h3, h4⟩ := hasB_pos (wf_tail hw) h1
      have hlt : ltR x.1 R := by rw [← h3]; exact hx.1 _ (List.getElem_mem h2)
      have h0 : posB (x :: b) R = posB b R + 1 := by simp [posB, hlt]
      rw [putB, if_pos hlt, h0, ih (wf_tail hw) h1, cntB, if_neg e]
      simp
theorem putB_not {b : List Ent} (hw : Wf b) {R : Rw} (h : hasB b R = false) (n : Nat) : putB b R n = b.take (posB b R) ++ (R, n) :: b.drop (posB b R) := by
  induction b with
  | nil => simp [putB, posB]
  | cons x b ih =>
    have e : ¬ x.1 = R := by intro e; simp [hasB, e] at h
    have h1 : hasB b R = false := by simpa [hasB, e] using h
    by_cases hlt : ltR x.1 R
    · have h0 : posB (x :: b) R = posB b R + 1 := by simp [posB, hlt]
      rw [putB, if_pos hlt, h0, ih (wf_tail hw) h1]
      simp
    · have h0 : posB (x :: b) R = 0 := by simp [posB, hlt]
      rw [putB, if_neg hlt, if_neg e, h0]
      simp
theorem set_ins {α : Type} (b : List α) (i : Nat) (hi : i ≤ b.length) (x y : α) : (b.take i ++ x :: b.drop i).set i y = b.take i ++ y :: b.drop i := by
  rw [List.set_append_right _ _ (by simp; omega)]
  simp [Nat.min_eq_left hi]
theorem subB_one {b : List Ent} (hw : Wf b) {R : Rw} (h : hasB b R = true) (h1 : cntB b R = 1) : subB b R = b.take (posB b R) ++ b.drop (posB b R + 1) := by
  induction b with
  | nil => simp [hasB] at h
  | cons x b ih =>
    have hx := List.pairwise_cons.1 hw.asc
    by_cases e : x.1 = R
    · have h1' : ¬ ltR x.1 R := by rw [e]; exact ltR_irrefl _
      have h0 : posB (x :: b) R = 0 := by simp [posB, h1']
      rw [cntB, if_pos e] at h1
      rw [subB, if_pos e, if_pos h1, h0]
      simp
    · have h2 : hasB b R = true := by simpa [hasB, e] using h
      rw [cntB, if_neg e] at h1
      obtain ⟨h3, h4, h5⟩ := hasB_pos (wf_tail hw) h2
      have hlt : ltR x.1 R := by rw [← h4]; exact hx.1 _ (List.getElem_mem h3)
      have h0 : posB (x :: b) R = posB b R + 1 := by simp [posB, hlt]
      rw [subB, if_neg e, h0, ih (wf_tail hw) h2 h1]
      simp
theorem subB_more {b : List Ent} (hw : Wf b) {R : Rw} (h : hasB b R = true) (h1 : cntB b R ≠ 1) : subB b R = b.set (posB b R) (R, cntB b R - 1) := by
  induction b with
  | nil => simp [hasB] at h
  | cons x b ih =>
    have hx := List.pairwise_cons.1 hw.asc
    by_cases e : x.1 = R
    · have h1' : ¬ ltR x.1 R := by rw [e]; exact ltR_irrefl _
      have h0 : posB (x :: b) R = 0 := by simp [posB, h1']
      rw [cntB, if_pos e] at h1
      rw [subB, if_pos e, if_neg h1, h0, cntB, if_pos e, e]
      simp
    · have h2 : hasB b R = true := by simpa [hasB, e] using h
      rw [cntB, if_neg e] at h1
      obtain ⟨h3, h4, h5⟩ := hasB_pos (wf_tail hw) h2
      have hlt : ltR x.1 R := by rw [← h4]; exact hx.1 _ (List.getElem_mem h3)
      have h0 : posB (x :: b) R = posB b R + 1 := by simp [posB, hlt]
      rw [subB, if_neg e, h0, ih (wf_tail hw) h2 h1, cntB, if_neg e]
      simp
theorem subB_not {b : List Ent} {R : Rw} (h : hasB b R = false) : subB b R = b := by
  induction b with
  | nil => rfl
  | cons x b ih =>
    have e : ¬ x.1 = R := by intro e; simp [hasB, e] at h
    have h1 : hasB b R = false := by simpa [hasB, e] using h
    rw [subB, if_neg e, ih h1]
theorem hasB_mem {b : List Ent} (hw : Wf b) (R : Rw) : hasB b R = decide (R ∈ rowsB b) := by
  rw [Bool.eq_iff_iff, decide_eq_true_iff]
  constructor
  · intro h
    obtain ⟨h1, h2, h3⟩ := hasB_pos hw h
    have hp := hw.pos _ (List.getElem_mem h1)
    rw [← List.count_pos_iff, count_rowsB hw, ← h3]
    exact hp
  · intro h
    obtain ⟨x, hx, e⟩ := mem_rowsB h
    simp only [hasB, List.any_eq_true, decide_eq_true_eq]
    exact ⟨x, hx, e⟩
theorem cnt_le_len {b : List Ent} (hw : Wf b) (R : Rw) : cntB b R ≤ lenB b := by
  rw [← count_rowsB hw]
  exact List.count_le_length
theorem length_le_len {b : List Ent} (hw : Wf b) : b.length ≤ lenB b := by
  unfold lenB
  induction b with
  | nil => simp
  | cons x b ih =>
    have := hw.pos x (by simp)
    have := ih (wf_tail hw)
    rw [rowsB_cons, List.length_append, List.length_replicate, List.length_cons]
    omega
theorem len_subB {b : List Ent} (hw : Wf b) {R : Rw} (h : hasB b R = true) : lenB (subB b R) + 1 = lenB b := by
  unfold lenB
  rw [rows_subB hw]
  rw [hasB_mem hw, decide_eq_true_iff] at h
  generalize rowsB b = l at h
  induction l with
  | nil => simp at h
  | cons x l ih =>
    rw [dropL]
    split
    · rfl
    · rename_i hne
      rcases List.mem_cons.1 h with e | e
      · exact absurd e.symm hne
      · have := ih e
        simp only [List.length_cons]
        omega

/-- A bag's block and its entries, whatever the length says. -/
structure BagRaw (w : World) (B pb : Nat) (s : Value) (b : List Ent) (m : Int) : Prop where
  ge : B ≤ pb
  ptr : w.heap[pb]? = some (.cells #[s, .int .i64 m] 55 (0, 0))
  ent : ∃ cs, w.ownsRow B 57 2 s b.length cs ∧ EntVs w B b cs
theorem BagAt.raw {w : World} {B pb : Nat} {s : Value} {b : List Ent} (h : BagAt w B pb s b) : BagRaw w B pb s b (lenB b) := ⟨h.ge, h.ptr, h.ent⟩
theorem BagRaw.bag {w : World} {B pb : Nat} {s : Value} {b : List Ent} (h : BagRaw w B pb s b (lenB b)) (hw : Wf b) : BagAt w B pb s b := ⟨h.ge, h.ptr, h.ent, hw⟩
theorem BagRaw.lt {w : World} {B pb : Nat} {s : Value} {b : List Ent} {m : Int} (h : BagRaw w B pb s b m) : pb < w.heap.size := (Array.getElem?_eq_some_iff.1 h.ptr).1
theorem BagRaw.cell {w : World} {B pb : Nat} {s : Value} {b : List Ent} {m : Int} (h : BagRaw w B pb s b m) : w.cell? ⟨pb, 0, none⟩ = some s ∧ w.cell? ⟨pb, 1, none⟩ = some (.int .i64 m) ∧ ∀ j, w.frozen? ⟨pb, j, none⟩ = false := by
  have e0 := cell_of_row w pb 0 _ 55 (0, 0) h.ptr
  have e1 := cell_of_row w pb 1 _ 55 (0, 0) h.ptr
  exact ⟨by simpa using e0, by simpa using e1, fun j => frozen_of_row w pb j _ 55 h.ptr⟩
theorem BagRaw.ne {w : World} {B pb : Nat} {s : Value} {b : List Ent} {m : Int} (h : BagRaw w B pb s b m) : s.ownBlock ≠ some pb := by
  obtain ⟨cs, ⟨_, ⟨rfl, _⟩ | ⟨g, cap, cur, rfl, hb, hg, _⟩⟩, _⟩ := h.ent
  · simp [Value.ownBlock]
  · intro e
    simp only [Value.ownBlock, Option.some.injEq] at e
    rw [e, h.ptr] at hg
    injection hg with hg
    injection hg with _ hg
    exact absurd hg (by decide)
theorem EntVs.set {w : World} {B : Nat} {b : List Ent} {cs : List Value} (h : EntVs w B b cs) (i : Nat) (hi : i < b.length) (c : Nat) : EntVs w B (b.set i (b[i].1, c)) (cs.set (i * 2 + 1) (.int .i64 c)) := by
  induction h generalizing i with
  | nil => simp at hi
  | cons h1 h2 ih =>
    cases i with
    | zero => exact .cons h1 h2
    | succ i =>
      rw [show (i + 1) * 2 + 1 = i * 2 + 1 + 1 + 1 by omega]
      simp only [List.set_cons_succ, List.getElem_cons_succ]
      exact .cons h1 (ih i (by simpa using hi))
theorem EntVs.append {w : World} {B : Nat} {b c : List Ent} {xs ys : List Value} (h : EntVs w B b xs) (h' : EntVs w B c ys) : EntVs w B (b ++ c) (xs ++ ys) := by
  induction h with
  | nil => exact h'
  | cons h1 _ ih => exact .cons h1 ih
theorem EntVs.take {w : World} {B : Nat} {b : List Ent} {cs : List Value} (h : EntVs w B b cs) (i : Nat) : EntVs w B (b.take i) (cs.take (i * 2)) := by
  induction h generalizing i with
  | nil => simp; exact .nil
  | cons h1 _ ih =>
    cases i with
    | zero => simp; exact .nil
    | succ i => rw [show (i + 1) * 2 = i * 2 + 1 + 1 by omega]; exact .cons h1 (ih i)
theorem EntVs.drop {w : World} {B : Nat} {b : List Ent} {cs : List Value} (h : EntVs w B b cs) (i : Nat) : EntVs w B (b.drop i) (cs.drop (i * 2)) := by
  induction h generalizing i with
  | nil => simp; exact .nil
  | cons h1 h2 ih =>
    cases i with
    | zero => exact .cons h1 h2
    | succ i => rw [show (i + 1) * 2 = i * 2 + 1 + 1 by omega]; exact ih i
theorem no38 {w : World} {g : Nat} {cur : Array Value} {t : TypeId} {fr : Nat × Nat} (h : w.heap[g]? = some (.cells cur t fr)) (ht : t ≠ 38) : ∀ cur fr, w.heap[g]? ≠ some (.cells cur 38 fr) := by
  intro cur' fr' e
  rw [h] at e
  injection e with e
  injection e with _ e
  exact ht e
theorem ownBlock57 {w : World} {B n : Nat} {s : Value} {cs : List Value} (h : w.ownsRow B 57 2 s n cs) : ∀ k, s.ownBlock = some k → ∃ cur fr, w.heap[k]? = some (.cells cur 57 fr) := by
  intro k hk
  obtain ⟨_, ⟨rfl, _⟩ | ⟨g, cap, cur, rfl, hb, hg, _⟩⟩ := h
  · simp [Value.ownBlock] at hk
  · simp only [Value.ownBlock, Option.some.injEq] at hk
    subst hk
    exact ⟨cur, _, hg⟩
/-- A count is written. -/
theorem BagRaw.count {w : World} {B pb g cap : Nat} {b : List Ent} {m : Int} (h : BagRaw w B pb (.slice (some ⟨g, 0, none⟩) b.length cap) b m) (i : Nat) (hi : i < b.length) (c : Nat) :
    BagRaw (w.setCell ⟨g, i * 2 + 1, none⟩ (.int .i64 c)) B pb (.slice (some ⟨g, 0, none⟩) b.length cap) (b.set i (b[i].1, c)) m ∧ Chg w (w.setCell ⟨g, i * 2 + 1, none⟩ (.int .i64 c)) pb (some g) := by
  have hne := h.ne
  simp only [Value.ownBlock, ne_eq, Option.some.injEq] at hne
  obtain ⟨h1, h2, cs, h3, h4⟩ := h
  have h5 := h3.stored (i * 2 + 1) (.int .i64 c)
  have hc := Chg.of_grown h5.2 pb
  refine ⟨⟨h1, (Below.heap_setCell w ⟨g, i * 2 + 1, none⟩ _ pb (fun e => hne e.symm)).trans h2, _, by simpa using h5.1, (h4.set i hi c).chg hc (no38 h2 (by decide)) ?_⟩, hc⟩
  intro k hk
  obtain ⟨cur, fr, e⟩ := ownBlock57 h3 k hk
  exact no38 e (by decide)
theorem setCell_chg (w : World) (pb i : Nat) (u : Value) (g : Option Nat) : Chg w (w.setCell ⟨pb, i, none⟩ u) pb g :=
  ⟨rfl, rfl, rfl, by simp, fun k _ hk _ => Below.heap_setCell w ⟨pb, i, none⟩ u k hk⟩
/-- The length is written. -/
theorem BagRaw.length {w : World} {B pb : Nat} {s : Value} {b : List Ent} {m : Int} (h : BagRaw w B pb s b m) (m' : Int) :
    BagRaw (w.setCell ⟨pb, 1, none⟩ (.int .i64 m')) B pb s b m' ∧ Chg w (w.setCell ⟨pb, 1, none⟩ (.int .i64 m')) pb none := by
  have hne := h.ne
  obtain ⟨h1, h2, cs, h3, h4⟩ := h
  have hc := setCell_chg w pb 1 (.int .i64 m') none
  refine ⟨⟨h1, ?_, cs, ?_, h4.chg hc (no38 h2 (by decide)) (by simp)⟩, hc⟩
  · exact heap_setCell_same w pb 1 _ 55 _ h2
  · refine ⟨h3.1, ?_⟩
    rcases h3.2 with e | ⟨g, cap, cur, hv, hb, hg, rest⟩
    · exact .inl e
    · refine .inr ⟨g, cap, cur, hv, hb, ?_, rest⟩
      rw [Below.heap_setCell w ⟨pb, 1, none⟩ _ g (fun e => hne (by rw [hv]; show some g = _; rw [e]))]
      exact hg
/-- What a call that writes a bag leaves. -/
def Mut (w : World) (B pb : Nat) (s : Value) (b : List Ent) (w' : World) : Prop :=
  ∃ s', BagAt w' B pb s' b ∧ Chg w w' pb s.ownBlock ∧ ∀ k, s'.ownBlock = some k → s.ownBlock = some k ∨ w.heap.size ≤ k
end Go.Proofs.Ytekoemcckdhhnaa
