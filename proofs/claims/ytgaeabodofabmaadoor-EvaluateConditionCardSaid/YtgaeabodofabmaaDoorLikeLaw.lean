/- Plain: the walk through a pattern's states finds whether the text matches; a pattern of two parts matches a text of two parts. -/
import Derived.Test.YtgaeabodofabmaaDoorLike
namespace Go.Proofs.YtgaeabodofabmaaDoor

/-- A text matches a pattern. -/
def lkP : List UInt8 → List UInt8 → Prop
  | [], t => t = []
  | x :: p, t => if x = 37 then ∃ u v, t = u ++ v ∧ lkP p v else ∃ c t', t = c :: t' ∧ (x = 95 ∨ x = c) ∧ lkP p t'

theorem lkP_append (f b t : List UInt8) : lkP (f ++ b) t ↔ ∃ u v, t = u ++ v ∧ lkP f u ∧ lkP b v := by
  induction f generalizing t with
  | nil =>
    simp only [List.nil_append, lkP]
    constructor
    · intro h; exact ⟨[], t, rfl, rfl, h⟩
    · rintro ⟨u, v, rfl, rfl, h⟩; exact h
  | cons x f ih =>
    simp only [List.cons_append, lkP]
    split
    · constructor
      · rintro ⟨u, v, rfl, h⟩
        obtain ⟨u', v', rfl, h1, h2⟩ := (ih v).1 h
        exact ⟨u ++ u', v', by simp, ⟨u, u', rfl, h1⟩, h2⟩
      · rintro ⟨u, v, rfl, ⟨u1, u2, rfl, h1⟩, h2⟩
        exact ⟨u1, u2 ++ v, by simp, (ih _).2 ⟨u2, v, rfl, h1, h2⟩⟩
    · constructor
      · rintro ⟨c, t', rfl, hc, h⟩
        obtain ⟨u', v', rfl, h1, h2⟩ := (ih t').1 h
        exact ⟨c :: u', v', rfl, ⟨c, u', rfl, hc, h1⟩, h2⟩
      · rintro ⟨u, v, rfl, ⟨c, t', rfl, hc, h1⟩, h2⟩
        exact ⟨c, t' ++ v, rfl, hc, (ih _).2 ⟨t', v, rfl, h1, h2⟩⟩

section
variable (p : List UInt8)

/-- Some state that is reached leads to the end over the rest s of the text. -/
def Acc (l : List Bool) (s : List UInt8) : Prop := ∃ i, i ≤ p.length ∧ l.getD i false = true ∧ lkP (p.drop i) s

theorem getD_set_self (l : List Bool) (k : Nat) (h : k < l.length) : (l.set k true).getD k false = true := by simp [List.getD, h]
theorem getD_set_other (l : List Bool) (k j : Nat) (h : k ≠ j) : (l.set k true).getD j false = l.getD j false := by simp [List.getD, h]
theorem getD_set_mono (l : List Bool) (k j : Nat) (h : l.getD j false = true) : (l.set k true).getD j false = true := by
  by_cases hk : k = j
  · subst hk
    refine getD_set_self l k ?_
    apply Classical.byContradiction
    intro hn
    simp [List.getD, List.getElem?_eq_none (Nat.le_of_not_lt hn)] at h
  · rw [getD_set_other l k j hk]; exact h
theorem skipTo_mono (l : List Bool) (k j : Nat) (h : l.getD j false = true) : (skipTo p l k).getD j false = true := by
  induction k with
  | zero => exact h
  | succ k ih => unfold skipTo; split
                 · exact getD_set_mono _ _ _ ih
                 · exact ih
theorem drop_cons (k : Nat) (hk : k < p.length) : p.drop k = p.getD k 0 :: p.drop (k + 1) := by
  rw [List.drop_eq_getElem_cons hk]
  simp [List.getD, List.getElem?_eq_getElem hk]
theorem lkP_star (k : Nat) (hk : k < p.length) (h : p.getD k 0 = 37) (s : List UInt8) : lkP (p.drop k) s ↔ ∃ u v, s = u ++ v ∧ lkP (p.drop (k + 1)) v := by
  rw [drop_cons p k hk, lkP, if_pos h]
theorem lkP_char (k : Nat) (hk : k < p.length) (h : p.getD k 0 ≠ 37) (s : List UInt8) : lkP (p.drop k) s ↔ ∃ c t', s = c :: t' ∧ (p.getD k 0 = 95 ∨ p.getD k 0 = c) ∧ lkP (p.drop (k + 1)) t' := by
  rw [drop_cons p k hk, lkP, if_neg h]
theorem acc_skipTo (l : List Bool) (s : List UInt8) (k : Nat) (hk : k ≤ p.length) : Acc p (skipTo p l k) s → Acc p l s := by
  induction k with
  | zero => exact id
  | succ k ih =>
    unfold skipTo
    split
    · rename_i h
      rintro ⟨i, hi, hl, hm⟩
      by_cases hik : k + 1 = i
      · subst hik
        exact ih (by omega) ⟨k, by omega, h.2, (lkP_star p k (by omega) h.1 s).2 ⟨[], s, rfl, hm⟩⟩
      · rw [getD_set_other _ _ _ hik] at hl
        exact ih (by omega) ⟨i, hi, hl, hm⟩
    · exact ih (by omega)
theorem acc_skip (l : List Bool) (s : List UInt8) : Acc p (skipS p l) s ↔ Acc p l s :=
  ⟨acc_skipTo p l s p.length (Nat.le_refl _), fun ⟨i, hi, hl, hm⟩ => ⟨i, hi, skipTo_mono p l _ i hl, hm⟩⟩
/-- A state is left over '%' without a byte. -/
def Closed (l : List Bool) : Prop := ∀ i, i < p.length → p.getD i 0 = 37 → l.getD i false = true → l.getD (i + 1) false = true
theorem skipTo_later (l : List Bool) (j k : Nat) (hj : j ≤ k) : (skipTo p l k).getD j false = (skipTo p l j).getD j false := by
  induction k with
  | zero => obtain rfl : j = 0 := by omega
            rfl
  | succ k ih =>
    by_cases he : j = k + 1
    · subst he; rfl
    · rw [← ih (by omega)]
      conv => lhs; unfold skipTo
      split
      · rw [getD_set_other _ _ _ (by omega)]
      · rfl
theorem closed_skip (l : List Bool) (hl : l.length = p.length + 1) : Closed p (skipS p l) := by
  intro i hi hp hs
  unfold skipS at *
  rw [skipTo_later p l i p.length (by omega)] at hs
  rw [skipTo_later p l (i + 1) p.length (by omega), skipTo, if_pos ⟨hp, hs⟩]
  exact getD_set_self _ _ (by rw [length_skipTo]; omega)

theorem nextTo_new (c : UInt8) (r : List Bool) (k j : Nat) (hk : k ≤ p.length) (h : (nextTo p c r k).getD j false = true) :
    (j < k ∧ r.getD j false = true ∧ p.getD j 0 = 37) ∨ ∃ i, j = i + 1 ∧ i < k ∧ r.getD i false = true ∧ p.getD i 0 ≠ 37 ∧ (p.getD i 0 = 95 ∨ p.getD i 0 = c) := by
  induction k with
  | zero => simp [nextTo, List.getD, List.getElem?_replicate] at h; split at h <;> simp at h
  | succ k ih =>
    have lift : (j < k ∧ r.getD j false = true ∧ p.getD j 0 = 37) ∨ (∃ i, j = i + 1 ∧ i < k ∧ r.getD i false = true ∧ p.getD i 0 ≠ 37 ∧ (p.getD i 0 = 95 ∨ p.getD i 0 = c)) →
        (j < k + 1 ∧ r.getD j false = true ∧ p.getD j 0 = 37) ∨ ∃ i, j = i + 1 ∧ i < k + 1 ∧ r.getD i false = true ∧ p.getD i 0 ≠ 37 ∧ (p.getD i 0 = 95 ∨ p.getD i 0 = c) := by
      rintro (⟨h1, h2⟩ | ⟨i, h1, h2, h3⟩)
      · exact .inl ⟨by omega, h2⟩
      · exact .inr ⟨i, h1, by omega, h3⟩
    unfold nextTo at h
    split at h
    · rename_i hr
      split at h
      · rename_i hp
        by_cases hkj : k = j
        · subst hkj; exact .inl ⟨by omega, hr, hp⟩
        · rw [getD_set_other _ _ _ hkj] at h; exact lift (ih (by omega) h)
      · rename_i hp
        split at h
        · rename_i hc
          by_cases hkj : k + 1 = j
          · subst hkj; exact .inr ⟨k, rfl, by omega, hr, hp, hc⟩
          · rw [getD_set_other _ _ _ hkj] at h; exact lift (ih (by omega) h)
        · exact lift (ih (by omega) h)
    · exact lift (ih (by omega) h)
theorem nextTo_mono (c : UInt8) (r : List Bool) (k m j : Nat) (hkm : k ≤ m) (h : (nextTo p c r k).getD j false = true) : (nextTo p c r m).getD j false = true := by
  induction m with
  | zero => obtain rfl : k = 0 := by omega
            exact h
  | succ m ih =>
    by_cases he : k = m + 1
    · subst he; exact h
    · have := ih (by omega)
      unfold nextTo
      repeat' split
      all_goals first | exact this | exact getD_set_mono _ _ _ this
theorem nextTo_star (c : UInt8) (r : List Bool) (i : Nat) (hi : i < p.length) (hr : r.getD i false = true) (hp : p.getD i 0 = 37) : (nextTo p c r p.length).getD i false = true := by
  refine nextTo_mono p c r (i + 1) p.length i (by omega) ?_
  unfold nextTo
  rw [if_pos hr, if_pos hp]
  exact getD_set_self _ _ (by rw [length_nextTo]; omega)
theorem nextTo_char (c : UInt8) (r : List Bool) (i : Nat) (hi : i < p.length) (hr : r.getD i false = true) (hp : p.getD i 0 ≠ 37) (hc : p.getD i 0 = 95 ∨ p.getD i 0 = c) : (nextTo p c r p.length).getD (i + 1) false = true := by
  refine nextTo_mono p c r (i + 1) p.length (i + 1) (by omega) ?_
  unfold nextTo
  rw [if_pos hr, if_neg hp, if_pos hc]
  exact getD_set_self _ _ (by rw [length_nextTo]; omega)

theorem acc_next (c : UInt8) (r : List Bool) (s : List UInt8) (hcl : Closed p r) : Acc p (nextTo p c r p.length) s ↔ Acc p r (c :: s) := by
  constructor
  · rintro ⟨j, hj, hl, hm⟩
    rcases nextTo_new p c r p.length j (Nat.le_refl _) hl with ⟨h1, h2, h3⟩ | ⟨i, rfl, h1, h2, h3, h4⟩
    · obtain ⟨u, v, rfl, hv⟩ := (lkP_star p j h1 h3 s).1 hm
      exact ⟨j, hj, h2, (lkP_star p j h1 h3 _).2 ⟨c :: u, v, rfl, hv⟩⟩
    · exact ⟨i, by omega, h2, (lkP_char p i h1 h3 _).2 ⟨c, s, rfl, h4, hm⟩⟩
  · rintro ⟨i, hi, hl, hm⟩
    have key : ∀ d i, p.length - i = d → i ≤ p.length → r.getD i false = true → lkP (p.drop i) (c :: s) → Acc p (nextTo p c r p.length) s := by
      intro d
      induction d with
      | zero =>
        intro i hd hi hl hm
        obtain rfl : i = p.length := by omega
        simp [lkP] at hm
      | succ d ih =>
        intro i hd hi hl hm
        have hlt : i < p.length := by omega
        by_cases hp : p.getD i 0 = 37
        · obtain ⟨u, v, huv, hv⟩ := (lkP_star p i hlt hp _).1 hm
          cases u with
          | nil =>
            simp at huv
            subst huv
            exact ih (i + 1) (by omega) (by omega) (hcl i hlt hp hl) hv
          | cons x u =>
            simp at huv
            obtain ⟨rfl, rfl⟩ := huv
            exact ⟨i, hi, nextTo_star p c r i hlt hl hp, (lkP_star p i hlt hp _).2 ⟨u, v, rfl, hv⟩⟩
        · obtain ⟨c', t', h1, h2, h3⟩ := (lkP_char p i hlt hp _).1 hm
          simp at h1
          obtain ⟨rfl, rfl⟩ := h1
          exact ⟨i + 1, by omega, nextTo_char p c r i hlt hl hp h2, h3⟩
    exact key _ i rfl hi hl hm
theorem closed_states (t : List UInt8) (k : Nat) : Closed p (statesTo p t k) := by
  cases k with
  | zero => exact closed_skip p _ (by simp)
  | succ k => exact closed_skip p _ (length_nextTo _ _ _ _)
theorem acc_states (t : List UInt8) (k : Nat) (hk : k ≤ t.length) : Acc p (statesTo p t k) (t.drop k) ↔ lkP p t := by
  induction k with
  | zero =>
    rw [statesTo, acc_skip]
    constructor
    · rintro ⟨i, hi, hl, hm⟩
      by_cases h0 : (0 : Nat) = i
      · subst h0; simpa using hm
      · rw [getD_set_other _ _ _ h0] at hl
        simp [List.getD, List.getElem?_replicate] at hl
        split at hl <;> simp at hl
    · intro h
      exact ⟨0, Nat.zero_le _, getD_set_self _ _ (by simp), by simpa using h⟩
  | succ k ih =>
    rw [statesTo, acc_skip, acc_next p _ _ _ (closed_states p t k), ← ih (by omega), ← drop_cons t k (by omega)]
theorem closed_end (l : List Bool) (hcl : Closed p l) : Acc p l [] ↔ l.getD p.length false = true := by
  constructor
  · rintro ⟨i, hi, hl, hm⟩
    have key : ∀ d i, p.length - i = d → i ≤ p.length → l.getD i false = true → lkP (p.drop i) [] → l.getD p.length false = true := by
      intro d
      induction d with
      | zero => intro i hd hi hl _
                obtain rfl : i = p.length := by omega
                exact hl
      | succ d ih =>
        intro i hd hi hl hm
        have hlt : i < p.length := by omega
        by_cases hp : p.getD i 0 = 37
        · obtain ⟨u, v, huv, hv⟩ := (lkP_star p i hlt hp _).1 hm
          have : u = [] ∧ v = [] := by simpa using huv.symm
          rw [this.2] at hv
          exact ih (i + 1) (by omega) (by omega) (hcl i hlt hp hl) hv
        · obtain ⟨c', t', h1, _⟩ := (lkP_char p i hlt hp _).1 hm
          cases h1
    exact key _ i rfl hi hl hm
  · intro h
    exact ⟨p.length, Nat.le_refl _, h, by simp [lkP]⟩
end

/-- **Like finds whether the text matches the pattern.** -/
theorem likeS_iff (t p : List UInt8) : likeS t p = true ↔ lkP p t := by
  unfold likeS
  rw [← closed_end p _ (closed_states p t _), ← acc_states p t t.length (Nat.le_refl _), List.drop_length]

/-- **A text matches a pattern of two parts exactly if a prefix matches the first part, and the rest the second one.** -/
theorem like_parts (t f b : List UInt8) : likeS t (f ++ b) = (List.range (t.length + 1)).any fun i => likeS (t.take i) f && likeS (t.drop i) b := by
  rw [Bool.eq_iff_iff, likeS_iff, lkP_append, List.any_eq_true]
  constructor
  · rintro ⟨u, v, rfl, h1, h2⟩
    refine ⟨u.length, by simp; omega, ?_⟩
    rw [Bool.and_eq_true, likeS_iff, likeS_iff]
    simpa using ⟨h1, h2⟩
  · rintro ⟨i, _, h⟩
    rw [Bool.and_eq_true, likeS_iff, likeS_iff] at h
    exact ⟨t.take i, t.drop i, (List.take_append_drop i t).symm, h.1, h.2⟩
end Go.Proofs.YtgaeabodofabmaaDoor
