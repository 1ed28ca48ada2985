/- Plain: values, rows, their total order; ascending lists of rows. -/
import Derived.Lib.Bytealg
namespace Go.Proofs.Ytekoemcckdhhnaa

structure Vl where
  kind : Int
  int : Int
  text : ByteArray
  deriving DecidableEq

abbrev Rw := List Vl

def cmpS (a b : Int) : Int := if a < b then -1 else if b < a then 1 else 0
def orS (a b : Int) : Int := if a = 0 then b else a
def bytes (s : ByteArray) : List UInt8 := s.data.toList
theorem bytes_inj {a b : ByteArray} (h : bytes a = bytes b) : a = b := by
  obtain ⟨⟨a⟩⟩ := a
  obtain ⟨⟨b⟩⟩ := b
  simpa [bytes] using h

/-- The order of two values: kinds, numbers, texts. -/
def cmpV (a b : Vl) : Int := orS (cmpS a.kind b.kind) (orS (cmpS a.int b.int) (Lib.compareBytes (bytes a.text) (bytes b.text)))
/-- The lexicographic order of rows. -/
def cmpR : Rw → Rw → Int
  | [], [] => 0
  | [], _ :: _ => -1
  | _ :: _, [] => 1
  | a :: x, b :: y => if cmpV a b = 0 then cmpR x y else cmpV a b

theorem cmpS_range (a b : Int) : cmpS a b = -1 ∨ cmpS a b = 0 ∨ cmpS a b = 1 := by
  unfold cmpS; split
  · exact .inl rfl
  · split
    · exact .inr (.inr rfl)
    · exact .inr (.inl rfl)
theorem cmpS_swap (a b : Int) : cmpS b a = - cmpS a b := by
  unfold cmpS
  by_cases h1 : a < b
  · have : ¬ b < a := by omega
    simp [h1, this]
  · by_cases h2 : b < a <;> simp [h1, h2]
theorem cmpS_zero {a b : Int} : cmpS a b = 0 ↔ a = b := by
  unfold cmpS
  by_cases h1 : a < b
  · simp [h1]; omega
  · by_cases h2 : b < a
    · simp [h1, h2]; omega
    · simp [h1, h2]; omega
theorem cmpS_neg {a b : Int} : cmpS a b < 0 ↔ a < b := by
  unfold cmpS
  by_cases h1 : a < b
  · simp [h1]
  · by_cases h2 : b < a <;> simp [h1, h2]

theorem cmpB_range : ∀ a b : List UInt8, Lib.compareBytes a b = -1 ∨ Lib.compareBytes a b = 0 ∨ Lib.compareBytes a b = 1
  | [], [] => by simp [Lib.compareBytes]
  | [], _ :: _ => by simp [Lib.compareBytes]
  | _ :: _, [] => by simp [Lib.compareBytes]
  | a :: x, b :: y => by
    rw [Lib.compareBytes]
    split
    · exact .inl rfl
    · split
      · exact .inr (.inr rfl)
      · exact cmpB_range x y
theorem cmpB_zero : ∀ {a b : List UInt8}, Lib.compareBytes a b = 0 ↔ a = b
  | [], [] => by simp [Lib.compareBytes]
  | [], _ :: _ => by simp [Lib.compareBytes]
  | _ :: _, [] => by simp [Lib.compareBytes]
  | a :: x, b :: y => by
    rw [Lib.compareBytes]
    by_cases h : a < b
    · have hne : ¬ a = b := fun e => by subst e; exact UInt8.lt_irrefl _ h
      simp [h, hne]
    · by_cases h2 : b < a
      · have hne : ¬ a = b := fun e => by subst e; exact h h2
        simp [h, h2, hne]
      · have he : a = b := by
          rw [UInt8.lt_iff_toNat_lt] at h h2
          exact UInt8.toNat_inj.1 (by omega)
        subst he
        simp [cmpB_zero (a := x) (b := y)]
theorem cmpB_swap : ∀ a b : List UInt8, Lib.compareBytes b a = - Lib.compareBytes a b
  | [], [] => by simp [Lib.compareBytes]
  | [], _ :: _ => by simp [Lib.compareBytes]
  | _ :: _, [] => by simp [Lib.compareBytes]
  | a :: x, b :: y => by
    rw [Lib.compareBytes, Lib.compareBytes, cmpB_swap x y]
    by_cases h : a < b
    · have : ¬ b < a := by rw [UInt8.lt_iff_toNat_lt] at *; omega
      simp [h, this]
    · by_cases h2 : b < a <;> simp [h, h2]
theorem cmpB_trans : ∀ {a b c : List UInt8}, Lib.compareBytes a b < 0 → Lib.compareBytes b c < 0 → Lib.compareBytes a c < 0
  | [], [], _, h, _ => by simp [Lib.compareBytes] at h
  | _ :: _, [], _, h, _ => by simp [Lib.compareBytes] at h
  | _, _ :: _, [], _, h => by simp [Lib.compareBytes] at h
  | [], _ :: _, _ :: _, _, _ => by simp [Lib.compareBytes]
  | a :: x, b :: y, c :: z, h1, h2 => by
    rw [Lib.compareBytes] at h1 h2 ⊢
    by_cases hab : a < b
    · by_cases hbc : b < c
      · have : a < c := by rw [UInt8.lt_iff_toNat_lt] at *; omega
        simp [this]
      · by_cases hcb : c < b
        · simp [hbc, hcb] at h2
        · have : a < c := by rw [UInt8.lt_iff_toNat_lt] at *; omega
          simp [this]
    · by_cases hba : b < a
      · simp [hab, hba] at h1
      · simp only [hab, hba, if_false] at h1
        have e : a = b := by
          rw [UInt8.lt_iff_toNat_lt] at hab hba
          exact UInt8.toNat_inj.1 (by omega)
        subst e
        by_cases hbc : a < c
        · simp [hbc]
        · by_cases hcb : c < a
          · simp [hbc, hcb] at h2
          · simp only [hbc, hcb, if_false] at h2 ⊢
            exact cmpB_trans h1 h2

theorem cmpV_range (a b : Vl) : cmpV a b = -1 ∨ cmpV a b = 0 ∨ cmpV a b = 1 := by
  unfold cmpV orS
  split
  · split
    · exact cmpB_range _ _
    · exact cmpS_range _ _
  · exact cmpS_range _ _
theorem cmpV_zero {a b : Vl} : cmpV a b = 0 ↔ a = b := by
  obtain ⟨k, i, t⟩ := a
  obtain ⟨k', i', t'⟩ := b
  unfold cmpV orS
  by_cases h1 : cmpS k k' = 0
  · by_cases h2 : cmpS i i' = 0
    · simp only [h1, h2, if_true]
      rw [cmpB_zero]
      have e1 := cmpS_zero.1 h1
      have e2 := cmpS_zero.1 h2
      subst e1 e2
      constructor
      · intro h; rw [bytes_inj h]
      · intro h; cases h; rfl
    · simp only [h1, h2, if_true, if_false]
      have : ¬ i = i' := fun h => h2 (cmpS_zero.2 h)
      constructor
      · intro h; exact h.elim
      · intro h; cases h; exact this rfl
  · simp only [h1, if_false]
    constructor
    · intro h; exact absurd h (by simp)
    · intro h; cases h; exact h1 (cmpS_zero.2 rfl)
theorem cmpV_swap (a b : Vl) : cmpV b a = - cmpV a b := by
  unfold cmpV orS
  rw [cmpS_swap a.kind b.kind, cmpS_swap a.int b.int, cmpB_swap (bytes a.text) (bytes b.text)]
  by_cases h1 : cmpS a.kind b.kind = 0
  · by_cases h2 : cmpS a.int b.int = 0 <;> simp [h1, h2]
  · have : ¬ - cmpS a.kind b.kind = 0 := by omega
    simp [h1]
theorem cmpV_trans {a b c : Vl} (h1 : cmpV a b < 0) (h2 : cmpV b c < 0) : cmpV a c < 0 := by
  obtain ⟨k, i, t⟩ := a
  obtain ⟨k', i', t'⟩ := b
  obtain ⟨k'', i'', t''⟩ := c
  unfold cmpV orS at *
  simp only at *
  by_cases p1 : cmpS k k' = 0
  · have e1 := cmpS_zero.1 p1
    subst e1
    by_cases p2 : cmpS k k'' = 0
    · have e2 := cmpS_zero.1 p2
      subst e2
      simp only [p1, if_true] at *
      by_cases q1 : cmpS i i' = 0
      · have e3 := cmpS_zero.1 q1
        subst e3
        by_cases q2 : cmpS i i'' = 0
        · simp only [q1, q2, if_true] at *
          exact cmpB_trans h1 h2
        · simp only [q2, if_false] at *
          exact h2
      · simp only [q1, if_false] at h1
        rw [cmpS_neg] at h1
        by_cases q2 : cmpS i' i'' = 0
        · have e4 := cmpS_zero.1 q2
          subst e4
          simp only [q1, if_false]
          exact cmpS_neg.2 h1
        · simp only [q2, if_false] at h2
          rw [cmpS_neg] at h2
          have q3 : ¬ cmpS i i'' = 0 := fun h => by have := cmpS_zero.1 h; omega
          simp only [q3, if_false]
          exact cmpS_neg.2 (by omega)
    · simp only [p1, p2, if_true, if_false] at *
      exact h2
  · simp only [p1, if_false] at h1
    rw [cmpS_neg] at h1
    by_cases p2 : cmpS k' k'' = 0
    · have e2 := cmpS_zero.1 p2
      subst e2
      simp only [p1, if_false]
      exact cmpS_neg.2 h1
    · simp only [p2, if_false] at h2
      rw [cmpS_neg] at h2
      have p3 : ¬ cmpS k k'' = 0 := fun h => by have := cmpS_zero.1 h; omega
      simp only [p3, if_false]
      exact cmpS_neg.2 (by omega)

theorem cmpR_range : ∀ a b : Rw, cmpR a b = -1 ∨ cmpR a b = 0 ∨ cmpR a b = 1
  | [], [] => by simp [cmpR]
  | [], _ :: _ => by simp [cmpR]
  | _ :: _, [] => by simp [cmpR]
  | a :: x, b :: y => by
    rw [cmpR]
    split
    · exact cmpR_range x y
    · exact cmpV_range a b
theorem cmpR_zero : ∀ {a b : Rw}, cmpR a b = 0 ↔ a = b
  | [], [] => by simp [cmpR]
  | [], _ :: _ => by simp [cmpR]
  | _ :: _, [] => by simp [cmpR]
  | a :: x, b :: y => by
    rw [cmpR]
    split
    · rename_i h
      rw [cmpR_zero (a := x) (b := y)]
      have := cmpV_zero.1 h
      subst this
      simp
    · rename_i h
      have hne : ¬ a = b := fun e => h (cmpV_zero.2 e)
      simp [h, hne]
theorem cmpR_swap : ∀ a b : Rw, cmpR b a = - cmpR a b
  | [], [] => by simp [cmpR]
  | [], _ :: _ => by simp [cmpR]
  | _ :: _, [] => by simp [cmpR]
  | a :: x, b :: y => by
    rw [cmpR, cmpR, cmpR_swap x y, cmpV_swap a b]
    by_cases h : cmpV a b = 0
    · simp [h]
    · have : ¬ - cmpV a b = 0 := by omega
      simp [h]
theorem cmpR_trans : ∀ {a b c : Rw}, cmpR a b < 0 → cmpR b c < 0 → cmpR a c < 0
  | [], [], _, h, _ => by simp [cmpR] at h
  | _ :: _, [], _, h, _ => by simp [cmpR] at h
  | _, _ :: _, [], _, h => by simp [cmpR] at h
  | [], _ :: _, _ :: _, _, _ => by simp [cmpR]
  | a :: x, b :: y, c :: z, h1, h2 => by
    rw [cmpR] at h1 h2 ⊢
    by_cases p1 : cmpV a b = 0
    · have e := cmpV_zero.1 p1
      subst e
      by_cases p2 : cmpV a c = 0
      · simp only [p1, p2, if_true] at *
        exact cmpR_trans h1 h2
      · simp only [p2, if_false] at *
        exact h2
    · simp only [p1, if_false] at h1
      by_cases p2 : cmpV b c = 0
      · have e := cmpV_zero.1 p2
        subst e
        simp only [p1, if_false]
        exact h1
      · simp only [p2, if_false] at h2
        have h3 := cmpV_trans h1 h2
        have : ¬ cmpV a c = 0 := by omega
        simp only [this, if_false]
        exact h3

def ltR (a b : Rw) : Prop := cmpR a b < 0
instance (a b : Rw) : Decidable (ltR a b) := inferInstanceAs (Decidable (_ < _))
theorem ltR_irrefl (a : Rw) : ¬ ltR a a := by unfold ltR; rw [cmpR_zero.2 rfl]; omega
theorem ltR_trans {a b c : Rw} (h1 : ltR a b) (h2 : ltR b c) : ltR a c := cmpR_trans h1 h2
theorem ltR_asymm {a b : Rw} (h : ltR a b) : ¬ ltR b a := fun h' => ltR_irrefl _ (ltR_trans h h')
theorem ltR_tri (a b : Rw) : ltR a b ∨ a = b ∨ ltR b a := by
  unfold ltR
  rw [cmpR_swap a b]
  rcases cmpR_range a b with h | h | h
  · left; omega
  · right; left; exact cmpR_zero.1 h
  · right; right; omega
theorem ltR_of_not {a b : Rw} (h : ¬ ltR a b) (hne : a ≠ b) : ltR b a := by
  rcases ltR_tri a b with h1 | h1 | h1
  · exact absurd h1 h
  · exact absurd h1 hne
  · exact h1

/-- Ascending. -/
def Asc (l : List Rw) : Prop := l.Pairwise fun a b => ¬ ltR b a
theorem asc_ext : ∀ {l l' : List Rw}, Asc l → Asc l' → (∀ r, l.count r = l'.count r) → l = l'
  | [], [], _, _, _ => rfl
  | [], x :: l', _, _, h => by have := h x; simp at this
  | x :: l, [], _, _, h => by have := h x; simp at this
  | x :: l, y :: l', h1, h2, h => by
    have hx : x = y := by
      have a1 : x ∈ y :: l' := by
        apply Classical.byContradiction
        intro hn
        have := h x
        rw [List.count_eq_zero.2 hn] at this
        simp at this
      have a2 : y ∈ x :: l := by
        apply Classical.byContradiction
        intro hn
        have := h y
        rw [List.count_eq_zero.2 hn] at this
        simp at this
      rcases List.mem_cons.1 a1 with e | e
      · exact e
      · rcases List.mem_cons.1 a2 with e2 | e2
        · exact e2.symm
        · have p1 := (List.pairwise_cons.1 h2).1 x e
          have p2 := (List.pairwise_cons.1 h1).1 y e2
          apply Classical.byContradiction
          intro hne
          exact p1 (ltR_of_not p2 (fun e => hne e.symm))
    subst hx
    congr 1
    refine asc_ext (List.pairwise_cons.1 h1).2 (List.pairwise_cons.1 h2).2 fun r => ?_
    have := h r
    simp only [List.count_cons] at this
    omega

/-! The reference's lists. -/
/-- Put. -/
def putL : List Rw → Rw → List Rw
  | [], r => [r]
  | x :: l, r => if ltR r x then r :: x :: l else x :: putL l r
/-- Drop: the first occurrence goes. -/
def dropL : List Rw → Rw → List Rw
  | [], _ => []
  | x :: l, r => if x = r then l else x :: dropL l r
def ofL (l : List Rw) : List Rw := l.foldl putL []
def minusL (a b : List Rw) : List Rw := b.foldl dropL a

theorem count_putL (l : List Rw) (r x : Rw) : (putL l r).count x = l.count x + (if r = x then 1 else 0) := by
  induction l with
  | nil => simp [putL, List.count_cons]
  | cons y l ih =>
    rw [putL]
    split
    · simp [List.count_cons]
    · simp only [List.count_cons, ih]; omega
theorem mem_putL {l : List Rw} {r x : Rw} : x ∈ putL l r ↔ x = r ∨ x ∈ l := by
  induction l with
  | nil => simp [putL]
  | cons y l ih =>
    rw [putL]
    split
    · simp
    · simp only [List.mem_cons, ih]
      constructor
      · rintro (h | h | h)
        · exact .inr (.inl h)
        · exact .inl h
        · exact .inr (.inr h)
      · rintro (h | h | h)
        · exact .inr (.inl h)
        · exact .inl h
        · exact .inr (.inr h)
theorem asc_putL {l : List Rw} (h : Asc l) (r : Rw) : Asc (putL l r) := by
  induction l with
  | nil => simp [putL, Asc]
  | cons y l ih =>
    have hy := List.pairwise_cons.1 h
    rw [putL]
    split
    · rename_i hlt
      refine List.pairwise_cons.2 ⟨fun z hz => ?_, h⟩
      rcases List.mem_cons.1 hz with rfl | hz
      · exact ltR_asymm hlt
      · intro hzr
        exact hy.1 z hz (ltR_trans hzr hlt)
    · rename_i hn
      refine List.pairwise_cons.2 ⟨fun z hz => ?_, ih hy.2⟩
      rcases mem_putL.1 hz with rfl | hz
      · exact hn
      · exact hy.1 z hz
theorem length_putL (l : List Rw) (r : Rw) : (putL l r).length = l.length + 1 := by
  induction l with
  | nil => rfl
  | cons y l ih => rw [putL]; split <;> simp [ih]
theorem count_dropL (l : List Rw) (r x : Rw) : (dropL l r).count x = l.count x - (if r = x then 1 else 0) := by
  induction l with
  | nil => simp [dropL]
  | cons y l ih =>
    rw [dropL]
    split
    · rename_i h
      subst h
      simp only [List.count_cons, beq_iff_eq]
      split <;> omega
    · rename_i h
      simp only [List.count_cons, ih, beq_iff_eq]
      by_cases h1 : y = x
      · have : ¬ r = x := fun e => h (by rw [h1, e])
        simp [h1, this]
      · simp [h1]
theorem mem_dropL {l : List Rw} {r x : Rw} (h : x ∈ dropL l r) : x ∈ l := by
  induction l with
  | nil => exact h
  | cons y l ih =>
    rw [dropL] at h
    split at h
    · exact List.mem_cons_of_mem _ h
    · rcases List.mem_cons.1 h with h | h
      · exact List.mem_cons.2 (.inl h)
      · exact List.mem_cons.2 (.inr (ih h))
theorem asc_dropL {l : List Rw} (h : Asc l) (r : Rw) : Asc (dropL l r) := by
  induction l with
  | nil => exact h
  | cons y l ih =>
    have hy := List.pairwise_cons.1 h
    rw [dropL]
    split
    · exact hy.2
    · exact List.pairwise_cons.2 ⟨fun z hz => hy.1 z (mem_dropL hz), ih hy.2⟩
theorem asc_ofL (l : List Rw) : Asc (ofL l) := by
  unfold ofL
  have : ∀ (l a : List Rw), Asc a → Asc (l.foldl putL a) := by
    intro l
    induction l with
    | nil => intro a h; exact h
    | cons x l ih => intro a h; exact ih _ (asc_putL h x)
  exact this l [] List.Pairwise.nil
theorem count_foldPut (l a : List Rw) (x : Rw) : (l.foldl putL a).count x = a.count x + l.count x := by
  induction l generalizing a with
  | nil => simp
  | cons y l ih =>
    rw [List.foldl_cons, ih, count_putL, List.count_cons]
    simp only [beq_iff_eq]
    omega
theorem count_ofL (l : List Rw) (x : Rw) : (ofL l).count x = l.count x := by
  unfold ofL
  rw [count_foldPut]
  simp
theorem asc_minusL {a : List Rw} (h : Asc a) (b : List Rw) : Asc (minusL a b) := by
  unfold minusL
  induction b generalizing a with
  | nil => exact h
  | cons x b ih => exact ih (asc_dropL h x)
theorem count_minusL (a b : List Rw) (x : Rw) : (minusL a b).count x = a.count x - b.count x := by
  unfold minusL
  induction b generalizing a with
  | nil => simp
  | cons y b ih =>
    rw [List.foldl_cons, ih, count_dropL, List.count_cons]
    simp only [beq_iff_eq]
    omega
end Go.Proofs.Ytekoemcckdhhnaa
