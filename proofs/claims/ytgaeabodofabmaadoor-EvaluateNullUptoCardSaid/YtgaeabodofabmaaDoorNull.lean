/- Plain: the columns of an expression; an integer or text expression with a column that is NULL is NULL. -/
import Derived.Test.YtgaeabodofabmaaDoorTyped
namespace Go.Proofs.YtgaeabodofabmaaDoor

mutual
/-- The columns of an expression, in the order of the text. -/
def Ex.colList : Ex → List Ex
  | .mk op tb nm ix v args => if op = 2 then [.mk op tb nm ix v args] else Ex.colListL args
def Ex.colListL : List Ex → List Ex
  | [] => []
  | e :: es => Ex.colList e ++ Ex.colListL es
end
theorem colListL_append (a b : List Ex) : Ex.colListL (a ++ b) = Ex.colListL a ++ Ex.colListL b := by
  induction a with
  | nil => simp [Ex.colListL]
  | cons x l ih => simp [Ex.colListL, ih]

/-- Some column of the list is NULL in the row. -/
def nullIn (R : List Vl) (l : List Ex) : Bool := l.any fun c => decide (0 ≤ c.index) && decide (c.index < R.length) && ((R.getD c.index.toNat Vl.null).kind == 0)
theorem nullIn_append (R : List Vl) (a b : List Ex) : nullIn R (a ++ b) = (nullIn R a || nullIn R b) := by simp [nullIn]

/-- Every column of a typed expression lies in the row. -/
theorem vt_cols {L : List Int} {t : Int} {E : Ex} (h : VT L t E) : ∀ c ∈ E.colList, ∃ i : Nat, c.index = i ∧ i < L.length := by
  induction h with
  | lit t tb nm ix v h => intro c hc; simp [Ex.colList, Ex.colListL] at hc
  | col t tb nm i v h =>
    intro c hc
    simp [Ex.colList] at hc
    subst hc
    exact ⟨i, rfl, (List.getElem?_eq_some_iff.1 h).1⟩
  | neg tb nm ix v A hA ih => intro c hc; simp [Ex.colList, Ex.colListL] at hc; exact ih c hc
  | len tb nm ix v A hA ih => intro c hc; simp [Ex.colList, Ex.colListL] at hc; exact ih c hc
  | bin op hop tb nm ix v A B hA hB ihA ihB =>
    intro c hc
    have h2 : ¬ op = 2 := by omega
    simp [Ex.colList, Ex.colListL, h2] at hc
    exact hc.elim (ihA c) (ihB c)
  | div op hop tb nm ix v A B d hA hB hcc hd hk h1 h2' ihA ihB =>
    intro c hc
    have h2 : ¬ op = 2 := by omega
    simp [Ex.colList, Ex.colListL, h2] at hc
    exact hc.elim (ihA c) (ihB c)

/-- **A NULL column makes the value NULL.** -/
theorem value_null {L : List Int} {R : List Vl} (hR : RowOf L R) {t : Int} {E : Ex} (h : VT L t E) : nullIn R E.colList = true → Ex.value R E = some Vl.null := by
  induction h with
  | lit t tb nm ix v h => intro hn; simp [Ex.colList, Ex.colListL, nullIn] at hn
  | col t tb nm i v h =>
    intro hn
    obtain ⟨hi, hti⟩ := List.getElem?_eq_some_iff.1 h
    have hi' : i < R.length := by rw [hR.1]; exact hi
    simp [Ex.colList, nullIn, Ex.index, hi'] at hn
    have hof := hR.2 i hi' hi
    have : R[i] = Vl.null := by
      rcases hof with ⟨h1, h2, h3⟩ | ⟨h1, _⟩ | ⟨h1, _⟩
      · generalize R[i] = u at *
        obtain ⟨k, n, tx⟩ := u
        simp only at h1 h2 h3
        subst h1 h2 h3
        rfl
      · rw [h1] at hn; omega
      · rw [h1] at hn; omega
    simp [Ex.value, hi', this]
  | neg tb nm ix v A hA ih =>
    intro hn
    simp [Ex.colList, Ex.colListL] at hn
    simp [Ex.value, Ex.values, ih hn, Vl.null]
  | len tb nm ix v A hA ih =>
    intro hn
    simp [Ex.colList, Ex.colListL] at hn
    simp [Ex.value, Ex.values, ih hn, Vl.null]
  | bin op hop tb nm ix v A B hA hB ihA ihB =>
    intro hn
    have h1 : ¬ op = 1 := by omega
    have h2 : ¬ op = 2 := by omega
    simp [Ex.colList, Ex.colListL, h2, nullIn_append] at hn
    obtain ⟨a, ha, _⟩ := vt_value hR hA
    by_cases hz : a.kind = 0
    · simp [Ex.value, Ex.values, ha, hz, h1, h2]
    · rcases hn with hn | hn
      · rw [ihA hn] at ha
        cases ha
        exact absurd rfl hz
      · simp [Ex.value, Ex.values, ha, ihB hn, h1, h2, Vl.null]
  | div op hop tb nm ix v A B d hA hB hcc hd hkk h1' h2' ihA ihB =>
    intro hn
    have h1 : ¬ op = 1 := by omega
    have h2 : ¬ op = 2 := by omega
    simp [Ex.colList, Ex.colListL, h2, nullIn_append] at hn
    obtain ⟨a, ha, _⟩ := vt_value hR hA
    by_cases hz : a.kind = 0
    · simp [Ex.value, Ex.values, ha, hz, h1, h2]
    · rcases hn with hn | hn
      · rw [ihA hn] at ha
        cases ha
        exact absurd rfl hz
      · simp [Ex.value, Ex.values, ha, ihB hn, h1, h2, Vl.null]
end Go.Proofs.YtgaeabodofabmaaDoor
