/- Plain: what the reference's Type knows of an expression: well-typed values and conditions; that they have a value. -/
import Derived.Test.YtgaeabodofabmaaDoorSem
namespace Go.Proofs.YtgaeabodofabmaaDoor
open Go.RowKit

/-- A value of a type, or NULL. -/
def Vl.Of (t : Int) (v : Vl) : Prop := (v.kind = 0 ∧ v.int = 0 ∧ v.text = ⟨#[]⟩) ∨ (v.kind = 1 ∧ t = 1 ∧ v.text = ⟨#[]⟩) ∨ (v.kind = 2 ∧ t = 2 ∧ v.int = 0 ∧ v.text.size ≤ 16)

/-- A well-typed value expression over columns of the types L. -/
inductive VT (L : List Int) : Int → Ex → Prop where
  | lit (t : Int) (tb nm : ByteArray) (ix : Int) (v : Vl) (h : v.Of t) : VT L t (.mk 1 tb nm ix v [])
  | col (t : Int) (tb nm : ByteArray) (i : Nat) (v : Vl) (h : L[i]? = some t) : VT L t (.mk 2 tb nm i v [])
  | neg (tb nm : ByteArray) (ix : Int) (v : Vl) (A : Ex) (hA : VT L 1 A) : VT L 1 (.mk 3 tb nm ix v [A])
  | len (tb nm : ByteArray) (ix : Int) (v : Vl) (A : Ex) (hA : VT L 2 A) : VT L 1 (.mk 9 tb nm ix v [A])
  | bin (op : Int) (hop : op = 4 ∨ op = 5 ∨ op = 6) (tb nm : ByteArray) (ix : Int) (v : Vl) (A B : Ex) (hA : VT L 1 A) (hB : VT L 1 B) : VT L 1 (.mk op tb nm ix v [A, B])
  | div (op : Int) (hop : op = 7 ∨ op = 8) (tb nm : ByteArray) (ix : Int) (v : Vl) (A B : Ex) (d : Vl) (hA : VT L 1 A) (hB : VT L 1 B) (hc : B.cols = false) (hd : Ex.value [] B = some d) (hk : d.kind = 1) (h1 : 1 ≤ d.int) (h2 : d.int ≤ 1000) : VT L 1 (.mk op tb nm ix v [A, B])

/-- A well-typed condition. -/
inductive CT (L : List Int) : Ex → Prop where
  | null (tb nm : ByteArray) (ix : Int) (v : Vl) : CT L (.mk 1 tb nm ix v [])
  | cmp (op : Int) (hop : 10 ≤ op ∧ op ≤ 16) (t : Int) (tb nm : ByteArray) (ix : Int) (v : Vl) (A B : Ex) (hA : VT L t A) (hB : VT L t B) : CT L (.mk op tb nm ix v [A, B])
  | isnull (t : Int) (tb nm : ByteArray) (ix : Int) (v : Vl) (A : Ex) (hA : VT L t A) : CT L (.mk 17 tb nm ix v [A])
  | and (tb nm : ByteArray) (ix : Int) (v : Vl) (A B : Ex) (hA : CT L A) (hB : CT L B) : CT L (.mk 18 tb nm ix v [A, B])
  | or (tb nm : ByteArray) (ix : Int) (v : Vl) (A B : Ex) (hA : CT L A) (hB : CT L B) : CT L (.mk 19 tb nm ix v [A, B])
  | not (tb nm : ByteArray) (ix : Int) (v : Vl) (A : Ex) (hA : CT L A) : CT L (.mk 20 tb nm ix v [A])

/-- What a type number t says of an expression. -/
def Good (L : List Int) (t : Int) (E : Ex) : Prop :=
  (t = 0 → VT L 1 E ∧ VT L 2 E ∧ CT L E ∧ E.op = 1) ∧ (t = 1 → VT L 1 E) ∧ (t = 2 → VT L 2 E) ∧ (t = 3 → CT L E) ∧ (1 ≤ t → E.op = 1 → t ≠ 3)

/-- A row of values of the types L. -/
def RowOf (L : List Int) (R : List Vl) : Prop := R.length = L.length ∧ ∀ i (h : i < R.length) (h' : i < L.length), R[i].Of L[i]

/-- Without columns the row does not matter. -/
theorem value_nocols (R : List Vl) (m : Nat) : ∀ E : Ex, SizeOf.sizeOf E ≤ m → E.cols = false → Ex.value R E = Ex.value [] E := by
  induction m with
  | zero => intro E h; cases E; simp at h
  | succ m ih =>
    rintro ⟨op, tb, nm, ix, v, args⟩ hm hc
    have hl : ∀ l : List Ex, (∀ E ∈ l, SizeOf.sizeOf E ≤ m) → Ex.colsL l = false → Ex.values R l = Ex.values [] l := by
      intro l
      induction l with
      | nil => intro _ _; rfl
      | cons e l ihl =>
        intro hs hcl
        simp only [Ex.colsL, Bool.or_eq_false_iff] at hcl
        rw [Ex.values, Ex.values, ih e (hs e (by simp)) hcl.1, ihl (fun E hE => hs E (by simp [hE])) hcl.2]
    simp only [Ex.cols, Bool.or_eq_false_iff, beq_eq_false_iff_ne] at hc
    simp only [Ex.value, if_neg hc.1]
    rw [hl args (fun E hE => by have := List.sizeOf_lt_of_mem hE; simp at hm; omega) hc.2]

theorem of_null (t : Int) : Vl.null.Of t := .inl ⟨rfl, rfl, rfl⟩
theorem of_int (n : Int) : (⟨1, n, ⟨#[]⟩⟩ : Vl).Of 1 := .inr (.inl ⟨rfl, rfl, rfl⟩)

/-- **A well-typed value expression has a value, of its type.** -/
theorem vt_value {L : List Int} {R : List Vl} (hR : RowOf L R) {t : Int} {E : Ex} (h : VT L t E) : ∃ v, Ex.value R E = some v ∧ v.Of t := by
  induction h with
  | lit t tb nm ix v h => exact ⟨v, by simp [Ex.value], h⟩
  | col t tb nm i v h =>
    obtain ⟨hi, rfl⟩ := List.getElem?_eq_some_iff.1 h
    have hi' : i < R.length := by rw [hR.1]; exact hi
    exact ⟨R[i], by simp [Ex.value, hi'], hR.2 i hi' hi⟩
  | neg tb nm ix v A hA ih =>
    obtain ⟨a, ha, hof⟩ := ih
    by_cases h0 : a.kind = 0
    · exact ⟨Vl.null, by simp [Ex.value, Ex.values, ha, h0], of_null _⟩
    · exact ⟨⟨1, wrap64 (-a.int), ⟨#[]⟩⟩, by simp [Ex.value, Ex.values, ha, h0, computeS], of_int _⟩
  | len tb nm ix v A hA ih =>
    obtain ⟨a, ha, hof⟩ := ih
    by_cases h0 : a.kind = 0
    · exact ⟨Vl.null, by simp [Ex.value, Ex.values, ha, h0], of_null _⟩
    · exact ⟨⟨1, a.text.size, ⟨#[]⟩⟩, by simp [Ex.value, Ex.values, ha, h0, computeS], of_int _⟩
  | bin op hop tb nm ix v A B hA hB ihA ihB =>
    obtain ⟨a, ha, _⟩ := ihA
    obtain ⟨b, hb, _⟩ := ihB
    by_cases h0 : a.kind = 0
    · rcases hop with rfl | rfl | rfl <;> exact ⟨Vl.null, by simp [Ex.value, Ex.values, ha, h0], of_null _⟩
    by_cases h1 : b.kind = 0
    · rcases hop with rfl | rfl | rfl <;> exact ⟨Vl.null, by simp [Ex.value, Ex.values, ha, hb, h1], of_null _⟩
    rcases hop with rfl | rfl | rfl
    · exact ⟨⟨1, wrap64 (a.int + b.int), ⟨#[]⟩⟩, by simp [Ex.value, Ex.values, ha, h0, hb, h1, computeS], of_int _⟩
    · exact ⟨⟨1, wrap64 (a.int - b.int), ⟨#[]⟩⟩, by simp [Ex.value, Ex.values, ha, h0, hb, h1, computeS], of_int _⟩
    · exact ⟨⟨1, wrap64 (a.int * b.int), ⟨#[]⟩⟩, by simp [Ex.value, Ex.values, ha, h0, hb, h1, computeS], of_int _⟩
  | div op hop tb nm ix v A B d hA hB hc hd hk h1 h2 ihA ihB =>
    obtain ⟨a, ha, _⟩ := ihA
    have hb : Ex.value R B = some d := by rw [value_nocols R _ B (Nat.le_refl _) hc]; exact hd
    have hd0 : ¬ d.kind = 0 := by omega
    have hd1 : ¬ d.int ≤ 0 := by omega
    by_cases h0 : a.kind = 0
    · rcases hop with rfl | rfl <;> exact ⟨Vl.null, by simp [Ex.value, Ex.values, ha, h0], of_null _⟩
    rcases hop with rfl | rfl
    · exact ⟨⟨1, floorS a.int d.int, ⟨#[]⟩⟩, by simp [Ex.value, Ex.values, ha, h0, hb, hd0, hd1, computeS], of_int _⟩
    · exact ⟨⟨1, wrap64 (a.int - wrap64 (d.int * floorS a.int d.int)), ⟨#[]⟩⟩, by simp [Ex.value, Ex.values, ha, h0, hb, hd0, hd1, computeS], of_int _⟩

/-- **A well-typed condition has a truth value.** -/
theorem ct_cond {L : List Int} {R : List Vl} (hR : RowOf L R) {E : Ex} (h : CT L E) : ∃ x, Ex.cond R E = some x := by
  induction h with
  | null tb nm ix v => exact ⟨.u, by simp [Ex.cond]⟩
  | cmp op hop t tb nm ix v A B hA hB =>
    obtain ⟨a, ha, ta⟩ := vt_value hR hA
    obtain ⟨b, hb, tb'⟩ := vt_value hR hB
    have sa : a.text.size ≤ 2000000000000 := by
      rcases ta with ⟨_, _, h⟩ | ⟨_, _, h⟩ | ⟨_, _, _, h⟩
      · rw [h]; decide
      · rw [h]; decide
      · omega
    have sb : b.text.size ≤ 2000000000000 := by
      rcases tb' with ⟨_, _, h⟩ | ⟨_, _, h⟩ | ⟨_, _, _, h⟩
      · rw [h]; decide
      · rw [h]; decide
      · omega
    have hx : ∃ x, compS op a b = some x := by
      unfold compS
      split
      · exact ⟨_, rfl⟩
      · split
        · rw [if_pos ⟨sa, sb⟩]; exact ⟨_, rfl⟩
        · exact ⟨_, rfl⟩
    obtain ⟨x, hx⟩ := hx
    refine ⟨x, ?_⟩
    rw [Ex.cond.eq_def]
    simp only
    rw [if_neg (by omega), if_neg (by omega), if_neg (by omega), if_neg (by omega), if_neg (by omega), ha, hb]
    exact hx
  | isnull t tb nm ix v A hA =>
    obtain ⟨a, ha, _⟩ := vt_value hR hA
    exact ⟨T3.of (a.kind == 0), by simp [Ex.cond, ha]⟩
  | and tb nm ix v A B _ _ ihA ihB =>
    obtain ⟨x, hx⟩ := ihA
    obtain ⟨y, hy⟩ := ihB
    exact ⟨x.and y, by simp [Ex.cond, hx, hy]⟩
  | or tb nm ix v A B _ _ ihA ihB =>
    obtain ⟨x, hx⟩ := ihA
    obtain ⟨y, hy⟩ := ihB
    exact ⟨x.or y, by simp [Ex.cond, hx, hy]⟩
  | not tb nm ix v A _ ihA =>
    obtain ⟨x, hx⟩ := ihA
    exact ⟨x.not, by simp [Ex.cond, hx]⟩
end Go.Proofs.YtgaeabodofabmaaDoor
