/- The reference's Value at any well-typed expression: it returns Ex.value. -/
import Derived.Test.YtgaeabodofabmaaDoorR5
import Derived.Test.YtgaeabodofabmaaDoorR6
namespace Go.Proofs.YtgaeabodofabmaaDoor
open Go.RowKit

theorem row_exists (L : List Int) : ∃ R, RowOf L R := ⟨L.map fun _ => Vl.null, by simp, fun i h h' => by simp only [List.getElem_map]; exact of_null _⟩

theorem vt_value' {L : List Int} {R : List Vl} {t : Int} {E : Ex} (hR : RowOf L R ∨ E.cols = false) (h : VT L t E) : ∃ v, Ex.value R E = some v ∧ v.Of t := by
  rcases hR with hR | hc
  · exact vt_value hR h
  · obtain ⟨R0, hR0⟩ := row_exists L
    obtain ⟨v, hv, ho⟩ := vt_value hR0 h
    refine ⟨v, ?_, ho⟩
    rw [value_nocols R _ E (Nat.le_refl _) hc, ← value_nocols R0 _ E (Nat.le_refl _) hc]
    exact hv

/-- **The reference's Value is Ex.value.** -/
theorem rv_all {L : List Int} {R : List Vl} {t : Int} {E : Ex} (hR : RowOf L R ∨ E.cols = false) (h : VT L t E) : ∃ v, Ex.value R E = some v ∧ v.Of t ∧ RvAt R E v := by
  induction h with
  | lit t tb nm ix v h => exact ⟨v, by simp [Ex.value], h, rv_lit tb nm ix v [] R⟩
  | col t tb nm i v h =>
    rcases hR with hR | hR
    · obtain ⟨hi, rfl⟩ := List.getElem?_eq_some_iff.1 h
      have hi' : i < R.length := by rw [hR.1]; exact hi
      exact ⟨R[i], by simp [Ex.value, hi'], hR.2 i hi' hi, rv_col tb nm i v R[i] [] R (by simp [hi'])⟩
    · simp [Ex.cols] at hR
  | neg tb nm ix v A hA ih =>
    obtain ⟨a, ha, hof, hrv⟩ := ih (hR.imp_right fun h => by simpa [Ex.cols, Ex.colsL] using h)
    have hw := rv_neg tb nm ix v A [] R a _ hrv rfl
    by_cases h0 : a.kind = 0
    · exact ⟨Vl.null, by simp [Ex.value, Ex.values, ha, h0], of_null _, by rw [if_pos h0] at hw; exact hw⟩
    · exact ⟨⟨1, wrap64 (-a.int), ⟨#[]⟩⟩, by simp [Ex.value, Ex.values, ha, h0, computeS], of_int _, by rw [if_neg h0] at hw; exact hw⟩
  | len tb nm ix v A hA ih =>
    obtain ⟨a, ha, hof, hrv⟩ := ih (hR.imp_right fun h => by simpa [Ex.cols, Ex.colsL] using h)
    have hw := rv_len tb nm ix v A [] R a _ hrv rfl
    by_cases h0 : a.kind = 0
    · exact ⟨Vl.null, by simp [Ex.value, Ex.values, ha, h0], of_null _, by rw [if_pos h0] at hw; exact hw⟩
    · exact ⟨⟨1, a.text.size, ⟨#[]⟩⟩, by simp [Ex.value, Ex.values, ha, h0, computeS], of_int _, by rw [if_neg h0] at hw; exact hw⟩
  | bin op hop tb nm ix v A B hA hB ihA ihB =>
    have hop2 : (op == 2) = false := by rcases hop with rfl | rfl | rfl <;> rfl
    obtain ⟨a, ha, _, hra⟩ := ihA (hR.imp_right fun h => by simp [Ex.cols, Ex.colsL, hop2] at h; exact h.1)
    obtain ⟨b, hb, _, hrb⟩ := ihB (hR.imp_right fun h => by simp [Ex.cols, Ex.colsL, hop2] at h; exact h.2)
    by_cases h0 : a.kind = 0
    · rcases hop with rfl | rfl | rfl
      · exact ⟨Vl.null, by simp [Ex.value, Ex.values, ha, h0], of_null _, rv_add tb nm ix v A B [] R a b _ hra hrb (by rw [if_pos h0])⟩
      · exact ⟨Vl.null, by simp [Ex.value, Ex.values, ha, h0], of_null _, rv_sub tb nm ix v A B [] R a b _ hra hrb (by rw [if_pos h0])⟩
      · exact ⟨Vl.null, by simp [Ex.value, Ex.values, ha, h0], of_null _, rv_mul tb nm ix v A B [] R a b _ hra hrb (by rw [if_pos h0])⟩
    by_cases h1 : b.kind = 0
    · rcases hop with rfl | rfl | rfl
      · exact ⟨Vl.null, by simp [Ex.value, Ex.values, ha, hb, h1], of_null _, rv_add tb nm ix v A B [] R a b _ hra hrb (by rw [if_neg h0, if_pos h1])⟩
      · exact ⟨Vl.null, by simp [Ex.value, Ex.values, ha, hb, h1], of_null _, rv_sub tb nm ix v A B [] R a b _ hra hrb (by rw [if_neg h0, if_pos h1])⟩
      · exact ⟨Vl.null, by simp [Ex.value, Ex.values, ha, hb, h1], of_null _, rv_mul tb nm ix v A B [] R a b _ hra hrb (by rw [if_neg h0, if_pos h1])⟩
    rcases hop with rfl | rfl | rfl
    · exact ⟨⟨1, wrap64 (a.int + b.int), ⟨#[]⟩⟩, by simp [Ex.value, Ex.values, ha, h0, hb, h1, computeS], of_int _, rv_add tb nm ix v A B [] R a b _ hra hrb (by rw [if_neg h0, if_neg h1])⟩
    · exact ⟨⟨1, wrap64 (a.int - b.int), ⟨#[]⟩⟩, by simp [Ex.value, Ex.values, ha, h0, hb, h1, computeS], of_int _, rv_sub tb nm ix v A B [] R a b _ hra hrb (by rw [if_neg h0, if_neg h1])⟩
    · exact ⟨⟨1, wrap64 (a.int * b.int), ⟨#[]⟩⟩, by simp [Ex.value, Ex.values, ha, h0, hb, h1, computeS], of_int _, rv_mul tb nm ix v A B [] R a b _ hra hrb (by rw [if_neg h0, if_neg h1])⟩
  | div op hop tb nm ix v A B d hA hB hc hd hk h1 h2 ihA ihB =>
    have hop2 : (op == 2) = false := by rcases hop with rfl | rfl <;> rfl
    obtain ⟨a, ha, _, hra⟩ := ihA (hR.imp_right fun h => by simp [Ex.cols, Ex.colsL, hop2] at h; exact h.1)
    obtain ⟨b, hb, _, hrb⟩ := ihB (.inr hc)
    have hbd : Ex.value R B = some d := by rw [value_nocols R _ B (Nat.le_refl _) hc]; exact hd
    obtain rfl : b = d := by rw [hb] at hbd; exact Option.some.inj hbd
    have hd0 : ¬ b.kind = 0 := by omega
    have hd1 : ¬ b.int ≤ 0 := by omega
    have hd2 : RowKit.Hid (0 < b.int) := by show _ < _; omega
    by_cases h0 : a.kind = 0
    · rcases hop with rfl | rfl
      · exact ⟨Vl.null, by simp [Ex.value, Ex.values, ha, h0], of_null _, rv_div tb nm ix v A B [] R a b _ hra hrb hd2 (by rw [if_pos h0])⟩
      · exact ⟨Vl.null, by simp [Ex.value, Ex.values, ha, h0], of_null _, rv_mod tb nm ix v A B [] R a b _ hra hrb hd2 (by rw [if_pos h0])⟩
    rcases hop with rfl | rfl
    · exact ⟨⟨1, floorS a.int b.int, ⟨#[]⟩⟩, by simp [Ex.value, Ex.values, ha, h0, hb, hd0, hd1, computeS], of_int _, rv_div tb nm ix v A B [] R a b _ hra hrb hd2 (by rw [if_neg h0, if_neg hd0])⟩
    · exact ⟨⟨1, wrap64 (a.int - wrap64 (b.int * floorS a.int b.int)), ⟨#[]⟩⟩, by simp [Ex.value, Ex.values, ha, h0, hb, hd0, hd1, computeS], of_int _, rv_mod tb nm ix v A B [] R a b _ hra hrb hd2 (by rw [if_neg h0, if_neg hd0])⟩
end Go.Proofs.YtgaeabodofabmaaDoor
