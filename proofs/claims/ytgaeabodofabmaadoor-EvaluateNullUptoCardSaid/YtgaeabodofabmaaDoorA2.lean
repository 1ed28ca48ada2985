import Derived.Test.YtgaeabodofabmaaDoorA1
import Derived.Test.YtgaeabodofabmaaDoorSem
namespace Go.Proofs.YtgaeabodofabmaaDoor
open Go.RowKit

theorem and_calls (a b : T3) (w : World) (ht : Tab w) : Calls Tryd.prog 33 #[a.val, b.val] w fun e w' => e = .returned (a.and b).val ∧ w = w' := by
  obtain ⟨h0, h1, h2⟩ := ht
  cases a <;> cases b <;> (
    simp only [T3.val, T3.num, T3.and]
    go_enter Tryd.func33, Tryd.ntmps33
    go_wp2_with (first | (go_at_call 52; refine (rank_calls _ _).mono ?_; rintro e w' ⟨rfl, rfl⟩))
    go_ret
    exact ⟨rfl, rfl⟩)
theorem or_calls (a b : T3) (w : World) (ht : Tab w) : Calls Tryd.prog 34 #[a.val, b.val] w fun e w' => e = .returned (a.or b).val ∧ w = w' := by
  obtain ⟨h0, h1, h2⟩ := ht
  cases a <;> cases b <;> (
    simp only [T3.val, T3.num, T3.or]
    go_enter Tryd.func34, Tryd.ntmps34
    go_wp2_with (first | (go_at_call 52; refine (rank_calls _ _).mono ?_; rintro e w' ⟨rfl, rfl⟩))
    go_ret
    exact ⟨rfl, rfl⟩)
theorem not_calls (a : T3) (w : World) (ht : Tab w) : Calls Tryd.prog 35 #[a.val] w fun e w' => e = .returned (a.not).val ∧ w = w' := by
  obtain ⟨h0, h1, h2⟩ := ht
  cases a <;> (
    simp only [T3.val, T3.num, T3.not]
    go_enter Tryd.func35, Tryd.ntmps35
    go_wp2_with (first | (go_at_call 52; refine (rank_calls _ _).mono ?_; rintro e w' ⟨rfl, rfl⟩))
    go_ret
    exact ⟨rfl, rfl⟩)
theorem of_calls (b : Bool) (w : World) : Calls Tryd.prog 36 #[.bool b] w fun e w' => e = .returned (T3.of b).val ∧ w = w' := by
  cases b <;> (
    simp only [T3.val, T3.num, T3.of]
    go_enter Tryd.func36, Tryd.ntmps36
    go_wp2
    go_ret
    exact ⟨rfl, rfl⟩)
theorem holds_calls (op n : Int) (w : World) : Calls Tryd.prog 37 #[.int .i64 op, .int .i64 n] w fun e w' => e = .returned (.bool (holdsS op n)) ∧ w = w' := by
  unfold holdsS
  go_enter Tryd.func37, Tryd.ntmps37
  go_wp2
  all_goals go_ret
  all_goals simp_all
theorem floor_calls (a b : Int) (hb : 0 < b) (w : World) : Calls Tryd.prog 51 #[.int .i64 a, .int .i64 b] w fun e w' => e = .returned (.int .i64 (floorS a b)) ∧ w = w' := by
  unfold floorS
  go_enter Tryd.func51, Tryd.ntmps51
  go_wp2
  all_goals go_ret
  all_goals exact ⟨rfl, rfl⟩
theorem rfloor_calls (a b : Int) (hb : 0 < b) (w : World) : Calls Tryd.prog 32 #[.int .i64 a, .int .i64 b] w fun e w' => e = .returned (.int .i64 (floorS a b)) ∧ w = w' := by
  have h1 := Int.tmod_nonneg b (a := a)
  have h2 : a ≤ 0 → a.tmod b ≤ 0 := fun h => by
    have := Int.tmod_nonneg b (a := -a) (by omega)
    rw [Int.neg_tmod] at this
    omega
  by_cases ha : a < 0
  · by_cases h0 : a.tmod b = 0
    · have hf : floorS a b = wrap64 (a.tdiv b) := by unfold floorS; rw [if_neg (by omega)]
      rw [hf]
      clear h1 h2 hf
      have h3 : (a.tmod b != 0) = false := by simp [h0]
      go_enter Tryd.func32, Tryd.ntmps32
      go_wp2
      all_goals go_ret
      all_goals exact ⟨rfl, rfl⟩
    · have hf : floorS a b = wrap64 (wrap64 (a.tdiv b) - 1) := by unfold floorS; rw [if_pos (by have := h2 (by omega); omega)]
      rw [hf]
      clear h1 h2 hf
      have h3 : (a.tmod b != 0) = true := by simp [h0]
      clear h0
      have h4 : ¬ b < 0 := by omega
      have h5 : (decide (a < 0) != decide (b < 0)) = true := by simp [ha, h4]
      go_enter Tryd.func32, Tryd.ntmps32
      go_wp2
      all_goals go_ret
      all_goals exact ⟨rfl, rfl⟩
  · have hf : floorS a b = wrap64 (a.tdiv b) := by unfold floorS; rw [if_neg (by have := h1 (by omega); omega)]
    rw [hf]
    clear h1 h2 hf
    have h4 : ¬ b < 0 := by omega
    have h5 : (decide (a < 0) != decide (b < 0)) = false := by simp [ha, h4]
    go_enter Tryd.func32, Tryd.ntmps32
    go_wp2
    all_goals go_ret
    all_goals exact ⟨rfl, rfl⟩
end Go.Proofs.YtgaeabodofabmaaDoor
