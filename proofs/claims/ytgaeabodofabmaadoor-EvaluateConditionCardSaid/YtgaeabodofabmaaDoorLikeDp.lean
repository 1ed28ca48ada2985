/- Plain: the rows of the reference's Like: whether the first k bytes of a pattern match the first i bytes of a text. -/
import Derived.Test.YtgaeabodofabmaaDoorLikeLaw
namespace Go.Proofs.YtgaeabodofabmaaDoor
open Go.RowKit

/-- The first k bytes of p match the first i bytes of t. -/
noncomputable def fitB (p t : List UInt8) (k i : Nat) : Bool := @decide (lkP (p.take k) (t.take i)) (Classical.propDecidable _)
theorem fitB_iff {p t : List UInt8} {k i : Nat} : fitB p t k i = true ↔ lkP (p.take k) (t.take i) := by unfold fitB; simp
/-- The row of the first k bytes of the pattern, as far as place i; the rest is false. -/
noncomputable def dpTo (p t : List UInt8) (k i : Nat) : List Bool := ((List.range i).map fun j => fitB p t k j) ++ List.replicate (t.length + 1 - i) false
theorem length_dpTo (p t : List UInt8) (k i : Nat) (h : i ≤ t.length + 1) : (dpTo p t k i).length = t.length + 1 := by simp [dpTo]; omega
theorem dpTo_get (p t : List UInt8) (k i j : Nat) (h : j < i) : (dpTo p t k i).getD j false = fitB p t k j := by
  unfold dpTo
  rw [List.getD_eq_getElem?_getD, List.getElem?_append_left (by simpa using h)]
  simp [h]
theorem dpTo_zero (p t : List UInt8) (k : Nat) : dpTo p t k 0 = List.replicate (t.length + 1) false := by simp [dpTo]
theorem dpTo_set (p t : List UInt8) (k i : Nat) (h : i < t.length + 1) : (dpTo p t k i).set i (fitB p t k i) = dpTo p t k (i + 1) := by
  unfold dpTo
  rw [List.set_append_right _ _ (by simp)]
  rw [List.range_succ, List.map_append, List.append_assoc]
  congr 1
  simp only [List.length_map, List.length_range, Nat.sub_self]
  rw [show t.length + 1 - i = (t.length + 1 - (i + 1)) + 1 by omega, List.replicate_succ]
  rfl
theorem dpTo_off (p t : List UInt8) (k i : Nat) (h : i < t.length + 1) (hf : fitB p t k i = false) : dpTo p t k (i + 1) = dpTo p t k i := by
  unfold dpTo
  rw [List.range_succ, List.map_append, List.append_assoc]
  congr 1
  rw [show t.length + 1 - i = (t.length + 1 - (i + 1)) + 1 by omega, List.replicate_succ]
  simp [hf]

theorem lk_nil (t : List UInt8) (i : Nat) (hi : i ≤ t.length) : fitB [] t 0 i = decide (i = 0) := by
  rw [Bool.eq_iff_iff, fitB_iff]
  simp [lkP]
  intro h
  subst h
  simpa using hi
theorem fit_zero (p t : List UInt8) (i : Nat) (hi : i ≤ t.length) : fitB p t 0 i = decide (i = 0) := by
  rw [← lk_nil t i hi, Bool.eq_iff_iff, fitB_iff, fitB_iff]
  simp
theorem dp_start (p t : List UInt8) : (List.replicate (t.length + 1) false).set 0 true = dpTo p t 0 (t.length + 1) := by
  apply List.ext_getElem
  · simp [dpTo]
  · intro i h1 h2
    simp at h1
    have h3 := dpTo_get p t 0 (t.length + 1) i h1
    rw [List.getD_eq_getElem?_getD, List.getElem?_eq_getElem h2] at h3
    simp only [Option.getD_some] at h3
    rw [h3, fit_zero p t i (by omega)]
    cases i with
    | zero => simp
    | succ i => simp
theorem dp_end (p t : List UInt8) : fitB p t p.length t.length = likeS t p := by
  rw [Bool.eq_iff_iff, fitB_iff, likeS_iff]
  simp
theorem take_one (p : List UInt8) (k : Nat) (hk : k < p.length) : p.take (k + 1) = p.take k ++ [p.getD k 0] := by
  rw [List.take_succ_eq_append_getElem hk]
  simp [List.getD, List.getElem?_eq_getElem hk]
/-- Behind '%'. -/
theorem fit_star (p t : List UInt8) (k i : Nat) (hk : k < p.length) (hi : i ≤ t.length) (h : p.getD k 0 = 37) : fitB p t (k + 1) i = (fitB p t k i || (decide (0 < i) && fitB p t (k + 1) (i - 1))) := by
  have hstar : ∀ j, j ≤ t.length → (lkP (p.take (k + 1)) (t.take j) ↔ ∃ m, m ≤ j ∧ lkP (p.take k) (t.take m)) := by
    intro j hj
    rw [take_one p k hk, h, lkP_append]
    constructor
    · rintro ⟨u, v, e, hu, _⟩
      refine ⟨u.length, ?_, ?_⟩
      · have := congrArg List.length e; simp at this; omega
      · have hl := congrArg List.length e
        have : t.take u.length = u := by
          have h2 : (t.take j).take u.length = u := by rw [e]; simp
          rw [List.take_take] at h2
          rwa [Nat.min_eq_left (by simp at hl; omega)] at h2
        rwa [this]
    · rintro ⟨m, hm, hu⟩
      refine ⟨t.take m, (t.take j).drop m, ?_, hu, ?_⟩
      · rw [show t.take m = (t.take j).take m by rw [List.take_take, Nat.min_eq_left hm], List.take_append_drop]
      · show lkP [37] _
        rw [lkP, if_pos rfl]
        exact ⟨(t.take j).drop m, [], by simp, rfl⟩
  rw [Bool.eq_iff_iff, fitB_iff, hstar i hi, Bool.or_eq_true, Bool.and_eq_true, decide_eq_true_eq, fitB_iff, fitB_iff]
  constructor
  · rintro ⟨m, hm, hu⟩
    by_cases hmi : m = i
    · subst hmi; exact .inl hu
    · exact .inr ⟨by omega, (hstar (i - 1) (by omega)).2 ⟨m, by omega, hu⟩⟩
  · rintro (hu | ⟨h0, hu⟩)
    · exact ⟨i, Nat.le_refl _, hu⟩
    · obtain ⟨m, hm, hu⟩ := (hstar (i - 1) (by omega)).1 hu
      exact ⟨m, by omega, hu⟩
/-- Behind any other byte. -/
theorem fit_char (p t : List UInt8) (k i : Nat) (hk : k < p.length) (hi : i < t.length) (h : p.getD k 0 ≠ 37) : fitB p t (k + 1) (i + 1) = (fitB p t k i && (decide (p.getD k 0 = 95) || decide (p.getD k 0 = t.getD i 0))) := by
  rw [Bool.eq_iff_iff, fitB_iff, take_one p k hk, lkP_append, Bool.and_eq_true, fitB_iff, Bool.or_eq_true, decide_eq_true_eq, decide_eq_true_eq]
  rw [take_one t i hi]
  constructor
  · rintro ⟨u, v, e, hu, hv⟩
    rw [lkP, if_neg h] at hv
    obtain ⟨c, t', rfl, hc, ht'⟩ := hv
    have ht'' : t' = [] := ht'
    subst ht''
    obtain ⟨e1, e2⟩ := List.append_inj' e rfl
    have e2 := (List.cons.inj e2).1
    rw [← e1] at hu
    exact ⟨hu, by rw [e2]; exact hc⟩
  · rintro ⟨hu, hc⟩
    refine ⟨_, _, rfl, hu, ?_⟩
    rw [lkP, if_neg h]
    exact ⟨_, [], rfl, hc, rfl⟩
theorem fit_char0 (p t : List UInt8) (k : Nat) (hk : k < p.length) (h : p.getD k 0 ≠ 37) : fitB p t (k + 1) 0 = false := by
  rw [← Bool.not_eq_true, fitB_iff, take_one p k hk, lkP_append]
  rintro ⟨u, v, e, hu, hv⟩
  rw [lkP, if_neg h] at hv
  obtain ⟨c, t', rfl, hc, ht'⟩ := hv
  simp at e
end Go.Proofs.YtgaeabodofabmaaDoor
