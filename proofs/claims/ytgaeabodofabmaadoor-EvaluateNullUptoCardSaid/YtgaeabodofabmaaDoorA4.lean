import Derived.Test.YtgaeabodofabmaaDoorA2
namespace Go.Proofs.YtgaeabodofabmaaDoor
open Go.RowKit

theorem ValsAt.cell {w : World} {vs : List Vl} {b o n cap : Nat} (h : ValsAt w vs (.slice (some ⟨b, o, none⟩) n cap)) (i : Nat) (hi : i < vs.length) :
    w.cell? ⟨b, o + i * 3, none⟩ = some (.int .i64 vs[i].kind) ∧ w.cell? ⟨b, o + i * 3 + 1, none⟩ = some (.int .i64 vs[i].int) ∧ w.cell? ⟨b, o + i * 3 + 2, none⟩ = some (.string vs[i].text) := by
  cases h with
  | mt => simp at hi
  | lie _ _ _ _ _ hn hlt hm hc => exact ⟨hc i hi 0 (by omega), hc i hi 1 (by omega), hc i hi 2 (by omega)⟩
theorem compute_calls (op : Int) (vs : List Vl) (s : Value) (w : World) (hv : ValsAt w vs s) (n : Int) (hs : computeS op vs = some n) : Calls Tryd.prog 30 #[.int .i64 op, s] w fun e w' => e = .returned (.int .i64 n) ∧ w = w' := by
  match vs, hv, hs with
  | [], _, hs => simp [computeS] at hs
  | [x], hv, hs =>
    cases hv with
    | lie _ b o k cap hn hlt hm hc =>
      obtain ⟨h0, h1, h2⟩ := (ValsAt.lie _ b o k cap hn hlt hm hc).cell 0 (by simp)
      simp only [List.getElem_cons_zero, Nat.zero_mul, Nat.add_zero] at h0 h1 h2
      simp only [List.length_cons, List.length_nil, Nat.zero_add] at hn
      subst hn
      clear hc
      simp only [computeS] at hs
      by_cases h3 : op = 3
      · subst h3
        simp at hs
        subst hs
        go_enter Tryd.func30, Tryd.ntmps30
        go_wp2
        go_ret
        exact ⟨rfl, rfl⟩
      · by_cases h9 : op = 9
        · subst h9
          simp at hs
          subst hs
          go_enter Tryd.func30, Tryd.ntmps30
          go_wp2
          go_ret
          exact ⟨rfl, rfl⟩
        · simp [h3, h9] at hs
  | x :: y :: l, hv, hs =>
    cases hv with
    | lie _ b o k cap hn hlt hm hc =>
      obtain ⟨h0, h1, h2⟩ := (ValsAt.lie _ b o k cap hn hlt hm hc).cell 0 (by simp)
      obtain ⟨g0, g1, g2⟩ := (ValsAt.lie _ b o k cap hn hlt hm hc).cell 1 (by simp)
      simp only [List.getElem_cons_zero, List.getElem_cons_succ, Nat.zero_mul, Nat.add_zero, Nat.one_mul] at h0 h1 h2 g0 g1 g2
      simp only [List.length_cons] at hn
      have hk : 2 ≤ k := by omega
      unfold maxLen at hm
      clear hc hn
      simp only [computeS] at hs
      by_cases h3 : op = 3
      · subst h3
        simp at hs
        subst hs
        go_enter Tryd.func30, Tryd.ntmps30
        go_wp2
        go_ret
        exact ⟨rfl, rfl⟩
      by_cases h9 : op = 9
      · subst h9
        simp at hs
        subst hs
        go_enter Tryd.func30, Tryd.ntmps30
        go_wp2
        go_ret
        exact ⟨rfl, rfl⟩
      by_cases h4 : op = 4
      · subst h4
        simp at hs
        subst hs
        go_enter Tryd.func30, Tryd.ntmps30
        go_wp2
        go_ret
        exact ⟨rfl, rfl⟩
      by_cases h5 : op = 5
      · subst h5
        simp at hs
        subst hs
        go_enter Tryd.func30, Tryd.ntmps30
        go_wp2
        go_ret
        exact ⟨rfl, rfl⟩
      by_cases h6 : op = 6
      · subst h6
        simp at hs
        subst hs
        go_enter Tryd.func30, Tryd.ntmps30
        go_wp2
        go_ret
        exact ⟨rfl, rfl⟩
      by_cases hy : y.int ≤ 0
      · simp [*] at hs
      have hy' : 0 < y.int := by omega
      clear hy
      by_cases h7 : op = 7
      · subst h7
        simp [hy'] at hs
        subst hs
        go_enter Tryd.func30, Tryd.ntmps30
        go_wp2_with (first | (go_at_call 51; refine (floor_calls _ _ hy' _).mono ?_; rintro e w' ⟨rfl, rfl⟩))
        go_ret
        exact ⟨rfl, rfl⟩
      simp only [h3, h4, h5, h6, h7, h9, if_false] at hs
      rw [if_neg (by omega)] at hs
      simp at hs
      subst hs
      go_enter Tryd.func30, Tryd.ntmps30
      go_wp2_with (first | (go_at_call 51; refine (floor_calls _ _ hy' _).mono ?_; rintro e w' ⟨rfl, rfl⟩))
      go_ret
      exact ⟨rfl, rfl⟩
end Go.Proofs.YtgaeabodofabmaaDoor
