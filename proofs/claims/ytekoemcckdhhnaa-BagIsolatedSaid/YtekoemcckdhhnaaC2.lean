/- The program's comparison of rows. -/
import Derived.Test.YtekoemcckdhhnaaC1
namespace Go.Proofs.Ytekoemcckdhhnaa
open Go.RowKit

theorem cmpR_step {R S : Rw} {k : Nat} (h1 : k < R.length) (h2 : k < S.length) : cmpR (R.drop k) (S.drop k) = if cmpV R[k] S[k] = 0 then cmpR (R.drop (k + 1)) (S.drop (k + 1)) else cmpV R[k] S[k] := by
  rw [List.drop_eq_getElem_cons h1, List.drop_eq_getElem_cons h2, cmpR]
theorem cmpR_long {R S : Rw} {k : Nat} (h1 : k < R.length) (h2 : S.length ≤ k) : cmpR (R.drop k) (S.drop k) = 1 := by
  rw [List.drop_eq_getElem_cons h1, List.drop_of_length_le h2, cmpR]
theorem cmpR_short {R S : Rw} {k : Nat} (h1 : R.length ≤ k) (h2 : k < S.length) : cmpR (R.drop k) (S.drop k) = -1 := by
  rw [List.drop_eq_getElem_cons h2, List.drop_of_length_le h1, cmpR]
theorem cmpR_both {R S : Rw} {k : Nat} (h1 : R.length ≤ k) (h2 : S.length ≤ k) : cmpR (R.drop k) (S.drop k) = 0 := by
  rw [List.drop_of_length_le h1, List.drop_of_length_le h2, cmpR]

set_option maxHeartbeats 2000000 in
/-- slices.CompareFunc at value.Compare. -/
theorem compareFunc_calls (R S : Rw) (r s : Value) (w : World) (hr : ValsAt w R r) (hs : ValsAt w S s) : Calls Try.prog 42 #[r, s, .func (.func 43) #[] #[]] w fun e w' => e = .returned (.int .i64 (cmpR R S)) ∧ Below w.heap.size w w' := by
  obtain ⟨a, n, c, rfl, hn, hm⟩ := hr.shape
  obtain ⟨a', n', c', rfl, hn', hm'⟩ := hs.shape
  unfold maxLen at hm hm'
  have Hr := Lib.hid hr
  have Hs := Lib.hid hs
  have Hn := Lib.hid hn
  have Hn' := Lib.hid hn'
  clear hr hs hn hn'
  go_enter Try.func42, Try.ntmps42
  go_wp2
  go_loopw [13] (fun i wr => ∃ k : Nat, k ≤ n ∧ k ≤ n' ∧ i = .int .i64 k ∧ RowKit.Hid (cmpR R S = cmpR (R.drop k) (S.drop k)) ∧ RowKit.Hid (Below w.heap.size w wr)) (fun i _ => n - (intOf i).toNat)
  case atStart => exact ⟨0, Nat.zero_le _, Nat.zero_le _, rfl, rfl, Below.refl _ _⟩
  case round =>
    obtain ⟨k, hk, hk', rfl, He, Hb⟩ := hrel
    by_cases hlt : k < n
    · have hk1 : k < R.length := by have := Hn.out; omega
      obtain ⟨b, o, rfl⟩ := Hr.out.has k hlt
      obtain ⟨c0, c1, c2⟩ := (Hr.out.mono Hb.out).cell k hk1
      have hbl := (Hr.out.mono Hb.out).lt hk1
      by_cases hlt' : k < n'
      · have hk2 : k < S.length := by have := Hn'.out; omega
        obtain ⟨b', o', rfl⟩ := Hs.out.has k hlt'
        obtain ⟨d0, d1, d2⟩ := (Hs.out.mono Hb.out).cell k hk2
        have hbl' := (Hs.out.mono Hb.out).lt hk2
        have Hst := Lib.hid (cmpR_step hk1 hk2)
        have HC := Lib.hid (fun w' => cmpV_calls R[k] S[k] w')
        have Hb0 : RowKit.Hid (∀ o o', Below w.heap.size w ((wr.alloc o).alloc o')) := fun o o' => (Hb.out.alloc Hb.out.size o).alloc (by have := Hb.out.size; simp; omega) o'
        have V1 : RowKit.Hid (∀ c, VarIs (wr.alloc (.cells c 38)) wr.heap.size c) := fun c => VarIs.new wr c 38
        generalize R[k] = x at *
        generalize S[k] = y at *
        clear hk1 hk2
        go_wp2_with fail
        refine (HC.out _).mono ?_
        rintro e w1 ⟨rfl, hb1⟩
        have Hb1 := Lib.hid ((Hb0.out _ _).trans (hb1.mono (Hb0.out _ _).size))
        clear hb1 c0 c1 c2 d0 d1 d2
        by_cases h0 : cmpV x y = 0
        · have b0 : (cmpV x y != 0) = false := by simp [h0]
          have Hnext : RowKit.Hid (cmpR R S = cmpR (R.drop (k + 1)) (S.drop (k + 1))) := by show _ = _; rw [He.out, Hst.out, if_pos h0]
          clear h0
          go_wp2
          go_roundw
          case rel => exact ⟨k + 1, by omega, by omega, by go_num, Hnext, Hb1⟩
          case measure => simp [intOf]; omega
        · have b0 : (cmpV x y != 0) = true := by simp [h0]
          have Hnext : RowKit.Hid (cmpR R S = cmpV x y) := by show _ = _; rw [He.out, Hst.out, if_neg h0]
          clear h0
          go_wp2
          go_ret
          exact ⟨by rw [Hnext.out]; rfl, Hb1.out⟩
      · have Hres : RowKit.Hid (cmpR R S = 1) := by show _ = _; rw [He.out, cmpR_long hk1 (by have := Hn'.out; omega)]
        have hge : n' ≤ k := by omega
        have Hb0 : RowKit.Hid (∀ o, Below w.heap.size w (wr.alloc o)) := fun o => Hb.out.alloc Hb.out.size o
        generalize R[k] = x at *
        clear hk1 hlt'
        go_wp2
        go_ret
        exact ⟨by rw [Hres.out]; rfl, Hb0.out _⟩
    · obtain rfl : k = n := by omega
      by_cases hlt' : k < n'
      · have Hres : RowKit.Hid (cmpR R S = -1) := by show _ = _; rw [He.out, cmpR_short (by have := Hn.out; omega) (by have := Hn'.out; omega)]
        go_wp2
        go_ret
        exact ⟨by rw [Hres.out]; rfl, Hb.out⟩
      · have Hres : RowKit.Hid (cmpR R S = 0) := by show _ = _; rw [He.out, cmpR_both (by have := Hn.out; omega) (by have := Hn'.out; omega)]
        go_wp2
        go_ret
        exact ⟨by rw [Hres.out]; rfl, Hb.out⟩
/-- value.CompareRows. -/
theorem compareRows_calls (R S : Rw) (r s : Value) (w : World) (hr : ValsAt w R r) (hs : ValsAt w S s) : Calls Try.prog 36 #[r, s] w fun e w' => e = .returned (.int .i64 (cmpR R S)) ∧ Below w.heap.size w w' := by
  have H := Lib.hid (compareFunc_calls R S r s w hr hs)
  clear hr hs
  go_enter Try.func36, Try.ntmps36
  go_wp2_with fail
  refine H.out.mono ?_
  rintro e w1 ⟨rfl, hb1⟩
  have Hb1 := Lib.hid hb1
  clear hb1
  go_wp2
  go_ret
  exact ⟨rfl, Hb1.out⟩
end Go.Proofs.Ytekoemcckdhhnaa
