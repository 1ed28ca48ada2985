/- The bag's Equal. -/
import Derived.Test.YtekoemcckdhhnaaF1
namespace Go.Proofs.Ytekoemcckdhhnaa
open Go.RowKit

set_option maxHeartbeats 1000000 in
theorem equal1_calls (X Y : Rw) (n m : Nat) (x y : Value) (w : World) (hx : ValsAt w X x) (hy : ValsAt w Y y) :
    Calls Try.prog 35 #[.agg #[x, .int .i64 n], .agg #[y, .int .i64 m]] w fun e w' => e = .returned (.bool (decide ((X, n) = (Y, m)))) ∧ Below w.heap.size w w' := by
  obtain ⟨ax, nx, cx, rfl, p1, p2⟩ := hx.shape
  obtain ⟨ay, ny, cy, rfl, p3, p4⟩ := hy.shape
  clear p1 p2 p3 p4
  have hb0 : ∀ o o', Below w.heap.size w ((w.alloc o).alloc o') := fun o o' => ((Below.refl _ _).alloc (Nat.le_refl _) o).alloc (by simp) o'
  have HC := Lib.hid (fun o o' => compareRows_calls X Y _ _ ((w.alloc o).alloc o') (hx.mono (hb0 o o')) (hy.mono (hb0 o o')))
  have Hb0 := Lib.hid hb0
  clear hx hy hb0
  by_cases h : n = m
  · have hb : ((n : Int) == (m : Int)) = true := by simp [h]
    have Hres : RowKit.Hid (decide ((X, n) = (Y, m)) = (cmpR X Y == 0)) := by
      show _ = _
      rw [Bool.eq_iff_iff]
      simp [h, cmpR_zero]
    clear h
    go_enter Try.func35, Try.ntmps35
    go_wp2_with (go_at_call 36; (with_reducible refine (HC.out _ _).mono ?_); rintro e w1 ⟨rfl, hb1⟩)
    all_goals
      have Hb1 := Lib.hid ((Hb0.out _ _).trans (hb1.mono (Hb0.out _ _).size))
      go_ret
      exact ⟨by rw [Hres.out]; simp [*], Hb1.out⟩
  · have hb : ((n : Int) == (m : Int)) = false := by simp; omega
    have Hres : RowKit.Hid (decide ((X, n) = (Y, m)) = false) := by show _ = _; simp [h]
    clear h
    go_enter Try.func35, Try.ntmps35
    go_wp2_with fail
    go_ret
    exact ⟨by rw [Hres.out]; rfl, Hb0.out _ _⟩

set_option maxHeartbeats 2000000 in
theorem equalFunc_calls (b c : List Ent) (s t : Value) (w : World) (hs : EntsAt w b s) (ht : EntsAt w c t) :
    Calls Try.prog 34 #[s, t, .func (.func 35) #[] #[]] w fun e w' => e = .returned (.bool (decide (b = c))) ∧ Below w.heap.size w w' := by
  obtain ⟨a, n, cp, rfl, hn, hm⟩ := hs.shape
  obtain ⟨a', n', cp', rfl, hn', hm'⟩ := ht.shape
  unfold maxLen at hm hm'
  have Hs := Lib.hid hs
  have Ht := Lib.hid ht
  have Hn := Lib.hid hn
  have Hn' := Lib.hid hn'
  clear hs ht hn hn'
  by_cases hne : n = n'
  · subst hne
    have bne : ((n : Int) != (n : Int)) = false := by simp
    go_enter Try.func34, Try.ntmps34
    go_wp2
    go_loopw [17] (fun i wr => ∃ k : Nat, k ≤ n ∧ i = .int .i64 k ∧ RowKit.Hid (decide (b = c) = decide (b.drop k = c.drop k)) ∧ RowKit.Hid (Below w.heap.size w wr)) (fun i _ => n - (intOf i).toNat)
    case atStart => exact ⟨0, Nat.zero_le _, rfl, rfl, Below.refl _ _⟩
    case round =>
      obtain ⟨k, hk, rfl, He, Hb⟩ := hrel
      by_cases hlt : k < n
      · have hk1 : k < b.length := by have := Hn.out; omega
        have hk2 : k < c.length := by have := Hn'.out; omega
        obtain ⟨g, o, rfl⟩ := Hs.out.has k hlt
        obtain ⟨ax, nx, cx, Hcell⟩ := Hs.out.entry k hk1
        obtain ⟨g', o', rfl⟩ := Ht.out.has k hlt
        obtain ⟨ay, ny, cy, Hcell'⟩ := Ht.out.entry k hk2
        have Hd : RowKit.Hid (b.drop k = (b[k].1, b[k].2) :: b.drop (k + 1)) := List.drop_eq_getElem_cons hk1
        have Hd' : RowKit.Hid (c.drop k = (c[k].1, c[k].2) :: c.drop (k + 1)) := List.drop_eq_getElem_cons hk2
        obtain ⟨c0, c1, hx, hbl⟩ := Hcell.out _ Hb.out
        obtain ⟨d0, d1, hy, hbl'⟩ := Hcell'.out _ Hb.out
        have hb0 : ∀ o o', Below wr.heap.size wr ((wr.alloc o).alloc o') := fun o o' => ((Below.refl _ _).alloc (Nat.le_refl _) o).alloc (by simp) o'
        have HC := Lib.hid (fun o o' => equal1_calls b[k].1 c[k].1 b[k].2 c[k].2 _ _ ((wr.alloc o).alloc o') (hx.mono (hb0 o o')) (hy.mono (hb0 o o')))
        have Hb0 := Lib.hid hb0
        clear hx hy hb0
        generalize b[k].1 = X at *
        generalize c[k].1 = Y at *
        generalize b[k].2 = N at *
        generalize c[k].2 = M at *
        have i1 : (0 : Int) ≤ k := by omega
        have i2 : (k : Int) < n := by omega
        clear hk1 hk2 Hcell Hcell'
        go_wp2_with fail
        (with_reducible refine (HC.out _ _).mono ?_)
        rintro e w1 ⟨rfl, hb1⟩
        have Hb1 := Lib.hid (Hb.out.trans (((Hb0.out _ _).trans (hb1.mono (Hb0.out _ _).size)).mono Hb.out.size))
        clear hb1 c0 c1 d0 d1 hbl hbl' HC Hb0
        obtain ⟨q, hq⟩ : ∃ q, q = decide ((X, N) = (Y, M)) := ⟨_, rfl⟩
        rw [← hq]
        have Hq := Lib.hid hq
        clear hq
        cases q
        · have Hnext : RowKit.Hid (decide (b = c) = false) := by
            show _ = _
            have : ¬ (X, N) = (Y, M) := by simpa using Hq.out
            rw [He.out, Hd.out, Hd'.out]
            simp only [List.cons.injEq, this, false_and, decide_false]
          go_wp2
          go_ret
          exact ⟨by rw [Hnext.out]; rfl, Hb1.out⟩
        · have Hnext : RowKit.Hid (decide (b = c) = decide (b.drop (k + 1) = c.drop (k + 1))) := by
            show _ = _
            have : (X, N) = (Y, M) := by simpa using Hq.out
            rw [He.out, Hd.out, Hd'.out]
            simp only [List.cons.injEq, this, true_and]
          go_wp2
          go_roundw
          case rel => exact ⟨k + 1, by omega, by go_num, Hnext, Hb1⟩
          case measure => simp [intOf]; omega
      · obtain rfl : k = n := by omega
        have Hend : RowKit.Hid (decide (b = c) = true) := by
          show _ = _
          rw [He.out, List.drop_eq_nil_iff.2 (by have := Hn.out; omega), List.drop_eq_nil_iff.2 (by have := Hn'.out; omega)]
          simp
        go_wp2
        go_ret
        exact ⟨by rw [Hend.out]; rfl, Hb.out⟩
  · have bne : ((n : Int) != (n' : Int)) = true := by simp; omega
    have Hend : RowKit.Hid (decide (b = c) = false) := by
      show _ = _
      rw [decide_eq_false_iff_not]
      intro h
      have h1 := Hn.out
      have h2 := Hn'.out
      rw [h] at h1
      omega
    clear hne
    go_enter Try.func34, Try.ntmps34
    go_wp2
    go_ret
    exact ⟨by rw [Hend.out]; rfl, Below.refl _ _⟩
end Go.Proofs.Ytekoemcckdhhnaa
