/- The reference's comparisons: of numbers, texts, values, rows. -/
import Derived.Test.YtekoemcckdhhnaaC2
import Derived.Deep.DeepCutAuto
namespace Go.Proofs.Ytekoemcckdhhnaa
open Go.RowKit

theorem ints_calls (a b : Int) (w : World) : Calls Try.prog 41 #[.int .i64 a, .int .i64 b] w fun e w' => e = .returned (.int .i64 (cmpS a b)) ∧ w = w' := by
  unfold cmpS
  go_enter Try.func41, Try.ntmps41
  go_wp2
  all_goals go_ret
  all_goals exact ⟨by simp [*], rfl⟩

theorem cmpB_step {a b : List UInt8} {k : Nat} (h1 : k < a.length) (h2 : k < b.length) : Lib.compareBytes (a.drop k) (b.drop k) = if a[k] = b[k] then Lib.compareBytes (a.drop (k + 1)) (b.drop (k + 1)) else cmpS a[k].toNat b[k].toNat := by
  rw [List.drop_eq_getElem_cons h1, List.drop_eq_getElem_cons h2, Lib.compareBytes]
  unfold cmpS
  by_cases h : a[k] = b[k]
  · have : ¬ b[k] < b[k] := UInt8.lt_irrefl _
    simp [h, this]
  · have hne : a[k].toNat ≠ b[k].toNat := fun e => h (UInt8.toNat_inj.1 e)
    simp only [UInt8.lt_iff_toNat_lt, h, if_false]
    by_cases h3 : a[k].toNat < b[k].toNat
    · have : (a[k].toNat : Int) < b[k].toNat := by omega
      simp [h3, this]
    · have h4 : b[k].toNat < a[k].toNat := by omega
      have h5 : ¬ (a[k].toNat : Int) < b[k].toNat := by omega
      have h6 : (b[k].toNat : Int) < a[k].toNat := by omega
      simp [h3, h4, h5, h6]
theorem cmpB_end {a b : List UInt8} {k : Nat} (h : a.length ≤ k ∨ b.length ≤ k) (h1 : k ≤ a.length) (h2 : k ≤ b.length) : Lib.compareBytes (a.drop k) (b.drop k) = cmpS a.length b.length := by
  unfold cmpS
  by_cases h3 : a.length ≤ k
  · rw [List.drop_of_length_le h3]
    by_cases h4 : b.length ≤ k
    · rw [List.drop_of_length_le h4]
      have e : a.length = b.length := by omega
      simp [Lib.compareBytes, e]
    · rw [List.drop_eq_getElem_cons (by omega), Lib.compareBytes]
      have : (a.length : Int) < b.length := by omega
      simp [this]
  · have h4 : b.length ≤ k := by omega
    rw [List.drop_of_length_le h4, List.drop_eq_getElem_cons (by omega), Lib.compareBytes]
    have h5 : ¬ (a.length : Int) < b.length := by omega
    have h6 : (b.length : Int) < a.length := by omega
    simp [h5, h6]

set_option maxHeartbeats 2000000 in
set_option maxRecDepth 20000 in
theorem texts_calls (a b : ByteArray) (w : World) (ha : a.size ≤ maxLen) : Calls Try.prog 48 #[.string a, .string b] w fun e w' => e = .returned (.int .i64 (Lib.compareBytes (bytes a) (bytes b))) ∧ Below w.heap.size w w' := by
  unfold maxLen at ha
  have La : RowKit.Hid ((bytes a).length = a.size) := by show _ = _; simp [bytes]
  have Lb : RowKit.Hid ((bytes b).length = b.size) := by show _ = _; simp [bytes]
  go_enter Try.func48, Try.ntmps48
  go_wp2
  go_loopw [5] (fun i wr => ∃ k : Nat, k ≤ a.size ∧ k ≤ b.size ∧ i = .int .i64 k ∧ RowKit.Hid (Lib.compareBytes (bytes a) (bytes b) = Lib.compareBytes ((bytes a).drop k) ((bytes b).drop k)) ∧ RowKit.Hid (Below w.heap.size w wr)) (fun i _ => a.size - (intOf i).toNat)
  case atStart => exact ⟨0, Nat.zero_le _, Nat.zero_le _, rfl, rfl, Below.refl _ _⟩
  case round =>
    obtain ⟨k, hk, hk', rfl, He, Hb⟩ := hrel
    by_cases hlt : k < a.size ∧ k < b.size
    · obtain ⟨h1, h2⟩ := hlt
      have Hst := Lib.hid (cmpB_step (a := bytes a) (b := bytes b) (k := k) (by rw [La.out]; exact h1) (by rw [Lb.out]; exact h2))
      have ea : (bytes a)[k]'(by rw [La.out]; exact h1) = (a[k]'h1) := rfl
      have eb : (bytes b)[k]'(by rw [Lb.out]; exact h2) = (b[k]'h2) := rfl
      rw [ea, eb] at Hst
      have hx : ((a[k]'h1).toNat : Int) < 256 := by have := UInt8.toNat_lt (a[k]'h1); omega
      have hy : ((b[k]'h2).toNat : Int) < 256 := by have := UInt8.toNat_lt (b[k]'h2); omega
      have i1 : (0 : Int) ≤ k := by omega
      have i2 : (k : Int) < a.size := by omega
      have i3 : (k : Int) < b.size := by omega
      have m1 : IntKind.i64.wrap ((a[k]'h1).toNat : Int) = (a[k]'h1).toNat := IntWalk.i64_in _ (by omega)
      have m2 : IntKind.i64.wrap ((b[k]'h2).toNat : Int) = (b[k]'h2).toNat := IntWalk.i64_in _ (by omega)
      clear ea eb
      go_upto_region 4 with (fail)
      go_cut [24] (fun x wx => x = .bool (((a[k]'h1).toNat : Int) != (b[k]'h2).toNat) ∧ RowKit.Hid (Below w.heap.size w wx))
      case first =>
        go_region_held3 (fun w' => Below wr.heap.size wr w') (first | assumption | exact Below.drew (Below.refl _ _)) (fail)
        all_goals
          rename_i hH
          have Hb1 := Lib.hid (Hb.out.trans (hH.mono Hb.out.size))
          clear hH
          go_wp2_with fail
          go_meet
          exact ⟨rfl, Hb1⟩
      obtain ⟨rfl, Hb1⟩ := hcut
      by_cases he : (a[k]'h1) = (b[k]'h2)
      · have hne : (((a[k]'h1).toNat : Int) != (b[k]'h2).toNat) = false := by simp [he]
        have Hnext : RowKit.Hid (Lib.compareBytes (bytes a) (bytes b) = Lib.compareBytes ((bytes a).drop (k + 1)) ((bytes b).drop (k + 1))) := by show _ = _; rw [He.out, Hst.out, if_pos he]
        clear he m1 m2 hx hy
        go_wp2
        go_roundw
        case rel => exact ⟨k + 1, by omega, by omega, by go_num, Hnext, Hb1⟩
        case measure => simp [intOf]; omega
      · have hne : (((a[k]'h1).toNat : Int) != (b[k]'h2).toNat) = true := by
          have : (a[k]'h1).toNat ≠ (b[k]'h2).toNat := fun e => he (UInt8.toNat_inj.1 e)
          simp; omega
        have Hnext : RowKit.Hid (Lib.compareBytes (bytes a) (bytes b) = cmpS (a[k]'h1).toNat (b[k]'h2).toNat) := by show _ = _; rw [He.out, Hst.out, if_neg he]
        have Hm1 := Lib.hid m1
        have Hm2 := Lib.hid m2
        clear he m1 m2 hx hy
        go_upto_region 5 with (fail)
        have m1 := Hm1.out
        have m2 := Hm2.out
        go_region_held3 (fun w' => Below wc.heap.size wc w') (first | assumption | exact Below.drew (Below.refl _ _))
          (first | (go_at_call 41; refine (ints_calls _ _ _).mono ?_; rintro e w' ⟨rfl, rfl⟩))
        all_goals
          rename_i hH
          have Hb2 := Lib.hid (Hb1.out.trans (hH.mono Hb1.out.size))
          clear hH m1 m2
          go_wp2
          go_ret
          exact ⟨by rw [Hnext.out]; rfl, Hb2.out⟩
    · have Hend : RowKit.Hid (Lib.compareBytes (bytes a) (bytes b) = cmpS a.size b.size) := by
        show _ = _
        rw [He.out, cmpB_end (by rw [La.out, Lb.out]; omega) (by rw [La.out]; omega) (by rw [Lb.out]; omega), La.out, Lb.out]
      by_cases h1 : k < a.size
      · have h2 : b.size ≤ k := by omega
        clear hlt
        go_wp2_with (first | (go_at_call 41; refine (ints_calls _ _ _).mono ?_; rintro e w' ⟨rfl, rfl⟩))
        go_ret
        exact ⟨by rw [Hend.out]; rfl, Hb.out⟩
      · have h2 : a.size ≤ k := by omega
        clear hlt
        go_wp2_with (first | (go_at_call 41; refine (ints_calls _ _ _).mono ?_; rintro e w' ⟨rfl, rfl⟩))
        go_ret
        exact ⟨by rw [Hend.out]; rfl, Hb.out⟩

/-- The reference's Compare. -/
theorem rcmp_calls (a b : Vl) (w : World) (ha : a.text.size ≤ maxLen) : Calls Try.prog 40 #[.agg #[.int .i64 a.kind, .int .i64 a.int, .string a.text], .agg #[.int .i64 b.kind, .int .i64 b.int, .string b.text]] w fun e w' => e = .returned (.int .i64 (cmpV a b)) ∧ Below w.heap.size w w' := by
  have Hb0 : RowKit.Hid (∀ o o', Below w.heap.size w ((w.alloc o).alloc o')) := fun o o' => ((Below.refl _ _).alloc (Nat.le_refl _) o).alloc (by simp) o'
  have Hd : RowKit.Hid (cmpV a b = orS (cmpS a.kind b.kind) (orS (cmpS a.int b.int) (Lib.compareBytes (bytes a.text) (bytes b.text)))) := rfl
  by_cases h1 : a.kind = b.kind
  · have b1 : (a.kind != b.kind) = false := by simp [h1]
    have e1 : cmpS a.kind b.kind = 0 := cmpS_zero.2 h1
    by_cases h2 : a.int = b.int
    · have b2 : (a.int != b.int) = false := by simp [h2]
      have Hr : RowKit.Hid (cmpV a b = Lib.compareBytes (bytes a.text) (bytes b.text)) := by show _ = _; rw [Hd.out, e1, cmpS_zero.2 h2]; rfl
      clear h1 h2 e1
      go_enter Try.func40, Try.ntmps40
      go_wp2_with fail
      refine (texts_calls _ _ _ ha).mono ?_
      rintro e w1 ⟨rfl, hb1⟩
      have Hb1 := Lib.hid ((Hb0.out _ _).trans (hb1.mono (Hb0.out _ _).size))
      clear hb1
      go_wp2
      go_ret
      exact ⟨by rw [Hr.out]; rfl, Hb1.out⟩
    · have b2 : (a.int != b.int) = true := by simp [h2]
      have e2 : ¬ cmpS a.int b.int = 0 := fun h => h2 (cmpS_zero.1 h)
      have Hr : RowKit.Hid (cmpV a b = cmpS a.int b.int) := by show _ = _; rw [Hd.out, e1]; unfold orS; rw [if_pos rfl, if_neg e2]
      clear h1 h2 e1 e2
      go_enter Try.func40, Try.ntmps40
      go_wp2_with fail
      refine (ints_calls _ _ _).mono ?_
      rintro e w1 ⟨rfl, rfl⟩
      go_wp2
      go_ret
      exact ⟨by rw [Hr.out]; rfl, Hb0.out _ _⟩
  · have b1 : (a.kind != b.kind) = true := by simp [h1]
    have e1 : ¬ cmpS a.kind b.kind = 0 := fun h => h1 (cmpS_zero.1 h)
    have Hr : RowKit.Hid (cmpV a b = cmpS a.kind b.kind) := by show _ = _; rw [Hd.out]; unfold orS; rw [if_neg e1]
    clear h1 e1
    go_enter Try.func40, Try.ntmps40
    go_wp2_with fail
    refine (ints_calls _ _ _).mono ?_
    rintro e w1 ⟨rfl, rfl⟩
    go_wp2
    go_ret
    exact ⟨by rw [Hr.out]; rfl, Hb0.out _ _⟩

theorem cmpR_end {R S : Rw} {k : Nat} (h : R.length ≤ k ∨ S.length ≤ k) (h1 : k ≤ R.length) (h2 : k ≤ S.length) : cmpR (R.drop k) (S.drop k) = cmpS R.length S.length := by
  unfold cmpS
  by_cases h3 : R.length ≤ k
  · by_cases h4 : S.length ≤ k
    · rw [cmpR_both h3 h4]
      have e : R.length = S.length := by omega
      simp [e]
    · rw [cmpR_short h3 (by omega)]
      have : (R.length : Int) < S.length := by omega
      simp [this]
  · rw [cmpR_long (by omega) (by omega)]
    have h5 : ¬ (R.length : Int) < S.length := by omega
    have h6 : (S.length : Int) < R.length := by omega
    simp [h5, h6]

set_option maxHeartbeats 4000000 in
set_option maxRecDepth 20000 in
/-- The reference's Rows. -/
theorem rrows_calls (R S : Rw) (r s : Value) (w : World) (hr : ValsAt w R r) (hs : ValsAt w S s) : Calls Try.prog 33 #[r, s] w fun e w' => e = .returned (.int .i64 (cmpR R S)) ∧ Below w.heap.size w w' := by
  obtain ⟨a, n, c, rfl, hn, hm⟩ := hr.shape
  obtain ⟨a', n', c', rfl, hn', hm'⟩ := hs.shape
  unfold maxLen at hm hm'
  have Hr := Lib.hid hr
  have Hs := Lib.hid hs
  have Hn := Lib.hid hn
  have Hn' := Lib.hid hn'
  clear hr hs hn hn'
  go_enter Try.func33, Try.ntmps33
  go_wp2
  go_loopw [5] (fun i wr => ∃ k : Nat, k ≤ n ∧ k ≤ n' ∧ i = .int .i64 k ∧ RowKit.Hid (cmpR R S = cmpR (R.drop k) (S.drop k)) ∧ RowKit.Hid (Below w.heap.size w wr)) (fun i _ => n - (intOf i).toNat)
  case atStart => exact ⟨0, Nat.zero_le _, Nat.zero_le _, rfl, rfl, Below.refl _ _⟩
  case round =>
    obtain ⟨k, hk, hk', rfl, He, Hb⟩ := hrel
    by_cases hlt : k < n ∧ k < n'
    · obtain ⟨h1, h2⟩ := hlt
      have hk1 : k < R.length := by have := Hn.out; omega
      have hk2 : k < S.length := by have := Hn'.out; omega
      obtain ⟨b, o, rfl⟩ := Hr.out.has k h1
      obtain ⟨c0, c1, c2⟩ := (Hr.out.mono Hb.out).cell k hk1
      have hbl := (Hr.out.mono Hb.out).lt hk1
      obtain ⟨b', o', rfl⟩ := Hs.out.has k h2
      obtain ⟨d0, d1, d2⟩ := (Hs.out.mono Hb.out).cell k hk2
      have hbl' := (Hs.out.mono Hb.out).lt hk2
      have Hst := Lib.hid (cmpR_step hk1 hk2)
      have HC := Lib.hid (fun w' => rcmp_calls R[k] S[k] w' (Hr.out.txt _ (List.getElem_mem hk1)))
      generalize R[k] = x at *
      generalize S[k] = y at *
      clear hk1 hk2
      have i1 : (0 : Int) ≤ k := by omega
      have i2 : (k : Int) < n := by omega
      have i3 : (k : Int) < n' := by omega
      go_upto_region 4 with (fail)
      go_cut [6] (fun z wx => z = .int .i64 (cmpV x y) ∧ RowKit.Hid (Below w.heap.size w wx))
      case first =>
        go_region_held3 (fun w' => Below wr.heap.size wr w' ∧ ∀ b o, b < wr.heap.size → w'.cell? ⟨b, o, none⟩ = wr.cell? ⟨b, o, none⟩)
          (first | assumption | exact S_of (Below.drew (Below.refl _ _)) | exact S_step (by assumption) (by assumption))
          (first | (go_at_call 40; (with_reducible refine (HC.out _).mono ?_); rintro e w1 ⟨rfl, hb1⟩))
        all_goals
          rename_i hH
          have Hb1 := Lib.hid (Hb.out.trans (hH.1.mono Hb.out.size))
          clear hH
          go_wp2_with fail
          go_meet
          exact ⟨rfl, Hb1⟩
      obtain ⟨rfl, Hb1⟩ := hcut
      clear c0 c1 c2 d0 d1 d2 i1 i2 i3
      by_cases h0 : cmpV x y = 0
      · have b0 : (cmpV x y != 0) = false := by simp [h0]
        have Hnext : RowKit.Hid (cmpR R S = cmpR (R.drop (k + 1)) (S.drop (k + 1))) := by show _ = _; rw [He.out, Hst.out, if_pos h0]
        clear h0
        go_wp2
        go_roundw
        case rel => exact ⟨k + 1, by omega, by omega, by go_num, Hnext, Hb1⟩
        case measure => simp [intOf]; omega
      · have b0 : (cmpV x y != 0) = true := by simp [h0]
        have Hnext : RowKit.Hid (cmpR R S = cmpV x y) := by show _ = _; rw [He.out, Hst.out, if_neg h0]
        clear h0
        go_wp2
        go_ret
        exact ⟨by rw [Hnext.out]; rfl, Hb1.out⟩
    · have Hend : RowKit.Hid (cmpR R S = cmpS n n') := by
        show _ = _
        have e1 := Hn.out
        have e2 := Hn'.out
        rw [He.out, cmpR_end (by omega) (by omega) (by omega), e1, e2]
      by_cases h1 : k < n
      · have h2 : n' ≤ k := by omega
        clear hlt
        go_wp2_with (first | (go_at_call 41; refine (ints_calls _ _ _).mono ?_; rintro e w' ⟨rfl, rfl⟩))
        go_ret
        exact ⟨by rw [Hend.out]; rfl, Hb.out⟩
      · have h2 : n ≤ k := by omega
        clear hlt
        go_wp2_with (first | (go_at_call 41; refine (ints_calls _ _ _).mono ?_; rintro e w' ⟨rfl, rfl⟩))
        go_ret
        exact ⟨by rw [Hend.out]; rfl, Hb.out⟩

/-- The reference's Same (of two rows). -/
theorem rsame_calls (R S : Rw) (r s : Value) (w : World) (hr : ValsAt w R r) (hs : ValsAt w S s) : Calls Try.prog 31 #[r, s] w fun e w' => e = .returned (.bool (decide (R = S))) ∧ Below w.heap.size w w' := by
  have H := Lib.hid (rrows_calls R S r s w hr hs)
  have He : RowKit.Hid (decide (R = S) = (cmpR R S == 0)) := by
    show _ = _
    rw [Bool.eq_iff_iff]
    simp [cmpR_zero]
  clear hr hs
  go_enter Try.func31, Try.ntmps31
  go_wp2_with fail
  refine H.out.mono ?_
  rintro e w1 ⟨rfl, hb1⟩
  have Hb1 := Lib.hid hb1
  clear hb1
  go_wp2
  go_ret
  exact ⟨by rw [He.out]; rfl, Hb1.out⟩
end Go.Proofs.Ytekoemcckdhhnaa
