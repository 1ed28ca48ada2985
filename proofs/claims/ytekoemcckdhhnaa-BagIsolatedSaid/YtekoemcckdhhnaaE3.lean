/- The reference's Of, Count, Minus, Same. -/
import Derived.Test.YtekoemcckdhhnaaE1
import Derived.Test.YtekoemcckdhhnaaE2
namespace Go.Proofs.Ytekoemcckdhhnaa
open Go.RowKit

set_option maxHeartbeats 1000000 in
theorem of_calls0 (L : List Rw) (s : Value) (w0 w : World) (hb0 : Below w0.heap.size w0 w) (hs0 : RowsAt0 w0 w L s) (hlen : L.length < 1099511627776) :
    Calls Try.prog 14 #[s] w fun e w' => ∃ v, e = .returned v ∧ RowsOwn0 w0 w' w.heap.size (ofL L) v ∧ Below w.heap.size w w' := by
  have hs := hs0.at hb0
  obtain ⟨a, n, c, rfl, hn, hm⟩ := hs.shape
  have Hs := Lib.hid hs
  have Hn := Lib.hid hn
  have Hs0 := Lib.hid hs0
  have Hb00 := Lib.hid hb0
  clear hs hn hm hs0 hb0
  have hn40 : n < 1099511627776 := by have := Hn.out; omega
  clear hlen
  go_enter Try.func14, Try.ntmps14
  go_wp2
  go_loopw [3, 4] (fun v i wr => ∃ (k : Nat) (M : List Rw), k ≤ n ∧ i = .int .i64 k ∧ RowKit.Hid (RowsOwn0 w0 wr w.heap.size M v) ∧ RowKit.Hid (Below w.heap.size w wr) ∧ RowKit.Hid (M.length = k) ∧ RowKit.Hid ((L.drop k).foldl putL M = ofL L)) (fun _ i _ => n - (intOf i).toNat)
  case atStart => exact ⟨0, [], Nat.zero_le _, rfl, RowsOwn0.nil _ _ _, Below.refl _ _, rfl, rfl⟩
  case round =>
    obtain ⟨k, M, hk, rfl, Ho, Hb, Hl, He⟩ := hrel
    obtain ⟨am, cm, rfl⟩ := Ho.out.shape
    generalize M.length = nm at Ho
    by_cases hlt : k < n
    · have hk1 : k < L.length := by have := Hn.out; omega
      obtain ⟨b, o, rfl⟩ := Hs.out.has k hlt
      obtain ⟨ax, nx, cx, Hcell, Hx0⟩ := Hs0.out.row Hb00.out k hk1
      have Hd : RowKit.Hid (L.drop k = L[k] :: L.drop (k + 1)) := List.drop_eq_getElem_cons hk1
      obtain ⟨hc, hx, hbl⟩ := Hcell.out _ Hb.out
      have HC := Lib.hid (put_calls0 M L[k] _ _ w0 wr (Hb00.out.trans (Hb.out.mono Hb00.out.size)) Ho.out.at0 Hx0.out (by have := Hl.out; omega))
      clear hx
      generalize L[k] = X at *
      have i1 : (0 : Int) ≤ k := by omega
      have i2 : (k : Int) < n := by omega
      go_wp2_with fail
      (with_reducible refine HC.out.mono ?_)
      rintro e w1 ⟨v, rfl, hv, hb1⟩
      have Hv := Lib.hid (hv.base Hb.out.size)
      have Hb1 := Lib.hid (Hb.out.trans (hb1.mono Hb.out.size))
      have Hl1 : RowKit.Hid ((putL M X).length = k + 1) := by show _ = _; rw [length_putL, Hl.out]
      have He1 : RowKit.Hid ((L.drop (k + 1)).foldl putL (putL M X) = ofL L) := by show _ = _; rw [← He.out, Hd.out]; rfl
      clear hv hb1 hc hbl
      go_wp2
      go_roundw
      case rel => exact ⟨k + 1, putL M X, by omega, by go_num, Hv, Hb1, Hl1, He1⟩
      case measure => simp [intOf]; omega
    · obtain rfl : k = n := by omega
      have Hdn : RowKit.Hid (L.drop k = []) := by show _ = _; rw [List.drop_eq_nil_iff]; have := Hn.out; omega
      go_wp2
      go_ret
      exact ⟨_, rfl, by rw [← He.out, Hdn.out]; exact Ho.out, Hb.out⟩

theorem of_calls (L : List Rw) (s : Value) (w : World) (hs : RowsAt w L s) (hlen : L.length < 1099511627776) :
    Calls Try.prog 14 #[s] w fun e w' => ∃ v, e = .returned v ∧ RowsAt w' (ofL L) v ∧ Below w.heap.size w w' := by
  refine (of_calls0 L s w w (Below.refl _ _) hs.at0 hlen).mono ?_
  rintro e w' ⟨v, h1, h2, h3⟩
  exact ⟨v, h1, h2.at h3, h3⟩

set_option maxHeartbeats 1000000 in
theorem count_calls (L : List Rw) (R : Rw) (s r : Value) (w : World) (hs : RowsAt w L s) (hr : ValsAt w R r) (hlen : L.length < 1099511627776) :
    Calls Try.prog 28 #[s, r] w fun e w' => e = .returned (.int .i64 (L.count R)) ∧ Below w.heap.size w w' := by
  obtain ⟨a, n, c, rfl, hn, hm⟩ := hs.shape
  obtain ⟨ar, nr, cr, rfl, hnr, hmr⟩ := hr.shape
  have Hs := Lib.hid hs
  have Hr := Lib.hid hr
  have Hn := Lib.hid hn
  clear hs hr hn hm hnr hmr
  have hn40 : n < 1099511627776 := by have := Hn.out; omega
  clear hlen
  go_enter Try.func28, Try.ntmps28
  go_wp2
  go_loopw [5, 6] (fun v i wr => ∃ (k m : Nat), k ≤ n ∧ m ≤ k ∧ i = .int .i64 k ∧ v = .int .i64 m ∧ RowKit.Hid (Below w.heap.size w wr) ∧ RowKit.Hid (m + (L.drop k).count R = L.count R)) (fun _ i _ => n - (intOf i).toNat)
  case atStart => exact ⟨0, 0, Nat.zero_le _, Nat.zero_le _, rfl, rfl, Below.refl _ _, by show _ = _; simp⟩
  case round =>
    obtain ⟨k, m, hk, hmk, rfl, rfl, Hb, He⟩ := hrel
    by_cases hlt : k < n
    · have hk1 : k < L.length := by have := Hn.out; omega
      obtain ⟨b, o, rfl⟩ := Hs.out.has k hlt
      obtain ⟨ax, nx, cx, Hcell, Hfar⟩ := Hs.out.row k hk1
      have Hd : RowKit.Hid (L.drop k = L[k] :: L.drop (k + 1)) := List.drop_eq_getElem_cons hk1
      obtain ⟨hc, hx, hbl⟩ := Hcell.out _ Hb.out
      have HC := Lib.hid (rsame_calls L[k] R _ _ wr hx (Hr.out.mono Hb.out))
      clear hx
      generalize L[k] = X at *
      have i1 : (0 : Int) ≤ k := by omega
      have i2 : (k : Int) < n := by omega
      go_wp2_with fail
      (with_reducible refine HC.out.mono ?_)
      rintro e w1 ⟨rfl, hb1⟩
      have Hb1 := Lib.hid (Hb.out.trans (hb1.mono Hb.out.size))
      clear hb1 hc hbl
      by_cases he : X = R
      · have he' : decide (X = R) = true := by simp [he]
        have He1 : RowKit.Hid ((m + 1) + (L.drop (k + 1)).count R = L.count R) := by show _ = _; rw [← He.out, Hd.out, he]; simp; omega
        clear he
        go_wp2
        go_roundw
        case rel => exact ⟨k + 1, m + 1, by omega, by omega, by go_num, by go_num, Hb1, He1⟩
        case measure => simp [intOf]; omega
      · have he' : decide (X = R) = false := by simp [he]
        have He1 : RowKit.Hid (m + (L.drop (k + 1)).count R = L.count R) := by show _ = _; rw [← He.out, Hd.out, List.count_cons]; simp [he]
        clear he
        go_wp2
        go_roundw
        case rel => exact ⟨k + 1, m, by omega, by omega, by go_num, rfl, Hb1, He1⟩
        case measure => simp [intOf]; omega
    · obtain rfl : k = n := by omega
      have Hdn : RowKit.Hid (L.drop k = []) := by show _ = _; rw [List.drop_eq_nil_iff]; have := Hn.out; omega
      go_wp2
      go_ret
      refine ⟨?_, Hb.out⟩
      have := He.out
      rw [Hdn.out] at this
      rw [← this]
      rfl

set_option maxHeartbeats 1000000 in
theorem minus_calls (L M : List Rw) (s t : Value) (w : World) (hs : RowsAt w L s) (ht : RowsAt w M t) (hlen : L.length < 1099511627776) (hlen' : M.length < 1099511627776) :
    Calls Try.prog 17 #[s, t] w fun e w' => ∃ v, e = .returned v ∧ RowsAt w' (minusL L M) v ∧ Below w.heap.size w w' := by
  obtain ⟨a, n, c, rfl, hn, hm⟩ := ht.shape
  obtain ⟨a2, n2, c2, rfl, _, _⟩ := hs.shape
  have Hs := Lib.hid hs
  have Ht := Lib.hid ht
  have Hn := Lib.hid hn
  have Hlen := Lib.hid hlen
  clear hs ht hn hm hlen
  have hn40 : n < 1099511627776 := by have := Hn.out; omega
  clear hlen'
  go_enter Try.func17, Try.ntmps17
  go_wp2
  go_loopw [0, 5] (fun v i wr => ∃ (k : Nat) (N : List Rw), k ≤ n ∧ i = .int .i64 k ∧ RowKit.Hid (RowsAt wr N v) ∧ RowKit.Hid (Below w.heap.size w wr) ∧ RowKit.Hid (N.length ≤ L.length) ∧ RowKit.Hid ((M.drop k).foldl dropL N = minusL L M)) (fun _ i _ => n - (intOf i).toNat)
  case atStart => exact ⟨0, L, Nat.zero_le _, rfl, Hs, Below.refl _ _, Nat.le_refl _, rfl⟩
  case round =>
    obtain ⟨k, N, hk, rfl, Ho, Hb, Hl, He⟩ := hrel
    obtain ⟨am, nm, cm, rfl, hm1, hm2⟩ := Ho.out.shape
    clear hm1 hm2
    by_cases hlt : k < n
    · have hk1 : k < M.length := by have := Hn.out; omega
      obtain ⟨b, o, rfl⟩ := Ht.out.has k hlt
      obtain ⟨ax, nx, cx, Hcell, Hfar⟩ := Ht.out.row k hk1
      have Hd : RowKit.Hid (M.drop k = M[k] :: M.drop (k + 1)) := List.drop_eq_getElem_cons hk1
      obtain ⟨hc, hx, hbl⟩ := Hcell.out _ Hb.out
      have HC := Lib.hid (drop_calls N M[k] _ _ wr Ho.out hx (by have := Hl.out; have := Hlen.out; omega))
      clear hx
      generalize M[k] = X at *
      have i1 : (0 : Int) ≤ k := by omega
      have i2 : (k : Int) < n := by omega
      go_wp2_with fail
      (with_reducible refine HC.out.mono ?_)
      rintro e w1 ⟨v, rfl, hv, hb1⟩
      have Hv := Lib.hid hv
      have Hb1 := Lib.hid (Hb.out.trans (hb1.mono Hb.out.size))
      have Hl1 : RowKit.Hid ((dropL N X).length ≤ L.length) := by
        show _ ≤ _
        refine Nat.le_trans ?_ Hl.out
        generalize N = N'
        induction N' with
        | nil => simp [dropL]
        | cons y l ih => rw [dropL]; split <;> simp <;> omega
      have He1 : RowKit.Hid ((M.drop (k + 1)).foldl dropL (dropL N X) = minusL L M) := by show _ = _; rw [← He.out, Hd.out]; rfl
      clear hv hb1 hc hbl
      go_wp2
      go_roundw
      case rel => exact ⟨k + 1, dropL N X, by omega, by go_num, Hv, Hb1, Hl1, He1⟩
      case measure => simp [intOf]; omega
    · obtain rfl : k = n := by omega
      have Hdn : RowKit.Hid (M.drop k = []) := by show _ = _; rw [List.drop_eq_nil_iff]; have := Hn.out; omega
      go_wp2
      go_ret
      exact ⟨_, rfl, by rw [← He.out, Hdn.out]; exact Ho.out, Hb.out⟩
end Go.Proofs.Ytekoemcckdhhnaa
