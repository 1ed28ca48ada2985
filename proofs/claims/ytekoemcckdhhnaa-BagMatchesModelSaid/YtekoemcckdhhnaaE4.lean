/- The reference's Same (of lists) and Small. -/
import Derived.Test.YtekoemcckdhhnaaE0
namespace Go.Proofs.Ytekoemcckdhhnaa
open Go.RowKit

set_option maxHeartbeats 2000000 in
theorem same_calls (L M : List Rw) (s t : Value) (w : World) (hs : RowsAt w L s) (ht : RowsAt w M t) :
    Calls Try.prog 15 #[s, t] w fun e w' => e = .returned (.bool (decide (L = M))) ∧ Below w.heap.size w w' := by
  obtain ⟨a, n, c, rfl, hn, hm⟩ := hs.shape
  obtain ⟨a', n', c', rfl, hn', hm'⟩ := ht.shape
  unfold maxLen at hm hm'
  have Hs := Lib.hid hs
  have Ht := Lib.hid ht
  have Hn := Lib.hid hn
  have Hn' := Lib.hid hn'
  clear hs ht hn hn'
  by_cases hne : n = n'
  · subst hne
    have bne : ((n : Int) != (n : Int)) = false := by simp
    go_enter Try.func15, Try.ntmps15
    go_wp2
    go_loopw [5] (fun i wr => ∃ k : Nat, k ≤ n ∧ i = .int .i64 k ∧ RowKit.Hid (decide (L = M) = decide (L.drop k = M.drop k)) ∧ RowKit.Hid (Below w.heap.size w wr)) (fun i _ => n - (intOf i).toNat)
    case atStart => exact ⟨0, Nat.zero_le _, rfl, rfl, Below.refl _ _⟩
    case round =>
      obtain ⟨k, hk, rfl, He, Hb⟩ := hrel
      by_cases hlt : k < n
      · have hk1 : k < L.length := by have := Hn.out; omega
        have hk2 : k < M.length := by have := Hn'.out; omega
        obtain ⟨b, o, rfl⟩ := Hs.out.has k hlt
        obtain ⟨ax, nx, cx, Hcell, -⟩ := Hs.out.row k hk1
        obtain ⟨b', o', rfl⟩ := Ht.out.has k hlt
        obtain ⟨ay, ny, cy, Hcell', -⟩ := Ht.out.row k hk2
        have Hd : RowKit.Hid (L.drop k = L[k] :: L.drop (k + 1)) := List.drop_eq_getElem_cons hk1
        have Hd' : RowKit.Hid (M.drop k = M[k] :: M.drop (k + 1)) := List.drop_eq_getElem_cons hk2
        obtain ⟨hc, hx, hbl⟩ := Hcell.out _ Hb.out
        obtain ⟨hc', hx', hbl'⟩ := Hcell'.out _ Hb.out
        have HC := Lib.hid (fun w' (hb : Below wr.heap.size wr w') => rsame_calls L[k] M[k] _ _ w' (hx.mono hb) (hx'.mono hb))
        clear hx hx'
        generalize L[k] = X at *
        generalize M[k] = Y at *
        have i1 : (0 : Int) ≤ k := by omega
        have i2 : (k : Int) < n := by omega
        clear hk1 hk2
        go_upto_region 6 with (fail)
        go_cut [26] (fun z wx => ∃ q : Bool, z = .bool q ∧ RowKit.Hid (q = !decide (X = Y)) ∧ RowKit.Hid (Below w.heap.size w wx))
        case first =>
          go_region_held3 (fun w' => Below wr.heap.size wr w' ∧ ∀ b o, b < wr.heap.size → w'.cell? ⟨b, o, none⟩ = wr.cell? ⟨b, o, none⟩)
            (first | assumption | exact S_of (Below.drew (Below.refl _ _)) | exact S_step (by assumption) (by assumption))
            (first | (go_at_call 31; (with_reducible refine (HC.out _ (by first | assumption | exact And.left (by assumption))).mono ?_); rintro e w1 ⟨rfl, hb1⟩))
          all_goals
            rename_i hH
            have Hb1 := Lib.hid (Hb.out.trans (hH.1.mono Hb.out.size))
            clear hH
            go_wp2_with fail
            go_meet
            exact ⟨_, rfl, rfl, Hb1⟩
        obtain ⟨q, rfl, Hq, Hb1⟩ := hcut
        clear hc hc' i1 i2 hbl hbl'
        cases q
        · have h0 : X = Y := by simpa using Hq.out
          have Hnext : RowKit.Hid (decide (L = M) = decide (L.drop (k + 1) = M.drop (k + 1))) := by show _ = _; rw [He.out, Hd.out, Hd'.out, h0]; simp
          clear h0
          go_wp2
          go_roundw
          case rel => exact ⟨k + 1, by omega, by go_num, Hnext, Hb1⟩
          case measure => simp [intOf]; omega
        · have h0 : ¬ X = Y := by simpa using Hq.out
          have Hnext : RowKit.Hid (decide (L = M) = false) := by show _ = _; rw [He.out, Hd.out, Hd'.out]; simp [h0]
          clear h0
          go_wp2
          go_ret
          exact ⟨by rw [Hnext.out]; rfl, Hb1.out⟩
      · obtain rfl : k = n := by omega
        have Hend : RowKit.Hid (decide (L = M) = true) := by
          show _ = _
          rw [He.out, List.drop_eq_nil_iff.2 (by have := Hn.out; omega), List.drop_eq_nil_iff.2 (by have := Hn'.out; omega)]
          simp
        go_wp2
        go_ret
        exact ⟨by rw [Hend.out]; rfl, Hb.out⟩
  · have bne : ((n : Int) != (n' : Int)) = true := by simp; omega
    have Hend : RowKit.Hid (decide (L = M) = false) := by
      show _ = _
      rw [decide_eq_false_iff_not]
      intro h
      have h1 := Hn.out
      have h2 := Hn'.out
      rw [h] at h1
      omega
    clear hne
    go_enter Try.func15, Try.ntmps15
    go_wp2
    go_ret
    exact ⟨by rw [Hend.out]; rfl, Below.refl _ _⟩

/-- Few short rows. -/
def shortR (r : Rw) : Bool := r.all fun v => decide (v.text.size ≤ 50)
def okR (r : Rw) : Bool := decide (r.length ≤ 10) && shortR r
def smallL (L : List Rw) : Bool := L.all okR && decide (L.length ≤ 60)

set_option maxHeartbeats 2000000 in
theorem small_calls (L : List Rw) (s : Value) (w : World) (hs : RowsAt w L s) :
    Calls Try.prog 11 #[s] w fun e w' => e = .returned (.bool (smallL L)) ∧ w = w' := by
  obtain ⟨a, n, c, rfl, hn, hm⟩ := hs.shape
  unfold maxLen at hm
  have Hs := Lib.hid hs
  have Hn := Lib.hid hn
  clear hs hn
  go_enter Try.func11, Try.ntmps11
  go_wp2
  go_loopw [3] (fun i wr => ∃ k : Nat, k ≤ n ∧ i = .int .i64 k ∧ wr = w ∧ RowKit.Hid (L.all okR = (L.drop k).all okR)) (fun i _ => n - (intOf i).toNat)
  case atStart => exact ⟨0, Nat.zero_le _, rfl, rfl, rfl⟩
  case round =>
    obtain ⟨k, hk, rfl, rfl, He⟩ := hrel
    by_cases hlt : k < n
    · have hk1 : k < L.length := by have := Hn.out; omega
      obtain ⟨b, o, rfl⟩ := Hs.out.has k hlt
      obtain ⟨ax, nx, cx, Hcell, -⟩ := Hs.out.row k hk1
      have Hd : RowKit.Hid (L.drop k = L[k] :: L.drop (k + 1)) := List.drop_eq_getElem_cons hk1
      obtain ⟨hc, hx, hbl⟩ := Hcell.out _ (Below.refl _ _)
      have hnx : nx = L[k].length := by
        obtain ⟨_, _, _, he, h, _⟩ := hx.shape
        injection he with _ he
        omega
      have hmx : nx ≤ maxLen := by
        obtain ⟨_, _, _, he, _, h⟩ := hx.shape
        injection he with _ he
        omega
      unfold maxLen at hmx
      have Hx := Lib.hid hx
      have Hnx := Lib.hid hnx
      clear hx hnx
      generalize L[k] = X at *
      have i1 : (0 : Int) ≤ k := by omega
      have i2 : (k : Int) < n := by omega
      by_cases h10 : nx ≤ 10
      · have b10 : ¬ (10 : Int) < nx := by omega
        go_wp2
        go_loopw [4] (fun j wr' => ∃ m : Nat, m ≤ nx ∧ j = .int .i64 m ∧ wr' = wr ∧ RowKit.Hid (shortR X = shortR (X.drop m))) (fun j _ => nx - (intOf j).toNat)
        case atStart => exact ⟨0, Nat.zero_le _, rfl, rfl, rfl⟩
        case round =>
          obtain ⟨m, hm', rfl, rfl, Hsh⟩ := hrel
          by_cases hlt' : m < nx
          · have hk2 : m < X.length := by have := Hnx.out; omega
            obtain ⟨b', o', rfl⟩ := Hx.out.has m hlt'
            obtain ⟨d0, d1, d2⟩ := Hx.out.cell m hk2
            have hbl' := Hx.out.lt hk2
            have Hd2 : RowKit.Hid (X.drop m = X[m] :: X.drop (m + 1)) := List.drop_eq_getElem_cons hk2
            have ht := Hx.out.txt _ (List.getElem_mem hk2)
            unfold maxLen at ht
            generalize X[m] = V at *
            clear hk2
            have j1 : (0 : Int) ≤ m := by omega
            have j2 : (m : Int) < nx := by omega
            by_cases h50 : V.text.size ≤ 50
            · have b50 : ¬ (50 : Int) < V.text.size := by omega
              have Hnext : RowKit.Hid (shortR X = shortR (X.drop (m + 1))) := by show _ = _; rw [Hsh.out, Hd2.out]; simp [shortR, h50]
              go_wp2
              go_roundw
              case rel => exact ⟨m + 1, by omega, by go_num, trivial, Hnext⟩
              case measure => simp [intOf]; omega
            · have b50 : (50 : Int) < V.text.size := by omega
              have Hend : RowKit.Hid (smallL L = false) := by
                show _ = _
                have h : shortR X = false := by rw [Hsh.out, Hd2.out]; simp [shortR]; omega
                simp [smallL, He.out, Hd.out, okR, h]
              go_wp2
              go_ret
              exact ⟨by rw [Hend.out]; rfl, rfl⟩
          · obtain rfl : m = nx := by omega
            have Hnext : RowKit.Hid (L.all okR = (L.drop (k + 1)).all okR) := by
              show _ = _
              have h1 : shortR X = true := by rw [Hsh.out, List.drop_eq_nil_iff.2 (by have := Hnx.out; omega)]; rfl
              have h2 : okR X = true := by have := Hnx.out; simp [okR, h1]; omega
              rw [He.out, Hd.out]
              simp [h2]
            go_wp2
            go_roundw
            case rel => exact ⟨k + 1, by omega, by go_num, trivial, Hnext⟩
            case measure => simp [intOf]; omega
      · have b10 : (10 : Int) < nx := by omega
        have Hend : RowKit.Hid (smallL L = false) := by
          show _ = _
          have h : okR X = false := by have := Hnx.out; simp [okR]; omega
          simp [smallL, He.out, Hd.out, h]
        go_wp2
        go_ret
        exact ⟨by rw [Hend.out]; rfl, rfl⟩
    · obtain rfl : k = n := by omega
      have Hend : RowKit.Hid (smallL L = decide ((k : Int) ≤ 60)) := by
        show _ = _
        unfold smallL
        rw [He.out, List.drop_eq_nil_iff.2 (by have := Hn.out; omega), ← Hn.out, Bool.eq_iff_iff]
        simp
        omega
      go_wp2
      go_ret
      exact ⟨by rw [Hend.out]; rfl, rfl⟩
end Go.Proofs.Ytekoemcckdhhnaa
