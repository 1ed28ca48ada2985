/- The walk of EvaluateLikeParts: it returns true. -/
import Derived.Test.YtgaeabodofabmaaDoorD1
import Derived.Test.YtgaeabodofabmaaDoorLikeLaw
namespace Go.Proofs.YtgaeabodofabmaaDoor
open Go.RowKit

/-- The first k ways to part the text. -/
def partsTo (t f b : ByteArray) (k : Nat) : Bool := (List.range k).any fun i => likeS (t.data.toList.take i) f.data.toList && likeS (t.data.toList.drop i) b.data.toList
theorem partsTo_succ (t f b : ByteArray) (k : Nat) : partsTo t f b (k + 1) = (partsTo t f b k || (likeS (t.data.toList.take k) f.data.toList && likeS (t.data.toList.drop k) b.data.toList)) := by
  simp [partsTo, List.range_succ, List.any_append]

theorem take_bytes (t : ByteArray) (k : Nat) : (t.extract 0 k).data.toList = t.data.toList.take k := by simp [ByteArray.data_extract]
theorem drop_bytes (t : ByteArray) (k : Nat) : (t.extract k t.size).data.toList = t.data.toList.drop k := by
  simp only [ByteArray.data_extract, Array.toList_extract, List.extract_eq_take_drop]
  exact List.take_of_length_le (by simp)
theorem size_extract_le (t : ByteArray) (a b : Nat) : (t.extract a b).size ≤ t.size := by simp [ByteArray.size_extract]; omega

theorem likeParts_big (t f b : ByteArray) (w : World) (ht : Tab w) (hbig : 30 < t.size ∨ 30 < f.size ∨ 30 < b.size) : Calls Tryd.prog 7 #[.string t, .string f, .string b] w fun e w' => e = .returned (.bool true) ∧ Below w.heap.size w w' := by
  have Ht := Lib.hid ht
  clear ht
  have fin : ∀ w1, Below w.heap.size w w1 → Calls Tryd.prog 11 #[] w1 fun e w' => e = .returned (.bool true) ∧ Below w.heap.size w w' := fun w1 hb =>
    (awake_calls w1 (Ht.out.mono hb)).mono fun e w' ⟨he, hb'⟩ => ⟨he, hb.trans (hb'.mono hb.size)⟩
  have Fin := Lib.hid fin
  clear fin
  by_cases h1 : 30 < t.size
  · clear hbig
    go_enter Tryd.func7, Tryd.ntmps7
    go_wp2_with fail
    refine (Fin.out w (Below.refl _ _)).mono ?_
    rintro e w1 ⟨rfl, hb1⟩
    have Hb1 := Lib.hid hb1
    clear hb1
    go_wp2_with fail
    refine (Fin.out _ Hb1.out).mono ?_
    rintro e w2 ⟨rfl, hb2⟩
    go_wp2
    go_ret
    exact ⟨rfl, hb2⟩
  · by_cases h2 : 30 < f.size
    · clear hbig
      go_enter Tryd.func7, Tryd.ntmps7
      go_wp2_with fail
      refine (Fin.out w (Below.refl _ _)).mono ?_
      rintro e w1 ⟨rfl, hb1⟩
      have Hb1 := Lib.hid hb1
      clear hb1
      go_wp2_with fail
      refine (Fin.out _ Hb1.out).mono ?_
      rintro e w2 ⟨rfl, hb2⟩
      go_wp2
      go_ret
      exact ⟨rfl, hb2⟩
    · have h3 : 30 < b.size := by omega
      clear hbig
      go_enter Tryd.func7, Tryd.ntmps7
      go_wp2_with fail
      refine (Fin.out w (Below.refl _ _)).mono ?_
      rintro e w1 ⟨rfl, hb1⟩
      have Hb1 := Lib.hid hb1
      clear hb1
      go_wp2_with fail
      refine (Fin.out _ Hb1.out).mono ?_
      rintro e w2 ⟨rfl, hb2⟩
      go_wp2
      go_ret
      exact ⟨rfl, hb2⟩

theorem likeParts_small (t f b : ByteArray) (w : World) (ht : Tab w) (h1 : t.size ≤ 30) (h2 : f.size ≤ 30) (h3 : b.size ≤ 30) : Calls Tryd.prog 7 #[.string t, .string f, .string b] w fun e w' => e = .returned (.bool true) ∧ Below w.heap.size w w' := by
  have Ha := Lib.hid (awake_calls w ht)
  clear ht
  go_enter Tryd.func7, Tryd.ntmps7
  go_wp2_with fail
  refine Ha.out.mono ?_
  rintro e w0 ⟨rfl, hb0⟩
  have Hb0 := Lib.hid hb0
  clear hb0 Ha
  go_wp2_with fail
  go_loopw [7, 30] (fun s i wr => ∃ k : Nat, k ≤ t.size + 1 ∧ i = .int .i64 k ∧ s = .bool (partsTo t f b k) ∧ RowKit.Hid (Below w.heap.size w wr)) (fun _ i _ => t.size + 1 - (intOf i).toNat)
  case atStart => exact ⟨0, Nat.zero_le _, rfl, rfl, Hb0⟩
  case round =>
    obtain ⟨k, hk, rfl, rfl, Hb⟩ := hrel
    by_cases hlt : k < t.size + 1
    · have Hs := Lib.hid (partsTo_succ t f b k)
      generalize partsTo t f b k = pk at *
      cases pk
      · go_wp2_with fail
        refine (like_calls (t.extract 0 k) f wr (by have := size_extract_le t 0 k; omega) (by omega)).mono ?_
        rintro e w1 ⟨rfl, hb1⟩
        have Hb1 := Lib.hid (Hb.out.trans (hb1.mono Hb.out.size))
        clear hb1
        rw [take_bytes]
        generalize likeS (List.take k t.data.toList) f.data.toList = q at *
        cases q
        · go_wp2_with fail
          go_roundw
          case rel => exact ⟨k + 1, by omega, by go_num, by rw [Hs.out]; rfl, Hb1⟩
          case measure => simp [intOf]; omega
        · go_wp2_with fail
          refine (like_calls (t.extract k t.size) b w1 (by have := size_extract_le t k t.size; omega) (by omega)).mono ?_
          rintro e w2 ⟨rfl, hb2⟩
          have Hb2 := Lib.hid (Hb1.out.trans (hb2.mono Hb1.out.size))
          clear hb2
          rw [drop_bytes]
          generalize likeS (List.drop k t.data.toList) b.data.toList = q2 at *
          go_wp2_with fail
          go_roundw
          case rel => exact ⟨k + 1, by omega, by go_num, by rw [Hs.out]; simp, Hb2⟩
          case measure => simp [intOf]; omega
      · go_wp2
        go_roundw
        case rel => exact ⟨k + 1, by omega, by go_num, by rw [Hs.out]; rfl, Hb⟩
        case measure => simp [intOf]; omega
    · obtain rfl : k = t.size + 1 := by omega
      have Hl := Lib.hid (like_parts t.data.toList f.data.toList b.data.toList)
      have Hp : RowKit.Hid (partsTo t f b (t.size + 1) = likeS t.data.toList (f.data.toList ++ b.data.toList)) := by
        show _ = _
        rw [Hl.out, partsTo]
        simp
      have hfb : (f ++ b).data.toList = f.data.toList ++ b.data.toList := by simp
      have hsz : (f ++ b).size ≤ 2000000000000 := by rw [ByteArray.size_append]; omega
      go_wp2_with fail
      refine (like_calls t (f ++ b) wr (by omega) hsz).mono ?_
      rintro e w1 ⟨rfl, hb1⟩
      have Hb1 := Lib.hid (Hb.out.trans (hb1.mono Hb.out.size))
      clear hb1
      rw [hfb, ← Hp.out]
      clear hfb hsz
      generalize partsTo t f b (t.size + 1) = q at *
      go_wp2
      go_ret
      exact ⟨by simp, Hb1.out⟩
end Go.Proofs.YtgaeabodofabmaaDoor
