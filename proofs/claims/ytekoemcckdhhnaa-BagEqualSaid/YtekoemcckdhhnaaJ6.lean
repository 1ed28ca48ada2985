/- BagEqual returns true. -/
import Derived.Test.YtekoemcckdhhnaaJ0
namespace Go.Proofs.Ytekoemcckdhhnaa
open Go.RowKit

theorem newB_eq (L M : List Rw) : (newB L = newB M) = (ofL L = ofL M) := by
  refine propext ⟨fun h => ?_, fun h => ?_⟩
  · rw [← (newB_all L).2, ← (newB_all M).2, h]
  · exact wf_ext (newB_all L).1 (newB_all M).1 (by rw [(newB_all L).2, (newB_all M).2, h])

set_option maxHeartbeats 2000000 in
set_option maxRecDepth 20000 in
theorem lequal_calls (L M : List Rw) (s t : Value) (w : World) (hs : RowsAt w L s) (ht : RowsAt w M t) :
    Calls Try.prog 6 #[s, t] w fun e w' => e = .returned (.bool true) ∧ Below w.heap.size w w' := by
  obtain ⟨q, hq⟩ : ∃ q, decide (ofL L = ofL M) = q := ⟨_, rfl⟩
  have Hxy : RowKit.Hid (decide (newB L = newB M) = q) := by show _ = _; rw [← hq]; simp only [newB_eq]
  have Hyx : RowKit.Hid (decide (newB M = newB L) = q) := by show _ = _; rw [← hq]; simp only [newB_eq, eq_comm]
  have Hq := Lib.hid hq
  clear hq
  have Hs := Lib.hid hs
  have Ht := Lib.hid ht
  clear hs ht
  go_enter Try.func6, Try.ntmps6
  go_wp2_with fail
  (with_reducible refine (awake_calls w).mono ?_)
  rintro e w1 ⟨rfl, b1⟩
  have B1 := Lib.hid b1
  clear b1
  go_wp2_with fail
  (with_reducible refine (small_calls L s w1 (Hs.out.mono B1.out)).mono ?_)
  rintro e w2 ⟨rfl, rfl⟩
  cases h1 : smallL L
  · go_wp2_with fail
    (with_reducible refine (awake_calls _).mono ?_)
    rintro e w2 ⟨rfl, b2⟩
    have B2 := Lib.hid (Below.step B1.out b2)
    clear b2
    go_wp2
    go_ret
    exact ⟨rfl, B2.out⟩
  · have HL := Lib.hid (smallL_len h1)
    go_wp2_with fail
    (with_reducible refine (small_calls M t w1 (Ht.out.mono B1.out)).mono ?_)
    rintro e w2 ⟨rfl, rfl⟩
    cases h2 : smallL M
    · go_wp2_with fail
      (with_reducible refine (awake_calls _).mono ?_)
      rintro e w2 ⟨rfl, b2⟩
      have B2 := Lib.hid (Below.step B1.out b2)
      clear b2
      go_wp2
      go_ret
      exact ⟨rfl, B2.out⟩
    · have HM := Lib.hid (smallL_len h2)
      clear h1 h2
      go_wp2_with fail
      (with_reducible refine (smade_calls L s w1 (Hs.out.mono B1.out) HL.out).mono ?_)
      rintro e w2 ⟨px, sx, rfl, hx, b2⟩
      have X := Lib.hid (hx.base B1.out.size)
      have B2 := Lib.hid (Below.step B1.out b2)
      clear hx b2 B1
      go_wp2_with fail
      (with_reducible refine (smade_calls M t w2 (Ht.out.mono B2.out) HM.out).mono ?_)
      rintro e w3 ⟨py, sy, rfl, hy, b3⟩
      have X := Lib.hid (X.out.mono b3)
      have Y := Lib.hid (hy.base B2.out.size)
      have B3 := Lib.hid (Below.step B2.out b3)
      clear hy b3 B2
      go_wp2_with fail
      (with_reducible refine (of_calls L s w3 (Hs.out.mono B3.out) (by have := HL.out.1; omega)).mono ?_)
      rintro e w4 ⟨p, rfl, hp, b4⟩
      have X := Lib.hid (X.out.mono b4)
      have Y := Lib.hid (Y.out.mono b4)
      have P := Lib.hid (hp)
      have B4 := Lib.hid (Below.step B3.out b4)
      clear hp b4 B3
      go_wp2_with fail
      (with_reducible refine (of_calls M t w4 (Ht.out.mono B4.out) (by have := HM.out.1; omega)).mono ?_)
      rintro e w5 ⟨r, rfl, hr, b5⟩
      have X := Lib.hid (X.out.mono b5)
      have Y := Lib.hid (Y.out.mono b5)
      have P := Lib.hid (P.out.mono b5)
      have R := Lib.hid (hr)
      have B5 := Lib.hid (Below.step B4.out b5)
      clear hr b5 B4
      go_wp2_with fail
      (with_reducible refine (qsame_calls Hq.out _ _ w5 P.out R.out).mono ?_)
      rintro e w6 ⟨rfl, b6⟩
      have X := Lib.hid (X.out.mono b6)
      have Y := Lib.hid (Y.out.mono b6)
      have B6 := Lib.hid (Below.step B5.out b6)
      clear b6 B5 P R
      go_wp2_with fail
      (with_reducible refine (qequal_calls Hxy.out _ px _ py sx sy w6 X.out Y.out).mono ?_)
      rintro e w7 ⟨rfl, b7⟩
      have X := Lib.hid (X.out.mono b7)
      have Y := Lib.hid (Y.out.mono b7)
      have B7 := Lib.hid (Below.step B6.out b7)
      clear b7 B6
      cases q
      · go_wp2_with fail
        (with_reducible refine (qequal_calls Hyx.out _ py _ px sy sx w7 Y.out X.out).mono ?_)
        rintro e w8 ⟨rfl, b8⟩
        have X := Lib.hid (X.out.mono b8)
        have Y := Lib.hid (Y.out.mono b8)
        have B8 := Lib.hid (Below.step B7.out b8)
        clear b8 B7
        go_wp2_with fail
        (with_reducible refine (qequal_calls (show decide (newB L = newB L) = true by simp) _ px _ px sx sx w8 X.out X.out).mono ?_)
        rintro e w9 ⟨rfl, b9⟩
        have B9 := Lib.hid (Below.step B8.out b9)
        clear b9 B8 X Y
        go_wp2
        go_ret
        exact ⟨rfl, B9.out⟩
      · go_wp2_with fail
        (with_reducible refine (qequal_calls Hyx.out _ py _ px sy sx w7 Y.out X.out).mono ?_)
        rintro e w8 ⟨rfl, b8⟩
        have X := Lib.hid (X.out.mono b8)
        have Y := Lib.hid (Y.out.mono b8)
        have B8 := Lib.hid (Below.step B7.out b8)
        clear b8 B7
        go_wp2_with fail
        (with_reducible refine (qequal_calls (show decide (newB L = newB L) = true by simp) _ px _ px sx sx w8 X.out X.out).mono ?_)
        rintro e w9 ⟨rfl, b9⟩
        have B9 := Lib.hid (Below.step B8.out b9)
        clear b9 B8 X Y
        go_wp2
        go_ret
        exact ⟨rfl, B9.out⟩
end Go.Proofs.Ytekoemcckdhhnaa
