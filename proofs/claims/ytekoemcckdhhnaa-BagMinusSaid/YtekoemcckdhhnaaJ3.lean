/- BagMinus returns true. -/
import Derived.Test.YtekoemcckdhhnaaJ0
namespace Go.Proofs.Ytekoemcckdhhnaa
open Go.RowKit

set_option maxHeartbeats 2000000 in
set_option maxRecDepth 20000 in
theorem lminus_calls (L M : List Rw) (s t : Value) (w : World) (hs : RowsAt w L s) (ht : RowsAt w M t) :
    Calls Try.prog 3 #[s, t] w fun e w' => e = .returned (.bool true) ∧ Below w.heap.size w w' := by
  have Hs := Lib.hid hs
  have Ht := Lib.hid ht
  clear hs ht
  go_enter Try.func3, Try.ntmps3
  go_wp2_with fail
  (with_reducible refine (awake_calls w).mono ?_)
  rintro e w1 ⟨rfl, b1⟩
  have B1 := Lib.hid b1
  clear b1
  go_wp2_with fail
  (with_reducible refine (small_calls L s w1 (Hs.out.mono B1.out)).mono ?_)
  rintro e w2 ⟨rfl, rfl⟩
  cases h1 : smallL L
  · go_wp2_with fail
    (with_reducible refine (awake_calls _).mono ?_)
    rintro e w2 ⟨rfl, b2⟩
    have B2 := Lib.hid (Below.step B1.out b2)
    clear b2
    go_wp2
    go_ret
    exact ⟨rfl, B2.out⟩
  · have HL := Lib.hid (smallL_len h1)
    go_wp2_with fail
    (with_reducible refine (small_calls M t w1 (Ht.out.mono B1.out)).mono ?_)
    rintro e w2 ⟨rfl, rfl⟩
    cases h2 : smallL M
    · go_wp2_with fail
      (with_reducible refine (awake_calls _).mono ?_)
      rintro e w2 ⟨rfl, b2⟩
      have B2 := Lib.hid (Below.step B1.out b2)
      clear b2
      go_wp2
      go_ret
      exact ⟨rfl, B2.out⟩
    · have HM := Lib.hid (smallL_len h2)
      clear h1 h2
      go_wp2_with fail
      (with_reducible refine (smade_calls L s w1 (Hs.out.mono B1.out) HL.out).mono ?_)
      rintro e w2 ⟨px, sx, rfl, hx, b2⟩
      have X := Lib.hid (hx.base B1.out.size)
      have B2 := Lib.hid (Below.step B1.out b2)
      clear hx b2 B1
      go_wp2_with fail
      (with_reducible refine (smade_calls M t w2 (Ht.out.mono B2.out) HM.out).mono ?_)
      rintro e w3 ⟨py, sy, rfl, hy, b3⟩
      have X := Lib.hid (X.out.mono b3)
      have Y := Lib.hid (hy.base B2.out.size)
      have B3 := Lib.hid (Below.step B2.out b3)
      clear hy b3 B2
      go_wp2_with fail
      (with_reducible refine (sminus_calls (N := 60) (M := 60) (by omega) (by omega) _ px _ py sx sy _ _ w3 X.out Y.out (SmB.new HL.out) (SmB.new HM.out)).mono ?_)
      rintro e w4 ⟨pz, sz, rfl, hz, b4⟩
      have X := Lib.hid (X.out.mono b4)
      have Y := Lib.hid (Y.out.mono b4)
      have Z := Lib.hid (hz.base B3.out.size)
      have B4 := Lib.hid (Below.step B3.out b4)
      clear hz b4 B3
      go_wp2_with fail
      (with_reducible refine (of_calls L s w4 (Hs.out.mono B4.out) (by have := HL.out.1; omega)).mono ?_)
      rintro e w5 ⟨p, rfl, hp, b5⟩
      have X := Lib.hid (X.out.mono b5)
      have Y := Lib.hid (Y.out.mono b5)
      have Z := Lib.hid (Z.out.mono b5)
      have P := Lib.hid hp
      have B5 := Lib.hid (Below.step B4.out b5)
      clear hp b5 B4
      go_wp2_with fail
      (with_reducible refine (of_calls M t w5 (Ht.out.mono B5.out) (by have := HM.out.1; omega)).mono ?_)
      rintro e w6 ⟨q, rfl, hq, b6⟩
      have X := Lib.hid (X.out.mono b6)
      have Y := Lib.hid (Y.out.mono b6)
      have Z := Lib.hid (Z.out.mono b6)
      have P := Lib.hid (P.out.mono b6)
      have Q := Lib.hid hq
      have B6 := Lib.hid (Below.step B5.out b6)
      clear hq b6 B5
      go_wp2_with fail
      (with_reducible refine (srows_calls (N := 60) (by omega) _ pz sz _ w6 Z.out ((SmB.new HL.out).diff _)).mono ?_)
      rintro e w7 ⟨v7, rfl, h7, b7⟩
      have X := Lib.hid (X.out.mono b7)
      have Y := Lib.hid (Y.out.mono b7)
      have P := Lib.hid (P.out.mono b7)
      have Q := Lib.hid (Q.out.mono b7)
      have V := Lib.hid h7.own.at
      have B7 := Lib.hid (Below.step B6.out b7)
      clear h7 b7 B6 Z
      go_wp2_with fail
      (with_reducible refine (minus_calls (ofL L) (ofL M) p q w7 P.out Q.out (by rw [length_ofL]; have := HL.out.1; omega) (by rw [length_ofL]; have := HM.out.1; omega)).mono ?_)
      rintro e w8 ⟨v8, rfl, h8, b8⟩
      have X := Lib.hid (X.out.mono b8)
      have Y := Lib.hid (Y.out.mono b8)
      have P := Lib.hid (P.out.mono b8)
      have Q := Lib.hid (Q.out.mono b8)
      have V := Lib.hid (V.out.mono b8)
      have U := Lib.hid h8
      have B8 := Lib.hid (Below.step B7.out b8)
      clear h8 b8 B7
      go_wp2_with fail
      (with_reducible refine (tsame_calls (by rw [rows_diffB (newB_all _).1 (newB_all _).1, (newB_all _).2, (newB_all _).2]) _ _ w8 V.out U.out).mono ?_)
      rintro e w9 ⟨rfl, b9⟩
      have X := Lib.hid (X.out.mono b9)
      have Y := Lib.hid (Y.out.mono b9)
      have P := Lib.hid (P.out.mono b9)
      have Q := Lib.hid (Q.out.mono b9)
      have B9 := Lib.hid (Below.step B8.out b9)
      clear b9 B8 U V
      go_wp2_with fail
      (with_reducible refine (srows_calls (N := 60) (by omega) _ px sx _ w9 X.out (SmB.new HL.out)).mono ?_)
      rintro e w10 ⟨v10, rfl, h10, b10⟩
      have Y := Lib.hid (Y.out.mono b10)
      have P := Lib.hid (P.out.mono b10)
      have Q := Lib.hid (Q.out.mono b10)
      have V := Lib.hid h10.own.at
      have B10 := Lib.hid (Below.step B9.out b10)
      clear h10 b10 B9 X
      go_wp2_with fail
      (with_reducible refine (tsame_calls (newB_all L).2 _ _ w10 V.out P.out).mono ?_)
      rintro e w11 ⟨rfl, b11⟩
      have Y := Lib.hid (Y.out.mono b11)
      have Q := Lib.hid (Q.out.mono b11)
      have B11 := Lib.hid (Below.step B10.out b11)
      clear b11 B10 V P
      go_wp2_with fail
      (with_reducible refine (srows_calls (N := 60) (by omega) _ py sy _ w11 Y.out (SmB.new HM.out)).mono ?_)
      rintro e w12 ⟨v12, rfl, h12, b12⟩
      have Q := Lib.hid (Q.out.mono b12)
      have V := Lib.hid h12.own.at
      have B12 := Lib.hid (Below.step B11.out b12)
      clear h12 b12 B11 Y
      go_wp2_with fail
      (with_reducible refine (tsame_calls (newB_all M).2 _ _ w12 V.out Q.out).mono ?_)
      rintro e w13 ⟨rfl, b13⟩
      have B13 := Lib.hid (Below.step B12.out b13)
      clear b13 B12 V Q
      go_wp2
      go_ret
      exact ⟨rfl, B13.out⟩
end Go.Proofs.Ytekoemcckdhhnaa
