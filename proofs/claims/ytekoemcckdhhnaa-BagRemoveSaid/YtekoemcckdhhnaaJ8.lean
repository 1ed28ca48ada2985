/- BagRemove returns true. -/
import Derived.Test.YtekoemcckdhhnaaJ1
namespace Go.Proofs.Ytekoemcckdhhnaa
open Go.RowKit

set_option maxHeartbeats 2000000 in
set_option maxRecDepth 20000 in
theorem lremove_calls (L : List Rw) (R : Rw) (s r : Value) (w : World) (hs : RowsAt w L s) (hr : ValsAt w R r) :
    Calls Try.prog 8 #[s, r] w fun e w' => e = .returned (.bool true) ∧ Below w.heap.size w w' := by
  obtain ⟨a, n, c, rfl, hn, hm⟩ := hs.shape
  obtain ⟨ar, nr, cr, rfl, -, -⟩ := hr.shape
  have Hs := Lib.hid hs
  have Hr := Lib.hid hr
  have Hn := Lib.hid hn
  clear hs hr hn hm
  go_enter Try.func8, Try.ntmps8
  go_wp2_with fail
  (with_reducible refine (awake_calls w).mono ?_)
  rintro e w1 ⟨rfl, b1⟩
  have B1 := Lib.hid b1
  clear b1
  go_wp2_with fail
  (with_reducible refine (small_calls L _ w1 (Hs.out.mono B1.out)).mono ?_)
  rintro e w2 ⟨rfl, rfl⟩
  cases h1 : smallL L
  · go_wp2_with fail
    (with_reducible refine (awake_calls _).mono ?_)
    rintro e w2 ⟨rfl, b2⟩
    have B2 := Lib.hid (Below.step B1.out b2)
    clear b2
    go_wp2
    go_ret
    exact ⟨rfl, B2.out⟩
  · have HL := Lib.hid (smallL_len h1)
    have HR1 := Lib.hid (RowsAt.one (Hr.out.mono B1.out))
    have B2 := Lib.hid (B1.out.alloc B1.out.size (.cells #[.slice ar nr cr] 33))
    clear h1
    go_wp2_with fail
    (with_reducible refine (small_calls [R] _ _ HR1.out).mono ?_)
    rintro e w2 ⟨rfl, rfl⟩
    cases h2 : smallL [R]
    · go_wp2_with fail
      (with_reducible refine (awake_calls _).mono ?_)
      rintro e w3 ⟨rfl, b3⟩
      have B3 := Lib.hid (Below.step B2.out b3)
      clear b3
      go_wp2
      go_ret
      exact ⟨rfl, B3.out⟩
    · have HRl : RowKit.Hid (R.length ≤ 10) := (smallL_len h2).2 R (by simp)
      have hn60 : n ≤ 60 := by have := Hn.out; have := HL.out.1; omega
      have Hcnt : RowKit.Hid ((cntB (putB (newB L) R 1) R : Int) = (L.count R : Int) + 1) := by show _ = _; rw [cnt_putB (newB_all L).1, cntB_newB]; simp
      have hc60 : L.count R ≤ 60 := Nat.le_trans List.count_le_length HL.out.1
      generalize w1.alloc (.cells #[.slice ar nr cr] 33) = w2 at *
      clear h2 HR1 B1
      go_wp2_with fail
      (with_reducible refine (smade_calls L _ w2 (Hs.out.mono B2.out) HL.out).mono ?_)
      rintro e w3 ⟨px, sx, rfl, hx, b3⟩
      have X := Lib.hid (hx.base B2.out.size)
      have B3 := Lib.hid (Below.step B2.out b3)
      clear hx b3 B2
      go_wp2_with fail
      (with_reducible refine (badd_calls _ px sx _ R _ w3 X.out (Hr.out.mono B3.out) (by have := HRl.out; omega) (by rw [lenB_newB]; have := HL.out.1; omega)).mono ?_)
      rintro e w4 ⟨rfl, hM⟩
      have B4 := Lib.hid (B3.out.trans (hM.below X.out))
      obtain ⟨s4, hX4, -⟩ := hM
      have X := Lib.hid hX4
      clear hX4 B3
      go_wp2_with fail
      (with_reducible refine (qcount_calls Hcnt.out _ px _ _ w4 X.out (Hr.out.mono B4.out) (by rw [len_putB, lenB_newB]; have := HL.out.1; omega)).mono ?_)
      rintro e w5 ⟨rfl, b5⟩
      have X := Lib.hid (X.out.mono b5)
      have B5 := Lib.hid (Below.step B4.out b5)
      clear b5 B4
      go_wp2_with fail
      (with_reducible refine (count_calls L R _ _ w5 (Hs.out.mono B5.out) (Hr.out.mono B5.out) (by have := HL.out.1; omega)).mono ?_)
      rintro e w6 ⟨rfl, b6⟩
      have X := Lib.hid (X.out.mono b6)
      have B6 := Lib.hid (Below.step B5.out b6)
      clear b6 B5
      generalize L.count R = m at *
      clear Hcnt
      go_wp2_with fail
      (with_reducible refine (qremove_calls (hasB_put L R) _ px _ _ w6 X.out (Hr.out.mono B6.out) (by rw [len_putB, lenB_newB]; have := HL.out.1; omega)).mono ?_)
      rintro e w7 ⟨rfl, hM⟩
      have B7 := Lib.hid (B6.out.trans (hM.below X.out))
      obtain ⟨s7, hX7, -⟩ := hM
      rw [sub_put] at hX7
      have X := Lib.hid hX7
      clear hX7 B6
      go_wp2_with fail
      (with_reducible refine (srows_calls (N := 60) (by omega) _ px _ _ w7 X.out (SmB.new HL.out)).mono ?_)
      rintro e w8 ⟨v8, rfl, h8, b8⟩
      have X := Lib.hid (X.out.mono b8)
      have V := Lib.hid (h8.own.at)
      have B8 := Lib.hid (Below.step B7.out b8)
      clear h8 b8 B7
      go_wp2_with fail
      (with_reducible refine (of_calls L _ w8 (Hs.out.mono B8.out) (by have := HL.out.1; omega)).mono ?_)
      rintro e w9 ⟨p, rfl, hp, b9⟩
      have X := Lib.hid (X.out.mono b9)
      have V := Lib.hid (V.out.mono b9)
      have P := Lib.hid (hp)
      have B9 := Lib.hid (Below.step B8.out b9)
      clear hp b9 B8
      go_wp2_with fail
      (with_reducible refine (tsame_calls (newB_all L).2 _ _ w9 V.out P.out).mono ?_)
      rintro e w10 ⟨rfl, b10⟩
      have X := Lib.hid (X.out.mono b10)
      have B10 := Lib.hid (Below.step B9.out b10)
      clear b10 B9 V P
      have Hs1 := Lib.hid (Hs.out.mono B10.out)
      go_wp2
      go_loopw [7, 53] (fun _v i wr => ∃ (k : Nat), k ≤ n ∧ i = .int .i64 k ∧ RowKit.Hid (∃ sb, BagAt wr w.heap.size px sb (newB (L.drop k))) ∧ RowKit.Hid (Below w.heap.size w wr)) (fun _ i _ => n - (intOf i).toNat)
      case atStart => exact ⟨0, Nat.zero_le _, rfl, ⟨_, X.out.base (by omega)⟩, B10⟩
      case round =>
        clear X B10
        obtain ⟨k, hk, rfl, Ho, Hb⟩ := hrel
        obtain ⟨sb, hbag⟩ := Ho.out
        have X := Lib.hid hbag
        clear hbag Ho
        by_cases hlt : k < n
        · have hk1 : k < L.length := by have := Hn.out; omega
          obtain ⟨b, o, rfl⟩ := Hs.out.has k hlt
          obtain ⟨ax, nx, cx, Hcell, -⟩ := Hs.out.row k hk1
          obtain ⟨hc, hx, hbl⟩ := Hcell.out _ Hb.out
          have Hd : RowKit.Hid (L.drop k = L[k] :: L.drop (k + 1)) := List.drop_eq_getElem_cons hk1
          have Hl : RowKit.Hid (lenB (newB (L.drop k)) < 1099511627776) := by show _ < _; rw [lenB_newB, List.length_drop]; have := HL.out.1; omega
          have X0 := X.out
          have Hx := Lib.hid hx
          generalize L[k] = x at *
          have HC : RowKit.Hid (Calls Try.prog 25 #[.pointer (some ⟨px, 0, none⟩), .slice ax nx cx] wr fun e w' => e = .returned (.bool true) ∧ Mut wr w.heap.size px sb (newB (L.drop (k + 1))) w') := by
            have h := qremove_calls (q := true) (by rw [Hd.out]; exact hasB_newB_cons _ _) _ px sb _ wr X0 Hx.out Hl.out
            rw [Hd.out, subB_newB] at h
            exact h
          have i1 : (0 : Int) ≤ k := by omega
          have i2 : (k : Int) < n := by omega
          clear hx X0
          go_wp2_with fail
          (with_reducible refine HC.out.mono ?_)
          rintro e w1' ⟨rfl, hM⟩
          have Hb1 := Lib.hid (Hb.out.trans (hM.below X.out))
          have Ho1 : RowKit.Hid (∃ sb, BagAt w1' w.heap.size px sb (newB (L.drop (k + 1)))) := by
            obtain ⟨s', h1, _⟩ := hM
            exact ⟨s', h1⟩
          clear hM hc hbl HC
          go_wp2
          go_roundw
          case rel => exact ⟨k + 1, by omega, by go_num, Ho1, Hb1⟩
          case measure => simp [intOf]; omega
        · obtain rfl : k = n := by omega
          have He : RowKit.Hid (newB (L.drop k) = []) := by show _ = _; rw [List.drop_of_length_le (by have := Hn.out; omega)]; rfl
          have X1 := X.out
          rw [He.out] at X1
          have X := Lib.hid X1
          have HLen : RowKit.Hid (Calls Try.prog 26 #[.pointer (some ⟨px, 0, none⟩)] wr fun e w' => e = .returned (.int .i64 0) ∧ wr = w') := blen_calls _ _ _ _ wr X1
          clear X1 hlt hk
          go_wp2_with fail
          (with_reducible refine HLen.out.mono ?_)
          rintro e wq ⟨rfl, rfl⟩
          go_wp2_with fail
          (with_reducible refine (srows_calls (N := 60) (by omega) _ px _ [] wr X.out (SmB.nil 60)).mono ?_)
          rintro e w31 ⟨v8, rfl, h8, b31⟩
          have X := Lib.hid (X.out.mono b31)
          have V := Lib.hid (h8.own.shape)
          have B31 := Lib.hid (Below.step Hb.out b31)
          clear h8 b31 Hb
          obtain ⟨av, cv, hv⟩ := V.out
          have hv' : v8 = .slice av 0 cv := hv
          subst hv'
          clear hv V
          go_wp2_with fail
          (with_reducible refine (qremove_calls (q := false) (by simp [hasB]) _ px _ _ w31 X.out (Hr.out.mono B31.out) (by decide)).mono ?_)
          rintro e w32 ⟨rfl, hM⟩
          have B32 := Lib.hid (B31.out.trans (hM.below X.out))
          obtain ⟨s32, hX32, -⟩ := hM
          have X := Lib.hid hX32
          clear hX32 B31
          go_wp2
          go_ret
          exact ⟨rfl, B32.out⟩
end Go.Proofs.Ytekoemcckdhhnaa
