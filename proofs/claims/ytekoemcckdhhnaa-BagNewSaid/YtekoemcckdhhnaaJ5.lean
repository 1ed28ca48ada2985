/- BagNew returns true. -/
import Derived.Test.YtekoemcckdhhnaaJ0
namespace Go.Proofs.Ytekoemcckdhhnaa
open Go.RowKit

theorem ofL_reverse (L : List Rw) : ofL L.reverse = ofL L := by
  refine asc_ext (asc_ofL _) (asc_ofL _) fun r => ?_
  rw [count_ofL, count_ofL, List.count_reverse]
theorem newB_reverse (L : List Rw) : newB L.reverse = newB L := wf_ext (newB_all _).1 (newB_all _).1 (by rw [(newB_all _).2, (newB_all _).2, ofL_reverse])
theorem drop_rev {L : List Rw} (k : Nat) (hk : k < L.length) : (L.drop k).reverse = (L.drop (k + 1)).reverse ++ [L[k]] := by
  rw [List.drop_eq_getElem_cons hk, List.reverse_cons]

set_option maxHeartbeats 2000000 in
set_option maxRecDepth 20000 in
theorem lnew_calls (L : List Rw) (s : Value) (w : World) (hs : RowsAt w L s) :
    Calls Try.prog 5 #[s] w fun e w' => e = .returned (.bool true) ∧ Below w.heap.size w w' := by
  obtain ⟨a, n, c, rfl, hn, hm⟩ := hs.shape
  have Hs := Lib.hid hs
  have Hn := Lib.hid hn
  clear hs hn hm
  go_enter Try.func5, Try.ntmps5
  go_wp2_with fail
  (with_reducible refine (awake_calls w).mono ?_)
  rintro e w1 ⟨rfl, b1⟩
  have B1 := Lib.hid b1
  clear b1
  go_wp2_with fail
  (with_reducible refine (small_calls L _ w1 (Hs.out.mono B1.out)).mono ?_)
  rintro e w2 ⟨rfl, rfl⟩
  cases h1 : smallL L
  · go_wp2_with fail
    (with_reducible refine (awake_calls _).mono ?_)
    rintro e w2 ⟨rfl, b2⟩
    have B2 := Lib.hid (Below.step B1.out b2)
    clear b2
    go_wp2
    go_ret
    exact ⟨rfl, B2.out⟩
  · have HL := Lib.hid (smallL_len h1)
    have hn60 : n ≤ 60 := by have := Hn.out; have := HL.out.1; omega
    clear h1
    have Hs1 := Lib.hid (Hs.out.mono B1.out)
    have hn1 : IntKind.i64.wrap ((n : Int) - 1) = (n : Int) - 1 := by rw [IntKind.wrap_i64]; omega
    go_wp2
    go_loopw [3, 4] (fun v i wr => ∃ (k : Nat), k ≤ n ∧ i = .int .i64 ((k : Int) - 1) ∧ RowKit.Hid (RowsOwn wr w1.heap.size (L.drop k).reverse v) ∧ RowKit.Hid (Below w1.heap.size w1 wr)) (fun _ i _ => (intOf i + 1).toNat)
    case atStart => exact ⟨n, Nat.le_refl _, rfl, by have e : L.drop n = [] := by (rw [List.drop_eq_nil_iff]; have := Hn.out; omega)
                                                     rw [e]; exact RowsOwn.nil _ _, Below.refl _ _⟩
    case round =>
      obtain ⟨k, hk, rfl, Ho, Hb⟩ := hrel
      obtain ⟨am, cm, rfl⟩ := Ho.out.shape
      by_cases hlt : 0 < k
      · obtain ⟨m, rfl⟩ : ∃ m, k = m + 1 := ⟨k - 1, by omega⟩
        have hk1 : m < L.length := by have := Hn.out; omega
        obtain ⟨b, o, rfl⟩ := Hs1.out.has m (by omega)
        obtain ⟨ax, nx, cx, Hcell, Hfar⟩ := Hs1.out.row m hk1
        have Hd : RowKit.Hid ((L.drop m).reverse = (L.drop (m + 1)).reverse ++ [L[m]]) := drop_rev m hk1
        obtain ⟨hcell, hx, hbl⟩ := Hcell.out _ Hb.out
        have Hx2 := Lib.hid hx
        have Hbs := Lib.hid Hb.out.size
        have Hm : RowKit.Hid ((L.drop (m + 1)).reverse.length + 1 ≤ 1099511627776) := by show _ ≤ _; simp; have := Hn.out; omega
        generalize L[m] = X at *
        have e1 : ((m + 1 : Nat) : Int) - 1 = (m : Int) := by omega
        rw [e1]
        have i1 : (0 : Int) ≤ m := by omega
        have i2 : (m : Int) < n := by omega
        clear hx
        go_wp2_with (at_builtin; refine wpList_row rfl _ _ rfl w1.heap.size (L.drop (m + 1)).reverse X _ rfl (Ho.out.alloc _) _ _ (.slice ax nx cx) rfl (by simp) ?c1 (Hfar.out _) Hm.out ?c2 ?_)
        case c1 => exact Hx2.out.alloc _
        case c2 => have := Hbs.out; simp; omega
        intro v' w' ho' hb' _
        have Ho3 : RowKit.Hid (RowsOwn w' w1.heap.size (L.drop m).reverse v') := by show RowsOwn _ _ _ _; rw [Hd.out]; exact ho'
        have Hb4 : RowKit.Hid (Below w1.heap.size w1 w') := (Hb.out.alloc Hbs.out _).trans hb'
        clear ho' hb' hcell e1
        go_wp2
        go_roundw
        case rel => exact ⟨m, by omega, rfl, Ho3, Hb4⟩
        case measure => simp [intOf]
      · obtain rfl : k = 0 := by omega
        have HV : RowKit.Hid (RowsAt wr L.reverse (.slice am (L.drop 0).reverse.length cm)) := Ho.out.at
        generalize (L.drop 0).reverse.length = nv at *
        have B2 := Lib.hid (Below.step B1.out Hb.out)
        have HLr : RowKit.Hid (L.reverse.length ≤ 60 ∧ ∀ r ∈ L.reverse, r.length ≤ 10) := by
          refine ⟨by rw [List.length_reverse]; exact HL.out.1, fun r hr => HL.out.2 r (by simpa using hr)⟩
        clear Hb hn1 hlt hk
        go_wp2_with fail
        (with_reducible refine (smade_calls L _ wr (Hs.out.mono B2.out) HL.out).mono ?_)
        rintro e w3 ⟨px, sx, rfl, hx, b3⟩
        have HV := Lib.hid (HV.out.mono b3)
        have X := Lib.hid (hx.base B2.out.size)
        have B3 := Lib.hid (Below.step B2.out b3)
        clear hx b3 B2
        go_wp2_with fail
        (with_reducible refine (smade_calls L.reverse _ w3 HV.out HLr.out).mono ?_)
        rintro e w4 ⟨py, sy, rfl, hy, b4⟩
        have X := Lib.hid (X.out.mono b4)
        have Y := Lib.hid (hy.base B3.out.size)
        have B4 := Lib.hid (Below.step B3.out b4)
        clear hy b4 B3 HV
        go_wp2_with fail
        (with_reducible refine (srows_calls (N := 60) (by omega) _ px sx _ w4 X.out (SmB.new HL.out)).mono ?_)
        rintro e w5 ⟨v7, rfl, h7, b5⟩
        have X := Lib.hid (X.out.mono b5)
        have Y := Lib.hid (Y.out.mono b5)
        have V := Lib.hid (h7.own.at)
        have B5 := Lib.hid (Below.step B4.out b5)
        clear h7 b5 B4
        go_wp2_with fail
        (with_reducible refine (of_calls L _ w5 (Hs.out.mono B5.out) (by have := HL.out.1; omega)).mono ?_)
        rintro e w6 ⟨p, rfl, hp, b6⟩
        have X := Lib.hid (X.out.mono b6)
        have Y := Lib.hid (Y.out.mono b6)
        have V := Lib.hid (V.out.mono b6)
        have P := Lib.hid (hp)
        have B6 := Lib.hid (Below.step B5.out b6)
        clear hp b6 B5
        go_wp2_with fail
        (with_reducible refine (tsame_calls (newB_all L).2 _ _ w6 V.out P.out).mono ?_)
        rintro e w7 ⟨rfl, b7⟩
        have X := Lib.hid (X.out.mono b7)
        have Y := Lib.hid (Y.out.mono b7)
        have B7 := Lib.hid (Below.step B6.out b7)
        clear b7 B6 V P
        go_wp2_with fail
        (with_reducible refine (srows_calls (N := 60) (by omega) _ px sx _ w7 X.out (SmB.new HL.out)).mono ?_)
        rintro e w8 ⟨v8, rfl, h8, b8⟩
        have X := Lib.hid (X.out.mono b8)
        have Y := Lib.hid (Y.out.mono b8)
        have V := Lib.hid (h8.own.at)
        have B8 := Lib.hid (Below.step B7.out b8)
        clear h8 b8 B7
        go_wp2_with fail
        (with_reducible refine (srows_calls (N := 60) (by omega) _ py sy _ w8 Y.out (SmB.new HLr.out)).mono ?_)
        rintro e w9 ⟨v9, rfl, h9, b9⟩
        have X := Lib.hid (X.out.mono b9)
        have Y := Lib.hid (Y.out.mono b9)
        have V := Lib.hid (V.out.mono b9)
        have U := Lib.hid (h9.own.at)
        have B9 := Lib.hid (Below.step B8.out b9)
        clear h9 b9 B8
        go_wp2_with fail
        (with_reducible refine (tsame_calls (by rw [newB_reverse]) _ _ w9 V.out U.out).mono ?_)
        rintro e w10 ⟨rfl, b10⟩
        have X := Lib.hid (X.out.mono b10)
        have Y := Lib.hid (Y.out.mono b10)
        have B10 := Lib.hid (Below.step B9.out b10)
        clear b10 B9 V U
        go_wp2_with fail
        (with_reducible refine (qequal_calls (show decide (newB L = newB L.reverse) = true by simp [newB_reverse]) _ px _ py sx sy w10 X.out Y.out).mono ?_)
        rintro e w11 ⟨rfl, b11⟩
        have B11 := Lib.hid (Below.step B10.out b11)
        clear b11 B10 X Y
        go_wp2
        go_ret
        exact ⟨rfl, B11.out⟩
end Go.Proofs.Ytekoemcckdhhnaa
