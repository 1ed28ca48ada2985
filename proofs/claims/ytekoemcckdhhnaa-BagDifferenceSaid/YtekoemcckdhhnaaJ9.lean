/- BagDifference returns true. -/
import Derived.Test.YtekoemcckdhhnaaJ2
namespace Go.Proofs.Ytekoemcckdhhnaa
open Go.RowKit

theorem lenB_le_rows {b c : List Ent} {L : List Rw} (h : SmB 60 (newB L)) (hb : b = newB L) : (rowsB (diffB b c)).length ≤ 60 := by
  subst hb
  have := (h.diff c).1
  unfold lenB at this
  exact this
set_option maxHeartbeats 4000000 in
set_option maxRecDepth 20000 in
theorem ldiff_calls (L M : List Rw) (s t : Value) (w : World) (hs : RowsAt w L s) (ht : RowsAt w M t) :
    Calls Try.prog 9 #[s, t] w fun e w' => e = .returned (.bool true) ∧ Below w.heap.size w w' := by
  have Hs := Lib.hid hs
  have Ht := Lib.hid ht
  clear hs ht
  go_enter Try.func9, Try.ntmps9
  go_wp2_with fail
  (with_reducible refine (awake_calls w).mono ?_)
  rintro e w1 ⟨rfl, b1⟩
  have B1 := Lib.hid b1
  clear b1
  go_wp2_with fail
  (with_reducible refine (small_calls L s w1 (Hs.out.mono B1.out)).mono ?_)
  rintro e w2 ⟨rfl, rfl⟩
  cases h1 : smallL L
  · go_wp2_with fail
    (with_reducible refine (awake_calls _).mono ?_)
    rintro e w2 ⟨rfl, b2⟩
    have B2 := Lib.hid (Below.step B1.out b2)
    clear b2
    go_wp2
    go_ret
    exact ⟨rfl, B2.out⟩
  · have HL := Lib.hid (smallL_len h1)
    go_wp2_with fail
    (with_reducible refine (small_calls M t w1 (Ht.out.mono B1.out)).mono ?_)
    rintro e w2 ⟨rfl, rfl⟩
    cases h2 : smallL M
    · go_wp2_with fail
      (with_reducible refine (awake_calls _).mono ?_)
      rintro e w2 ⟨rfl, b2⟩
      have B2 := Lib.hid (Below.step B1.out b2)
      clear b2
      go_wp2
      go_ret
      exact ⟨rfl, B2.out⟩
    · have HM := Lib.hid (smallL_len h2)
      clear h1 h2
      go_wp2_with fail
      (with_reducible refine (smade_calls L s w1 (Hs.out.mono B1.out) HL.out).mono ?_)
      rintro e w2 ⟨px, sx, rfl, hx, b2⟩
      have X := Lib.hid (hx.base B1.out.size)
      have B2 := Lib.hid (Below.step B1.out b2)
      clear hx b2 B1
      have X0 := Lib.hid X.out
      go_wp2_with fail
      (with_reducible refine (smade_calls M t w2 (Ht.out.mono B2.out) HM.out).mono ?_)
      rintro e w3 ⟨py, sy, rfl, hy, b3⟩
      have X := Lib.hid (X.out.mono b3)
      have SXY := Lib.hid (Sep.of X0.out hy)
      have Y := Lib.hid (hy.base B2.out.size)
      have B3 := Lib.hid (Below.step B2.out b3)
      clear hy b3 B2
      clear X0
      have hLs := Lib.hid (SmB.new HL.out)
      have hMs := Lib.hid (SmB.new HM.out)
      have wL := Lib.hid (newB_all L).1
      have wM := Lib.hid (newB_all M).1
      generalize newB L = bx at *
      generalize newB M = by' at *
      go_wp2_with fail
      (with_reducible refine (sminus_calls (N := 60) (M := 60) (by omega) (by omega) _ px _ py sx sy bx by' w3 X.out Y.out hLs.out hMs.out).mono ?_)
      rintro e w4 ⟨pp, sp, rfl, hp, b4⟩
      have X := Lib.hid (X.out.mono b4)
      have Y := Lib.hid (Y.out.mono b4)
      have P := Lib.hid (hp.base B3.out.size)
      have B4 := Lib.hid (Below.step B3.out b4)
      clear hp b4 B3
      have X0 := Lib.hid X.out
      have Y0 := Lib.hid Y.out
      go_wp2_with fail
      (with_reducible refine (sminus_calls (N := 60) (M := 60) (by omega) (by omega) _ py _ px sy sx by' bx w4 Y.out X.out hMs.out hLs.out).mono ?_)
      rintro e w5 ⟨pq, sq, rfl, hq, b5⟩
      have X := Lib.hid (X.out.mono b5)
      have Y := Lib.hid (Y.out.mono b5)
      have P := Lib.hid (P.out.mono b5)
      have SXQ := Lib.hid (Sep.of X0.out hq)
      have SYQ := Lib.hid (Sep.of Y0.out hq)
      have Q := Lib.hid (hq.base B4.out.size)
      have B5 := Lib.hid (Below.step B4.out b5)
      clear hq b5 B4
      clear X0 Y0
      go_wp2_with fail
      (with_reducible refine (srows_calls (N := 60) (by omega) _ pp sp _ w5 P.out (hLs.out.diff _)).mono ?_)
      rintro e w6 ⟨v7, rfl, h7, b6⟩
      have X := Lib.hid (X.out.mono b6)
      have Y := Lib.hid (Y.out.mono b6)
      have Q := Lib.hid (Q.out.mono b6)
      have V := Lib.hid (h7)
      have B6 := Lib.hid (Below.step B5.out b6)
      clear h7 b6 B5 P
      have hPl : (rowsB (diffB bx by')).length ≤ 60 := by have := (hLs.out.diff by').1; unfold lenB at this; exact this
      have HPc := Lib.hid (fun q => Nat.le_trans (Nat.le_of_eq (count_diff (c := by') wL.out q)) (Nat.sub_le _ _))
      have HPo := Lib.hid (fun k (hk : k < (rowsB (diffB bx by')).length) => diff_other wL.out wM.out hk)
      obtain ⟨av, cv, hv⟩ := V.out.own.shape
      obtain ⟨P1, hP1⟩ : ∃ P1, rowsB (diffB bx by') = P1 := ⟨_, rfl⟩
      have HP1 := Lib.hid hP1
      rw [hP1] at hPl HPc HPo hv V
      clear hP1
      obtain ⟨n, hn⟩ : ∃ n, P1.length = n := ⟨_, rfl⟩
      have Hn := Lib.hid hn
      rw [hn] at hv hPl
      subst hv
      clear hn
      go_wp2
      go_loopw [10, 51] (fun _v i wr => ∃ (k : Nat), k ≤ n ∧ i = .int .i64 k ∧ RowKit.Hid (∃ sx, BagAt wr w.heap.size px sx (remB bx (P1.take k)) ∧ Sep px sx py sy ∧ Sep px sx pq sq) ∧ RowKit.Hid (BagAt wr w.heap.size py sy by') ∧ RowKit.Hid (BagAt wr w.heap.size pq sq (diffB by' bx)) ∧ RowKit.Hid (RowsNew wr w5.heap.size P1 (.slice av n cv)) ∧ RowKit.Hid (Below w.heap.size w wr)) (fun _ i _ => n - (intOf i).toNat)
      case atStart => exact ⟨0, Nat.zero_le _, rfl, ⟨sx, X.out, SXY.out, SXQ.out⟩, Y, Q, V, B6⟩
      case round =>
        clear X Y Q V B6 SXY SXQ
        obtain ⟨k, hk, rfl, Ho, Y, Q, V, Hb⟩ := hrel
        obtain ⟨sb, hX, hS1, hS2⟩ := Ho.out
        have X := Lib.hid hX
        have S1 := Lib.hid hS1
        have S2 := Lib.hid hS2
        clear hX Ho hS1 hS2
        by_cases hlt : k < n
        · have hk1 : k < P1.length := by have := Hn.out; omega
          obtain ⟨b, o, rfl⟩ := V.out.own.at.has k hlt
          obtain ⟨ax, nx, cx, hc, Hx, hbl⟩ := V.out.get k hk1
          have HC : RowKit.Hid (Calls Try.prog 25 #[.pointer (some ⟨px, 0, none⟩), .slice ax nx cx] wr fun e w' => e = .returned (.bool true) ∧ Mut wr w.heap.size px sb (remB bx (P1.take (k + 1))) w') := by
            have h := qremove_calls (q := true) (hasB_rem wL.out HPc.out k hk1) _ px sb _ wr X.out Hx.out.vals (by have := (hLs.out.rem wL.out (P1.take k)).1; omega)
            rw [← remB_take bx P1 k hk1] at h
            exact h
          have Hz : RowKit.Hid (((cntB (diffB by' bx) P1[k] : Nat) : Int) = 0) := by show _ = _; rw [HPo.out k hk1]; rfl
          generalize P1[k] = x at *
          have i1 : (0 : Int) ≤ k := by omega
          have i2 : (k : Int) < n := by omega
          go_wp2_with fail
          (with_reducible refine HC.out.mono ?_)
          rintro e w1' ⟨rfl, hM⟩
          have Hb1 := Lib.hid (Hb.out.trans (hM.below X.out))
          obtain ⟨sb', hX', hCh, hnew⟩ := hM
          have X1 := Lib.hid hX'
          have Y1 := Lib.hid (X.out.other hCh Y.out S1.out)
          have Q1 := Lib.hid (X.out.other hCh Q.out S2.out)
          have V1 := Lib.hid (V.out.chg X.out hCh)
          have Hx1 := Lib.hid (Hx.out.other X.out hCh)
          have T1 := Lib.hid (S1.out.new Y.out hnew)
          have T2 := Lib.hid (S2.out.new Q.out hnew)
          have HC2 := Lib.hid (qcount_calls Hz.out _ pq sq _ w1' Q1.out Hx1.out.vals (by have := (hMs.out.diff bx).1; omega))
          clear hX' hCh hnew X Y Q V Hx S1 S2 hc hbl HC Hb
          go_wp2_with fail
          (with_reducible refine HC2.out.mono ?_)
          rintro e w2' ⟨rfl, b2'⟩
          have Hb2 := Lib.hid (Below.step Hb1.out b2')
          have Ho2 : RowKit.Hid (∃ sx, BagAt w2' w.heap.size px sx (remB bx (P1.take (k + 1))) ∧ Sep px sx py sy ∧ Sep px sx pq sq) := ⟨sb', X1.out.mono b2', T1.out, T2.out⟩
          have Y2 := Lib.hid (Y1.out.mono b2')
          have Q2 := Lib.hid (Q1.out.mono b2')
          have V2 := Lib.hid (V1.out.mono b2')
          clear b2' X1 Y1 Q1 V1 Hx1 T1 T2 HC2 Hb1
          go_wp2
          go_roundw
          case rel => exact ⟨k + 1, by omega, by go_num, Ho2, Y2, Q2, V2, Hb2⟩
          case measure => simp [intOf]; omega
        · obtain rfl : k = n := by omega
          have e1 : P1.take k = P1 := List.take_of_length_le (by have := Hn.out; omega)
          rw [e1] at X
          have Hxb := Lib.hid (hLs.out.rem wL.out P1)
          have wX := Lib.hid (wf_remB wL.out P1)
          clear e1 hlt hk V S2 Hn HPo
          have HXend : RowKit.Hid (remB bx P1 = remB by' (rowsB (diffB by' bx))) := by show _ = _; rw [← HP1.out]; exact rem_eq wL.out wM.out
          generalize remB bx P1 = bx1 at *
          go_wp2_with fail
          (with_reducible refine (srows_calls (N := 60) (by omega) _ pq sq _ wr Q.out (hMs.out.diff _)).mono ?_)
          rintro e w21 ⟨v7', rfl, h7, b21⟩
          have X := Lib.hid (X.out.mono b21)
          have Y := Lib.hid (Y.out.mono b21)
          have V := Lib.hid (h7)
          have B21 := Lib.hid (Below.step Hb.out b21)
          clear h7 b21 Hb Q
          have hQl : (rowsB (diffB by' bx)).length ≤ 60 := by have := (hMs.out.diff bx).1; unfold lenB at this; exact this
          have HQc := Lib.hid (fun q => Nat.le_trans (Nat.le_of_eq (count_diff (c := bx) wM.out q)) (Nat.sub_le _ _))
          obtain ⟨au, cu, hu⟩ := V.out.own.shape
          obtain ⟨Q1, hQ1⟩ : ∃ Q1, rowsB (diffB by' bx) = Q1 := ⟨_, rfl⟩
          rw [hQ1] at hQl HQc hu V HXend
          clear hQ1
          obtain ⟨m, hm⟩ : ∃ m, Q1.length = m := ⟨_, rfl⟩
          have Hm := Lib.hid hm
          rw [hm] at hu hQl
          subst hu
          clear hm
          have Yr : RowKit.Hid (∃ sy, BagAt w21 w.heap.size py sy (remB by' (Q1.take 0)) ∧ Sep py sy px sb) := ⟨sy, Y.out, S1.out.symm⟩
          clear Y S1
          obtain ⟨NB, hNB⟩ : ∃ NB, wr.heap.size = NB := ⟨_, rfl⟩
          rw [hNB] at V
          clear hNB
          go_wp2
          go_loopw [12, 69] (fun _v i wq => ∃ (k' : Nat), k' ≤ m ∧ i = .int .i64 k' ∧ RowKit.Hid (∃ sy, BagAt wq w.heap.size py sy (remB by' (Q1.take k')) ∧ Sep py sy px sb) ∧ RowKit.Hid (BagAt wq w.heap.size px sb bx1) ∧ RowKit.Hid (RowsNew wq NB Q1 (.slice au m cu)) ∧ RowKit.Hid (Below w.heap.size w wq)) (fun _ i _ => m - (intOf i).toNat)
          case atStart => exact ⟨0, Nat.zero_le _, rfl, Yr, X, V, B21⟩
          case round =>
            clear X V B21 Yr
            obtain ⟨k', hk, rfl, Ho, X, V, Hb⟩ := hrel
            obtain ⟨sc, hY, hS1⟩ := Ho.out
            have Y := Lib.hid hY
            have S1 := Lib.hid hS1
            clear hY Ho hS1
            by_cases hlt : k' < m
            · have hk1 : k' < Q1.length := by have := Hm.out; omega
              obtain ⟨b, o, rfl⟩ := V.out.own.at.has k' hlt
              obtain ⟨ax, nx, cx, hc, Hx, hbl⟩ := V.out.get k' hk1
              have HC : RowKit.Hid (Calls Try.prog 25 #[.pointer (some ⟨py, 0, none⟩), .slice ax nx cx] wr fun e w' => e = .returned (.bool true) ∧ Mut wr w.heap.size py sc (remB by' (Q1.take (k' + 1))) w') := by
                have h := qremove_calls (q := true) (hasB_rem wM.out HQc.out k' hk1) _ py sc _ wr Y.out Hx.out.vals (by have := (hMs.out.rem wM.out (Q1.take k')).1; omega)
                rw [← remB_take by' Q1 k' hk1] at h
                exact h
              generalize Q1[k'] = x at *
              have i1 : (0 : Int) ≤ k' := by omega
              have i2 : (k' : Int) < m := by omega
              go_wp2_with fail
              (with_reducible refine HC.out.mono ?_)
              rintro e w1' ⟨rfl, hM⟩
              have Hb1 := Lib.hid (Hb.out.trans (hM.below Y.out))
              obtain ⟨sb', hX', hCh, hnew⟩ := hM
              have X1 := Lib.hid (Y.out.other hCh X.out S1.out)
              have V1 := Lib.hid (V.out.chg Y.out hCh)
              have Ho2 : RowKit.Hid (∃ sy, BagAt w1' w.heap.size py sy (remB by' (Q1.take (k' + 1))) ∧ Sep py sy px sb) := ⟨sb', hX', S1.out.new X.out hnew⟩
              clear hX' hCh hnew X Y V Hx S1 hc hbl HC Hb
              go_wp2
              go_roundw
              case rel => exact ⟨k' + 1, by omega, by go_num, Ho2, X1, V1, Hb1⟩
              case measure => simp [intOf]; omega
            · obtain rfl : k' = m := by omega
              have e1 : Q1.take k' = Q1 := List.take_of_length_le (by have := Hm.out; omega)
              rw [e1] at Y
              clear e1 hlt hk V S1 Hm
              go_wp2_with fail
              (with_reducible refine (qequal_calls (show decide (bx1 = remB by' Q1) = true by simp [HXend.out]) _ px _ py _ _ wr X.out Y.out).mono ?_)
              rintro e w41 ⟨rfl, b41⟩
              have B41 := Lib.hid (Below.step Hb.out b41)
              clear b41 Hb
              go_wp2
              go_ret
              exact ⟨rfl, B41.out⟩
end Go.Proofs.Ytekoemcckdhhnaa
