/- BagMatchesModel returns true. -/
import Derived.Test.YtekoemcckdhhnaaI1
namespace Go.Proofs.Ytekoemcckdhhnaa
open Go.RowKit

set_option maxHeartbeats 4000000 in
set_option maxRecDepth 20000 in
theorem lmodel_calls (Os : List (Bool × Rw)) (R : Rw) (s r : Value) (w : World) (hs : OpsAt w Os s) (hr : ValsAt w R r) :
    Calls Try.prog 7 #[s, r] w fun e w' => e = .returned (.bool true) ∧ Below w.heap.size w w' := by
  obtain ⟨a, n, c, rfl, hn, hm⟩ := hs.shape
  obtain ⟨ar, nr, cr, rfl, -, -⟩ := hr.shape
  have Hs := Lib.hid hs
  have Hr := Lib.hid hr
  have Hn := Lib.hid hn
  obtain ⟨L, hL⟩ : ∃ L : List Rw, Os.map (·.2) = L := ⟨_, rfl⟩
  have HLl : RowKit.Hid (L.length = n) := by show _ = _; rw [← hL, List.length_map, hn]
  have HLk : RowKit.Hid (∀ k (h : k < Os.length), L.take (k + 1) = L.take k ++ [Os[k].2]) := by
    intro k h
    rw [← hL, List.take_succ_eq_append_getElem (by simpa using h)]
    simp
  have HLm : RowKit.Hid (∀ k (h : k < Os.length), Os[k].2 ∈ L) := by
    intro k h
    rw [← hL]
    exact List.mem_map.2 ⟨_, List.getElem_mem h, rfl⟩
  clear hs hr hn hL
  go_enter Try.func7, Try.ntmps7
  go_wp2
  go_loopw [5, 16] (fun v i wr => ∃ (k : Nat), k ≤ n ∧ i = .int .i64 k ∧ RowKit.Hid (RowsOwn0 w wr w.heap.size (L.take k) v) ∧ RowKit.Hid (Below w.heap.size w wr)) (fun _ i _ => n - (intOf i).toNat)
  case atStart => exact ⟨0, Nat.zero_le _, rfl, RowsOwn0.nil _ _ _, Below.refl _ _⟩
  case round =>
    obtain ⟨k, hk, rfl, Ho, Hb⟩ := hrel
    obtain ⟨am, cm, rfl⟩ := Ho.out.shape
    by_cases hlt : k < n
    · have hk1 : k < Os.length := by have := Hn.out; omega
      obtain ⟨b, o, rfl⟩ := Hs.out.has k hlt
      obtain ⟨ax, nx, cx, Hcell, Hx⟩ := Hs.out.op k hk1
      obtain ⟨d0, d1, hbl⟩ := Hcell.out _ Hb.out
      have Hbs := Lib.hid Hb.out.size
      have Htk : RowKit.Hid (L.take (k + 1) = L.take k ++ [Os[k].2]) := HLk.out k hk1
      have Hm : RowKit.Hid (((L.take k).length + 1) * 24 ≤ 140737488355328) := by show _ ≤ _; rw [List.length_take]; omega
      generalize Os[k].2 = X at *
      generalize Os[k].1 = q at *
      have Ho2 := Lib.hid ((Ho.out.alloc (.cells #[.bool q, .slice ax nx cx] 44)).alloc (.cells #[.slice ax nx cx] 33))
      have i1 : (0 : Int) ≤ k := by omega
      have i2 : (k : Int) < n := by omega
      clear hk1
      go_wp2_with (at_builtin; refine wpList_row1 rfl _ _ rfl w.heap.size _ X _ rfl Ho2.out _ _ (.slice ax nx cx) rfl (by simp) Hx.out Hm.out ?c2 ?_)
      case c2 => have := Hbs.out; simp; omega
      intro v' w' ho' hb' _
      have Ho3 : RowKit.Hid (RowsOwn0 w w' w.heap.size (L.take (k + 1)) v') := by show RowsOwn0 _ _ _ _ _; rw [Htk.out]; exact ho'
      have Hb4 : RowKit.Hid (Below w.heap.size w w') := ((Hb.out.alloc Hbs.out _).alloc (by have := Hbs.out; simp; omega) _).trans hb'
      clear ho' hb' d0 d1 hbl
      go_wp2
      go_roundw
      case rel => exact ⟨k + 1, by omega, by go_num, Ho3, Hb4⟩
      case measure => simp [intOf]; omega
    · obtain rfl : k = n := by omega
      have e : L.take k = L := List.take_of_length_le (by have := HLl.out; omega)
      rw [e] at Ho
      have HV := Lib.hid (Ho.out.at Hb.out)
      simp only [e]
      clear e hlt hk Ho
      go_wp2_with fail
      (with_reducible refine (awake_calls wr).mono ?_)
      rintro e w1 ⟨rfl, b1⟩
      have HV := Lib.hid (HV.out.mono b1)
      have B1 := Lib.hid (Below.step Hb.out b1)
      clear b1 Hb
      go_wp2_with fail
      (with_reducible refine (small_calls L _ w1 HV.out).mono ?_)
      rintro e w2 ⟨rfl, rfl⟩
      cases h1 : smallL L
      · go_wp2_with fail
        (with_reducible refine (awake_calls _).mono ?_)
        rintro e w2 ⟨rfl, b2⟩
        have BZ := Lib.hid (Below.step B1.out b2)
        clear b2
        go_wp2
        go_ret
        exact ⟨rfl, BZ.out⟩
      · have HL := Lib.hid (smallL_len h1)
        have hn60 : k ≤ 60 := by have := HLl.out; have := HL.out.1; omega
        have HR1 := Lib.hid (RowsAt.one (Hr.out.mono B1.out))
        have B2 := Lib.hid (B1.out.alloc B1.out.size (.cells #[.slice ar nr cr] 33))
        clear h1
        go_wp2_with fail
        (with_reducible refine (small_calls [R] _ _ HR1.out).mono ?_)
        rintro e w2 ⟨rfl, rfl⟩
        cases h2 : smallL [R]
        · go_wp2_with fail
          (with_reducible refine (awake_calls _).mono ?_)
          rintro e w3 ⟨rfl, b3⟩
          have BZ := Lib.hid (Below.step B2.out b3)
          clear b3
          go_wp2
          go_ret
          exact ⟨rfl, BZ.out⟩
        · generalize w1.alloc (.cells #[.slice ar nr cr] 33) = w2 at *
          clear h2 HR1 B1 HV
          go_wp2_with fail
          (with_reducible refine (bnew_calls [] _ w2 .mt (by decide) (by simp)).mono ?_)
          rintro e w3 ⟨px, sx, rfl, hx, b3⟩
          have HM0 : RowKit.Hid (Mm w w3 px 0 [] (.slice none 0 0)) := ⟨⟨sx, hx.base B2.out.size⟩, SmB.nil 0, RowsOwn0.nil _ _ _, Below.step B2.out b3⟩
          clear hx b3 B2
          go_wp2
          go_loopw [9, 45] (fun v i wr => ∃ (k' : Nat) (bk : List Ent), k' ≤ k ∧ i = .int .i64 k' ∧ RowKit.Hid (Mm w wr px k' bk v)) (fun _ i _ => k - (intOf i).toNat)
          case atStart => exact ⟨0, [], Nat.zero_le _, rfl, HM0⟩
          case round =>
            clear HM0
            obtain ⟨k', bk, hk', rfl, HM⟩ := hrel
            obtain ⟨am1, cm1, rfl⟩ := HM.out.list.shape
            by_cases hlt : k' < k
            · have hk1 : k' < Os.length := by have := Hn.out; omega
              obtain ⟨b, o, rfl⟩ := Hs.out.has k' hlt
              obtain ⟨ax, nx, cx, Hcell, Hx⟩ := Hs.out.op k' hk1
              obtain ⟨d0, d1, hbl⟩ := Hcell.out _ HM.out.low
              have HXl := Lib.hid (HL.out.2 _ (HLm.out k' hk1))
              generalize Os[k'].2 = X at *
              generalize Os[k'].1 = q at *
              have HM1 := Lib.hid (HM.out.mono ((Below.refl _ _).alloc (Nat.le_refl _) (.cells #[.bool q, .slice ax nx cx] 44)))
              have Hvar : RowKit.Hid ((wr.alloc (.cells #[.bool q, .slice ax nx cx] 44)).heap[wr.heap.size]? = some (.cells #[.bool q, .slice ax nx cx] 44 (0, 0))) := heap_alloc_new wr _
              have i1 : (0 : Int) ≤ k' := by omega
              have i2 : (k' : Int) < k := by omega
              clear hk1 HM
              go_upto_if 50 with (fail)
              generalize wr.alloc (.cells #[.bool q, .slice ax nx cx] 44) = W at *
              generalize wr.heap.size = vb at *
              clear d0 d1 hbl
              have Hx0 := Lib.hid (Hx.out.mono HM1.out.low)
              go_cut [9] (fun v wx => ∃ b', RowKit.Hid (Mm w wx px (k' + 1) b' v) ∧ RowKit.Hid (wx.heap[vb]? = some (.cells #[.bool q, .slice ax nx cx] 44 (0, 0))))
              case first =>
                have v0 := cell_of_row W vb 0 _ 44 (0, 0) Hvar.out
                have v1 := cell_of_row W vb 1 _ 44 (0, 0) Hvar.out
                have vl := (Array.getElem?_eq_some_iff.1 Hvar.out).1
                simp only [List.getElem?_toArray, List.getElem?_cons_zero, List.getElem?_cons_succ] at v0 v1
                obtain ⟨sb, hbag⟩ := HM1.out.bag
                have Hbag := Lib.hid hbag
                have Hsm := Lib.hid HM1.out.sm
                have Hln : RowKit.Hid ((rowsB bk).length < 1099511627776) := by show _ < _; have := HM1.out.sm.1; unfold lenB at this; omega
                clear hbag
                cases q
                · have HC := Lib.hid (badd_calls _ px sb bk X _ W Hbag.out Hx0.out (by have := HXl.out; omega) (by have := Hln.out; unfold lenB; have := HM1.out.sm.1; unfold lenB at this; omega))
                  go_wp2_with fail
                  (with_reducible refine HC.out.mono ?_)
                  rintro e w5 ⟨rfl, hM⟩
                  have Hb5 := Lib.hid (HM1.out.low.trans (hM.below Hbag.out))
                  obtain ⟨sb', hX', hCh, -⟩ := hM
                  have X5 := Lib.hid hX'
                  have V5 := Lib.hid (var_chg Hbag.out hCh Hvar.out (by decide) (by decide))
                  have L5 := Lib.hid (HM1.out.list.chg Hbag.out hCh)
                  clear hX' hCh HC v0 v1 vl
                  have v0 := cell_of_row w5 vb 0 _ 44 (0, 0) V5.out
                  have v1 := cell_of_row w5 vb 1 _ 44 (0, 0) V5.out
                  have vl := (Array.getElem?_eq_some_iff.1 V5.out).1
                  simp only [List.getElem?_toArray, List.getElem?_cons_zero, List.getElem?_cons_succ] at v0 v1
                  go_wp2_with fail
                  (with_reducible refine (put_calls0 (rowsB bk) X _ _ w w5 Hb5.out L5.out.at0 Hx.out Hln.out).mono ?_)
                  rintro e w6 ⟨v6, rfl, h6, b6⟩
                  have HM6 : RowKit.Hid (Mm w w6 px (k' + 1) (putB bk X 1) v6) :=
                    ⟨⟨sb', X5.out.mono b6⟩, Hsm.out.put X HXl.out, by rw [rows_putB Hbag.out.wf]; exact h6.base Hb5.out.size, Below.step Hb5.out b6⟩
                  have V6 : RowKit.Hid (w6.heap[vb]? = some (.cells #[.bool false, .slice ax nx cx] 44 (0, 0))) := (b6.block vb vl).trans V5.out
                  clear h6 b6 v0 v1 vl
                  go_wp2
                  go_meet
                  exact ⟨_, HM6, V6⟩
                · go_wp2_with fail
                  (with_reducible refine (drop_calls0 (rowsB bk) X _ _ w W HM1.out.low HM1.out.list.at0 Hx0.out Hln.out).mono ?_)
                  rintro e w5 ⟨v5, rfl, h5, b5⟩
                  obtain ⟨a5, c5, rfl⟩ := h5.shape
                  have L5 := Lib.hid (h5.base HM1.out.low.size)
                  have X5 := Lib.hid (Hbag.out.mono b5)
                  have Hb5 := Lib.hid (Below.step HM1.out.low b5)
                  have V5 : RowKit.Hid (w5.heap[vb]? = some (.cells #[.bool true, .slice ax nx cx] 44 (0, 0))) := (b5.block vb vl).trans Hvar.out
                  have HC := Lib.hid (qremove_calls (hasB_mem Hbag.out.wf X) _ px sb _ w5 X5.out (Hx0.out.mono b5) (by have := Hln.out; unfold lenB; omega))
                  generalize decide (X ∈ rowsB bk) = qq at *
                  clear h5 b5 v0 v1 vl
                  have v0 := cell_of_row w5 vb 0 _ 44 (0, 0) V5.out
                  have v1 := cell_of_row w5 vb 1 _ 44 (0, 0) V5.out
                  have vl := (Array.getElem?_eq_some_iff.1 V5.out).1
                  simp only [List.getElem?_toArray, List.getElem?_cons_zero, List.getElem?_cons_succ] at v0 v1
                  go_wp2_with fail
                  (with_reducible refine HC.out.mono ?_)
                  rintro e w6 ⟨rfl, hM⟩
                  have Hb6 := Lib.hid (Hb5.out.trans (hM.below X5.out))
                  obtain ⟨sb', hX', hCh, -⟩ := hM
                  have V6 := Lib.hid (var_chg X5.out hCh V5.out (by decide) (by decide))
                  have HM6 : RowKit.Hid (Mm w w6 px (k' + 1) (subB bk X) (.slice a5 (dropL (rowsB bk) X).length c5)) :=
                    ⟨⟨sb', hX'⟩, (Hsm.out.sub Hbag.out.wf X).mono (by omega), by rw [rows_subB Hbag.out.wf]; exact L5.out.chg X5.out hCh, Hb6.out⟩
                  clear hX' hCh HC v0 v1 vl
                  cases qq
                  all_goals
                    go_wp2
                    go_meet
                    exact ⟨_, HM6, V6⟩
              obtain ⟨b', HM2, Hv2⟩ := hcut
              clear HM1 Hvar Hx0
              obtain ⟨a2, c2, rfl⟩ := HM2.out.list.shape
              have Hx2 := Lib.hid (Hx.out.mono HM2.out.low)
              obtain ⟨sb, hbag⟩ := HM2.out.bag
              have Hbag := Lib.hid hbag
              have HlB : RowKit.Hid (lenB b' < 1099511627776) := by show _ < _; have := HM2.out.sm.1; omega
              have HlR : RowKit.Hid ((rowsB b').length < 1099511627776) := HlB.out
              have HC26 := Lib.hid (fun w' (h : Below wc.heap.size wc w') => (blen_calls _ px sb b' w' (Hbag.out.mono h)).mono (R' := fun e w1 => e = .returned (.int .i64 ((rowsB b').length : Nat)) ∧ Below w'.heap.size w' w1) (fun e w1 he => ⟨he.1, by rw [← he.2]; exact Below.refl _ _⟩))
              have HC27 := Lib.hid (fun w' (h : Below wc.heap.size wc w') => qcount_calls (m := (((rowsB b').count X : Nat) : Int)) (by rw [cnt_rows Hbag.out.wf]) _ px sb _ w' (Hbag.out.mono h) (Hx2.out.mono h) HlB.out)
              have HC28 := Lib.hid (fun w' (h : Below wc.heap.size wc w') => count_calls (rowsB b') X _ _ w' ((HM2.out.list.at HM2.out.low).mono h) (Hx2.out.mono h) HlR.out)
              have hq60 : (rowsB b').length ≤ 61 := by have := HM2.out.sm.1; unfold lenB at this; omega
              generalize (rowsB b').count X = cn at *
              have v1 := cell_of_row wc vb 1 _ 44 (0, 0) Hv2.out
              have vl := (Array.getElem?_eq_some_iff.1 Hv2.out).1
              simp only [List.getElem?_toArray, List.getElem?_cons_zero, List.getElem?_cons_succ] at v1
              generalize hql : (rowsB b').length = ql at *
              have Hql := Lib.hid hql
              clear hql hbag
              go_upto_region 23 with (fail)
              go_cut [88] (fun z wx => z = .bool false ∧ RowKit.Hid (Below wc.heap.size wc wx))
              case first =>
                go_region_held3 (fun w' => Below wc.heap.size wc w' ∧ ∀ b o, b < wc.heap.size → w'.cell? ⟨b, o, none⟩ = wc.cell? ⟨b, o, none⟩)
                  (first | assumption | exact S_of (Below.drew (Below.refl _ _)) | exact S_step (by assumption) (by assumption))
                  (first | (go_at_call 26; (with_reducible refine (HC26.out _ (by first | assumption | exact And.left (by assumption))).mono ?_); rintro e w1 ⟨rfl, hb1⟩) | (go_at_call 27; (with_reducible refine (HC27.out _ (by first | assumption | exact And.left (by assumption))).mono ?_); rintro e w1 ⟨rfl, hb1⟩) | (go_at_call 28; (with_reducible refine (HC28.out _ (by first | assumption | exact And.left (by assumption))).mono ?_); rintro e w1 ⟨rfl, hb1⟩))
                all_goals
                  rename_i hH
                  have Hb2 := Lib.hid hH.1
                  clear hH
                  go_wp2
                  go_meet
                  exact ⟨by simp, Hb2⟩
              obtain ⟨rfl, Hb2⟩ := hcut
              have HM3 := Lib.hid (HM2.out.mono Hb2.out)
              clear HM2 Hb2 v1 vl HC26 HC27 HC28 Hbag Hv2
              go_wp2
              go_roundw
              case rel => exact ⟨k' + 1, b', by omega, by go_num, HM3⟩
              case measure => simp [intOf]; omega
            · obtain rfl : k' = k := by omega
              obtain ⟨sb, hbag⟩ := HM.out.bag
              have X := Lib.hid hbag
              have Bz := Lib.hid HM.out.low
              have V := Lib.hid (HM.out.list.at HM.out.low)
              have Hsm := Lib.hid HM.out.sm
              have HlB : RowKit.Hid (lenB bk < 1099511627776) := by show _ < _; have := Hsm.out.1; omega
              have HlR : RowKit.Hid ((rowsB bk).length < 1099511627776) := HlB.out
              have Hcn : RowKit.Hid ((cntB bk R : Int) = (((rowsB bk).count R : Nat) : Int)) := by show _ = _; rw [cnt_rows X.out.wf]
              clear hbag HM
              go_wp2_with fail
              (with_reducible refine (srows_calls (N := k') (by omega) _ px sb _ wr X.out Hsm.out).mono ?_)
              rintro e w21 ⟨v21, rfl, h21, b21⟩
              have X := Lib.hid (X.out.mono b21)
              have V := Lib.hid (V.out.mono b21)
              have Z := Lib.hid (h21.own.at)
              have B21 := Lib.hid (Below.step Bz.out b21)
              clear h21 b21 Bz
              go_wp2_with fail
              (with_reducible refine (tsame_calls rfl _ _ w21 Z.out V.out).mono ?_)
              rintro e w22 ⟨rfl, b22⟩
              have X := Lib.hid (X.out.mono b22)
              have V := Lib.hid (V.out.mono b22)
              have B22 := Lib.hid (Below.step B21.out b22)
              clear b22 B21 Z
              go_wp2_with fail
              (with_reducible refine (qcount_calls Hcn.out _ px sb _ w22 X.out (Hr.out.mono B22.out) HlB.out).mono ?_)
              rintro e w23 ⟨rfl, b23⟩
              have V := Lib.hid (V.out.mono b23)
              have B23 := Lib.hid (Below.step B22.out b23)
              clear b23 B22 X
              go_wp2_with fail
              (with_reducible refine (count_calls (rowsB bk) R _ _ w23 V.out (Hr.out.mono B23.out) HlR.out).mono ?_)
              rintro e w24 ⟨rfl, b24⟩
              have B24 := Lib.hid (Below.step B23.out b24)
              clear b24 B23 V
              generalize (rowsB bk).count R = cn at *
              go_wp2
              go_ret
              exact ⟨rfl, B24.out⟩
end Go.Proofs.Ytekoemcckdhhnaa
