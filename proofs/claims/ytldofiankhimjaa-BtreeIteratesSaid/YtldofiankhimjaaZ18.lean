/- Part 18 of the proof: Lg -/
import Derived.Test.YtldofiankhimjaaZ16
/- The law BtreeIterates, as a walk. -/
namespace Go.Proofs.Ytldofiankhimjaa
open Go Go.RowKit
theorem PrAt.take {w : World} {a : Option Addr} {n c : Nat} {l : MI} (h : PrAt w (.slice a n c) l) (i : Nat) (hi : i ≤ l.length) : PrAt w (.slice a i c) (l.take i) := by
  obtain ⟨h1, a', c', e, h2, h3⟩ := h
  injection e with e1 e2 e3
  subst e1 e3
  have hl : (l.take i).length = i := by rw [List.length_take, Nat.min_eq_left hi]
  refine ⟨by omega, a, c, by rw [hl], by omega, fun j hj => ?_⟩
  obtain ⟨g, o, e, hg, c0, c1⟩ := h3 j (by omega)
  have ej : (l.take i)[j] = l[j]'(by omega) := List.getElem_take
  rw [ej]
  exact ⟨g, o, e, hg, c0, c1⟩
theorem St.itout0 {w0 w : World} {fp0 : List Nat} {A : Asn} {I R : List Asn} (h : St w0 fp0 (A :: (I ++ R)) w) : St w0 fp0 (A :: R) w := by
  have h2 : St w0 fp0 (I ++ (A :: R)) w := h.perm List.perm_middle.symm
  exact St.dropAll h2
set_option maxHeartbeats 8000000 in
set_option maxRecDepth 20000 in
theorem iterates_calls (ops : List (Int × Int × Int)) (v : Value) (a1 b1 : Int) (st : Nat) (hst : st < 256) (W : World) (hv : OpsAt W v ops) :
    Calls Try.prog 6 #[v, .agg #[.int .i64 a1, .int .i64 b1], .int .u8 st] W fun e w' => e = .returned (.bool true) ∧ Below W.heap.size W w' := by
  have HA := Lib.hid (awake_calls W _ [] _ ((St.start0 W).newblk 23 #[.int .i64 a1, .int .i64 b1]))
  generalize hb4 : W.heap.size = b4 at HA
  have Hb4 := Lib.hid hb4
  have HP : RowKit.Hid (ops.length < 1000000 → ∀ w R, St W [] R w → Calls Try.prog 24 #[.int .i64 4, v] w fun e w' => ∃ tb h v', e = .returned (.tuple #[ptrI tb, v', .bool true]) ∧ St W [] (objI (clampO 4) h (playM ops) tb :: prA v' (playM ops) :: R) w') := fun h1 w R hs => play_calls 4 ops v W w R hv h1 hs
  obtain ⟨hm, a, c, rfl, hc, -⟩ := hv
  have hpl := playM_len ops
  obtain ⟨N, hN⟩ : ∃ N, ops.length = N := ⟨_, rfl⟩
  have HPL : RowKit.Hid ((playM ops).length ≤ N) := by rw [← hN]; exact hpl
  rw [hN] at HP ⊢
  have Ho := Lib.hid (clampO_lo 4)
  have Ho' := Lib.hid (clampO_hi 4)
  generalize clampO 4 = O at *
  obtain ⟨r, hr⟩ : ∃ r, st % 40 = r := ⟨_, rfl⟩
  have hrt : Int.tmod (st : Int) 40 = r := by
    rw [Int.tmod_eq_emod_of_nonneg (by omega)]
    omega
  have hr40 : r < 40 := by rw [← hr]; exact Nat.mod_lt _ (by omega)
  clear hm hc hpl hN hr
  go_enter Try.func6, Try.ntmps6
  go_wp2_with fail
  clear hb4
  (with_reducible refine HA.out.mono ?_)
  rintro e w1 ⟨rfl, h1⟩
  have H1 := Lib.hid h1
  clear h1 HA
  by_cases hb : N > 200
  · have ht : decide ((N : Int) > 200) = true := by simp; omega
    clear hb
    go_wp2
    go_ret
    exact ⟨rfl, Hb4.out ▸ H1.out.below0⟩
  · have ht : decide ((N : Int) > 200) = false := by simp; omega
    have HP1 := Lib.hid (HP.out (by omega) w1 _ H1.out)
    have HLb : RowKit.Hid ((playM ops).length < 1000) := by have := HPL.out; show _ < _; omega
    unfold ptrI at HP1
    clear hb HP H1 HPL
    generalize playM ops = l at *
    go_wp2_with fail
    (with_reducible refine HP1.out.mono ?_)
    rintro e w2 ⟨tb, h, vl, rfl, h2⟩
    have H2 := Lib.hid h2
    clear h2 HP1
    go_upto_region 9 with (fail)
    refine rIt9I (w0 := W) (fp0 := []) b4 a1 b1 vl l (by have := HLb.out; omega) [objI O h l tb] _ (by kernel_rfl) rfl rfl rfl ?_ ?_
    · have h3 : St W [] (emp :: emp :: emp :: (objI O h l tb :: prA vl l :: blkA b4 23 #[.int .i64 a1, .int .i64 b1] :: [])) w2 := St.emp.2 (St.emp.2 (St.emp.2 H2.out))
      refine h3.perm ?_
      classical
      refine List.perm_iff_count.2 fun a => ?_
      simp only [pick_false, List.cons_append, List.nil_append, List.count_cons]
      omega
    intro u w3 e44 e45 h3
    have h4 : St W [] (threeA (u 43) vl (u 36) (u 42) :: (objI O h l tb :: prA vl l :: prA (u 36) (l.drop (posK l a1)) :: prA (u 42) (betF a1 b1 l) :: blkA b4 23 #[.int .i64 a1, .int .i64 b1] :: [])) w3 := by
      refine h3.perm ?_
      classical
      refine List.perm_iff_count.2 fun a => ?_
      simp only [pick_true, List.cons_append, List.nil_append, List.count_cons]
      omega
    obtain ⟨b43, e43, h5⟩ := St.threeA_out h4
    have hasc : AscM l := (h5.perm (List.Perm.swap _ _ _)).asc
    rw [from_selM hasc, betF_selM] at h5
    simp only [putL, List.map, List.foldl, Act.put, List.setIfInBounds_toArray, List.set_cons_succ, List.set_cons_zero, e43, e44, e45]
    obtain ⟨_, hq0⟩ := h5.has 2 rfl
    obtain ⟨_, hq1⟩ := h5.has 3 rfl
    obtain ⟨_, hq2⟩ := h5.has 4 rfl
    generalize u 32 = u32, u 33 = u33, u 34 = u34, u 35 = u35, u 36 = v36, u 37 = u37, u 38 = u38, u 39 = u39, u 40 = u40, u 41 = u41, u 42 = v42 at *
    obtain ⟨wl1, hwl1⟩ : ∃ x, selM (some a1) none l = x := ⟨_, rfl⟩
    obtain ⟨wl2, hwl2⟩ : ∃ x, selM (some a1) (some b1) l = x := ⟨_, rfl⟩
    have HE0 : RowKit.Hid (selM none none l = l) := selM_all l
    have HE1 := Lib.hid hwl1
    have HE2 := Lib.hid hwl2
    rw [hwl1] at hq1 h5
    rw [hwl2] at hq2 h5
    have HLb1 : RowKit.Hid (wl1.length < 1000) := by rw [← hwl1]; exact Nat.lt_of_le_of_lt (List.length_filter_le _ _) HLb.out
    have HLb2 : RowKit.Hid (wl2.length < 1000) := by rw [← hwl2]; exact Nat.lt_of_le_of_lt (List.length_filter_le _ _) HLb.out
    obtain ⟨wa0, wc0, rfl, hwc0, -, hcl0⟩ := row_shape hq0
    obtain ⟨wa1, wc1, rfl, hwc1, -, hcl1⟩ := row_shape hq1
    obtain ⟨wa2, wc2, rfl, hwc2, -, hcl2⟩ := row_shape hq2
    have HW0 : RowKit.Hid (0 < l.length → ∃ g, wa0 = some ⟨g, 0, none⟩) := fun h0 => by
      obtain ⟨g, e, -⟩ := hcl0 0 (by omega)
      exact ⟨g, e⟩
    have HW1 : RowKit.Hid (0 < wl1.length → ∃ g, wa1 = some ⟨g, 0, none⟩) := fun h0 => by
      obtain ⟨g, e, -⟩ := hcl1 0 (by omega)
      exact ⟨g, e⟩
    have HW2 : RowKit.Hid (0 < wl2.length → ∃ g, wa2 = some ⟨g, 0, none⟩) := fun h0 => by
      obtain ⟨g, e, -⟩ := hcl2 0 (by omega)
      exact ⟨g, e⟩
    obtain ⟨m0, hm0⟩ : ∃ x, l.length = x := ⟨_, rfl⟩
    obtain ⟨m1, hm1⟩ : ∃ x, wl1.length = x := ⟨_, rfl⟩
    obtain ⟨m2, hm2⟩ : ∃ x, wl2.length = x := ⟨_, rfl⟩
    have HM0 := Lib.hid hm0
    have HM1 := Lib.hid hm1
    have HM2 := Lib.hid hm2
    rw [hm0] at h5 hwc0 HW0 ⊢
    rw [hm1] at h5 hwc1 HW1 HLb1 ⊢
    rw [hm2] at h5 hwc2 HW2 HLb2 ⊢
    have HLb0 : RowKit.Hid (m0 < 1000) := by rw [← hm0]; exact HLb.out
    have hb0 := HLb0.out
    have hb1 := HLb1.out
    have hb2 := HLb2.out
    clear hwl1 hwl2 hm0 hm1 hm2 hcl0 hcl1 hcl2 hq0 hq1 hq2
    have H5 : RowKit.Hid (St W [] (objI O h l tb :: (blkA b43 31 #[.slice wa0 m0 wc0, .slice wa1 m1 wc1, .slice wa2 m2 wc2] :: prA (.slice wa0 m0 wc0) l :: prA (.slice wa1 m1 wc1) wl1 :: prA (.slice wa2 m2 wc2) wl2 :: blkA b4 23 #[.int .i64 a1, .int .i64 b1] :: [])) w3) := h5.perm (List.Perm.swap _ _ _)
    clear h3 h4 h5 e43 e44 e45 H2 u hasc
    go_step
    go_step
    go_wp2
    go_loopg [45] 3 (fun g z wr => ∃ k : Nat, z = .int .i64 k ∧ g + k = 3 ∧ RowKit.Hid (St W [] (objI O h l tb :: (blkA b43 31 #[.slice wa0 m0 wc0, .slice wa1 m1 wc1, .slice wa2 m2 wc2] :: prA (.slice wa0 m0 wc0) l :: prA (.slice wa1 m1 wc1) wl1 :: prA (.slice wa2 m2 wc2) wl2 :: blkA b4 23 #[.int .i64 a1, .int .i64 b1] :: [])) wr))
    case atStart => exact ⟨0, rfl, rfl, H5⟩
    case round =>
      clear H5
      obtain ⟨k, rfl, hgk, Hs⟩ := hrel
      obtain ⟨_, hb43⟩ := Hs.out.has 1 rfl
      obtain ⟨_, hb4⟩ := Hs.out.has 5 rfl
      have c0 := (blk_get hb43).1 0
      have c1 := (blk_get hb43).1 1
      have c2 := (blk_get hb43).1 2
      have cl := (blk_get hb43).2.2
      simp only [List.getElem?_toArray, List.getElem?_cons_zero, List.getElem?_cons_succ] at c0 c1 c2
      by_cases hk : k < 3
      · obtain ⟨R, hR⟩ : ∃ R, (blkA b43 31 #[.slice wa0 m0 wc0, .slice wa1 m1 wc1, .slice wa2 m2 wc2] :: prA (.slice wa0 m0 wc0) l :: prA (.slice wa1 m1 wc1) wl1 :: prA (.slice wa2 m2 wc2) wl2 :: blkA b4 23 #[.int .i64 a1, .int .i64 b1] :: []) = R := ⟨_, rfl⟩
        have HR := Lib.hid hR
        have R1 : R[1]? = some (prA (.slice wa0 m0 wc0) l) := by rw [← hR]; rfl
        have R2 : R[2]? = some (prA (.slice wa1 m1 wc1) wl1) := by rw [← hR]; rfl
        have R3 : R[3]? = some (prA (.slice wa2 m2 wc2) wl2) := by rw [← hR]; rfl
        have R4 : R[4]? = some (blkA b4 23 #[.int .i64 a1, .int .i64 b1]) := by rw [← hR]; rfl
        have HR1 := Lib.hid R1
        have HR2 := Lib.hid R2
        have HR3 := Lib.hid R3
        have HR4 := Lib.hid R4
        rw [hR] at Hs
        have HAll := Lib.hid (AllI_calls tb W wr [] _ Hs.out)
        have Hgk := Lib.hid hgk
        clear hR R1 R2 R3 R4 hgk hb43 hb4
        obtain rfl | rfl | rfl : k = 0 ∨ k = 1 ∨ k = 2 := by omega
        · go_wp2_with fail
          (with_reducible refine HAll.out.mono ?_)
          rintro e w4 ⟨bt, bl, bh, rfl, h4⟩
          have H4 := Lib.hid (St.itin h4)
          clear h4 HAll
          have HT1 := Lib.hid (taken_calls Ho'.out none none (.pointer none) (.pointer none) l tb bt bl bh (by have := HLb.out; omega) ((r : Int) + 1) W w4 [] R H4.out)
          rw [HE0.out] at HT1
          have HSel : RowKit.Hid (∀ w' w1 (x : MI), St W [] (prA w1 x :: objI O h l tb :: (iterLI tb bt bl bh (.pointer none) (.pointer none) none none ++ R)) w' → St W [] (objI O h l tb :: (iterLI tb bt bl bh (.pointer none) (.pointer none) none none ++ R)) w' ∧ PrAt w' w1 x ∧ PrAt w' (.slice wa0 m0 wc0) l) := by
            intro w' w1 x hs
            obtain ⟨_, hp1⟩ := hs.has 0 rfl
            obtain ⟨_, hp2⟩ := hs.drop.has (1 + (iterLI tb bt bl bh (.pointer none) (.pointer none) none none).length + 1) (A := prA (.slice wa0 m0 wc0) l) (by
              rw [Nat.add_assoc, Nat.add_comm 1, List.getElem?_cons_succ, List.getElem?_append_right (Nat.le_add_right _ _), Nat.add_sub_cancel_left]
              exact HR1.out)
            exact ⟨hs.drop, prA_at hp1, prA_at hp2⟩
          clear HR1 HR2 HR3 HR4 Hs H4 c0 c1 c2 cl
          by_cases hmn : m0 > r + 1
          · have ht2 : decide ((m0 : Int) > (r : Int) + 1) = true := by simp; omega
            obtain ⟨g, rfl⟩ := HW0.out (by omega)
            have e1 : takeM ((r : Int) + 1) l = l.take (r + 1) := by
              unfold takeM
              rw [if_neg (by omega), show ((r : Int) + 1).toNat = r + 1 by omega]
            rw [e1] at HT1
            have Hmn := Lib.hid hmn
            have hrc : r + 1 ≤ wc0 := by omega
            clear hmn
            go_wp2_with fail
            (with_reducible refine HT1.out.mono ?_)
            rintro e w6 ⟨v6, rfl, h6⟩
            obtain ⟨h7, p1, p2⟩ := HSel.out _ _ _ h6
            have HSm := Lib.hid (Same_calls _ _ v6 (.slice (some ⟨g, 0, none⟩) (r + 1) wc0) w6 p1 (p2.take (r + 1) (by rw [HM0.out]; have := Hmn.out; omega)))
            rw [show (decide (l.take (r + 1) = l.take (r + 1)) : Bool) = true by simp] at HSm
            have H7 := Lib.hid h7
            clear h6 h7 p1 p2 HT1 e1
            go_wp2_with fail
            (with_reducible refine HSm.out.mono ?_)
            rintro e w7 ⟨rfl, hb7⟩
            have H8 := Lib.hid (H7.out.mono hb7)
            have HT2 := Lib.hid (taken_calls Ho'.out none none (.pointer none) (.pointer none) l tb bt bl bh (by have := HLb.out; omega) ((m0 : Int) + 1) W w7 [] R H8.out)
            rw [HE0.out] at HT2
            have e2 : takeM ((m0 : Int) + 1) l = l := takeM_all (by rw [HM0.out]; omega)
            rw [e2] at HT2
            clear hb7 HSm H7
            go_wp2_with fail
            (with_reducible refine HT2.out.mono ?_)
            rintro e w8 ⟨v8, rfl, h8⟩
            obtain ⟨h9, q1, q2⟩ := HSel.out _ _ _ h8
            have HSm := Lib.hid (Same_calls _ _ v8 (.slice (some ⟨g, 0, none⟩) m0 wc0) w8 q1 q2)
            rw [show (decide (l = l) : Bool) = true by simp] at HSm
            have H9 := Lib.hid h9
            clear h8 h9 q1 q2 HT2 e2 H8 HSel
            go_wp2_with fail
            (with_reducible refine HSm.out.mono ?_)
            rintro e w9 ⟨rfl, hb9⟩
            have H10 := Lib.hid (St.itout0 (H9.out.mono hb9))
            rw [← HR.out] at H10
            clear hb9 HSm H9
            go_wp2
            go_roundg (2)
            case rel => exact ⟨1, by go_num, by omega, H10⟩
            case measure => have := Hgk.out; omega
          · have ht2 : decide ((m0 : Int) > (r : Int) + 1) = false := by simp; omega
            have e1 : takeM ((r : Int) + 1) l = l := by
              unfold takeM
              rw [if_neg (by omega), show ((r : Int) + 1).toNat = r + 1 by omega, List.take_of_length_le (by rw [HM0.out]; omega)]
            rw [e1] at HT1
            clear hmn
            go_wp2_with fail
            (with_reducible refine HT1.out.mono ?_)
            rintro e w6 ⟨v6, rfl, h6⟩
            obtain ⟨h7, p1, p2⟩ := HSel.out _ _ _ h6
            have HSm := Lib.hid (Same_calls _ _ v6 (.slice wa0 m0 wc0) w6 p1 p2)
            rw [show (decide (l = l) : Bool) = true by simp] at HSm
            have H7 := Lib.hid h7
            clear h6 h7 p1 p2 HT1 e1
            go_wp2_with fail
            (with_reducible refine HSm.out.mono ?_)
            rintro e w7 ⟨rfl, hb7⟩
            have H8 := Lib.hid (H7.out.mono hb7)
            have HT2 := Lib.hid (taken_calls Ho'.out none none (.pointer none) (.pointer none) l tb bt bl bh (by have := HLb.out; omega) ((m0 : Int) + 1) W w7 [] R H8.out)
            rw [HE0.out] at HT2
            have e2 : takeM ((m0 : Int) + 1) l = l := takeM_all (by rw [HM0.out]; omega)
            rw [e2] at HT2
            clear hb7 HSm H7
            go_wp2_with fail
            (with_reducible refine HT2.out.mono ?_)
            rintro e w8 ⟨v8, rfl, h8⟩
            obtain ⟨h9, q1, q2⟩ := HSel.out _ _ _ h8
            have HSm := Lib.hid (Same_calls _ _ v8 (.slice wa0 m0 wc0) w8 q1 q2)
            rw [show (decide (l = l) : Bool) = true by simp] at HSm
            have H9 := Lib.hid h9
            clear h8 h9 q1 q2 HT2 e2 H8 HSel
            go_wp2_with fail
            (with_reducible refine HSm.out.mono ?_)
            rintro e w9 ⟨rfl, hb9⟩
            have H10 := Lib.hid (St.itout0 (H9.out.mono hb9))
            rw [← HR.out] at H10
            clear hb9 HSm H9
            go_wp2
            go_roundg (2)
            case rel => exact ⟨1, by go_num, by omega, H10⟩
            case measure => have := Hgk.out; omega
        · go_wp2_with fail
          (with_reducible refine HAll.out.mono ?_)
          rintro e w4 ⟨bt, bl, bh, rfl, h4⟩
          have H4 := Lib.hid (St.itin h4)
          clear h4 HAll
          have H5 := Lib.hid (St.itout0 H4.out)
          obtain ⟨_, hb4⟩ := H5.out.has 5 (by show R[4]? = _; exact HR4.out)
          have d0 := (blk_get hb4).1 0
          have d1 := (blk_get hb4).1 1
          have dl := (blk_get hb4).2.2
          simp only [List.getElem?_toArray, List.getElem?_cons_zero, List.getElem?_cons_succ] at d0 d1
          clear hb4 H4
          have HF := Lib.hid (FromI_calls tb a1 W w4 [] _ H5.out)
          unfold encI at HF
          clear H5
          go_wp2_with fail
          (with_reducible refine HF.out.mono ?_)
          rintro e w5 ⟨bt, bl, bh, pl, rfl, h6⟩
          have H4 := Lib.hid (St.itin h6)
          clear h6 HF d0 d1 dl
          have HT1 := Lib.hid (taken_calls Ho'.out (some a1) none pl (.pointer none) l tb bt bl bh (by have := HLb.out; omega) ((r : Int) + 1) W w5 [] R H4.out)
          rw [HE1.out] at HT1
          have HSel : RowKit.Hid (∀ w' w1 (x : MI), St W [] (prA w1 x :: objI O h l tb :: (iterLI tb bt bl bh pl (.pointer none) (some a1) none ++ R)) w' → St W [] (objI O h l tb :: (iterLI tb bt bl bh pl (.pointer none) (some a1) none ++ R)) w' ∧ PrAt w' w1 x ∧ PrAt w' (.slice wa1 m1 wc1) wl1) := by
            intro w' w1 x hs
            obtain ⟨_, hp1⟩ := hs.has 0 rfl
            obtain ⟨_, hp2⟩ := hs.drop.has (1 + (iterLI tb bt bl bh pl (.pointer none) (some a1) none).length + 2) (A := prA (.slice wa1 m1 wc1) wl1) (by
              rw [Nat.add_assoc, Nat.add_comm 1, List.getElem?_cons_succ, List.getElem?_append_right (Nat.le_add_right _ _), Nat.add_sub_cancel_left]
              exact HR2.out)
            exact ⟨hs.drop, prA_at hp1, prA_at hp2⟩
          clear HR1 HR2 HR3 HR4 Hs H4 c0 c1 c2 cl
          by_cases hmn : m1 > r + 1
          · have ht2 : decide ((m1 : Int) > (r : Int) + 1) = true := by simp; omega
            obtain ⟨g, rfl⟩ := HW1.out (by omega)
            have e1 : takeM ((r : Int) + 1) wl1 = wl1.take (r + 1) := by
              unfold takeM
              rw [if_neg (by omega), show ((r : Int) + 1).toNat = r + 1 by omega]
            rw [e1] at HT1
            have Hmn := Lib.hid hmn
            have hrc : r + 1 ≤ wc1 := by omega
            clear hmn
            go_wp2_with fail
            (with_reducible refine HT1.out.mono ?_)
            rintro e w6 ⟨v6, rfl, h6⟩
            obtain ⟨h7, p1, p2⟩ := HSel.out _ _ _ h6
            have HSm := Lib.hid (Same_calls _ _ v6 (.slice (some ⟨g, 0, none⟩) (r + 1) wc1) w6 p1 (p2.take (r + 1) (by rw [HM1.out]; have := Hmn.out; omega)))
            rw [show (decide (wl1.take (r + 1) = wl1.take (r + 1)) : Bool) = true by simp] at HSm
            have H7 := Lib.hid h7
            clear h6 h7 p1 p2 HT1 e1
            go_wp2_with fail
            (with_reducible refine HSm.out.mono ?_)
            rintro e w7 ⟨rfl, hb7⟩
            have H8 := Lib.hid (H7.out.mono hb7)
            have HT2 := Lib.hid (taken_calls Ho'.out (some a1) none pl (.pointer none) l tb bt bl bh (by have := HLb.out; omega) ((m1 : Int) + 1) W w7 [] R H8.out)
            rw [HE1.out] at HT2
            have e2 : takeM ((m1 : Int) + 1) wl1 = wl1 := takeM_all (by rw [HM1.out]; omega)
            rw [e2] at HT2
            clear hb7 HSm H7
            go_wp2_with fail
            (with_reducible refine HT2.out.mono ?_)
            rintro e w8 ⟨v8, rfl, h8⟩
            obtain ⟨h9, q1, q2⟩ := HSel.out _ _ _ h8
            have HSm := Lib.hid (Same_calls _ _ v8 (.slice (some ⟨g, 0, none⟩) m1 wc1) w8 q1 q2)
            rw [show (decide (wl1 = wl1) : Bool) = true by simp] at HSm
            have H9 := Lib.hid h9
            clear h8 h9 q1 q2 HT2 e2 H8 HSel
            go_wp2_with fail
            (with_reducible refine HSm.out.mono ?_)
            rintro e w9 ⟨rfl, hb9⟩
            have H10 := Lib.hid (St.itout0 (H9.out.mono hb9))
            rw [← HR.out] at H10
            clear hb9 HSm H9
            go_wp2
            go_roundg (1)
            case rel => exact ⟨2, by go_num, by omega, H10⟩
            case measure => have := Hgk.out; omega
          · have ht2 : decide ((m1 : Int) > (r : Int) + 1) = false := by simp; omega
            have e1 : takeM ((r : Int) + 1) wl1 = wl1 := by
              unfold takeM
              rw [if_neg (by omega), show ((r : Int) + 1).toNat = r + 1 by omega, List.take_of_length_le (by rw [HM1.out]; omega)]
            rw [e1] at HT1
            clear hmn
            go_wp2_with fail
            (with_reducible refine HT1.out.mono ?_)
            rintro e w6 ⟨v6, rfl, h6⟩
            obtain ⟨h7, p1, p2⟩ := HSel.out _ _ _ h6
            have HSm := Lib.hid (Same_calls _ _ v6 (.slice wa1 m1 wc1) w6 p1 p2)
            rw [show (decide (wl1 = wl1) : Bool) = true by simp] at HSm
            have H7 := Lib.hid h7
            clear h6 h7 p1 p2 HT1 e1
            go_wp2_with fail
            (with_reducible refine HSm.out.mono ?_)
            rintro e w7 ⟨rfl, hb7⟩
            have H8 := Lib.hid (H7.out.mono hb7)
            have HT2 := Lib.hid (taken_calls Ho'.out (some a1) none pl (.pointer none) l tb bt bl bh (by have := HLb.out; omega) ((m1 : Int) + 1) W w7 [] R H8.out)
            rw [HE1.out] at HT2
            have e2 : takeM ((m1 : Int) + 1) wl1 = wl1 := takeM_all (by rw [HM1.out]; omega)
            rw [e2] at HT2
            clear hb7 HSm H7
            go_wp2_with fail
            (with_reducible refine HT2.out.mono ?_)
            rintro e w8 ⟨v8, rfl, h8⟩
            obtain ⟨h9, q1, q2⟩ := HSel.out _ _ _ h8
            have HSm := Lib.hid (Same_calls _ _ v8 (.slice wa1 m1 wc1) w8 q1 q2)
            rw [show (decide (wl1 = wl1) : Bool) = true by simp] at HSm
            have H9 := Lib.hid h9
            clear h8 h9 q1 q2 HT2 e2 H8 HSel
            go_wp2_with fail
            (with_reducible refine HSm.out.mono ?_)
            rintro e w9 ⟨rfl, hb9⟩
            have H10 := Lib.hid (St.itout0 (H9.out.mono hb9))
            rw [← HR.out] at H10
            clear hb9 HSm H9
            go_wp2
            go_roundg (1)
            case rel => exact ⟨2, by go_num, by omega, H10⟩
            case measure => have := Hgk.out; omega
        · go_wp2_with fail
          (with_reducible refine HAll.out.mono ?_)
          rintro e w4 ⟨bt, bl, bh, rfl, h4⟩
          have H4 := Lib.hid (St.itin h4)
          clear h4 HAll
          have H5 := Lib.hid (St.itout0 H4.out)
          obtain ⟨_, hb4⟩ := H5.out.has 5 (by show R[4]? = _; exact HR4.out)
          have d0 := (blk_get hb4).1 0
          have d1 := (blk_get hb4).1 1
          have dl := (blk_get hb4).2.2
          simp only [List.getElem?_toArray, List.getElem?_cons_zero, List.getElem?_cons_succ] at d0 d1
          clear hb4 H4
          have HF := Lib.hid (BetweenI_calls tb a1 b1 W w4 [] _ H5.out)
          unfold encI at HF
          clear H5
          go_wp2_with fail
          (with_reducible refine HF.out.mono ?_)
          rintro e w5 ⟨bt, bl, bh, pl, ph, rfl, h6⟩
          have H4 := Lib.hid (St.itin h6)
          clear h6 HF d0 d1 dl
          have HT1 := Lib.hid (taken_calls Ho'.out (some a1) (some b1) pl ph l tb bt bl bh (by have := HLb.out; omega) ((r : Int) + 1) W w5 [] R H4.out)
          rw [HE2.out] at HT1
          have HSel : RowKit.Hid (∀ w' w1 (x : MI), St W [] (prA w1 x :: objI O h l tb :: (iterLI tb bt bl bh pl ph (some a1) (some b1) ++ R)) w' → St W [] (objI O h l tb :: (iterLI tb bt bl bh pl ph (some a1) (some b1) ++ R)) w' ∧ PrAt w' w1 x ∧ PrAt w' (.slice wa2 m2 wc2) wl2) := by
            intro w' w1 x hs
            obtain ⟨_, hp1⟩ := hs.has 0 rfl
            obtain ⟨_, hp2⟩ := hs.drop.has (1 + (iterLI tb bt bl bh pl ph (some a1) (some b1)).length + 3) (A := prA (.slice wa2 m2 wc2) wl2) (by
              rw [Nat.add_assoc, Nat.add_comm 1, List.getElem?_cons_succ, List.getElem?_append_right (Nat.le_add_right _ _), Nat.add_sub_cancel_left]
              exact HR3.out)
            exact ⟨hs.drop, prA_at hp1, prA_at hp2⟩
          clear HR1 HR2 HR3 HR4 Hs H4 c0 c1 c2 cl
          by_cases hmn : m2 > r + 1
          · have ht2 : decide ((m2 : Int) > (r : Int) + 1) = true := by simp; omega
            obtain ⟨g, rfl⟩ := HW2.out (by omega)
            have e1 : takeM ((r : Int) + 1) wl2 = wl2.take (r + 1) := by
              unfold takeM
              rw [if_neg (by omega), show ((r : Int) + 1).toNat = r + 1 by omega]
            rw [e1] at HT1
            have Hmn := Lib.hid hmn
            have hrc : r + 1 ≤ wc2 := by omega
            clear hmn
            go_wp2_with fail
            (with_reducible refine HT1.out.mono ?_)
            rintro e w6 ⟨v6, rfl, h6⟩
            obtain ⟨h7, p1, p2⟩ := HSel.out _ _ _ h6
            have HSm := Lib.hid (Same_calls _ _ v6 (.slice (some ⟨g, 0, none⟩) (r + 1) wc2) w6 p1 (p2.take (r + 1) (by rw [HM2.out]; have := Hmn.out; omega)))
            rw [show (decide (wl2.take (r + 1) = wl2.take (r + 1)) : Bool) = true by simp] at HSm
            have H7 := Lib.hid h7
            clear h6 h7 p1 p2 HT1 e1
            go_wp2_with fail
            (with_reducible refine HSm.out.mono ?_)
            rintro e w7 ⟨rfl, hb7⟩
            have H8 := Lib.hid (H7.out.mono hb7)
            have HT2 := Lib.hid (taken_calls Ho'.out (some a1) (some b1) pl ph l tb bt bl bh (by have := HLb.out; omega) ((m2 : Int) + 1) W w7 [] R H8.out)
            rw [HE2.out] at HT2
            have e2 : takeM ((m2 : Int) + 1) wl2 = wl2 := takeM_all (by rw [HM2.out]; omega)
            rw [e2] at HT2
            clear hb7 HSm H7
            go_wp2_with fail
            (with_reducible refine HT2.out.mono ?_)
            rintro e w8 ⟨v8, rfl, h8⟩
            obtain ⟨h9, q1, q2⟩ := HSel.out _ _ _ h8
            have HSm := Lib.hid (Same_calls _ _ v8 (.slice (some ⟨g, 0, none⟩) m2 wc2) w8 q1 q2)
            rw [show (decide (wl2 = wl2) : Bool) = true by simp] at HSm
            have H9 := Lib.hid h9
            clear h8 h9 q1 q2 HT2 e2 H8 HSel
            go_wp2_with fail
            (with_reducible refine HSm.out.mono ?_)
            rintro e w9 ⟨rfl, hb9⟩
            have H10 := Lib.hid (St.itout0 (H9.out.mono hb9))
            rw [← HR.out] at H10
            clear hb9 HSm H9
            go_wp2
            go_roundg (0)
            case rel => exact ⟨3, by go_num, by omega, H10⟩
            case measure => have := Hgk.out; omega
          · have ht2 : decide ((m2 : Int) > (r : Int) + 1) = false := by simp; omega
            have e1 : takeM ((r : Int) + 1) wl2 = wl2 := by
              unfold takeM
              rw [if_neg (by omega), show ((r : Int) + 1).toNat = r + 1 by omega, List.take_of_length_le (by rw [HM2.out]; omega)]
            rw [e1] at HT1
            clear hmn
            go_wp2_with fail
            (with_reducible refine HT1.out.mono ?_)
            rintro e w6 ⟨v6, rfl, h6⟩
            obtain ⟨h7, p1, p2⟩ := HSel.out _ _ _ h6
            have HSm := Lib.hid (Same_calls _ _ v6 (.slice wa2 m2 wc2) w6 p1 p2)
            rw [show (decide (wl2 = wl2) : Bool) = true by simp] at HSm
            have H7 := Lib.hid h7
            clear h6 h7 p1 p2 HT1 e1
            go_wp2_with fail
            (with_reducible refine HSm.out.mono ?_)
            rintro e w7 ⟨rfl, hb7⟩
            have H8 := Lib.hid (H7.out.mono hb7)
            have HT2 := Lib.hid (taken_calls Ho'.out (some a1) (some b1) pl ph l tb bt bl bh (by have := HLb.out; omega) ((m2 : Int) + 1) W w7 [] R H8.out)
            rw [HE2.out] at HT2
            have e2 : takeM ((m2 : Int) + 1) wl2 = wl2 := takeM_all (by rw [HM2.out]; omega)
            rw [e2] at HT2
            clear hb7 HSm H7
            go_wp2_with fail
            (with_reducible refine HT2.out.mono ?_)
            rintro e w8 ⟨v8, rfl, h8⟩
            obtain ⟨h9, q1, q2⟩ := HSel.out _ _ _ h8
            have HSm := Lib.hid (Same_calls _ _ v8 (.slice wa2 m2 wc2) w8 q1 q2)
            rw [show (decide (wl2 = wl2) : Bool) = true by simp] at HSm
            have H9 := Lib.hid h9
            clear h8 h9 q1 q2 HT2 e2 H8 HSel
            go_wp2_with fail
            (with_reducible refine HSm.out.mono ?_)
            rintro e w9 ⟨rfl, hb9⟩
            have H10 := Lib.hid (St.itout0 (H9.out.mono hb9))
            rw [← HR.out] at H10
            clear hb9 HSm H9
            go_wp2
            go_roundg (0)
            case rel => exact ⟨3, by go_num, by omega, H10⟩
            case measure => have := Hgk.out; omega
      · obtain rfl : k = 3 := by omega
        clear hgk hk c0 c1 c2 cl hb43 hb4
        go_wp2
        go_ret
        exact ⟨rfl, Hb4.out ▸ Hs.out.below0⟩
end Go.Proofs.Ytldofiankhimjaa
