/- Part 16 of the proof: Le -/
import Derived.Test.YtldofiankhimjaaZ15
import Derived.Test.YtldofiankhimjaaZ13
/- The law BtreeInsertionOrder, as a walk. -/
namespace Go.Proofs.Ytldofiankhimjaa
open Go Go.RowKit
theorem mem_putM_iff {l : MI} {k v : Int} {y : Int × Int} (ha : AscM l) : y ∈ putM l k v ↔ y = (k, v) ∨ (y ∈ l ∧ y.1 ≠ k) := by
  constructor
  · intro h
    induction l with
    | nil => unfold putM at h; simp at h; exact .inl h
    | cons x l ih =>
      obtain ⟨h1, h2⟩ := AscM.cons.1 ha
      unfold putM at h
      split at h
      · rename_i hlt
        rcases List.mem_cons.1 h with rfl | h
        · exact .inr ⟨by simp, ltK_ne hlt⟩
        · rcases ih h2 h with rfl | ⟨h3, h4⟩
          · exact .inl rfl
          · exact .inr ⟨by simp [h3], h4⟩
      · rename_i hlt
        split at h
        · rename_i he
          rcases List.mem_cons.1 h with rfl | h
          · exact .inl rfl
          · have h5 := h1 y h
            rw [eqK_iff.1 he] at h5
            exact .inr ⟨by simp [h], (ltK_ne h5).symm⟩
        · rename_i he
          have hgt : ltK k x.1 := ltK_of_not hlt (eqK_not.1 (by simpa using he))
          rcases List.mem_cons.1 h with rfl | h
          · exact .inl rfl
          · rcases List.mem_cons.1 h with rfl | h
            · exact .inr ⟨by simp, (ltK_ne hgt).symm⟩
            · exact .inr ⟨by simp [h], (ltK_ne (ltK_trans hgt (h1 y h))).symm⟩
  · intro h
    induction l with
    | nil =>
      rcases h with rfl | ⟨h, -⟩
      · simp [putM]
      · cases h
    | cons x l ih =>
      obtain ⟨h1, h2⟩ := AscM.cons.1 ha
      unfold putM
      split
      · rcases h with rfl | ⟨h, h3⟩
        · exact List.mem_cons_of_mem _ (ih h2 (.inl rfl))
        · rcases List.mem_cons.1 h with rfl | h
          · simp
          · exact List.mem_cons_of_mem _ (ih h2 (.inr ⟨h, h3⟩))
      · split
        · rename_i he
          rcases h with rfl | ⟨h, h3⟩
          · simp
          · rcases List.mem_cons.1 h with rfl | h
            · exact absurd (eqK_iff.1 he) h3
            · simp [h]
        · rcases h with rfl | ⟨h, h3⟩
          · simp
          · exact List.mem_cons_of_mem _ h
/-- The map of some keys, each with its half. -/
def insL (ks : List Int) : MI := ks.foldl (fun l k => putM l k (k.tdiv 2)) []
theorem insL_snoc (ks : List Int) (k : Int) : insL (ks ++ [k]) = putM (insL ks) k (k.tdiv 2) := by unfold insL; rw [List.foldl_append]; rfl
theorem insL_asc (ks : List Int) : AscM (insL ks) := by
  have h : ∀ (ks : List Int) (l : MI), AscM l → AscM (ks.foldl (fun l k => putM l k (k.tdiv 2)) l) := by
    intro ks
    induction ks with
    | nil => exact fun l h => h
    | cons k ks ih => exact fun l h => ih _ (ascM_putM h _ _)
  exact h ks [] List.Pairwise.nil
theorem insL_mem (ks : List Int) : ∀ y : Int × Int, y ∈ insL ks ↔ y.1 ∈ ks ∧ y.2 = y.1.tdiv 2 := by
  have h : ∀ (ks done : List Int) (l : MI), AscM l → (∀ y : Int × Int, y ∈ l ↔ y.1 ∈ done ∧ y.2 = y.1.tdiv 2) → ∀ y : Int × Int, y ∈ ks.foldl (fun l k => putM l k (k.tdiv 2)) l ↔ y.1 ∈ done ++ ks ∧ y.2 = y.1.tdiv 2 := by
    intro ks
    induction ks with
    | nil => intro done l _ h y; rw [List.append_nil]; exact h y
    | cons k ks ih =>
      intro done l ha h y
      have h2 := ih (done ++ [k]) (putM l k (k.tdiv 2)) (ascM_putM ha _ _) (fun z => by
        rw [mem_putM_iff ha, h z]
        constructor
        · rintro (rfl | ⟨⟨h3, h4⟩, -⟩)
          · simp
          · exact ⟨by simp [h3], h4⟩
        · rintro ⟨h3, h4⟩
          by_cases hz : z.1 = k
          · exact .inl (Prod.ext hz (by rw [h4, hz]))
          · rcases List.mem_append.1 h3 with h5 | h5
            · exact .inr ⟨⟨h5, h4⟩, hz⟩
            · exact absurd (List.mem_singleton.1 h5) hz) y
      rw [List.append_assoc] at h2
      exact h2
  intro y
  have := h ks [] [] List.Pairwise.nil (fun y => by simp) y
  simpa [insL] using this
theorem insL_reverse (ks : List Int) : insL ks.reverse = insL ks := asc_ext (insL_asc _) (insL_asc _) fun y => by rw [insL_mem, insL_mem, List.mem_reverse]
theorem insL_len (ks : List Int) : (insL ks).length ≤ ks.length := by
  have h : ∀ (ks : List Int) (l : MI), (ks.foldl (fun l k => putM l k (k.tdiv 2)) l).length ≤ l.length + ks.length := by
    intro ks
    induction ks with
    | nil => intro l; simp
    | cons k ks ih =>
      intro l
      have h1 := ih (putM l k (k.tdiv 2))
      have h2 := putM_len l k (k.tdiv 2)
      simp only [List.foldl_cons, List.length_cons]
      omega
  have := h ks []
  rw [List.length_nil, Nat.zero_add] at this
  exact this
/-- A list of numbers that can be read. -/
def IntsAt (w : World) (v : Value) (l : List Int) : Prop :=
  l.length ≤ maxLen ∧ ∃ a c, v = .slice a l.length c ∧ l.length ≤ c ∧ ∀ i (hi : i < l.length), ∃ g o, a = some ⟨g, o, none⟩ ∧ g < w.heap.size ∧ w.cell? ⟨g, o + i, none⟩ = some (.int .i64 l[i]) ∧ -9223372036854775808 ≤ l[i] ∧ l[i] ≤ 9223372036854775807
set_option maxHeartbeats 8000000 in
set_option maxRecDepth 20000 in
theorem order_calls (ks : List Int) (v : Value) (a1 b1 : Int) (W : World) (hv : IntsAt W v ks) :
    Calls Try.prog 3 #[v, .agg #[.int .i64 a1, .int .i64 b1]] W fun e w' => e = .returned (.bool true) ∧ Below W.heap.size W w' := by
  obtain ⟨hm, a, c, rfl, hc, hcell⟩ := hv
  have Hcell := Lib.hid hcell
  have HA := Lib.hid (awake_calls W _ [] _ ((St.start0 W).newblk 23 #[.int .i64 a1, .int .i64 b1]))
  obtain ⟨N, hN⟩ : ∃ N, ks.length = N := ⟨_, rfl⟩
  have HN := Lib.hid hN
  rw [hN] at hc ⊢
  clear hm hcell hN
  generalize hb3 : W.heap.size = b3 at HA
  have Hb3 := Lib.hid hb3
  go_enter Try.func3, Try.ntmps3
  go_wp2_with fail
  clear hb3
  (with_reducible refine HA.out.mono ?_)
  rintro e w1 ⟨rfl, h1⟩
  have H1 := Lib.hid h1
  clear h1 HA
  by_cases hb : N > 200
  · have ht : decide ((N : Int) > 200) = true := by simp; omega
    clear hb
    go_wp2
    go_ret
    exact ⟨rfl, Hb3.out ▸ H1.out.below0⟩
  · have ht : decide ((N : Int) > 200) = false := by simp; omega
    have HB := Lib.hid hb
    clear hb
    go_upto_region 5 with (fail)
    refine rIo5I (w0 := W) (fp0 := []) b3 a1 b1 [] _ (by kernel_rfl) rfl rfl ?_ ?_
    · exact St.emp.2 (St.emp.2 (St.pure.2 ⟨trivial, St.pure.2 ⟨trivial, H1.out⟩⟩))
    intro u w2 h2
    have Ho1 := Lib.hid (clampO_lo a1)
    have Ho1' := Lib.hid (clampO_hi a1)
    have Ho2 := Lib.hid (clampO_lo b1)
    have Ho2' := Lib.hid (clampO_hi b1)
    generalize clampO a1 = O1 at *
    generalize clampO b1 = O2 at *
    have h3 : St W [] (freshA (u 16) O1 :: (freshA (u 19) O2 :: pureA (u 5 = u 16) :: pureA (u 6 = u 19) :: blkA b3 23 #[.int .i64 a1, .int .i64 b1] :: [])) w2 := h2
    obtain ⟨ta, e16, h4⟩ := St.freshA_out h3
    obtain ⟨tb, e19, h5⟩ := St.freshA_out (h4.perm (List.Perm.swap _ _ _))
    have h6 : St W [] (pureA (u 5 = u 16) :: pureA (u 6 = u 19) :: hobjA O1 ta (insL (ks.take 0)) :: hobjA O2 tb (insL (ks.reverse.take 0)) :: []) w2 := by
      have h7 := St.hobj.2 ⟨0, h5⟩
      have h8 := St.hobj.2 ⟨0, h7.perm (List.Perm.swap _ _ _)⟩
      have h9 : St W [] (blkA b3 23 #[.int .i64 a1, .int .i64 b1] :: (pureA (u 5 = u 16) :: pureA (u 6 = u 19) :: hobjA O1 ta (insL (ks.take 0)) :: hobjA O2 tb (insL (ks.reverse.take 0)) :: [])) w2 := by
        refine h8.perm ?_
        classical
        refine List.perm_iff_count.2 fun a => ?_
        simp only [List.count_cons, List.take_zero, insL, List.foldl_nil]
        omega
      exact h9.drop
    obtain ⟨e5, h7⟩ := St.pure.1 h6
    obtain ⟨e6, h8⟩ := St.pure.1 h7
    have H2 := Lib.hid h8
    simp only [putL, List.map, List.foldl, Act.put, List.setIfInBounds_toArray, List.set_cons_succ, List.set_cons_zero, e5, e6, e16, e19]
    generalize u 14 = u14, u 15 = u15, u 17 = u17, u 18 = u18
    unfold ptrI
    clear h2 h3 h4 h5 h6 h7 h8 e5 e6 e16 e19 H1 u
    go_step
    go_step
    go_wp2
    go_loopg [28] N (fun g z wr => ∃ k : Nat, z = .int .i64 k ∧ g + k = N ∧ RowKit.Hid (St W [] (hobjA O1 ta (insL (ks.take k)) :: hobjA O2 tb (insL (ks.reverse.take k)) :: []) wr))
    case atStart => exact ⟨0, rfl, rfl, H2⟩
    case round =>
      clear H2
      obtain ⟨k, rfl, hgk, Hs⟩ := hrel
      have hNb : N ≤ 200 := by have := HB.out; omega
      by_cases hk : k < N
      · have hkl : k < ks.length := by rw [HN.out]; exact hk
        obtain ⟨j, hj⟩ : ∃ j, k + j + 1 = N := ⟨N - 1 - k, by omega⟩
        have hjl : j < ks.length := by rw [HN.out]; omega
        obtain ⟨g, o, rfl, hg, c0, k0, k1⟩ := Hcell.out k hkl
        obtain ⟨g', o', e', hg', d0, m0, m1⟩ := Hcell.out j hjl
        injection e' with e'
        injection e' with eg eo
        subst eg eo
        obtain ⟨h, hs⟩ := St.hobj.1 Hs.out
        have hl1 : (insL (ks.take k)).length < 1000000 := by have := insL_len (ks.take k); rw [List.length_take] at this; omega
        have hl2 : (insL (ks.reverse.take k)).length < 1000000 := by have := insL_len (ks.reverse.take k); rw [List.length_take] at this; omega
        have hstep1 : insL (ks.take (k + 1)) = putM (insL (ks.take k)) ks[k] (ks[k].tdiv 2) := by
          rw [List.take_add_one, List.getElem?_eq_getElem hkl]
          exact insL_snoc _ _
        have hstep2 : insL (ks.reverse.take (k + 1)) = putM (insL (ks.reverse.take k)) ks[j] (ks[j].tdiv 2) := by
          have hr : ks.reverse[k]? = some ks[j] := by
            rw [List.getElem?_reverse hkl, ← List.getElem?_eq_getElem hjl]
            congr 1
            rw [HN.out]; omega
          rw [List.take_add_one, hr]
          exact insL_snoc _ _
        have hkey : ∀ (L : List Asn) w1, St W [] L w1 → w1.cell? ⟨g, o + j, none⟩ = some (.int .i64 ks[j]) := fun L w1 h1 => (h1.below0.cell (p := ⟨g, o + j, none⟩) hg').trans d0
        have HP := Lib.hid (PutI_calls Ho1.out Ho1'.out h (insL (ks.take k)) ta ks[k] (ks[k].tdiv 2) W wr [] _ (by omega) hs)
        replace c0 := (Hs.out.below0.cell (p := ⟨g, o + k, none⟩) hg).trans c0
        replace hg := Nat.lt_of_lt_of_le hg Hs.out.below0.size
        have hw3 := half_in k0 k1
        have Hst1 := Lib.hid hstep1
        have Hst2 := Lib.hid hstep2
        have Hkey := Lib.hid hkey
        have Hm := Lib.hid (And.intro m0 m1)
        have Hl2 := Lib.hid hl2
        have Hj := Lib.hid hj
        have Hgk := Lib.hid hgk
        have hkn : (k : Int) < N := by omega
        unfold ptrI encI valI at HP
        clear hkey hstep1 hstep2 hl1 hl2 d0 hg' m0 m1 k0 k1 hs Hs hgk hj
        generalize insL (ks.take k) = l1 at *
        generalize insL (ks.reverse.take k) = l2 at *
        generalize ks[k] = x1 at *
        generalize ks[j] = x2 at *
        clear hjl hkl
        go_wp2_with fail
        (with_reducible refine HP.out.mono ?_)
        rintro e w3 ⟨rfl, h', h3⟩
        have H3 : RowKit.Hid (St W [] (hobjA O2 tb l2 :: hobjA O1 ta (putM l1 x1 (x1.tdiv 2)) :: []) w3) := (St.hobj.2 ⟨h', h3⟩).perm (List.Perm.swap _ _ _)
        generalize getM l1 x1 = gg at *
        clear h3 HP c0 hw3
        go_upto_region 12 with (fail)
        refine rIo12I (w0 := W) (fp0 := []) g o N c tb O2 k j x2 l2 Ho2.out Ho2'.out (by have := Hl2.out; omega) Hj.out (by omega) Hm.out Hkey.out [hobjA O1 ta (putM l1 x1 (x1.tdiv 2))] _ (by kernel_rfl) rfl rfl rfl rfl H3.out ?_
        intro u w4 h4
        have H4 : RowKit.Hid (St W [] (hobjA O1 ta (insL (ks.take (k + 1))) :: hobjA O2 tb (insL (ks.reverse.take (k + 1))) :: []) w4) := by
          rw [Hst1.out, Hst2.out]
          exact St.perm (L := [hobjA O2 tb (putM l2 x2 (x2.tdiv 2)), hobjA O1 ta (putM l1 x1 (x1.tdiv 2))]) h4 (List.Perm.swap _ _ _)
        clear h4 H3 Hkey Hst1 Hst2
        simp only [putL, List.map, List.foldl, Act.put, List.setIfInBounds_toArray, List.set_cons_succ, List.set_cons_zero]
        generalize u 38 = u38, u 39 = u39, u 40 = u40, u 41 = u41, u 42 = u42, u 43 = u43, u 44 = u44, u 45 = u45, u 46 = u46, u 47 = u47, u 48 = u48, u 49 = u49, u 50 = u50, u 51 = u51, u 52 = u52, u 53 = u53, u 54 = u54, u 55 = u55, u 56 = u56
        go_step
        go_step
        go_wp2
        go_roundg (gk - 1)
        case rel => exact ⟨k + 1, by go_num, by have := Hgk.out; omega, H4⟩
        case measure => have := Hgk.out; omega
      · obtain rfl : k = N := by omega
        have hs := Hs.out
        have e1 : insL (ks.take k) = insL ks := by rw [← HN.out, List.take_length]
        have e2 : insL (ks.reverse.take k) = insL ks := by rw [← HN.out, ← List.length_reverse, List.take_length, insL_reverse]
        rw [e1, e2] at hs
        have hlen : (insL ks).length ≤ k := by have := insL_len ks; rw [HN.out] at this; exact this
        generalize insL ks = l at *
        obtain ⟨h1, hs1⟩ := St.hobj.1 hs
        obtain ⟨h2, hs2⟩ := St.hobj.1 (hs1.perm (List.Perm.swap _ _ _))
        have HS : RowKit.Hid (St W [] (objI O1 h1 l ta :: objI O2 h2 l tb :: []) wr) := hs2.perm (List.Perm.swap _ _ _)
        have Hlen := Lib.hid hlen
        have HV1 := Lib.hid (ValidI_calls Ho1.out Ho1'.out h1 l ta W wr [] _ (by omega) HS.out)
        have HV2 : RowKit.Hid (∀ w', St W [] (objI O1 h1 l ta :: objI O2 h2 l tb :: []) w' → Calls Try.prog 13 #[.pointer (some ⟨tb, 0, none⟩)] w' fun e w'' => e = .returned (.bool true) ∧ St W [] (objI O1 h1 l ta :: objI O2 h2 l tb :: []) w'') := fun w' hs => (ValidI_calls Ho2.out Ho2'.out h2 l tb W w' [] _ (by have := Hlen.out; omega) (hs.perm (List.Perm.swap _ _ _))).mono fun _ _ ⟨h1, h2⟩ => ⟨h1, h2.perm (List.Perm.swap _ _ _)⟩
        have HL1 : RowKit.Hid (∀ w', St W [] (objI O1 h1 l ta :: objI O2 h2 l tb :: []) w' → Calls Try.prog 14 #[.pointer (some ⟨ta, 0, none⟩)] w' fun e w'' => e = .returned (.int .i64 l.length) ∧ w' = w'') := fun w' hs => by
          obtain ⟨_, hob⟩ := hs.has 0 rfl
          exact LenI_calls ta w' hob
        have HL2 : RowKit.Hid (∀ w', St W [] (objI O1 h1 l ta :: objI O2 h2 l tb :: []) w' → Calls Try.prog 14 #[.pointer (some ⟨tb, 0, none⟩)] w' fun e w'' => e = .returned (.int .i64 l.length) ∧ w' = w'') := fun w' hs => by
          obtain ⟨_, hob⟩ := hs.has 1 rfl
          exact LenI_calls tb w' hob
        have HA1 : RowKit.Hid (∀ w', St W [] (objI O1 h1 l ta :: objI O2 h2 l tb :: []) w' → Calls Try.prog 17 #[.pointer (some ⟨ta, 0, none⟩)] w' fun e w' => ∃ bt bl bh, e = .returned (iterFI bt bl bh) ∧ Calls Try.prog 16 #[iterFI bt bl bh, .int .i64 ((k : Int) + 1)] w' fun e w' => ∃ v', e = .returned v' ∧ St W [] (prA v' l :: objI O1 h1 l ta :: objI O2 h2 l tb :: []) w') := by
          intro w' hs
          refine (AllI_calls ta W w' [] _ hs).mono ?_
          rintro e w2 ⟨bt, bl, bh, rfl, h2⟩
          refine ⟨bt, bl, bh, rfl, (taken_calls Ho1'.out none none _ _ l ta bt bl bh (by have := Hlen.out; omega) ((k : Int) + 1) W w2 [] _ h2.itin).mono ?_⟩
          rintro e w3 ⟨v', rfl, h3⟩
          rw [selM_all, takeM_all (by have := Hlen.out; omega)] at h3
          exact ⟨v', rfl, h3.itout⟩
        have HA2 : RowKit.Hid (∀ w' v1, St W [] (prA v1 l :: objI O1 h1 l ta :: objI O2 h2 l tb :: []) w' → Calls Try.prog 17 #[.pointer (some ⟨tb, 0, none⟩)] w' fun e w' => ∃ bt bl bh, e = .returned (iterFI bt bl bh) ∧ Calls Try.prog 16 #[iterFI bt bl bh, .int .i64 ((k : Int) + 1)] w' fun e w' => ∃ v', e = .returned v' ∧ St W [] (prA v' l :: prA v1 l :: []) w') := by
          intro w' v1 hs
          have hs' : St W [] (objI O2 h2 l tb :: (prA v1 l :: [])) w' := by
            have h0 : St W [] (objI O1 h1 l ta :: (objI O2 h2 l tb :: (prA v1 l :: []))) w' := by
              refine hs.perm ?_
              classical
              refine List.perm_iff_count.2 fun a => ?_
              simp only [List.count_cons]
              omega
            exact h0.drop
          refine (AllI_calls tb W w' [] _ hs').mono ?_
          rintro e w2 ⟨bt, bl, bh, rfl, h2⟩
          refine ⟨bt, bl, bh, rfl, (taken_calls Ho2'.out none none _ _ l tb bt bl bh (by have := Hlen.out; omega) ((k : Int) + 1) W w2 [] _ h2.itin).mono ?_⟩
          rintro e w3 ⟨v', rfl, h3⟩
          rw [selM_all, takeM_all (by have := Hlen.out; omega)] at h3
          have h4 := h3.itout
          exact ⟨v', rfl, (h4.perm (List.Perm.swap _ _ _)).drop⟩
        obtain ⟨M, hM⟩ : ∃ M, l.length = M := ⟨_, rfl⟩
        rw [hM] at HL1 HL2
        clear hgk hk Hs hs e1 e2 hlen hs1 hs2 HS Hcell hM
        go_wp2_with fail
        (with_reducible refine HV1.out.mono ?_)
        rintro e w3 ⟨rfl, h3⟩
        have HV := Lib.hid (HV2.out _ h3)
        clear h3 HV1 HV2
        go_wp2_with fail
        (with_reducible refine HV.out.mono ?_)
        rintro e w4 ⟨rfl, h4⟩
        have HLa := Lib.hid (HL1.out _ h4)
        have HLb := Lib.hid (HL2.out _ h4)
        have HAa := Lib.hid (HA1.out _ h4)
        clear h4 HV HL1 HL2 HA1
        go_wp2_with fail
        (with_reducible refine HLa.out.mono ?_)
        rintro e w5 ⟨rfl, rfl⟩
        go_wp2_with fail
        (with_reducible refine HLb.out.mono ?_)
        rintro e w6 ⟨rfl, rfl⟩
        clear HLa HLb
        go_wp2_with fail
        (with_reducible refine HAa.out.mono ?_)
        rintro e w7 ⟨bt, bl, bh, rfl, h7⟩
        have HT := Lib.hid h7
        clear HAa h7
        go_wp2_with fail
        (with_reducible refine HT.out.mono ?_)
        rintro e w8 ⟨v8, rfl, h8⟩
        have HAb := Lib.hid (HA2.out _ _ h8)
        clear HA2 h8 HT
        go_wp2_with fail
        (with_reducible refine HAb.out.mono ?_)
        rintro e w9 ⟨bt', bl', bh', rfl, h9⟩
        have HT := Lib.hid h9
        clear HAb h9
        go_wp2_with fail
        (with_reducible refine HT.out.mono ?_)
        rintro e w10 ⟨v10, rfl, h10⟩
        have HSm : RowKit.Hid (Calls Try.prog 15 #[v8, v10] w10 fun e w'' => e = .returned (.bool true) ∧ Below W.heap.size W w'') := by
          obtain ⟨_, hp⟩ := h10.has 0 rfl
          obtain ⟨_, hp2⟩ := h10.has 1 rfl
          refine (Same_calls l l v8 v10 w10 (prA_at hp2) (prA_at hp)).mono ?_
          rintro e w'' ⟨rfl, hb⟩
          exact ⟨by simp, (h10.mono hb).below0⟩
        clear h10 HT
        go_wp2_with fail
        (with_reducible refine HSm.out.mono ?_)
        rintro e w11 ⟨rfl, h11⟩
        have HB11 := Lib.hid h11
        clear h11 HSm
        go_wp2
        go_ret
        exact ⟨rfl, Hb3.out ▸ HB11.out⟩
end Go.Proofs.Ytldofiankhimjaa
