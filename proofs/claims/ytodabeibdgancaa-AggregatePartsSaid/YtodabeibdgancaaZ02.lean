/- Part 2 of the proof: Rf, Rg, Rh, Oc -/
import Derived.Test.YtodabeibdgancaaZ01
import Derived.Deep.QuietTactic
import Derived.BigQuiet
import Derived.Test.YtodabeibdgancaaZ00
/- symMergeCmpFunc. -/
namespace Go.Proofs.Ytodabeibdgancaa
open Go Go.RowKit
/-- What a merge of two stretches does. -/
def MergesTo (w0 : World) (B g n cp : Nat) (c : Rw → Rw → Int) (P X Y S : List Cel) (e : Ending) (w' : World) : Prop := e = .returned (.tuple #[]) ∧ ∃ Z, AscC (cc c) Z ∧ StEq (cc c) (X ++ Y) Z ∧ Arr w0 B g n cp (P ++ Z ++ S) w'
def SymLaw (N : Nat) (K : FuncId) (cap : Array Value) (c : Rw → Rw → Int) (d0 : List Cel) (w0 : World) (B g n cp : Nat) : Prop :=
  ∀ (P X Y S : List Cel) (w : World) (a m b : Nat), b - a < N → P.length = a → a + X.length = m → m + Y.length = b → 0 < X.length → 0 < Y.length → (∀ x ∈ X ++ Y, x ∈ d0) → AscC (cc c) X → AscC (cc c) Y → Arr w0 B g n cp (P ++ X ++ Y ++ S) w →
    Calls Try.prog 49 #[.slice (some ⟨g, 0, none⟩) n cp, .int .i64 a, .int .i64 m, .int .i64 b, .func (.func K) #[] cap] w (MergesTo w0 B g n cp c P X Y S)
set_option maxHeartbeats 8000000 in
set_option maxRecDepth 100000 in
theorem symC_calls (K : FuncId) (cap : Array Value) (c : Rw → Rw → Int) (d0 : List Cel) (w0 : World) (B g n cp : Nat) (P X Y S : List Cel) (w : World) (a m b : Nat) (hp : P.length = a) (hm : a + X.length = m) (hb : m + Y.length = b) (hX2 : 2 ≤ X.length) (hY2 : 2 ≤ Y.length)
    (hC : CmpOk K cap c d0 w0 g) (hmem : ∀ x ∈ X ++ Y, x ∈ d0) (hX : AscC (cc c) X) (hY : AscC (cc c) Y) (hA : Arr w0 B g n cp (P ++ X ++ Y ++ S) w) (hmx : n ≤ 1099511627776)
    (IH : RowKit.Hid (SymLaw (b - a) K cap c d0 w0 B g n cp)) :
    Calls Try.prog 49 #[.slice (some ⟨g, 0, none⟩) n cp, .int .i64 a, .int .i64 m, .int .i64 b, .func (.func K) #[] cap] w (MergesTo w0 B g n cp c P X Y S) := by
  have hlen := hA.len
  simp only [List.length_append] at hlen
  have b1 : b ≤ n := by omega
  have b2 : m + 2 ≤ b := by omega
  have b3 : a + 2 ≤ m := by omega
  have ht : ((m : Int) - a == 1) = false := by simp; omega
  have ht2 : ((b : Int) - m == 1) = false := by simp; omega
  have HL := Lib.hid (show P.length = a ∧ a + X.length = m ∧ m + Y.length = b from ⟨hp, hm, hb⟩)
  have HA := Lib.hid hA
  have HC := Lib.hid hC
  have HX := Lib.hid hX
  have HY := Lib.hid hY
  have HMem := Lib.hid hmem
  have eg := hC.enter
  obtain ⟨md, hmd⟩ : ∃ md, md = (a + b) / 2 := ⟨_, rfl⟩
  have d1 : a < md := by omega
  have d2 : md < b := by omega
  have Hmd := Lib.hid hmd
  clear hA hlen hp hm hb hC hmem hX hY hX2 hY2 hmd
  go_enter Try.func49, Try.ntmps49
  go_upto_region 24 with (fail)
  go_cut [18] from 129 to 134 (fun z wx => z = .int .i64 md ∧ wx = w)
  case first => as_aux_lemma =>
    go_wp2_with fail
    go_meet
    exact ⟨by have := Hmd.out; congr 1; omega, rfl⟩
  obtain ⟨rfl, rfl⟩ := hcut
  go_upto_if 140 with (fail)
  have hs1 : (md : Int) + m ≤ 9223372036854775807 := by omega
  go_cut [20, 21] from 138 to 146 (fun z20 z21 wx => ∃ i j : Nat, a ≤ i ∧ i ≤ j ∧ j ≤ m ∧ md + m ≤ i + b ∧ j ≤ md ∧ z20 = .int .i64 i ∧ z21 = .int .i64 j ∧ RowKit.Hid (SrC c X Y (md - a) (i - a) (j - a)) ∧ wx = wc)
  case first => as_aux_lemma =>
    by_cases hgt : md < m
    · have hs2 : (md : Int) + m - b ≤ 9223372036854775807 := by omega
      have hs3 : (b : Int) ≤ md + m := by have := Hmd.out; omega
      go_wp2_with fail
      go_meet
      refine ⟨md + m - b, md, by have := Hmd.out; omega, by omega, by omega, by omega, Nat.le_refl _, by go_num, rfl, Lib.hid ⟨?_, .inr (.inl (Nat.le_refl _))⟩, rfl⟩
      right; left
      have := HL.out; have := Hmd.out; omega
    · go_wp2_with fail
      go_meet
      refine ⟨a, m, Nat.le_refl _, by omega, Nat.le_refl _, by have := Hmd.out; omega, by omega, rfl, rfl, Lib.hid ⟨.inl (by omega), .inl (by have := HL.out; omega)⟩, rfl⟩
  obtain ⟨i0, j0, g1, g2, g3, g4, g5, rfl, rfl, Hs0, rfl⟩ := hcut
  have hs2 : (1 : Int) ≤ md + m := by omega
  go_upto_region 32 with (fail)
  obtain ⟨pp, hpp⟩ : ∃ pp : Nat, pp + 1 = md + m := ⟨md + m - 1, by omega⟩
  have Hpp := Lib.hid hpp
  go_cut [22] from 147 to 148 (fun z wx => z = .int .i64 pp ∧ wx = wc)
  case first => as_aux_lemma =>
    clear hpp
    go_wp2_with fail
    go_meet
    exact ⟨by have := Hpp.out; congr 1; omega, rfl⟩
  obtain ⟨rfl, rfl⟩ := hcut
  clear hpp hs2
  go_wp2_with fail
  go_loopw [20, 21] (fun z20 z21 wr => ∃ i j : Nat, a ≤ i ∧ i ≤ j ∧ j ≤ m ∧ md + m ≤ i + b ∧ j ≤ md ∧ z20 = .int .i64 i ∧ z21 = .int .i64 j ∧ RowKit.Hid (SrC c X Y (md - a) (i - a) (j - a)) ∧ RowKit.Hid (Arr w0 B g n cp (P ++ X ++ Y ++ S) wr)) (fun z20 z21 _ => (intOf z21).toNat - (intOf z20).toNat)
  case atStart => exact ⟨i0, j0, g1, g2, g3, g4, g5, rfl, rfl, Hs0, HA⟩
  case round =>
    clear g1 g2 g3 g4 g5 Hs0 HA
    obtain ⟨i, j, g1, g2, g3, g4, g5, rfl, rfl, Hs, H⟩ := hrel
    by_cases hlt : i < j
    · as_aux_lemma =>
      obtain ⟨h, hh⟩ : ∃ h : Nat, h = (i + j) / 2 := ⟨_, rfl⟩
      have hh1 : i ≤ h := by omega
      have hh2 : h < j := by omega
      obtain ⟨q, hq⟩ : ∃ q : Nat, q + h + 1 = md + m := ⟨md + m - 1 - h, by omega⟩
      have hx1 : h - a < X.length := by have := HL.out; omega
      have hy1 : q - m < Y.length := by have := HL.out; omega
      have hget : (P ++ X ++ Y ++ S)[h]? = some X[h - a] := by
        have := mid_get (P := P) (u := X) (S := Y ++ S) hx1
        rw [HL.out.1, show a + (h - a) = h by omega] at this
        rw [List.append_assoc (P ++ X)]
        exact this
      have hgy : (P ++ X ++ Y ++ S)[q]? = some Y[q - m] := by
        have := mid_get (P := P ++ X) (u := Y) (S := S) hy1
        rw [List.length_append, HL.out.1, HL.out.2.1, show m + (q - m) = q by omega] at this
        exact this
      have cx := H.out.cell hget
      have cy := H.out.cell hgy
      have hg := H.out.lt
      have HU : RowKit.Hid ((¬ cc c Y[q - m] X[h - a] < 0 → SrC c X Y (md - a) (h + 1 - a) (j - a)) ∧ (cc c Y[q - m] X[h - a] < 0 → SrC c X Y (md - a) (i - a) (h - a))) := by
        refine Lib.hid ⟨fun hl => ⟨.inr (.inr ⟨X[h - a], Y[q - m], by omega, ?_, ?_, hl⟩), Hs.out.hi⟩, fun hl => ⟨Hs.out.lo, .inr (.inr ⟨X[h - a], Y[q - m], ?_, ?_, by omega, hl⟩)⟩⟩
        · rw [show h + 1 - a - 1 = h - a by omega]; exact List.getElem?_eq_getElem hx1
        · rw [show md - a - (h + 1 - a) = q - m by omega]; exact List.getElem?_eq_getElem hy1
        · exact List.getElem?_eq_getElem hx1
        · rw [show md - a - (h - a + 1) = q - m by omega]; exact List.getElem?_eq_getElem hy1
      have HK := Lib.hid (fun w' (hb : Below wr.heap.size wr w') => HC.out.call Y[q - m] (HMem.out _ (List.mem_append.2 (.inr (List.getElem_mem _)))) X[h - a] (HMem.out _ (List.mem_append.2 (.inl (List.getElem_mem _)))) w' (grownBy_bel H.out.gr hb))
      clear hget hgy
      unfold cc at HU
      generalize X[h - a] = x at *
      generalize Y[q - m] = y at *
      generalize c y.r x.r = r at *
      clear hx1 hy1
      have Hh := Lib.hid hh
      have Hq := Lib.hid hq
      have e1 : (pp : Int) - h = q := by have := Hpp.out; omega
      have i1 : (0 : Int) ≤ h := by omega
      have i2 : (h : Int) < n := by omega
      have i3 : (0 : Int) ≤ q := by omega
      have i4 : (q : Int) < n := by omega
      clear hh hq
      have He := Lib.hid e1
      clear e1
      go_upto_region 34 with (fail)
      go_cut [23] from 152 to 157 (fun z wx => z = .int .i64 h ∧ wx = wr)
      case first => as_aux_lemma =>
        go_wp2_with fail
        go_meet
        exact ⟨by have := Hh.out; congr 1; omega, rfl⟩
      obtain ⟨rfl, rfl⟩ := hcut
      go_upto_region 35 with (fail)
      have e2 : IntKind.i64.wrap ((pp : Int) - h) = q := by rw [He.out]; exact IntWalk.i64_in _ (by omega)
      go_cut [171] from 158 to 171 (fun z wx => ∃ t : Bool, z = .bool t ∧ RowKit.Hid (t = !decide (r < 0)) ∧ RowKit.Hid (Below wc.heap.size wc wx))
      case first => as_aux_lemma =>
        go_region_held3 (fun w' => Below wc.heap.size wc w' ∧ ∀ b o, b < wc.heap.size → w'.cell? ⟨b, o, none⟩ = wc.cell? ⟨b, o, none⟩)
          (first | assumption | exact S_of (Below.drew (Below.refl _ _)) | exact S_step (by assumption) (by assumption))
          (first | ((with_reducible refine (HK.out _ (by first | assumption | exact And.left (by assumption))).mono ?_); rintro e w1 ⟨rfl, hb1⟩))
        all_goals
          rename_i hH
          have Hb := Lib.hid hH.1
          clear hH
          go_step
          go_step
          go_meet
          exact ⟨_, rfl, rfl, Hb⟩
      clear e2
      obtain ⟨t, rfl, Ht, Hb⟩ := hcut
      have HA1 := Lib.hid (H.out.below Hb.out)
      clear cy cx hg HK H Hb
      cases t
      · have hr : r < 0 := by simpa using Ht.out
        have Hs1 := Lib.hid (HU.out.2 hr)
        clear HU Hq hr Hs
        go_wp2_with fail
        go_roundw
        case rel => exact ⟨i, h, g1, hh1, by omega, g4, by omega, rfl, rfl, Hs1, HA1⟩
        case measure => simp [intOf]; omega
      · have hr : ¬ r < 0 := by simpa using Ht.out
        have Hs1 := Lib.hid (HU.out.1 hr)
        clear HU Hq hr Hs
        go_wp2_with fail
        go_roundw
        case rel => exact ⟨h + 1, j, by omega, by omega, g3, by omega, g5, by go_num, rfl, Hs1, HA1⟩
        case measure => simp [intOf]; omega
    · obtain rfl : i = j := by omega
      obtain ⟨l1, l2, l3⟩ := HL.out
      obtain ⟨q1, q2⟩ := Hs.out.done HC.out.ord HX.out HY.out
      obtain ⟨u1, u2, hu, lu1, lu2⟩ := split2 X (i - a) (by omega)
      obtain ⟨v1, v2, hv, lv1, lv2⟩ := split2 Y (md - i) (by omega)
      have Hj : RowKit.Hid (∀ W1 W2, AscC (cc c) W1 → AscC (cc c) W2 → StEq (cc c) (u1 ++ v1) W1 → StEq (cc c) (u2 ++ v2) W2 → AscC (cc c) (W1 ++ W2) ∧ StEq (cc c) (X ++ Y) (W1 ++ W2)) := by
        intro W1 W2 a1 a2 e1 e2
        have hX := HX.out
        have hY := HY.out
        subst hu hv
        refine merge_join HC.out.ord hX hY ?_ ?_ a1 a2 e1 e2
        · have : u2 = (u1 ++ u2).drop (i - a) := by rw [← lu1]; simp
          have h2 : v1 = (v1 ++ v2).take (md - a - (i - a)) := by rw [show md - a - (i - a) = v1.length by omega]; simp
          rw [this, h2]; exact q1
        · have : u1 = (u1 ++ u2).take (i - a) := by rw [← lu1]; simp
          have h2 : v2 = (v1 ++ v2).drop (md - a - (i - a)) := by rw [show md - a - (i - a) = v1.length by omega]; simp
          rw [this, h2]; exact q2
      have HXs := HX.out
      have HYs := HY.out
      rw [hu] at HXs
      rw [hv] at HYs
      have Hu1 := Lib.hid HXs.left
      have Hu2 := Lib.hid HXs.right
      have Hv1 := Lib.hid HYs.left
      have Hv2 := Lib.hid HYs.right
      have HM : RowKit.Hid ((∀ x ∈ u1 ++ v1, x ∈ d0) ∧ (∀ x ∈ u2 ++ v2, x ∈ d0)) := by
        have := HMem.out
        rw [hu, hv] at this
        refine Lib.hid ⟨fun x hx => this x ?_, fun x hx => this x ?_⟩ <;> (simp only [List.mem_append] at hx ⊢; rcases hx with hx | hx <;> simp [hx])
      obtain ⟨en, hen⟩ : ∃ en : Nat, en + i = md + m := ⟨md + m - i, by omega⟩
      have HLs := Lib.hid (show P.length = a ∧ a + u1.length = i ∧ u1.length + u2.length = X.length ∧ i + u2.length = m ∧ m + v1.length = en ∧ i + v1.length = md ∧ en + v2.length = b by omega)
      have HA1 : RowKit.Hid (Arr w0 B g n cp (P ++ u1 ++ u2 ++ v1 ++ (v2 ++ S)) wr) := by
        have := H.out
        rw [hu, hv] at this
        exact Lib.hid (by simpa only [List.append_assoc] using this)
      have k1 : i ≤ m := by omega
      have k2 : m ≤ en := by omega
      have k3 : md ≤ en := by omega
      have k4 : en ≤ b := by omega
      have k5 : i ≤ md := by omega
      have Hen := Lib.hid hen
      clear l1 l2 l3 q1 q2 hu hv lu1 lu2 lv1 lv2 HXs HYs H Hs HL HX HY HMem hen g2 hlt
      go_upto_region 38 with (fail)
      go_cut [24] from 175 to 177 (fun z wx => z = .int .i64 en ∧ wx = wr)
      case first => as_aux_lemma =>
        go_wp2_with fail
        go_meet
        exact ⟨by have := Hen.out; congr 1; omega, rfl⟩
      obtain ⟨rfl, rfl⟩ := hcut
      go_upto_region 39 with (fail)
      go_cut [185] from 178 to 185 (fun z wx => ∃ t : Bool, z = .bool t ∧ RowKit.Hid (t = true ↔ i < m ∧ m < en) ∧ wx = wc)
      case first => as_aux_lemma =>
        by_cases q1 : i < m
        · by_cases q2 : m < en
          · go_wp2_with fail
            go_meet
            exact ⟨true, rfl, Lib.hid ⟨fun _ => ⟨q1, q2⟩, fun _ => rfl⟩, rfl⟩
          · go_wp2_with fail
            go_meet
            exact ⟨false, rfl, Lib.hid ⟨fun h => (by cases h), fun h => absurd h.2 q2⟩, rfl⟩
        · go_wp2_with fail
          go_meet
          exact ⟨false, rfl, Lib.hid ⟨fun h => (by cases h), fun h => absurd h.1 q1⟩, rfl⟩
      obtain ⟨t, rfl, Ht, rfl⟩ := hcut
      go_upto_if 185 with (fail)
      go_cut [] from 178 to 191 (fun wx => RowKit.Hid (Arr w0 B g n cp (P ++ u1 ++ v1 ++ u2 ++ (v2 ++ S)) wx))
      case first => as_aux_lemma =>
        cases t
        · go_wp2_with fail
          go_meet
          have := Ht.out
          have hn : ¬ (i < m ∧ m < en) := fun h => by have := this.2 h; cases this
          have := HLs.out
          by_cases q1 : i < m
          · have e : v1 = [] := List.length_eq_zero_iff.1 (by omega)
            have := HA1.out
            rw [e] at this ⊢
            exact Lib.hid (by simpa using this)
          · have e : u2 = [] := List.length_eq_zero_iff.1 (by omega)
            have := HA1.out
            rw [e] at this ⊢
            exact Lib.hid (by simpa using this)
        · have HR := Lib.hid (rotate_calls w0 B g n cp (P ++ u1) u2 v1 (v2 ++ S) (.func (.func K) #[] cap) wc i m en (by rw [List.length_append]; have := HLs.out; omega) (by rw [List.length_append]; have := HLs.out; omega) (by rw [List.length_append]; have := HLs.out; omega) (by have := Ht.out.1 rfl; have := HLs.out; omega) (by have := Ht.out.1 rfl; have := HLs.out; omega) HA1.out (by unfold maxLen; omega))
          go_wp2_with fail
          (with_reducible refine HR.out.mono ?_)
          rintro e w1 ⟨rfl, h1⟩
          have H1 := Lib.hid h1
          clear h1
          go_wp2_with fail
          go_meet
          exact H1
      clear Ht HA1 t
      rename RowKit.Hid (Arr w0 B g n cp (P ++ u1 ++ v1 ++ u2 ++ (v2 ++ S)) _) => HA2
      go_upto_region 41 with (fail)
      go_cut [199] from 192 to 199 (fun z wx => ∃ t : Bool, z = .bool t ∧ RowKit.Hid (t = true ↔ a < i ∧ i < md) ∧ wx = wc)
      case first => as_aux_lemma =>
        by_cases q1 : a < i
        · by_cases q2 : i < md
          · go_wp2_with fail
            go_meet
            exact ⟨true, rfl, Lib.hid ⟨fun _ => ⟨q1, q2⟩, fun _ => rfl⟩, rfl⟩
          · go_wp2_with fail
            go_meet
            exact ⟨false, rfl, Lib.hid ⟨fun h => (by cases h), fun h => absurd h.2 q2⟩, rfl⟩
        · go_wp2_with fail
          go_meet
          exact ⟨false, rfl, Lib.hid ⟨fun h => (by cases h), fun h => absurd h.1 q1⟩, rfl⟩
      obtain ⟨t, rfl, Ht, rfl⟩ := hcut
      go_upto_if 199 with (fail)
      go_cut [] from 192 to 205 (fun wx => RowKit.Hid (∃ W, AscC (cc c) W ∧ StEq (cc c) (u1 ++ v1) W ∧ Arr w0 B g n cp (P ++ W ++ u2 ++ v2 ++ S) wx))
      case first => as_aux_lemma =>
        cases t
        · go_wp2_with fail
          go_meet
          have := Ht.out
          have hn : ¬ (a < i ∧ i < md) := fun h => by have := this.2 h; cases this
          have := HLs.out
          refine Lib.hid ⟨u1 ++ v1, ?_, StEq.refl _, by have := HA2.out; simpa only [List.append_assoc] using this⟩
          by_cases q1 : a < i
          · have e : v1 = [] := List.length_eq_zero_iff.1 (by omega)
            rw [e, List.append_nil]; exact Hu1.out
          · have e : u1 = [] := List.length_eq_zero_iff.1 (by omega)
            rw [e, List.nil_append]; exact Hv1.out
        · have HR := Lib.hid (IH.out P u1 v1 (u2 ++ (v2 ++ S)) wc a i md (by omega) HLs.out.1 HLs.out.2.1 (by have := HLs.out; omega) (by have := Ht.out.1 rfl; have := HLs.out; omega) (by have := Ht.out.1 rfl; have := HLs.out; omega) HM.out.1 Hu1.out Hv1.out (by have := HA2.out; simpa only [List.append_assoc] using this))
          go_wp2_with fail
          (with_reducible refine HR.out.mono ?_)
          rintro e w1 ⟨rfl, W, h1, h2, h3⟩
          have H1 := Lib.hid (show ∃ W, AscC (cc c) W ∧ StEq (cc c) (u1 ++ v1) W ∧ Arr w0 B g n cp (P ++ W ++ u2 ++ v2 ++ S) w1 from ⟨W, h1, h2, by simpa only [List.append_assoc] using h3⟩)
          clear h1 h2 h3
          go_wp2_with fail
          go_meet
          exact H1
      clear Ht HA2 t
      rename RowKit.Hid (∃ W, AscC (cc c) W ∧ StEq (cc c) (u1 ++ v1) W ∧ Arr w0 B g n cp (P ++ W ++ u2 ++ v2 ++ S) _) => HA3
      obtain ⟨W1, W1a, W1e, W1A⟩ := HA3.out
      have HW1a := Lib.hid W1a
      have HW1e := Lib.hid W1e
      have HW1A := Lib.hid W1A
      have HlW : RowKit.Hid ((P ++ W1).length = md) := by
        have h1 := (W1e.perm HC.out.ord).length_eq
        have := HLs.out
        rw [List.length_append] at h1
        exact Lib.hid (by rw [List.length_append]; omega)
      clear W1a W1e W1A HA3
      go_upto_region 43 with (fail)
      go_cut [213] from 206 to 213 (fun z wx => ∃ t : Bool, z = .bool t ∧ RowKit.Hid (t = true ↔ md < en ∧ en < b) ∧ wx = wc)
      case first => as_aux_lemma =>
        by_cases q1 : md < en
        · by_cases q2 : en < b
          · go_wp2_with fail
            go_meet
            exact ⟨true, rfl, Lib.hid ⟨fun _ => ⟨q1, q2⟩, fun _ => rfl⟩, rfl⟩
          · go_wp2_with fail
            go_meet
            exact ⟨false, rfl, Lib.hid ⟨fun h => (by cases h), fun h => absurd h.2 q2⟩, rfl⟩
        · go_wp2_with fail
          go_meet
          exact ⟨false, rfl, Lib.hid ⟨fun h => (by cases h), fun h => absurd h.1 q1⟩, rfl⟩
      obtain ⟨t, rfl, Ht, rfl⟩ := hcut
      cases t
      · go_wp2_with fail
        go_end0
        have := Ht.out
        have hn : ¬ (md < en ∧ en < b) := fun h => by have := this.2 h; cases this
        have := HLs.out
        have ha : AscC (cc c) (u2 ++ v2) := by
          by_cases q1 : md < en
          · have e : v2 = [] := List.length_eq_zero_iff.1 (by omega)
            rw [e, List.append_nil]; exact Hu2.out
          · have e : u2 = [] := List.length_eq_zero_iff.1 (by omega)
            rw [e, List.nil_append]; exact Hv2.out
        obtain ⟨j1, j2⟩ := Hj.out W1 (u2 ++ v2) HW1a.out ha HW1e.out (StEq.refl _)
        exact ⟨rfl, _, j1, j2, by have := HW1A.out; simpa only [List.append_assoc] using this⟩
      · have HR := Lib.hid (IH.out (P ++ W1) u2 v2 S wc md en b (by omega) HlW.out (by have := HLs.out; omega) (by have := HLs.out; omega) (by have := Ht.out.1 rfl; have := HLs.out; omega) (by have := Ht.out.1 rfl; have := HLs.out; omega) HM.out.2 Hu2.out Hv2.out HW1A.out)
        go_wp2_with fail
        (with_reducible refine HR.out.mono ?_)
        rintro e w1 ⟨rfl, W, h1, h2, h3⟩
        have H1 := Lib.hid (show ∃ Z, AscC (cc c) Z ∧ StEq (cc c) (X ++ Y) Z ∧ Arr w0 B g n cp (P ++ Z ++ S) w1 from by
          obtain ⟨j1, j2⟩ := Hj.out W1 W HW1a.out h1 HW1e.out h2
          exact ⟨_, j1, j2, by simpa only [List.append_assoc] using h3⟩)
        clear h1 h2 h3
        go_wp2_with fail
        go_end0
        exact ⟨rfl, H1.out⟩
/-- symMergeCmpFunc: two ascending stretches become one. -/
theorem symMerge_calls (K : FuncId) (cap : Array Value) (c : Rw → Rw → Int) (d0 : List Cel) (w0 : World) (B g n cp : Nat) (hC : CmpOk K cap c d0 w0 g) (hmx : n ≤ 1099511627776) : ∀ N, SymLaw N K cap c d0 w0 B g n cp := by
  intro N
  induction N with
  | zero => intro P X Y S w a m b h; omega
  | succ N ih =>
    intro P X Y S w a m b hN hp hm hb hX hY hmem aX aY hA
    have ih' : SymLaw (b - a) K cap c d0 w0 B g n cp := fun P' X' Y' S' w' a' m' b' h => ih P' X' Y' S' w' a' m' b' (by omega)
    match X, hX with
    | [x], _ =>
      have hm' : a + 1 = m := hm
      exact symA_calls K cap c d0 w0 B g n cp P Y S x w a m b hp hm' hb hC (by simpa using hmem) aY hA hmx
    | x :: x' :: X', _ =>
      match Y, hY with
      | [y], _ => exact symB_calls K cap c d0 w0 B g n cp P (x :: x' :: X') S y w a m b hp hm hb (by simp) hC (fun z hz => hmem z (List.mem_append.2 (Or.symm ((List.mem_cons.1 hz).imp_left fun h => List.mem_singleton.2 h)))) aX hA hmx
      | y :: y' :: Y', _ => exact symC_calls K cap c d0 w0 B g n cp P (x :: x' :: X') (y :: y' :: Y') S w a m b hp hm hb (by simp) (by simp) hC hmem aX aY hA hmx (Lib.hid ih')
end Go.Proofs.Ytodabeibdgancaa
/- insertionSortCmpFunc. -/
namespace Go.Proofs.Ytodabeibdgancaa
open Go Go.RowKit
theorem below_drewN {B : Nat} (w : World) (n : Nat) : Below B w (w.drewN n) := ⟨rfl, rfl, rfl, Nat.le_refl _, fun _ _ => rfl⟩
/-- What sorting a stretch does. -/
def SortsTo (w0 : World) (B g n cp : Nat) (c : Rw → Rw → Int) (P X S : List Cel) (e : Ending) (w' : World) : Prop := e = .returned (.tuple #[]) ∧ ∃ Z, AscC (cc c) Z ∧ StEq (cc c) X Z ∧ Arr w0 B g n cp (P ++ Z ++ S) w'
/-- One element sinks to its place. -/
theorem sink_done {c : Rw → Rw → Int} (hc : Ord3 (cc c)) {l r : List Cel} {x : Cel} (h : AscC (cc c) (l ++ r)) (hr : ∀ y ∈ r, cc c x y < 0) (hl : l = [] ∨ ∃ l' y, l = l' ++ [y] ∧ ¬ cc c x y < 0) :
    AscC (cc c) (l ++ [x] ++ r) ∧ StEq (cc c) ((l ++ r) ++ [x]) (l ++ [x] ++ r) := by
  refine ⟨(h.left.app (List.pairwise_singleton _ _) fun a ha b hb => ?_).app h.right fun a ha b hb => ?_, ?_⟩
  · rw [List.mem_singleton.1 hb]
    rcases hl with rfl | ⟨l', y, rfl, hy⟩
    · cases ha
    · rcases List.mem_append.1 ha with ha' | ha'
      · exact hc.trans _ _ _ (h.left.cross a ha' y (by simp)) (hc.le hy)
      · rw [List.mem_singleton.1 ha']; exact hc.le hy
  · rcases List.mem_append.1 ha with ha | ha
    · exact h.cross a ha b hb
    · rw [List.mem_singleton.1 ha]; have := hr b hb; omega
  · have h1 : StEq (cc c) (r ++ [x]) ([x] ++ r) := StEq.swap hc fun a ha b hb => by rw [List.mem_singleton.1 hb]; exact hr a ha
    have := (StEq.refl (c := cc c) l).app h1
    rwa [← List.append_assoc, ← List.append_assoc] at this
set_option maxHeartbeats 8000000 in
set_option maxRecDepth 100000 in
theorem insertion_calls (K : FuncId) (cap : Array Value) (c : Rw → Rw → Int) (d0 : List Cel) (w0 : World) (B g n cp : Nat) (P X S : List Cel) (w : World) (a b : Nat) (hp : P.length = a) (hb : a + X.length = b)
    (hC : CmpOk K cap c d0 w0 g) (hmem : ∀ x ∈ X, x ∈ d0) (hA : Arr w0 B g n cp (P ++ X ++ S) w) (hmx : n ≤ 1099511627776) :
    Calls Try.prog 48 #[.slice (some ⟨g, 0, none⟩) n cp, .int .i64 a, .int .i64 b, .func (.func K) #[] cap] w (SortsTo w0 B g n cp c P X S) := by
  have hlen := hA.len
  simp only [List.length_append] at hlen
  have b1 : b ≤ n := by omega
  have b2 : a ≤ b := by omega
  have HL := Lib.hid (show P.length = a ∧ a + X.length = b from ⟨hp, hb⟩)
  have HA := Lib.hid hA
  have HC := Lib.hid hC
  have HMem := Lib.hid hmem
  have eg := hC.enter
  clear hA hlen hp hb hC hmem
  by_cases hnil : a = b
  · have hx : X = [] := List.length_eq_zero_iff.1 (by have := HL.out; omega)
    have HX := Lib.hid hx
    subst hnil
    clear hx HC HMem
    have hlt : ¬ (a : Int) + 1 < a := by omega
    go_enter Try.func48, Try.ntmps48
    go_wp2
    go_loopw [8] (fun z8 wr => z8 = .int .i64 ((a : Int) + 1) ∧ wr = w) (fun _ _ => 0)
    case atStart => exact ⟨rfl, rfl⟩
    case round =>
      obtain ⟨rfl, rfl⟩ := hrel
      go_wp2
      go_end0
      exact ⟨rfl, [], List.Pairwise.nil, by rw [HX.out]; exact StEq.refl _, by have := HA.out; rwa [HX.out] at this⟩
  · go_enter Try.func48, Try.ntmps48
    have hab : a < b := by omega
    go_wp2
    go_loopg [8] (b - a) (fun gk z8 wr => ∃ i k : Nat, i = a + k ∧ 1 ≤ k ∧ i ≤ b ∧ z8 = .int .i64 i ∧ gk + k = b - a + 1 ∧ RowKit.Hid (∃ W R, X = (X.take k) ++ R ∧ AscC (cc c) W ∧ StEq (cc c) (X.take k) W ∧ Arr w0 B g n cp (P ++ W ++ R ++ S) wr))
    case atStart =>
      refine ⟨a + 1, 1, rfl, Nat.le_refl _, hab, by go_num, by omega, ?_⟩
      refine Lib.hid ⟨X.take 1, X.drop 1, (List.take_append_drop 1 X).symm, ?_, StEq.refl _, ?_⟩
      · match X with
        | [] => exact List.Pairwise.nil
        | x :: X => exact List.pairwise_singleton _ _
      · have := HA.out
        rw [← List.take_append_drop 1 X] at this
        simpa only [List.append_assoc] using this
    case round =>
      clear HA
      obtain ⟨i, k, hik, hk1, hib, rfl, hgk, Hs⟩ := hrel
      obtain ⟨W, R, s1, s2, s3, s4⟩ := Hs.out
      have HWa := Lib.hid s2
      have HWe := Lib.hid s3
      have HA := Lib.hid s4
      have HlW : RowKit.Hid (W.length = k) := Lib.hid (by have := (s3.perm HC.out.ord).length_eq; rw [List.length_take, Nat.min_eq_left (by have := HL.out; omega)] at this; omega)
      by_cases hlt : i < b
      · have hkl : k < X.length := by have := HL.out; omega
        obtain ⟨x, hx⟩ : ∃ x, X[k] = x := ⟨_, rfl⟩
        have hR : R = x :: X.drop (k + 1) := by
          rw [← hx, ← List.drop_eq_getElem_cons hkl]
          have := s1
          exact (List.append_cancel_left ((List.take_append_drop k X).trans this)).symm
        have HN := Lib.hid (show X.take (k + 1) = X.take k ++ [x] ∧ X = X.take (k + 1) ++ X.drop (k + 1) ∧ x ∈ d0 ∧ (∀ y ∈ W, y ∈ d0) from ⟨by rw [List.take_succ_eq_append_getElem hkl, hx], (List.take_append_drop _ _).symm, HMem.out _ (by rw [← hx]; exact List.getElem_mem _), fun y hy => HMem.out y (List.mem_of_mem_take (s3.mem HC.out.ord hy))⟩)
        rw [hR] at s4
        have HA' := Lib.hid s4
        generalize X.drop (k + 1) = R' at *
        have Hgk := Lib.hid hgk
        have Hik := Lib.hid hik
        clear s1 s2 s3 s4 HA hR hx hkl Hs hgk hik
        have HEnd : RowKit.Hid (∀ l r wx, W = l ++ r → (∀ y ∈ r, cc c x y < 0) → (l = [] ∨ ∃ l' y, l = l' ++ [y] ∧ 0 ≤ cc c x y) → Arr w0 B g n cp (P ++ l ++ x :: r ++ R' ++ S) wx → RowKit.Hid (∃ W R, X = (X.take (k + 1)) ++ R ∧ AscC (cc c) W ∧ StEq (cc c) (X.take (k + 1)) W ∧ Arr w0 B g n cp (P ++ W ++ R ++ S) wx)) := by
          refine Lib.hid fun l r wx h1 h2 h3 h4 => ?_
          have hW := HWa.out
          have hE := HWe.out
          rw [h1] at hW hE
          obtain ⟨e1, e2⟩ := sink_done HC.out.ord hW h2 (h3.imp_right fun ⟨l', y, e, h⟩ => ⟨l', y, e, Int.not_lt.2 h⟩)
          refine Lib.hid ⟨l ++ [x] ++ r, R', HN.out.2.1, e1, ?_, by simpa only [List.append_assoc, List.cons_append, List.nil_append] using h4⟩
          rw [HN.out.1]
          exact (hE.app (StEq.refl _)).trans e2
        go_wp2
        go_loopw [9] (fun z9 wr => ∃ j : Nat, a ≤ j ∧ j ≤ i ∧ z9 = .int .i64 j ∧ RowKit.Hid (∃ l r, W = l ++ r ∧ a + l.length = j ∧ (∀ y ∈ r, cc c x y < 0) ∧ Arr w0 B g n cp (P ++ l ++ x :: r ++ R' ++ S) wr)) (fun z9 _ => (intOf z9).toNat)
        case atStart => exact ⟨i, by have := Hik.out; omega, Nat.le_refl _, rfl, Lib.hid ⟨W, [], by simp, by have := HlW.out; have := Hik.out; omega, by simp, by have := HA'.out; simpa using this⟩⟩
        case round =>
          clear HA'
          obtain ⟨j, haj, hji, rfl, Hs⟩ := hrel
          obtain ⟨l, r, s1, s2, s3, s4⟩ := Hs.out
          have HA := Lib.hid s4
          have Hl := Lib.hid s2
          have HW := Lib.hid s1
          have Hr := Lib.hid s3
          clear Hs s1 s2 s3 s4
          have hjn : (j : Int) < n := by omega
          by_cases hja : a < j
          · obtain ⟨l', y, hl'⟩ : ∃ l' y, l = l' ++ [y] := by
              rcases List.eq_nil_or_concat l with h | ⟨l', y, h⟩
              · have := Hl.out; rw [h] at this; simp at this; omega
              · exact ⟨l', y, by rw [h, List.concat_eq_append]⟩
            have lj : (P ++ l').length + 1 = j := by have := Hl.out; rw [hl'] at this; simp at this; rw [List.length_append]; have := HL.out; omega
            obtain ⟨j', hj'⟩ : ∃ j', j' + 1 = j := ⟨j - 1, by omega⟩
            have lP : (P ++ l').length = j' := by omega
            have eq0 : P ++ l ++ x :: r ++ R' ++ S = (P ++ l') ++ y :: [] ++ x :: (r ++ R' ++ S) := by rw [hl']; simp only [List.append_assoc, List.cons_append, List.nil_append]
            have hA := HA.out
            rw [eq0] at hA
            have hy : ((P ++ l') ++ y :: [] ++ x :: (r ++ R' ++ S))[j']? = some y := by
              rw [List.append_assoc, List.getElem?_append_right (by rw [lP]; exact Nat.le_refl _), lP]; simp
            have hx : ((P ++ l') ++ y :: [] ++ x :: (r ++ R' ++ S))[j]? = some x := by
              rw [List.append_assoc, List.getElem?_append_right (by rw [lP]; omega), lP, ← hj']; simp
            have hs := swp_at (P := P ++ l') (Q := []) (S := r ++ R' ++ S) (x := y) (y := x)
            rw [lP, List.length_nil, Nat.add_zero, hj'] at hs
            have cy := hA.cell hy
            have cx := hA.cell hx
            have hg := hA.lt
            have HK := Lib.hid (fun w' (hb : Below wr.heap.size wr w') => HC.out.call x HN.out.2.2.1 y (HN.out.2.2.2 y (by rw [HW.out, hl']; simp)) w' (grownBy_bel hA.gr hb))
            have HSw : RowKit.Hid (∀ w', Below wr.heap.size wr w' → Arr w0 B g n cp (P ++ l' ++ x :: (y :: r) ++ R' ++ S) ((w'.setCell ⟨g, j', none⟩ (.slice x.a x.n x.c)).setCell ⟨g, j, none⟩ (.slice y.a y.n y.c)) ∧ Arr w0 B g n cp (P ++ l' ++ x :: (y :: r) ++ R' ++ S) ((w'.setCell ⟨g, j, none⟩ (.slice y.a y.n y.c)).setCell ⟨g, j', none⟩ (.slice x.a x.n x.c))) := by
              refine Lib.hid fun w' hb => ?_
              have hA' := hA.below hb
              have hA2 := hA'.swap hy hx
              have hA3 := hA'.swap hx hy
              rw [swp_comm] at hA3
              rw [hs] at hA2 hA3
              rw [show P ++ l' ++ x :: (y :: r) ++ R' ++ S = (P ++ l') ++ x :: [] ++ y :: (r ++ R' ++ S) by simp only [List.append_assoc, List.cons_append, List.nil_append]]
              exact ⟨hA2, hA3⟩
            have HFr := Lib.hid (fun w' (hb : Below wr.heap.size wr w') => (⟨(hA.below hb).cell hy, (hA.below hb).cell hx, (hA.below hb).free j', (hA.below hb).free j, (hA.below hb).lt⟩ : _ ∧ _ ∧ _ ∧ _ ∧ _))
            have Hl' := Lib.hid hl'
            have HlP := Lib.hid lP
            have i1 : (a : Int) < j := by omega
            have i3 : (0 : Int) ≤ (j' : Int) := by omega
            have i4 : IntKind.i64.wrap ((j : Int) - 1) = j' := by rw [show (j : Int) - 1 = j' by omega]; exact IntWalk.i64_in _ (by omega)
            have i5 : (j' : Int) < n := by omega
            have Hj' := Lib.hid hj'
            generalize hr' : c x.r y.r = rr at *
            have Hrr := Lib.hid hr'
            clear hA hy hx hs eq0 lP lj hl' hr' hj'
            go_upto_region 4 with (fail)
            go_cut [34] from 18 to 34 (fun z wx => ∃ q : Bool, z = .bool q ∧ RowKit.Hid (q = decide (rr < 0)) ∧ RowKit.Hid (Below wr.heap.size wr wx))
            case first =>
              go_region_held3 (fun w' => Below wr.heap.size wr w' ∧ ∀ b o, b < wr.heap.size → w'.cell? ⟨b, o, none⟩ = wr.cell? ⟨b, o, none⟩)
                (first | assumption | exact S_of (Below.drew (Below.refl _ _)) | exact S_step (by assumption) (by assumption))
                (first | ((with_reducible refine (HK.out _ (by first | assumption | exact And.left (by assumption))).mono ?_); rintro e w1 ⟨rfl, hb1⟩))
              all_goals
                rename_i hH
                have Hb := Lib.hid hH.1
                clear hH
                go_step
                go_step
                go_meet
                exact ⟨_, rfl, rfl, Hb⟩
            obtain ⟨q, rfl, Hq, Hb⟩ := hcut
            cases q
            · have HR := Lib.hid (HEnd.out l r wc HW.out Hr.out (.inr ⟨l', y, Hl'.out, (by have := Hq.out; show 0 ≤ c x.r y.r; rw [Hrr.out]; simpa using this)⟩) (HA.out.below Hb.out))
              clear HEnd HK HSw HFr Hb HA cx cy hg Hq i4
              have i6 : (i : Int) + 1 ≤ 9223372036854775807 := by omega
              go_wp2
              go_roundg (gk - 1)
              case rel => exact ⟨i + 1, k + 1, by have := Hik.out; omega, by omega, by omega, by go_num, by have := Hgk.out; have := Hik.out; omega, HR.out⟩
              case measure => have := Hgk.out; have := Hik.out; omega
            · have Hxy : RowKit.Hid (cc c x y < 0) := Lib.hid (by have := Hq.out; show c x.r y.r < 0; rw [Hrr.out]; simpa using this)
              obtain ⟨d1, d2, d3, d4, d5⟩ := HFr.out wc Hb.out
              have H2 := HSw.out wc.drew Hb.out.drew
              have H3 := Lib.hid H2.1
              have H4 := Lib.hid H2.2
              clear H2 HEnd HK HSw HFr HA cx cy hg Hq i4
              have i6 : (j : Int) - 1 = j' := by have := Hj'.out; omega
              go_wp2
              go_region
              go_wp2
              go_roundw
              case rel => exact ⟨j', by omega, by have := Hj'.out; omega, by first | rfl | (congr 1; omega), Lib.hid ⟨l', y :: r, by rw [HW.out, Hl'.out]; simp, by have h1 := Hl.out; rw [Hl'.out] at h1; simp at h1; have := Hj'.out; omega, by
                intro z hz
                rcases List.mem_cons.1 hz with rfl | hz
                · exact Hxy.out
                · exact Hr.out z hz, by first | exact H3.out | exact H4.out⟩⟩
              case measure => simp [intOf]; omega
          · have hl0 : l = [] := List.length_eq_zero_iff.1 (by have := Hl.out; omega)
            have hd : decide ((a : Int) < j) = false := by simp; omega
            have hja2 : ¬ (a : Int) < j := by omega
            go_upto_region 4 with (fail)
            go_cut [34] from 18 to 34 (fun z wx => z = .bool false ∧ RowKit.Hid (Below wr.heap.size wr wx))
            case first =>
              go_quiet (fail)
              go_step
              go_step
              go_meet
              exact ⟨rfl, Lib.hid (below_drewN _ _)⟩
            obtain ⟨rfl, Hb⟩ := hcut
            have HR := Lib.hid (HEnd.out l r wc HW.out Hr.out (.inl hl0) (HA.out.below Hb.out))
            clear HEnd HA hl0 Hb
            have i6 : (i : Int) + 1 ≤ 9223372036854775807 := by omega
            go_wp2
            go_roundg (gk - 1)
            case rel => exact ⟨i + 1, k + 1, by have := Hik.out; omega, by omega, by omega, by go_num, by have := Hgk.out; have := Hik.out; omega, HR.out⟩
            case measure => have := Hgk.out; have := Hik.out; omega
      · have hR : RowKit.Hid (R = [] ∧ X.take k = X) := by
          have h1 : X.take k = X := List.take_of_length_le (by have := HL.out; omega)
          refine Lib.hid ⟨?_, h1⟩
          have := congrArg List.length s1
          rw [h1, List.length_append] at this
          exact List.length_eq_zero_iff.1 (by omega)
        clear s1 s2 s3 s4 Hs
        have Hgk := Lib.hid hgk
        have hib2 : ¬ (i : Int) < b := by omega
        clear hgk hik
        go_wp2
        go_end0
        exact ⟨rfl, W, HWa.out, by have := HWe.out; rwa [hR.out.2] at this, by have := HA.out; rwa [hR.out.1, List.append_nil] at this⟩
end Go.Proofs.Ytodabeibdgancaa
/- stableCmpFunc and SortStableFunc. -/
namespace Go.Proofs.Ytodabeibdgancaa
open Go Go.RowKit
/-- Ascending blocks of one size. -/
def Blks (c : Rw → Rw → Int) (s : Nat) (L : List (List Cel)) : Prop := ∀ l ∈ L, l.length = s ∧ AscC (cc c) l
theorem blks_len {c : Rw → Rw → Int} {s : Nat} {L : List (List Cel)} (h : Blks c s L) : L.flatten.length = L.length * s := by
  induction L with
  | nil => simp
  | cons l L ih =>
    have h1 := (h l (by simp)).1
    rw [List.flatten_cons, List.length_append, ih fun x hx => h x (List.mem_cons_of_mem _ hx), h1, List.length_cons, Nat.add_mul]
    omega
/-- Where a pass of merges stands: M is merged, L is still to come, t is the rest. -/
structure Pass (c : Rw → Rw → Int) (X : List Cel) (s a : Nat) (M L : List (List Cel)) (t : List Cel) : Prop where
  m : Blks c (2 * s) M
  l : Blks c s L
  asc : AscC (cc c) t
  lt : t.length < s
  at' : M.flatten.length = a
  st : StEq (cc c) X (M.flatten ++ L.flatten ++ t)
structure Base (c : Rw → Rw → Int) (X : List Cel) (s a : Nat) (L : List (List Cel)) (R : List Cel) : Prop where
  l : Blks c s L
  at' : L.flatten.length = a
  st : StEq (cc c) X (L.flatten ++ R)
theorem base_add {c : Rw → Rw → Int} {X : List Cel} {s a : Nat} {L : List (List Cel)} {u R Z : List Cel} (h : Base c X s a L (u ++ R)) (hu : u.length = s) (hc : Ord3 (cc c)) (hz : AscC (cc c) Z) (he : StEq (cc c) u Z) : Base c X s (a + s) (L ++ [Z]) R := by
  have hl := (he.perm hc).length_eq
  refine ⟨fun l hl' => ?_, ?_, ?_⟩
  · rcases List.mem_append.1 hl' with h1 | h1
    · exact h.l l h1
    · rw [List.mem_singleton.1 h1]; exact ⟨by omega, hz⟩
  · rw [List.flatten_append, List.length_append, h.at']; simp; omega
  · refine h.st.trans ?_
    rw [List.flatten_append, List.append_assoc]
    refine (StEq.refl _).app ?_
    simpa using he.app (StEq.refl R)
/-- The base is laid: what is left goes below one block. -/
theorem pass_start {c : Rw → Rw → Int} (hc : Ord3 (cc c)) {X : List Cel} {s a : Nat} {L : List (List Cel)} {R Z : List Cel} (h : Base c X s a L R) (hz : AscC (cc c) Z) (he : StEq (cc c) R Z) (hl : R.length < s) : Pass c X s 0 [] L Z :=
  ⟨(fun l h => by cases h), h.l, hz, by have := (he.perm hc).length_eq; omega, rfl, by rw [List.flatten_nil, List.nil_append]; exact h.st.trans ((StEq.refl _).app he)⟩
theorem pass_step {c : Rw → Rw → Int} (hc : Ord3 (cc c)) {X : List Cel} {s a : Nat} {M L : List (List Cel)} {x y t Z : List Cel} (h : Pass c X s a M (x :: y :: L) t) (hz : AscC (cc c) Z) (he : StEq (cc c) (x ++ y) Z) : Pass c X s (a + 2 * s) (M ++ [Z]) L t := by
  have hl := (he.perm hc).length_eq
  have l1 := (h.l x (by simp)).1
  have l2 := (h.l y (by simp)).1
  rw [List.length_append] at hl
  refine ⟨fun l hl' => ?_, fun l hl' => h.l l (by simp [hl']), h.asc, h.lt, ?_, ?_⟩
  · rcases List.mem_append.1 hl' with h1 | h1
    · exact h.m l h1
    · rw [List.mem_singleton.1 h1]; exact ⟨by omega, hz⟩
  · rw [List.flatten_append, List.length_append, h.at']; simp; omega
  · refine h.st.trans ?_
    have := ((StEq.refl (c := cc c) M.flatten).app he).app (StEq.refl (c := cc c) (L.flatten ++ t))
    simpa only [List.flatten_append, List.flatten_cons, List.flatten_nil, List.append_assoc, List.append_nil] using this
theorem pass_next {c : Rw → Rw → Int} (hc : Ord3 (cc c)) {X : List Cel} {s a : Nat} {M L : List (List Cel)} {t Z : List Cel} (h : Pass c X s a M L t) (hz : AscC (cc c) Z) (he : StEq (cc c) (L.flatten ++ t) Z) (hl : (L.flatten ++ t).length < 2 * s) : Pass c X (2 * s) 0 [] M Z :=
  ⟨(fun l h => by cases h), h.m, hz, by have := (he.perm hc).length_eq; omega, rfl, by
    rw [List.flatten_nil, List.nil_append]
    have := h.st
    rw [List.append_assoc] at this
    exact this.trans ((StEq.refl _).app he)⟩
theorem pass_end {c : Rw → Rw → Int} {X : List Cel} {s n : Nat} {L : List (List Cel)} {t : List Cel} (h : Pass c X s 0 [] L t) (hn : (L.flatten ++ t).length = n) (hs : n ≤ s) (h0 : 0 < s) : AscC (cc c) (L.flatten ++ t) := by
  have hb := blks_len h.l
  rw [List.length_append, hb] at hn
  match L with
  | [] => simpa using h.asc
  | [l] =>
    have ht : t = [] := List.length_eq_zero_iff.1 (by simp at hn; omega)
    rw [ht]
    simpa using (h.l l (by simp)).2
  | l :: l' :: L' =>
    exfalso
    simp only [List.length_cons, Nat.add_mul] at hn
    omega
theorem pass_len {c : Rw → Rw → Int} {X : List Cel} {s a n : Nat} {M L : List (List Cel)} {t : List Cel} (h : Pass c X s a M L t) (hn : (M.flatten ++ L.flatten ++ t).length = n) : a + L.length * s + t.length = n := by
  have := blks_len h.l
  have := h.at'
  simp only [List.length_append] at hn
  omega
set_option maxHeartbeats 8000000 in
set_option maxRecDepth 20000 in
theorem stable_calls (K : FuncId) (cap : Array Value) (c : Rw → Rw → Int) (w0 : World) (B g n cp : Nat) (X : List Cel) (w : World)
    (hC : CmpOk K cap c X w0 g) (hA : Arr w0 B g n cp X w) (hmx : n ≤ 1099511627776) :
    Calls Try.prog 36 #[.slice (some ⟨g, 0, none⟩) n cp, .int .i64 n, .func (.func K) #[] cap] w (SortsTo w0 B g n cp c [] X []) := by
  have hlen := hA.len
  have HL := Lib.hid hlen
  have HA := Lib.hid hA
  have HC := Lib.hid hC
  have HM := Lib.hid hmx
  clear hA hlen hC
  go_enter Try.func36, Try.ntmps36
  go_wp2
  go_loopg [7, 8] n (fun gk z7 z8 wr => ∃ a : Nat, a ≤ n ∧ z7 = .int .i64 a ∧ z8 = .int .i64 ((a : Int) + 20) ∧ gk + a = n ∧ RowKit.Hid (∃ L R, Base c X 20 a L R ∧ Arr w0 B g n cp (L.flatten ++ R) wr))
  case atStart => exact ⟨0, Nat.zero_le _, rfl, rfl, by omega, Lib.hid ⟨[], X, ⟨(fun l h => by cases h), rfl, StEq.refl _⟩, by simpa using HA.out⟩⟩
  case round =>
    clear HA
    obtain ⟨a, han, rfl, rfl, hgk, Hs⟩ := hrel
    obtain ⟨L, R, hb, hA⟩ := Hs.out
    have HB := Lib.hid hb
    have HA := Lib.hid hA
    have Hgk := Lib.hid hgk
    have hRl : R.length = n - a := by have := hA.len; have := hb.at'; rw [List.length_append] at *; omega
    have HRl := Lib.hid hRl
    have hbm : (a : Int) + 20 ≤ 9223372036854775807 := by omega
    have hbm2 : (a : Int) + 20 + 20 ≤ 9223372036854775807 := by omega
    clear Hs hb hA hgk
    by_cases hle : a + 20 ≤ n
    · obtain ⟨u, R', hu, lu1, lu2⟩ := split2 R 20 (by omega)
      have HI := Lib.hid (insertion_calls K cap c X w0 B g n cp L.flatten u R' wr a (a + 20) HB.out.at' (by omega) HC.out (fun x hx => HB.out.st.mem HC.out.ord (by rw [hu]; simp [hx])) (by have := HA.out; rw [hu] at this; simpa only [List.append_assoc] using this) HM.out)
      rw [show ((a + 20 : Nat) : Int) = (a : Int) + 20 by omega] at HI
      have HN : RowKit.Hid (∀ Z wx, AscC (cc c) Z → StEq (cc c) u Z → Arr w0 B g n cp (L.flatten ++ Z ++ R') wx → RowKit.Hid (∃ L R, Base c X 20 (a + 20) L R ∧ Arr w0 B g n cp (L.flatten ++ R) wx)) := by
        refine Lib.hid fun Z wx h1 h2 h3 => Lib.hid ⟨L ++ [Z], R', base_add (by have := HB.out; rwa [hu] at this) lu1 HC.out.ord h1 h2, ?_⟩
        simpa only [List.flatten_append, List.flatten_cons, List.flatten_nil, List.append_nil, List.append_assoc] using h3
      clear hu lu1 lu2 hRl
      have hle2 : (a : Int) + 20 ≤ n := by omega
      go_wp2_with fail
      (with_reducible refine HI.out.mono ?_)
      rintro e w1 ⟨rfl, Z, h1, h2, h3⟩
      have H1 := HN.out Z w1 h1 h2 h3
      clear h1 h2 h3 HI HN
      go_wp2
      go_roundg (gk - 20)
      case rel => exact ⟨a + 20, hle, by go_num, by go_num, by have := Hgk.out; omega, H1⟩
      case measure => have := Hgk.out; omega
    · have HI := Lib.hid (insertion_calls K cap c X w0 B g n cp L.flatten R [] wr a n HB.out.at' (by omega) HC.out (fun x hx => HB.out.st.mem HC.out.ord (by simp [hx])) (by have := HA.out; simpa only [List.append_nil] using this) HM.out)
      have HN : RowKit.Hid (∀ Z wx, AscC (cc c) Z → StEq (cc c) R Z → Arr w0 B g n cp (L.flatten ++ Z ++ []) wx → RowKit.Hid (∃ L t, Pass c X 20 0 [] L t ∧ Arr w0 B g n cp (L.flatten ++ t) wx)) :=
        Lib.hid fun Z wx h1 h2 h3 => Lib.hid ⟨L, Z, pass_start HC.out.ord HB.out h1 h2 (by omega), by simpa only [List.append_nil] using h3⟩
      clear hRl
      have hle2 : ¬ (a : Int) + 20 ≤ n := by omega
      go_wp2_with fail
      (with_reducible refine HI.out.mono ?_)
      rintro e w1 ⟨rfl, Z, h1, h2, h3⟩
      have H1 := HN.out Z w1 h1 h2 h3
      clear h1 h2 h3 HI HN HB HA HRl Hgk hle hle2 hbm hbm2
      go_wp2
      go_loopg [6] n (fun gk z6 wr => ∃ s : Nat, 20 ≤ s ∧ s ≤ 2 * n + 20 ∧ z6 = .int .i64 s ∧ n ≤ gk + s ∧ RowKit.Hid (∃ L t, Pass c X s 0 [] L t ∧ Arr w0 B g n cp (L.flatten ++ t) wr))
      case atStart => exact ⟨20, Nat.le_refl _, by omega, rfl, by omega, H1⟩
      case round =>
        clear H1
        obtain ⟨s, hs1, hs2, rfl, hgk, Hs⟩ := hrel
        have Hgk := Lib.hid hgk
        clear hgk
        by_cases hsn : s < n
        · have hm1 : (2 : Int) * s ≤ 9223372036854775807 := by omega
          have hm1' : (s : Int) * 2 ≤ 9223372036854775807 := by omega
          go_wp2
          go_loopg [7, 8] n (fun gj z7 z8 wr => ∃ a : Nat, a ≤ n ∧ z7 = .int .i64 a ∧ z8 = .int .i64 ((a : Int) + 2 * s) ∧ gj + a = n ∧ RowKit.Hid (∃ M L t, Pass c X s a M L t ∧ Arr w0 B g n cp (M.flatten ++ L.flatten ++ t) wr))
          case atStart =>
            refine ⟨0, Nat.zero_le _, rfl, by go_num, by omega, ?_⟩
            obtain ⟨L, t, h1, h2⟩ := Hs.out
            exact Lib.hid ⟨[], L, t, h1, by simpa using h2⟩
          case round =>
            clear Hs
            obtain ⟨a, han, rfl, rfl, hgj, Hs⟩ := hrel
            obtain ⟨M, L, t, hp, hA⟩ := Hs.out
            have HP := Lib.hid hp
            have HA := Lib.hid hA
            have Hgj := Lib.hid hgj
            have hl := pass_len hp hA.len
            have HlL := Lib.hid hl
            have hlt := hp.lt
            have hlat := hp.at'
            have hq1 : (a : Int) + 2 * s ≤ 9223372036854775807 := by omega
            have hq2 : (a : Int) + s ≤ 9223372036854775807 := by omega
            have hq3 : (a : Int) + 2 * s + 2 * s ≤ 9223372036854775807 := by omega
            clear Hs hp hA hgj
            by_cases hle : a + 2 * s ≤ n
            · have hL2 : ∃ x y L', L = x :: y :: L' := by
                match L with
                | [] => simp at hl; omega
                | [x] => simp at hl; omega
                | x :: y :: L' => exact ⟨x, y, L', rfl⟩
              obtain ⟨x, y, L', rfl⟩ := hL2
              have lx := HP.out.l x (by simp)
              have ly := HP.out.l y (by simp)
              have HI := Lib.hid (symMerge_calls K cap c X w0 B g n cp HC.out HM.out (2 * s + 1) M.flatten x y (L'.flatten ++ t) wr a (a + s) (a + 2 * s) (by omega) hlat (by omega) (by omega) (by omega) (by omega) (fun z hz => HP.out.st.mem HC.out.ord (by simp only [List.flatten_cons, List.mem_append] at hz ⊢; rcases hz with hz | hz <;> simp [hz])) lx.2 ly.2 (by have := HA.out; simpa only [List.flatten_cons, List.append_assoc] using this))
              rw [show ((a + s : Nat) : Int) = (a : Int) + s by omega, show ((a + 2 * s : Nat) : Int) = (a : Int) + 2 * s by omega] at HI
              have HN : RowKit.Hid (∀ Z wx, AscC (cc c) Z → StEq (cc c) (x ++ y) Z → Arr w0 B g n cp (M.flatten ++ Z ++ (L'.flatten ++ t)) wx → RowKit.Hid (∃ M L t, Pass c X s (a + 2 * s) M L t ∧ Arr w0 B g n cp (M.flatten ++ L.flatten ++ t) wx)) := by
                refine Lib.hid fun Z wx h1 h2 h3 => Lib.hid ⟨M ++ [Z], L', t, pass_step HC.out.ord HP.out h1 h2, ?_⟩
                simpa only [List.flatten_append, List.flatten_cons, List.flatten_nil, List.append_nil, List.append_assoc] using h3
              clear lx ly hl hlt hlat
              have hle2 : (a : Int) + 2 * s ≤ n := by omega
              go_wp2_with fail
              (with_reducible refine HI.out.mono ?_)
              rintro e w1 ⟨rfl, Z, h1, h2, h3⟩
              have H1 := HN.out Z w1 h1 h2 h3
              clear h1 h2 h3 HI HN
              go_wp2
              go_roundg (gk - 2 * s)
              case rel => exact ⟨a + 2 * s, hle, by go_num, by go_num, by have := Hgj.out; omega, H1⟩
              case measure => have := Hgj.out; omega
            · have HN : RowKit.Hid (∀ Z wx, AscC (cc c) Z → StEq (cc c) (L.flatten ++ t) Z → Arr w0 B g n cp (M.flatten ++ Z) wx → RowKit.Hid (∃ L t, Pass c X (2 * s) 0 [] L t ∧ Arr w0 B g n cp (L.flatten ++ t) wx)) :=
                Lib.hid fun Z wx h1 h2 h3 => Lib.hid ⟨M, Z, pass_next HC.out.ord HP.out h1 h2 (by rw [List.length_append, blks_len HP.out.l]; omega), h3⟩
              have hle2 : ¬ (a : Int) + 2 * s ≤ n := by omega
              by_cases hmn : a + s < n
              · have hL1 : ∃ x, L = [x] ∧ 0 < t.length := by
                  match L with
                  | [] => simp at hl; omega
                  | [x] => exact ⟨x, rfl, by simp at hl; omega⟩
                  | x :: y :: L' => exfalso; simp only [List.length_cons, Nat.add_mul] at hl; omega
                obtain ⟨x, rfl, ht0⟩ := hL1
                have lx := HP.out.l x (by simp)
                have HI := Lib.hid (symMerge_calls K cap c X w0 B g n cp HC.out HM.out (2 * s + 1) M.flatten x t [] wr a (a + s) n (by omega) hlat (by omega) (by simp at hl; omega) (by omega) ht0 (fun z hz => HP.out.st.mem HC.out.ord (by simp only [List.flatten_cons, List.mem_append] at hz ⊢; rcases hz with hz | hz <;> simp [hz])) lx.2 HP.out.asc (by have := HA.out; simpa only [List.flatten_cons, List.flatten_nil, List.append_nil, List.append_assoc] using this))
                rw [show ((a + s : Nat) : Int) = (a : Int) + s by omega] at HI
                have HN2 : RowKit.Hid (∀ Z wx, AscC (cc c) Z → StEq (cc c) (x ++ t) Z → Arr w0 B g n cp (M.flatten ++ Z ++ []) wx → RowKit.Hid (∃ L t, Pass c X (2 * s) 0 [] L t ∧ Arr w0 B g n cp (L.flatten ++ t) wx)) :=
                  Lib.hid fun Z wx h1 h2 h3 => HN.out Z wx h1 (by simpa using h2) (by simpa using h3)
                clear lx hl hlt hlat ht0 HN
                have hmn2 : (a : Int) + s < n := by omega
                go_wp2_with fail
                (with_reducible refine HI.out.mono ?_)
                rintro e w1 ⟨rfl, Z, h1, h2, h3⟩
                have H1 := HN2.out Z w1 h1 h2 h3
                clear h1 h2 h3 HI HN2
                go_wp2
                go_roundg (n - 2 * s)
                case rel => exact ⟨2 * s, by omega, by omega, by go_num, by omega, H1⟩
                case measure => have := Hgk.out; omega
              · have H1 := HN.out (L.flatten ++ t) wr (by
                  match L with
                  | [] => simpa using HP.out.asc
                  | [x] =>
                    have ht : t = [] := List.length_eq_zero_iff.1 (by simp at hl; omega)
                    rw [ht]; simpa using (HP.out.l x (by simp)).2
                  | x :: y :: L' => exfalso; simp only [List.length_cons, Nat.add_mul] at hl; omega) (StEq.refl _) (by have := HA.out; rwa [List.append_assoc] at this)
                have hmn2 : ¬ (a : Int) + s < n := by omega
                clear HN hl hlt hlat
                go_wp2
                go_roundg (n - 2 * s)
                case rel => exact ⟨2 * s, by omega, by omega, by go_num, by omega, H1⟩
                case measure => have := Hgk.out; omega
        · obtain ⟨L, t, hp, hA⟩ := Hs.out
          have HE := Lib.hid (pass_end hp hA.len (by omega) (by omega))
          have HS := Lib.hid hp.st
          have HA := Lib.hid hA
          have hsn2 : ¬ (s : Int) < n := by omega
          clear hp hA Hs
          go_wp2
          go_end0
          exact ⟨rfl, _, HE.out, by have := HS.out; rwa [List.flatten_nil, List.nil_append] at this, by have := HA.out; simpa using this⟩
set_option maxHeartbeats 4000000 in
/-- slices.SortStableFunc over a row of rows in a block of its own. -/
theorem sortStable_calls (K : FuncId) (cap : Array Value) (c : Rw → Rw → Int) (w0 : World) (B g n cp : Nat) (X : List Cel) (w : World)
    (hC : CmpOk K cap c X w0 g) (hA : Arr w0 B g n cp X w) (hmx : n ≤ 1099511627776) :
    Calls Try.prog 23 #[.slice (some ⟨g, 0, none⟩) n cp, .func (.func K) #[] cap] w (SortsTo w0 B g n cp c [] X []) := by
  have HS := Lib.hid (stable_calls K cap c w0 B g n cp X w hC hA hmx)
  clear hC hA
  go_enter Try.func23, Try.ntmps23
  go_wp2_with fail
  (with_reducible refine HS.out.mono ?_)
  rintro e w1 ⟨rfl, Z, h1, h2, h3⟩
  have H1 := Lib.hid (show ∃ Z, AscC (cc c) Z ∧ StEq (cc c) X Z ∧ Arr w0 B g n cp ([] ++ Z ++ []) w1 from ⟨Z, h1, h2, h3⟩)
  clear h1 h2 h3 HS
  go_wp2
  go_end0
  exact ⟨rfl, H1.out⟩
end Go.Proofs.Ytodabeibdgancaa
/- The order of an ORDER BY clause, in plain words and in memory. -/
namespace Go.Proofs.Ytodabeibdgancaa
open Go Go.RowKit
structure Od where
  item : Int
  desc : Bool
def nilV : Vl := ⟨0, 0, ⟨#[]⟩⟩
def Od.k (o : Od) : Nat := (o.item - 1).toNat
def Od.c (o : Od) (x y : Rw) : Int := if o.desc then - cmpV (x.getD o.k nilV) (y.getD o.k nilV) else cmpV (x.getD o.k nilV) (y.getD o.k nilV)
def ordC : List Od → Rw → Rw → Int
  | [], x, y => cmpR x y
  | o :: os, x, y => if o.c x y = 0 then ordC os x y else o.c x y
theorem ordC_cons (o : Od) (os : List Od) (x y : Rw) : ordC (o :: os) x y = if o.c x y = 0 then ordC os x y else o.c x y := rfl
theorem odc_swap (o : Od) (x y : Rw) : o.c y x = - o.c x y := by
  unfold Od.c
  rw [cmpV_swap]
  split <;> rfl
theorem ordC_swap (os : List Od) (x y : Rw) : ordC os y x = - ordC os x y := by
  induction os with
  | nil => exact cmpR_swap x y
  | cons o os ih =>
    unfold ordC
    rw [odc_swap, ih]
    by_cases h : o.c x y = 0
    · simp [h]
    · rw [if_neg (by omega), if_neg h]
theorem cmpV_le {a b c : Vl} (h1 : cmpV a b ≤ 0) (h2 : cmpV b c ≤ 0) : cmpV a c ≤ 0 ∧ (cmpV a c = 0 → cmpV a b = 0 ∧ cmpV b c = 0) := by
  by_cases e1 : cmpV a b = 0
  · rw [cmpV_zero] at e1
    subst e1
    exact ⟨h2, fun h => ⟨cmpV_zero.2 rfl, h⟩⟩
  · by_cases e2 : cmpV b c = 0
    · rw [cmpV_zero] at e2
      subst e2
      exact ⟨h1, fun h => ⟨h, cmpV_zero.2 rfl⟩⟩
    · have := cmpV_trans (a := a) (b := b) (c := c) (by omega) (by omega)
      exact ⟨by omega, fun h => by omega⟩
theorem odc_le {o : Od} {x y z : Rw} (h1 : o.c x y ≤ 0) (h2 : o.c y z ≤ 0) : o.c x z ≤ 0 ∧ (o.c x z = 0 → o.c x y = 0 ∧ o.c y z = 0) := by
  by_cases hd : o.desc
  · have e : ∀ a b, o.c a b = cmpV (b.getD o.k nilV) (a.getD o.k nilV) := fun a b => by unfold Od.c; rw [if_pos hd, ← cmpV_swap]
    rw [e] at h1 h2
    have := cmpV_le h2 h1
    rw [e, e, e]
    exact ⟨this.1, fun h => (this.2 h).symm⟩
  · have e : ∀ a b, o.c a b = cmpV (a.getD o.k nilV) (b.getD o.k nilV) := fun a b => by unfold Od.c; rw [if_neg hd]
    rw [e] at h1 h2
    rw [e, e, e]
    exact cmpV_le h1 h2
theorem cmpR_le {a b c : Rw} (h1 : cmpR a b ≤ 0) (h2 : cmpR b c ≤ 0) : cmpR a c ≤ 0 := by
  by_cases e1 : cmpR a b = 0
  · rw [cmpR_zero] at e1; subst e1; exact h2
  · by_cases e2 : cmpR b c = 0
    · rw [cmpR_zero] at e2; subst e2; exact h1
    · have := cmpR_trans (a := a) (b := b) (c := c) (by omega) (by omega); omega
theorem ordC_le (os : List Od) {x y z : Rw} (h1 : ordC os x y ≤ 0) (h2 : ordC os y z ≤ 0) : ordC os x z ≤ 0 := by
  induction os with
  | nil => exact cmpR_le h1 h2
  | cons o os ih =>
    rw [ordC_cons] at h1 h2 ⊢
    have h1' : o.c x y ≤ 0 := by split at h1 <;> omega
    have h2' : o.c y z ≤ 0 := by split at h2 <;> omega
    obtain ⟨h3, h4⟩ := odc_le h1' h2'
    by_cases h5 : o.c x z = 0
    · obtain ⟨h6, h7⟩ := h4 h5
      rw [if_pos h5]
      rw [if_pos h6] at h1
      rw [if_pos h7] at h2
      exact ih h1 h2
    · rw [if_neg h5]; exact h3
theorem ordC_zero {os : List Od} {x y : Rw} (h : ordC os x y = 0) : x = y := by
  induction os with
  | nil => exact cmpR_zero.1 h
  | cons o os ih =>
    unfold ordC at h
    split at h
    · exact ih h
    · contradiction
theorem ordC_ord3 (os : List Od) : Ord3 (cc (ordC os)) :=
  ⟨fun x y => by unfold cc; have := ordC_swap os x.r y.r; omega, fun x y z h1 h2 => ordC_le os h1 h2⟩
/-- Two ascending lists with the same elements are the same. -/
theorem ordC_uniq (os : List Od) : ∀ {l m : List Rw}, l.Pairwise (fun x y => ordC os x y ≤ 0) → m.Pairwise (fun x y => ordC os x y ≤ 0) → l.Perm m → l = m := by
  intro l
  induction l with
  | nil => intro m _ _ h; exact h.nil_eq
  | cons x l ih =>
    intro m h1 h2 h
    match m with
    | [] => exact absurd h.symm.nil_eq (by simp)
    | y :: m =>
      obtain ⟨a1, a2⟩ := List.pairwise_cons.1 h1
      obtain ⟨b1, b2⟩ := List.pairwise_cons.1 h2
      have hx : ordC os x y ≤ 0 := by
        rcases List.mem_cons.1 (h.mem_iff.2 (List.mem_cons_self ..) : y ∈ x :: l) with e | e
        · subst e; have := ordC_swap os y y; omega
        · exact a1 y e
      have hy : ordC os y x ≤ 0 := by
        rcases List.mem_cons.1 (h.mem_iff.1 (List.mem_cons_self ..) : x ∈ y :: m) with e | e
        · subst e; have := ordC_swap os x x; omega
        · exact b1 x e
      have e : x = y := ordC_zero (os := os) (by have := ordC_swap os x y; omega)
      subst e
      rw [ih a2 b2 (h.cons_inv)]
/-- Orders lie at the slice. -/
inductive OrdsAt (w : World) : List Od → Value → Prop where
  | mt {a : Option Addr} {c : Nat} : OrdsAt w [] (.slice a 0 c)
  | lie (os : List Od) (b o n cap : Nat) (hn : n = os.length) (hlt : b < w.heap.size) (hm : n ≤ maxLen)
      (hc : ∀ i (h : i < os.length), w.cell? ⟨b, o + i * 2, none⟩ = some (.int .i64 os[i].item) ∧ w.cell? ⟨b, o + i * 2 + 1, none⟩ = some (.bool os[i].desc)) : OrdsAt w os (.slice (some ⟨b, o, none⟩) n cap)
theorem OrdsAt.mono {w w' : World} {os : List Od} {s : Value} (h : OrdsAt w os s) (hb : Below w.heap.size w w') : OrdsAt w' os s := by
  cases h with
  | mt => exact .mt
  | lie _ b o n cap hn hlt hm hc => exact .lie _ b o n cap hn (Nat.lt_of_lt_of_le hlt hb.size) hm fun i h => ⟨(hb.cell (p := ⟨b, _, none⟩) hlt).trans (hc i h).1, (hb.cell (p := ⟨b, _, none⟩) hlt).trans (hc i h).2⟩
theorem OrdsAt.shape {w : World} {os : List Od} {s : Value} (h : OrdsAt w os s) : ∃ a n c, s = .slice a n c ∧ n = os.length ∧ n ≤ maxLen := by
  cases h with
  | mt => exact ⟨_, _, _, rfl, rfl, by simp⟩
  | lie _ b o n cap hn hlt hm hc => exact ⟨_, _, _, rfl, hn, hm⟩
theorem OrdsAt.at {w : World} {os : List Od} {a : Option Addr} {n c : Nat} (h : OrdsAt w os (.slice a n c)) (i : Nat) (hi : i < os.length) : ∃ b o, a = some ⟨b, o, none⟩ ∧ b < w.heap.size ∧ w.cell? ⟨b, o + i * 2, none⟩ = some (.int .i64 os[i].item) ∧ w.cell? ⟨b, o + i * 2 + 1, none⟩ = some (.bool os[i].desc) := by
  cases h with
  | mt => simp at hi
  | lie _ b o n cap hn hlt hm hc => exact ⟨b, o, rfl, hlt, hc i hi⟩
/-- The orders name values of rows of n values. -/
def OrdsFit (os : List Od) (n : Nat) : Prop := ∀ o ∈ os, 1 ≤ o.item ∧ o.item ≤ n
theorem ordC_drop {os : List Od} {k : Nat} (h : k < os.length) (x y : Rw) : ordC (os.drop k) x y = if (os[k]).c x y = 0 then ordC (os.drop (k + 1)) x y else (os[k]).c x y := by
  rw [List.drop_eq_getElem_cons h]; rfl
end Go.Proofs.Ytodabeibdgancaa
