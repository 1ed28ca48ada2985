/- The bag's Add and Remove. -/
import Derived.Test.YtekoemcckdhhnaaH1
namespace Go.Proofs.Ytekoemcckdhhnaa
open Go.RowKit

theorem badd_calls (B pb : Nat) (s : Value) (b : List Ent) (R : Rw) (r : Value) (w : World) (hb : BagAt w B pb s b) (hr : ValsAt w R r) (hR : R.length < 1099511627776) (hlen : lenB b + 1 < 1099511627776) :
    Calls Try.prog 21 #[.pointer (some ⟨pb, 0, none⟩), r] w fun e w' => e = .returned (.tuple #[]) ∧ Mut w B pb s (putB b R 1) w' := by
  have HC := Lib.hid (show Calls Try.prog 30 #[.pointer (some ⟨pb, 0, none⟩), r, .int .i64 1] w fun e w' => e = .returned (.tuple #[]) ∧ Mut w B pb s (putB b R 1) w' from bput_calls B pb s b R 1 r w hb hr (by omega) hR hlen)
  obtain ⟨ar, nr, cr, rfl, p3, p4⟩ := hr.shape
  clear hb hr hR hlen p3 p4
  go_enter Try.func21, Try.ntmps21
  go_wp2_with fail
  (with_reducible refine HC.out.mono ?_)
  rintro e w1 ⟨rfl, h⟩
  have H := Lib.hid h
  clear h
  go_wp2
  go_end0
  exact ⟨rfl, H.out⟩

theorem delete_bag (B pb g k c i : Nat) (b : List Ent) (m : Int) (w : World) (hb : BagRaw w B pb (.slice (some ⟨g, 0, none⟩) (k + 1) c) b m) (hk : b.length = k + 1) (hi : i ≤ k) (hlen : k + 1 < 1099511627776) :
    Calls Try.prog 38 #[.slice (some ⟨g, 0, none⟩) (k + 1) c, .int .i64 i, .int .i64 ((i : Int) + 1)] w fun e w' => e = .returned (.slice (some ⟨g, 0, none⟩) k c) ∧
      w'.heap[pb]? = some (.cells #[.slice (some ⟨g, 0, none⟩) (k + 1) c, .int .i64 m] 55 (0, 0)) ∧ BagRaw (w'.setCell ⟨pb, 0, none⟩ (.slice (some ⟨g, 0, none⟩) k c)) B pb (.slice (some ⟨g, 0, none⟩) k c) (b.take i ++ b.drop (i + 1)) m ∧
      Chg w (w'.setCell ⟨pb, 0, none⟩ (.slice (some ⟨g, 0, none⟩) k c)) pb (some g) := by
  have hne := hb.ne
  have hpb := hb.lt
  simp only [Value.ownBlock, ne_eq, Option.some.injEq] at hne
  obtain ⟨hge, hptr, cs, ho, he⟩ := hb
  rw [hk] at ho
  refine (delete_calls B g k c i cs w ho he.one hlen hi).mono ?_
  rintro e w' ⟨rfl, h1, h2⟩
  have hptr' : w'.heap[pb]? = some (.cells #[.slice (some ⟨g, 0, none⟩) (k + 1) c, .int .i64 m] 55 (0, 0)) := by
    rw [h2.block pb hpb (fun e => hne (by injection e with e; exact e.symm))]
    exact hptr
  have hset := setCell_chg w' pb 0 (.slice (some ⟨g, 0, none⟩) k c) none
  refine ⟨rfl, hptr', ⟨hge, heap_setCell_same w' pb 0 _ 55 _ hptr', cs.take (i * 2) ++ cs.drop ((i + 1) * 2), ?_, ?_⟩, (Chg.of_grown h2 pb).trans hset (by simp)⟩
  · have hlen' : (b.take i ++ b.drop (i + 1)).length = k := by simp; omega
    rw [hlen']
    refine ⟨h1.1, ?_⟩
    rcases h1.2 with e | ⟨g', cap, cur, hvv, hbb, hg, rest⟩
    · exact .inl e
    · refine .inr ⟨g', cap, cur, hvv, hbb, ?_, rest⟩
      have hgg : g = g' := by injection hvv with a1; injection a1 with a1; injection a1
      rw [Below.heap_setCell w' ⟨pb, 0, none⟩ _ g' (fun e => hne (hgg.trans e))]
      exact hg
  · have hno : ∀ k', some g = some k' → ∀ cur fr, w.heap[k']? ≠ some (.cells cur 38 fr) := by
      intro k' hk'
      injection hk' with hk'
      subst hk'
      obtain ⟨cur, fr, e⟩ := ownBlock57 ho g rfl
      exact no38 e (by decide)
    exact (((he.take i).append (he.drop (i + 1))).chg (Chg.of_grown h2 pb) (no38 hptr (by decide)) hno).chg hset (no38 hptr' (by decide)) (by simp)

set_option maxHeartbeats 2000000 in
set_option maxRecDepth 20000 in
theorem bremove_calls (B pb : Nat) (s : Value) (b : List Ent) (R : Rw) (r : Value) (w : World) (hb : BagAt w B pb s b) (hr : ValsAt w R r) (hlen : lenB b < 1099511627776) :
    Calls Try.prog 25 #[.pointer (some ⟨pb, 0, none⟩), r] w fun e w' => e = .returned (.bool (hasB b R)) ∧ Mut w B pb s (subB b R) w' := by
  have hbl := length_le_len hb.wf
  have hcl := cnt_le_len hb.wf R
  have hpl := posB_le b R
  have HC := Lib.hid (find_calls B pb s b R r w hb hr (by omega))
  have Hbag := Lib.hid hb
  obtain ⟨ar, nr, cr, rfl, p3, p4⟩ := hr.shape
  clear hb hr p3 p4
  go_enter Try.func25, Try.ntmps25
  go_wp2_with fail
  (with_reducible refine HC.out.mono ?_)
  rintro e w1 ⟨rfl, hb1⟩
  have Hb1 := Lib.hid hb1
  have Hbag1 := Lib.hid (Hbag.out.mono hb1)
  clear hb1 HC
  cases hh : hasB b R
  · have Hfin : RowKit.Hid (Mut w B pb s (subB b R) w1) := ⟨s, by rw [subB_not hh]; exact Hbag1.out, Chg.of_below Hb1.out _ _, fun k hk => .inl hk⟩
    go_wp2
    go_ret
    exact ⟨by rw [hh]; rfl, Hfin.out⟩
  · obtain ⟨hi, hR1, hN1⟩ := hasB_pos Hbag.out.wf hh
    have hpos : 0 < cntB b R := by rw [← hN1]; exact Hbag.out.wf.pos _ (List.getElem_mem hi)
    obtain ⟨k, hk⟩ : ∃ k, b.length = k + 1 := ⟨b.length - 1, by omega⟩
    obtain ⟨a1, c1, rfl, hg, _⟩ := Hbag.out.shape
    obtain ⟨g, rfl⟩ := hg (by omega)
    have hraw := Hbag1.out.raw
    have hne := hraw.ne
    simp only [Value.ownBlock, ne_eq, Option.some.injEq] at hne
    have hne' : ¬ pb = g := fun e => hne e.symm
    obtain ⟨d0, d1, d2⟩ := hraw.cell
    have hlt := hraw.lt
    obtain ⟨cs, ho, he⟩ := hraw.ent
    obtain ⟨x, e0, e1, e2⟩ := he.get (posB b R) hi
    have e3 := ho.cellAt (posB b R * 2 + 1) (by omega)
    have e4 := ho.frozenAt (posB b R * 2 + 1)
    have hgl := (ho.lt g rfl).2
    rw [e1, hN1] at e3
    obtain ⟨W, hW⟩ : ∃ W, W = (w1.setCell ⟨pb, 1, none⟩ (.int .i64 ((lenB b : Int) - 1))).setCell ⟨g, posB b R * 2 + 1, none⟩ (.int .i64 ((cntB b R : Int) - 1)) := ⟨_, rfl⟩
    have HW := Lib.hid hW
    have Hlen : RowKit.Hid ((lenB b : Int) - 1 = (lenB (subB b R) : Nat)) := by show _ = _; have := len_subB Hbag.out.wf hh; omega
    have HW2 : RowKit.Hid (BagRaw W B pb (.slice (some ⟨g, 0, none⟩) b.length c1) (b.set (posB b R) (R, cntB b R - 1)) ((lenB b : Int) - 1) ∧ Chg w W pb (some g)) := by
      obtain ⟨k1, k2⟩ := hraw.length ((lenB b : Int) - 1)
      have k3 := k1.count (posB b R) hi (cntB b R - 1)
      rw [show ((cntB b R - 1 : Nat) : Int) = (cntB b R : Int) - 1 by omega, hR1, ← hW] at k3
      exact ⟨k3.1, ((Chg.of_below Hb1.out pb (some g)).trans k2 (by simp)).trans k3.2 (fun k hk => .inl hk)⟩
    have Hbk := Lib.hid hk
    have i0 : (0 : Int) ≤ posB b R := by omega
    have i1 : (posB b R : Int) < b.length := by omega
    have i2 : (1 : Int) ≤ cntB b R := by omega
    have i3 : (0 : Int) ≤ (cntB b R : Int) - 1 := by omega
    have i4 : (1 : Int) ≤ lenB b := by omega
    have i5 : (0 : Int) ≤ (lenB b : Int) - 1 := by omega
    by_cases h1 : cntB b R = 1
    · have hc0 : ((cntB b R : Int) - 1 == 0) = true := by simp; omega
      have HD : RowKit.Hid (Calls Try.prog 38 #[.slice (some ⟨g, 0, none⟩) b.length c1, .int .i64 (posB b R), .int .i64 ((posB b R : Int) + 1)] W fun e w' => ∃ m', e = .returned (.slice (some ⟨g, 0, none⟩) m' c1) ∧
          w'.heap[pb]? = some (.cells #[.slice (some ⟨g, 0, none⟩) b.length c1, .int .i64 ((lenB b : Int) - 1)] 55 (0, 0)) ∧ RowKit.Hid (Mut w B pb (.slice (some ⟨g, 0, none⟩) b.length c1) (subB b R) (w'.setCell ⟨pb, 0, none⟩ (.slice (some ⟨g, 0, none⟩) m' c1)))) := by
        show Calls _ _ _ _ _
        have h2 := HW2.out.1
        have hp1 : posB b R ≤ k := by omega
        have hk3 : (b.set (posB b R) (R, cntB b R - 1)).length = k + 1 := by simp [hk]
        rw [hk] at h2 ⊢
        refine (delete_bag B pb g k c1 (posB b R) _ _ W h2 hk3 hp1 (by omega)).mono ?_
        rintro e w' ⟨rfl, h3, h4, h5⟩
        refine ⟨k, rfl, h3, ?_⟩
        rw [Hlen.out] at h4
        rw [List.take_set_of_le (Nat.le_refl _), List.drop_set_of_lt (by omega), ← subB_one Hbag.out.wf hh h1] at h4
        exact ⟨_, h4.bag (wf_subB Hbag.out.wf R), HW2.out.2.trans h5 (fun k hk => .inl hk), fun k hk => .inl hk⟩
      rw [HW.out] at HD
      clear h1 hraw ho he e0 e1 e2 hN1 hR1 hk hW HW HW2 hg
      generalize lenB b = q at *
      generalize b.length = n at *
      generalize cntB b R = N at *
      generalize posB b R = p at *
      go_wp2_with fail
      (with_reducible refine HD.out.mono ?_)
      rintro e w4 ⟨m4, rfl, hptr, hM⟩
      have f0 := cell_of_row w4 pb 0 _ 55 (0, 0) hptr
      have f1 := frozen_of_row w4 pb 0 _ 55 hptr
      have f2 := (Array.getElem?_eq_some_iff.1 hptr).1
      simp only [List.getElem?_toArray, List.getElem?_cons_zero] at f0
      have HM := Lib.hid hM.out
      clear hM hptr HD
      go_wp2
      go_ret
      exact ⟨by rw [hh]; rfl, HM.out⟩
    · have hc0 : ((cntB b R : Int) - 1 == 0) = false := by simp; omega
      have Hfin : RowKit.Hid (Mut w B pb (.slice (some ⟨g, 0, none⟩) b.length c1) (subB b R) W) := by
        have h2 := HW2.out.1
        rw [Hlen.out, ← subB_more Hbag.out.wf hh h1] at h2
        exact ⟨_, h2.bag (wf_subB Hbag.out.wf R), HW2.out.2, fun k hk => .inl hk⟩
      rw [HW.out] at Hfin
      clear h1 hraw ho he e0 e1 e2 hN1 hR1 hk hW HW HW2 hg
      generalize lenB b = q at *
      generalize b.length = n at *
      generalize cntB b R = N at *
      generalize posB b R = p at *
      go_wp2
      go_ret
      exact ⟨by rw [hh]; rfl, Hfin.out⟩
end Go.Proofs.Ytekoemcckdhhnaa
