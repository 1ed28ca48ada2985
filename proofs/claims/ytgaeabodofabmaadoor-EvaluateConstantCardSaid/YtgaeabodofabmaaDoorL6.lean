/- The reference's Constant; EvaluateConstant returns true at every expression. -/
import Derived.Test.YtgaeabodofabmaaDoorL3
namespace Go.Proofs.YtgaeabodofabmaaDoor
open Go.RowKit

theorem rconstant_calls (E : Ex) (a : Option Addr) (n c : Nat) (w : World) (hs : ArgsAt w E.args (.slice a n c)) (v : Vl) (hv : E.cols = false → RvAt [] E v) :
    Calls Tryd.prog 21 #[.agg #[.int .i64 E.op, .string E.table, .string E.name, .int .i64 E.index, .int .i64 E.v.kind, .int .i64 E.v.int, .string E.v.text, .slice a n c]] w fun e w' => e = .returned (if E.cols then .tuple #[Vl.null.val, .int .i64 1] else .tuple #[v.val, .int .i64 0]) ∧ Below w.heap.size w w' := by
  have hb1 : ∀ o o', Below w.heap.size w ((w.alloc o).alloc o') := fun o o' => ((Below.refl _ _).alloc (Nat.le_refl _) o).alloc (by simp) o'
  have H1 := Lib.hid (fun w' h => rcolumns_calls _ E (Nat.le_refl _) a n c w' h)
  have Hs := Lib.hid hs
  have Hb1 := Lib.hid hb1
  have Hv := Lib.hid hv
  clear hs hb1 hv
  cases hcol : E.cols
  · rw [hcol] at H1
    have Hval := Hv.out hcol
    unfold RvAt at Hval
    have H2 := Lib.hid Hval
    clear hcol Hv Hval
    go_enter Tryd.func21, Tryd.ntmps21
    go_wp2_with fail
    refine (H1.out _ (Hs.out.mono (Hb1.out _ _))).mono ?_
    rintro e w1 ⟨rfl, hbb⟩
    have hx := ((VarIs.new w _ _).alloc _).below hbb (by simp <;> omega)
    have hy := (VarIs.new (w.alloc _) _ _).below hbb (by simp <;> omega)
    have hbw := (Hb1.out _ _).trans (hbb.mono (by simp <;> omega))
    clear hbb
    simp only [World.size_alloc] at hx hy
    obtain ⟨x1, x2, -⟩ := hx
    obtain ⟨y1, y2, y3⟩ := hy
    go_wp2_with fail
    refine (H2.out _ _ _ _ w1 (Hs.out.mono hbw) .mt).mono ?_
    rintro e w2 ⟨rfl, hbb⟩
    have hy := (VarIs.mk y1 y2 y3).below hbb y1
    have hbw2 := hbw.trans (hbb.mono hbw.size)
    clear hbb hbw x1 x2 y1 y2 y3
    obtain ⟨y1, y2, y3⟩ := hy
    simp only [Vl.val]
    go_wp2
    exact bodyPost_ret (v := .tuple #[.agg #[.int .i64 v.kind, .int .i64 v.int, .string v.text], .int .i64 0]) (by simp [results, Tryd.results21, go_sem, y2]) rfl
      ⟨by simp [Vl.val], ((hbw2.setCell (Nat.le_succ _) _).setCell (Nat.le_succ _) _).setCell (Nat.le_succ _) _⟩
  · rw [hcol] at H1
    clear hcol Hv
    go_enter Tryd.func21, Tryd.ntmps21
    go_wp2_with fail
    refine (H1.out _ (Hs.out.mono (Hb1.out _ _))).mono ?_
    rintro e w1 ⟨rfl, hbb⟩
    have hy := (VarIs.new (w.alloc _) _ _).below hbb (by simp <;> omega)
    have hbw := (Hb1.out _ _).trans (hbb.mono (by simp <;> omega))
    clear hbb
    simp only [World.size_alloc] at hy
    obtain ⟨y1, y2, y3⟩ := hy
    go_wp2
    exact bodyPost_ret (v := .tuple #[.agg #[.int .i64 0, .int .i64 0, .string ⟨#[]⟩], .int .i64 1]) (by simp [results, Tryd.results21, go_sem, y2]) rfl
      ⟨by simp [Vl.null, Vl.val], ((hbw.setCell (Nat.le_succ _) _).setCell (Nat.le_succ _) _).setCell (Nat.le_succ _) _⟩

/-- A constant's value, by the program and by the reference: the two results are one. -/
theorem both_consts {L : List Int} {t : Int} {E : Ex} (h : VT L t E) : ∃ (v : Vl) (k : Int), (∀ (a : Option Addr) (n c : Nat) (w : World), ArgsAt w E.args (.slice a n c) →
    Calls Tryd.prog 20 #[.agg #[.int .i64 E.op, .string E.table, .string E.name, .int .i64 E.index, .int .i64 E.v.kind, .int .i64 E.v.int, .string E.v.text, .slice a n c]] w fun e w' => e = .returned (.tuple #[.agg #[.int .i64 v.kind, .int .i64 v.int, .string v.text], .int .i64 k]) ∧ Below w.heap.size w w') ∧
    (∀ (a : Option Addr) (n c : Nat) (w : World), ArgsAt w E.args (.slice a n c) →
    Calls Tryd.prog 21 #[.agg #[.int .i64 E.op, .string E.table, .string E.name, .int .i64 E.index, .int .i64 E.v.kind, .int .i64 E.v.int, .string E.v.text, .slice a n c]] w fun e w' => e = .returned (.tuple #[.agg #[.int .i64 v.kind, .int .i64 v.int, .string v.text], .int .i64 k]) ∧ Below w.heap.size w w') := by
  cases hc : E.cols
  · obtain ⟨v, hv, _, hrv⟩ := rv_all (R := []) (.inr hc) h
    refine ⟨v, 0, fun a n c w hs => ?_, fun a n c w hs => ?_⟩
    · have := constant_calls E (.slice a n c) w hs v (fun _ => hv)
      simpa [hc, Ex.val, Vl.val] using this
    · have := rconstant_calls E a n c w hs v (fun _ => hrv)
      simpa [hc, Vl.val] using this
  · refine ⟨Vl.null, 1, fun a n c w hs => ?_, fun a n c w hs => ?_⟩
    · have := constant_calls E (.slice a n c) w hs Vl.null (fun h => by rw [hc] at h; cases h)
      simpa [hc, Ex.val, Vl.val] using this
    · have := rconstant_calls E a n c w hs Vl.null (fun h => by rw [hc] at h; cases h)
      simpa [hc, Vl.val] using this

set_option maxHeartbeats 4000000 in
set_option maxRecDepth 20000 in
theorem econst_calls {L : List Int} (E : Ex) (a : Option Addr) (n c : Nat) (s : Value) (w : World) (hs : ArgsAt w E.args (.slice a n c)) (hl : VarsAt w L s) (ht : Tab w) :
    Calls Tryd.prog 6 #[.agg #[.int .i64 E.op, .string E.table, .string E.name, .int .i64 E.index, .int .i64 E.v.kind, .int .i64 E.v.int, .string E.v.text, .slice a n c], s] w (LawPost w) := by
  have Hs := Lib.hid hs
  have Hl := Lib.hid hl
  have Ht := Lib.hid ht
  have Hv := Lib.hid (VarIs.new w #[.int .i64 E.op, .string E.table, .string E.name, .int .i64 E.index, .int .i64 E.v.kind, .int .i64 E.v.int, .string E.v.text, .slice a n c] 26)
  have Hb0 : RowKit.Hid (∀ o, Below w.heap.size w (w.alloc o)) := fun o => (Below.refl _ _).alloc (Nat.le_refl _) o
  clear hs hl ht
  go_enter Tryd.func6, Tryd.ntmps6
  go_upto_region 1 with (fail)
  go_cut [22] (fun x wx => ∃ q : Bool, x = .bool q ∧ RowKit.Hid (q = false → ∃ t, VT L t E) ∧ RowKit.Hid (Below (w.heap.size + 1) (w.alloc (.cells #[.int .i64 E.op, .string E.table, .string E.name, .int .i64 E.index, .int .i64 E.v.kind, .int .i64 E.v.int, .string E.v.text, .slice a n c] 26)) wx))
  case first =>
    go_wp2_with fail
    refine (awake_calls _ (Ht.out.mono (Hb0.out _))).mono ?_
    rintro e w1 ⟨rfl, hb1⟩
    have Hb1 := Lib.hid hb1
    simp only [World.size_alloc] at Hb1
    have Hbw := Lib.hid ((Hb0.out _).trans (Hb1.out.mono (Nat.le_succ _)))
    clear hb1
    obtain ⟨v1, v2, -⟩ := Hv.out.below Hb1.out (Nat.lt_succ_self _)
    go_wp2_with fail
    refine (fits_calls 1 E _ _ _ _ _ (Hs.out.mono Hbw.out) (Hl.out.mono Hbw.out)).mono ?_
    rintro e w2 ⟨q, rfl, hq, hb2⟩
    have Hq := Lib.hid hq
    have Hb2 := Lib.hid (Hb1.out.trans (hb2.mono (by have := Hb1.out.size; simp at this; omega)))
    have Hbw2 := Lib.hid ((Hb0.out _).trans (Hb2.out.mono (Nat.le_succ _)))
    clear hb2 hq v1 v2
    obtain ⟨v1, v2, -⟩ := Hv.out.below Hb2.out (Nat.lt_succ_self _)
    cases q
    · go_wp2_with fail
      refine (fits_calls 2 E _ _ _ _ _ (Hs.out.mono Hbw2.out) (Hl.out.mono Hbw2.out)).mono ?_
      rintro e w3 ⟨p, rfl, hp, hb3⟩
      have Hp := Lib.hid hp
      have Hb3 := Lib.hid (Hb2.out.trans (hb3.mono (by have := Hb2.out.size; simp at this; omega)))
      clear hb3 hp v1 v2
      cases p
      · go_wp2
        go_meet
        exact ⟨true, rfl, (fun h => nomatch h), Hb3⟩
      · go_wp2
        go_meet
        exact ⟨false, rfl, fun _ => ⟨2, (Hp.out (by simp)).1.2.1 rfl⟩, Hb3⟩
    · go_wp2
      go_meet
      exact ⟨false, rfl, fun _ => ⟨1, (Hq.out (by simp)).1.1 rfl⟩, Hb2⟩
  case rest =>
    obtain ⟨q, rfl, Hq, Hb⟩ := hcut
    have Hbw := Lib.hid ((Hb0.out _).trans (Hb.out.mono (Nat.le_succ _)))
    cases q
    · obtain ⟨t, hE⟩ := Hq.out rfl
      obtain ⟨v, k, h1, h2⟩ := both_consts hE
      have H1 := Lib.hid h1
      have H2 := Lib.hid h2
      clear h1 h2 hE Hq
      have Hv1 := Lib.hid (Hv.out.below Hb.out (Nat.lt_succ_self _))
      obtain ⟨v1, v2, -⟩ := Hv1.out
      go_wp2_with fail
      refine (H1.out _ _ _ _ (Hs.out.mono Hbw.out)).mono ?_
      rintro e w1 ⟨rfl, hb1⟩
      have Hb1 := Lib.hid (Hbw.out.trans (hb1.mono Hbw.out.size))
      have Hv2 := Lib.hid ((Hv1.out.below hb1 Hv1.out.lt).alloc (.cells #[.int .i64 v.kind, .int .i64 v.int, .string v.text] 23))
      have Hz := Lib.hid (VarIs.new w1 #[.int .i64 v.kind, .int .i64 v.int, .string v.text] 23)
      have Hb2 := Lib.hid (Hb1.out.alloc Hb1.out.size (.cells #[.int .i64 v.kind, .int .i64 v.int, .string v.text] 23))
      have hv3 := Hv1.out.below hb1 Hv1.out.lt
      clear hb1 v1 v2
      obtain ⟨v1, v2, -⟩ := hv3
      go_wp2_with fail
      refine (H2.out _ _ _ _ (Hs.out.mono Hb2.out)).mono ?_
      rintro e w2 ⟨rfl, hb2⟩
      have Hz2 := Lib.hid (Hz.out.below hb2 (by simp))
      have Hb3 := Lib.hid (Hb2.out.trans (hb2.mono Hb2.out.size))
      clear hb2 v1 v2
      obtain ⟨z1, z2, z3⟩ := Hz2.out
      have Hb4 := Lib.hid (Hb3.out.alloc Hb3.out.size (.cells #[.int .i64 v.kind, .int .i64 v.int, .string v.text] 23))
      go_wp2
      go_ret
      exact ⟨rfl, Hb4.out⟩
    · go_wp2_with fail
      refine (awake_later Ht.out _ Hbw.out).mono ?_
      rintro e w1 ⟨rfl, hb1⟩
      have Hb1 := Lib.hid hb1
      clear hb1
      go_wp2
      go_ret
      exact ⟨rfl, Hb1.out⟩
end Go.Proofs.YtgaeabodofabmaaDoor
