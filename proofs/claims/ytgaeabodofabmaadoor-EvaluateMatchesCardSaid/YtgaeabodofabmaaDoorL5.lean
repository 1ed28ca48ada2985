/- EvaluateMatches returns true at every case. -/
import Derived.Test.YtgaeabodofabmaaDoorL4
namespace Go.Proofs.YtgaeabodofabmaaDoor
open Go.RowKit

theorem both_matches {L : List Int} {R : List Vl} {E : Ex} (h : E.op = 0 ∨ CT L E ∧ RowOf L R) : ∃ b : Bool, (∀ (a : Option Addr) (n c : Nat) (r : Value) (w : World), ArgsAt w E.args (.slice a n c) → ValsAt w R r → Tab w →
    Calls Tryd.prog 17 #[.agg #[.int .i64 E.op, .string E.table, .string E.name, .int .i64 E.index, .int .i64 E.v.kind, .int .i64 E.v.int, .string E.v.text, .slice a n c], r] w fun e w' => e = .returned (.bool b) ∧ Below w.heap.size w w') ∧
    (∀ (a : Option Addr) (n c : Nat) (r : Value) (w : World), ArgsAt w E.args (.slice a n c) → ValsAt w R r →
    Calls Tryd.prog 18 #[.agg #[.int .i64 E.op, .string E.table, .string E.name, .int .i64 E.index, .int .i64 E.v.kind, .int .i64 E.v.int, .string E.v.text, .slice a n c], r] w fun e w' => e = .returned (.bool b) ∧ Below w.heap.size w w') := by
  by_cases h0 : E.op = 0
  · exact ⟨true, fun a n c r w hs hr ht => matches_calls E R a n c r w true hs hr ht (by rw [if_pos h0]), fun a n c r w hs hr => rmatches_calls E R a n c r w true hs hr (by rw [if_pos h0])⟩
  · obtain ⟨hE, hR⟩ := h.resolve_left h0
    obtain ⟨x, hx, hrx⟩ := rc_all hR hE
    exact ⟨decide (x = .t), fun a n c r w hs hr ht => matches_calls E R a n c r w _ hs hr ht (by rw [if_neg h0]; exact ⟨x, hx, rfl⟩), fun a n c r w hs hr => rmatches_calls E R a n c r w _ hs hr (by rw [if_neg h0]; exact ⟨x, hrx, rfl⟩)⟩

set_option maxHeartbeats 4000000 in
set_option maxRecDepth 20000 in
theorem ematch_calls {L : List Int} {R : List Vl} (E : Ex) (a : Option Addr) (n c : Nat) (s r : Value) (w : World) (hs : ArgsAt w E.args (.slice a n c)) (hl : VarsAt w L s) (hr : ValsAt w R r) (ht : Tab w) :
    Calls Tryd.prog 5 #[.agg #[.int .i64 E.op, .string E.table, .string E.name, .int .i64 E.index, .int .i64 E.v.kind, .int .i64 E.v.int, .string E.v.text, .slice a n c, s, r]] w (LawPost w) := by
  have Hs := Lib.hid hs
  have Hl := Lib.hid hl
  have Hr := Lib.hid hr
  have Ht := Lib.hid ht
  have Hv := Lib.hid (VarIs.new w #[.int .i64 E.op, .string E.table, .string E.name, .int .i64 E.index, .int .i64 E.v.kind, .int .i64 E.v.int, .string E.v.text, .slice a n c, s, r] 31)
  have Hb0 : RowKit.Hid (∀ o, Below w.heap.size w (w.alloc o)) := fun o => (Below.refl _ _).alloc (Nat.le_refl _) o
  clear hs hl hr ht
  go_enter Tryd.func5, Tryd.ntmps5
  go_upto_region 1 with (fail)
  go_cut [15] (fun x wx => ∃ q : Bool, x = .bool q ∧ RowKit.Hid (q = false → E.op = 0 ∨ CT L E ∧ RowOf L R) ∧ RowKit.Hid (Below (w.heap.size + 1) (w.alloc (.cells #[.int .i64 E.op, .string E.table, .string E.name, .int .i64 E.index, .int .i64 E.v.kind, .int .i64 E.v.int, .string E.v.text, .slice a n c, s, r] 31)) wx))
  case first =>
    go_wp2_with fail
    refine (awake_calls _ (Ht.out.mono (Hb0.out _))).mono ?_
    rintro e w1 ⟨rfl, hb1⟩
    have Hb1 := Lib.hid hb1
    simp only [World.size_alloc] at Hb1
    have Hbw := Lib.hid ((Hb0.out _).trans (Hb1.out.mono (Nat.le_succ _)))
    clear hb1
    obtain ⟨v1, v2, -⟩ := Hv.out.below Hb1.out (Nat.lt_succ_self _)
    by_cases h0 : E.op = 0
    · have b0 : (E.op != 0) = false := by simp [h0]
      have H0 := Lib.hid h0
      clear h0
      go_wp2
      go_meet
      exact ⟨false, rfl, fun _ => .inl H0.out, Hb1⟩
    · have b0 : (E.op != 0) = true := by simp [h0]
      clear h0
      go_wp2_with fail
      refine (case_calls 3 E _ _ _ _ _ _ (Hs.out.mono Hbw.out) (Hl.out.mono Hbw.out) (Hr.out.mono Hbw.out)).mono ?_
      rintro e w2 ⟨q, rfl, hq, hb2⟩
      have Hq := Lib.hid hq
      have Hb2 := Lib.hid (Hb1.out.trans (hb2.mono (by have := Hb1.out.size; simp at this; omega)))
      clear hb2 hq v1 v2
      cases q
      · go_wp2
        go_meet
        exact ⟨true, rfl, (fun h => nomatch h), Hb2⟩
      · go_wp2
        go_meet
        exact ⟨false, rfl, fun _ => .inr ⟨(Hq.out (by simp)).1.2.2 rfl, (Hq.out (by simp)).2.2⟩, Hb2⟩
  case rest =>
    obtain ⟨q, rfl, Hq, Hb⟩ := hcut
    have Hbw := Lib.hid ((Hb0.out _).trans (Hb.out.mono (Nat.le_succ _)))
    cases q
    · obtain ⟨b, h1, h2⟩ := both_matches (Hq.out rfl)
      have H1 := Lib.hid h1
      have H2 := Lib.hid h2
      clear h1 h2 Hq
      have Hv1 := Lib.hid (Hv.out.below Hb.out (Nat.lt_succ_self _))
      obtain ⟨v1, v2, -⟩ := Hv1.out
      have hs := Hs.out.mono Hbw.out
      have hr := Hr.out.mono Hbw.out
      have ht := Ht.out.mono Hbw.out
      clear Hs Hr Hl
      go_wp2_with fail
      go_region_held3 (fun w' => Below wc.heap.size wc w' ∧ ∀ b o, b < wc.heap.size → w'.cell? ⟨b, o, none⟩ = wc.cell? ⟨b, o, none⟩)
        (first | assumption | exact S_of (Below.drew (Below.refl _ _)) | exact S_step (by assumption) (by assumption))
        (first
          | (go_at_call 17; (with_reducible refine (H1.out _ _ _ _ _ (hs.keep ‹_›) (hr.keep ‹_›) (ht.keep ‹_›)).mono ?_); rintro e w1 ⟨rfl, hb1⟩)
          | (go_at_call 18; (with_reducible refine (H2.out _ _ _ _ _ (hs.keep ‹_›) (hr.keep ‹_›)).mono ?_); rintro e w1 ⟨rfl, hb1⟩))
      rename_i hH
      have H := Lib.hid (Hbw.out.trans (hH.1.mono Hbw.out.size))
      clear hH v1 v2
      go_wp2
      go_ret
      exact ⟨rfl, H.out⟩
    · go_wp2_with fail
      refine (awake_later Ht.out _ Hbw.out).mono ?_
      rintro e w1 ⟨rfl, hb1⟩
      have Hb1 := Lib.hid hb1
      clear hb1
      go_wp2
      go_ret
      exact ⟨rfl, Hb1.out⟩
end Go.Proofs.YtgaeabodofabmaaDoor
