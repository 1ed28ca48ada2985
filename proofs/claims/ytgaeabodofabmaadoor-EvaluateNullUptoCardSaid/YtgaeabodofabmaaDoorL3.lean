/- EvaluateValue returns true at every case. -/
import Derived.Test.YtgaeabodofabmaaDoorR20
import Derived.Test.YtgaeabodofabmaaDoorD1
namespace Go.Proofs.YtgaeabodofabmaaDoor
open Go.RowKit

/-- The law's end: true, and nothing that was there has turned. -/
def LawPost (w : World) (e : Ending) (w' : World) : Prop := e = .returned (.bool true) ∧ Below w.heap.size w w'

theorem awake_later {w : World} (ht : Tab w) (w1 : World) (hb : Below w.heap.size w w1) : Calls Tryd.prog 11 #[] w1 (LawPost w) :=
  (awake_calls w1 (ht.mono hb)).mono fun _ _ ⟨he, hb'⟩ => ⟨he, hb.trans (hb'.mono hb.size)⟩

/-- A value of the case, by the program and by the reference. -/
theorem both_values {L : List Int} {R : List Vl} {t : Int} {E : Ex} (hR : RowOf L R) (h : VT L t E) : ∃ v : Vl, (∀ (a : Option Addr) (n c : Nat) (r : Value) (w : World), ArgsAt w E.args (.slice a n c) → ValsAt w R r →
    Calls Tryd.prog 13 #[.agg #[.int .i64 E.op, .string E.table, .string E.name, .int .i64 E.index, .int .i64 E.v.kind, .int .i64 E.v.int, .string E.v.text, .slice a n c], r] w fun e w' => e = .returned v.val ∧ Below w.heap.size w w') ∧ RvAt R E v := by
  obtain ⟨v, hv, _, hrv⟩ := rv_all (.inl hR) h
  exact ⟨v, fun a n c r w hs hr => value_calls _ E (Nat.le_refl _) R _ r w v hs hr hv, hrv⟩

set_option maxHeartbeats 4000000 in
set_option maxRecDepth 20000 in
theorem evalue_calls {L : List Int} {R : List Vl} (E : Ex) (a : Option Addr) (n c : Nat) (s r : Value) (w : World) (hs : ArgsAt w E.args (.slice a n c)) (hl : VarsAt w L s) (hr : ValsAt w R r) (ht : Tab w) :
    Calls Tryd.prog 3 #[.agg #[.int .i64 E.op, .string E.table, .string E.name, .int .i64 E.index, .int .i64 E.v.kind, .int .i64 E.v.int, .string E.v.text, .slice a n c, s, r]] w (LawPost w) := by
  have Hs := Lib.hid hs
  have Hl := Lib.hid hl
  have Hr := Lib.hid hr
  have Ht := Lib.hid ht
  have Hv := Lib.hid (VarIs.new w #[.int .i64 E.op, .string E.table, .string E.name, .int .i64 E.index, .int .i64 E.v.kind, .int .i64 E.v.int, .string E.v.text, .slice a n c, s, r] 31)
  have Hb0 : RowKit.Hid (∀ o, Below w.heap.size w (w.alloc o)) := fun o => (Below.refl _ _).alloc (Nat.le_refl _) o
  clear hs hl hr ht
  go_enter Tryd.func3, Tryd.ntmps3
  go_upto_region 1 with (fail)
  go_cut [14] (fun x wx => ∃ q : Bool, x = .bool q ∧ RowKit.Hid (q = false → (∃ t, VT L t E) ∧ RowOf L R) ∧ RowKit.Hid (Below (w.heap.size + 1) (w.alloc (.cells #[.int .i64 E.op, .string E.table, .string E.name, .int .i64 E.index, .int .i64 E.v.kind, .int .i64 E.v.int, .string E.v.text, .slice a n c, s, r] 31)) wx))
  case first =>
    go_wp2_with fail
    refine (awake_calls _ (Ht.out.mono (Hb0.out _))).mono ?_
    rintro e w1 ⟨rfl, hb1⟩
    have Hb1 := Lib.hid hb1
    simp only [World.size_alloc] at Hb1
    have Hbw := Lib.hid ((Hb0.out _).trans (Hb1.out.mono (Nat.le_succ _)))
    clear hb1
    obtain ⟨v1, v2, -⟩ := Hv.out.below Hb1.out (Nat.lt_succ_self _)
    go_wp2_with fail
    refine (case_calls 1 E _ _ _ _ _ _ (Hs.out.mono Hbw.out) (Hl.out.mono Hbw.out) (Hr.out.mono Hbw.out)).mono ?_
    rintro e w2 ⟨q, rfl, hq, hb2⟩
    have Hq := Lib.hid hq
    have Hb2 := Lib.hid (Hb1.out.trans (hb2.mono (by have := Hb1.out.size; simp at this; omega)))
    have Hbw2 := Lib.hid ((Hb0.out _).trans (Hb2.out.mono (Nat.le_succ _)))
    clear hb2 hq v1 v2
    obtain ⟨v1, v2, -⟩ := Hv.out.below Hb2.out (Nat.lt_succ_self _)
    cases q
    · go_wp2_with fail
      refine (case_calls 2 E _ _ _ _ _ _ (Hs.out.mono Hbw2.out) (Hl.out.mono Hbw2.out) (Hr.out.mono Hbw2.out)).mono ?_
      rintro e w3 ⟨p, rfl, hp, hb3⟩
      have Hp := Lib.hid hp
      have Hb3 := Lib.hid (Hb2.out.trans (hb3.mono (by have := Hb2.out.size; simp at this; omega)))
      clear hb3 hp v1 v2
      cases p
      · go_wp2
        go_meet
        exact ⟨true, rfl, (fun h => nomatch h), Hb3⟩
      · go_wp2
        go_meet
        exact ⟨false, rfl, fun _ => ⟨⟨2, (Hp.out (by simp)).1.2.1 rfl⟩, (Hp.out (by simp)).2.2⟩, Hb3⟩
    · go_wp2
      go_meet
      exact ⟨false, rfl, fun _ => ⟨⟨1, (Hq.out (by simp)).1.1 rfl⟩, (Hq.out (by simp)).2.2⟩, Hb2⟩
  case rest =>
    obtain ⟨q, rfl, Hq, Hb⟩ := hcut
    have Hbw := Lib.hid ((Hb0.out _).trans (Hb.out.mono (Nat.le_succ _)))
    cases q
    · obtain ⟨⟨t, hE⟩, hR⟩ := Hq.out rfl
      obtain ⟨v, h1, h2⟩ := both_values hR hE
      unfold RvAt at h2
      have H1 := Lib.hid h1
      have H2 := Lib.hid h2
      clear h1 h2 hE hR Hq
      have Hv1 := Lib.hid (Hv.out.below Hb.out (Nat.lt_succ_self _))
      obtain ⟨v1, v2, -⟩ := Hv1.out
      have hs := Hs.out.mono Hbw.out
      have hr := Hr.out.mono Hbw.out
      clear Hs Hr Hl
      go_wp2_with fail
      go_region_held3 (fun w' => Below wc.heap.size wc w' ∧ ∀ b o, b < wc.heap.size → w'.cell? ⟨b, o, none⟩ = wc.cell? ⟨b, o, none⟩)
        (first | assumption | exact S_of (Below.drew (Below.refl _ _)) | exact S_step (by assumption) (by assumption))
        (first
          | (go_at_call 13; (with_reducible refine (H1.out _ _ _ _ _ (hs.keep ‹_›) (hr.keep ‹_›)).mono ?_); rintro e w1 ⟨rfl, hb1⟩; simp only [Vl.val])
          | (go_at_call 14; (with_reducible refine (H2.out _ _ _ _ _ (hs.keep ‹_›) (hr.keep ‹_›)).mono ?_); rintro e w1 ⟨rfl, hb1⟩; simp only [Vl.val]))
      rename_i hH
      have H := Lib.hid (Hbw.out.trans (hH.1.mono Hbw.out.size))
      clear hH v1 v2
      go_wp2
      go_ret
      exact ⟨rfl, H.out⟩
    · go_wp2_with fail
      refine (awake_later Ht.out _ Hbw.out).mono ?_
      rintro e w1 ⟨rfl, hb1⟩
      have Hb1 := Lib.hid hb1
      clear hb1
      go_wp2
      go_ret
      exact ⟨rfl, Hb1.out⟩
end Go.Proofs.YtgaeabodofabmaaDoor
