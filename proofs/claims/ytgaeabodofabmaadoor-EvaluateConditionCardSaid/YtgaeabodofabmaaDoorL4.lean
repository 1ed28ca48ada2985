/- The reference's Condition and Matches whole; EvaluateCondition and EvaluateMatches return true at every case. -/
import Derived.Test.YtgaeabodofabmaaDoorR19
import Derived.Test.YtgaeabodofabmaaDoorCmp
import Derived.Test.YtgaeabodofabmaaDoorL3
namespace Go.Proofs.YtgaeabodofabmaaDoor
open Go.RowKit

theorem Tab.keep {W w : World} (h : Tab W) (hS : Below W.heap.size W w ∧ ∀ b o, b < W.heap.size → w.cell? ⟨b, o, none⟩ = W.cell? ⟨b, o, none⟩) : Tab w := h.mono hS.1

/-- **The reference's Condition is Ex.cond.** -/
theorem rc_all {L : List Int} {R : List Vl} (hR : RowOf L R) {E : Ex} (h : CT L E) : ∃ x, Ex.cond R E = some x ∧ RcAt R E x := by
  induction h with
  | null tb nm ix v => exact ⟨.u, by simp [Ex.cond], rc_null tb nm ix v [] R⟩
  | cmp op hop t tb nm ix v A B hA hB =>
    obtain ⟨a, ha, ta, hra⟩ := rv_all (.inl hR) hA
    obtain ⟨b, hb, tb', hrb⟩ := rv_all (.inl hR) hB
    have sa : a.text.size ≤ 2000000000000 := by
      rcases ta with ⟨_, _, h⟩ | ⟨_, _, h⟩ | ⟨_, _, _, h⟩
      · rw [h]; decide
      · rw [h]; decide
      · omega
    have sb : b.text.size ≤ 2000000000000 := by
      rcases tb' with ⟨_, _, h⟩ | ⟨_, _, h⟩ | ⟨_, _, _, h⟩
      · rw [h]; decide
      · rw [h]; decide
      · omega
    refine ⟨compN op a b, ?_, rc_comp op hop tb nm ix v A B [] R a b hra hrb sa sb⟩
    rw [Ex.cond.eq_def]
    simp only
    rw [if_neg (by omega), if_neg (by omega), if_neg (by omega), if_neg (by omega), if_neg (by omega), ha, hb]
    simp only [Option.bind_some]
    unfold compS compN
    by_cases hz : a.kind = 0 ∨ b.kind = 0
    · rw [if_pos hz, if_pos hz]
    · rw [if_neg hz, if_neg hz]
      by_cases h16 : op = 16
      · rw [if_pos h16, if_pos h16, if_pos ⟨sa, sb⟩]
      · rw [if_neg h16, if_neg h16, order_eq ta tb' (fun h => hz (.inl h)) (fun h => hz (.inr h))]
  | isnull t tb nm ix v A hA =>
    obtain ⟨a, ha, _, hra⟩ := rv_all (.inl hR) hA
    exact ⟨T3.of (a.kind == 0), by simp [Ex.cond, ha], rc_isnull tb nm ix v A [] R a hra⟩
  | and tb nm ix v A B _ _ ihA ihB =>
    obtain ⟨x, hx, hrx⟩ := ihA
    obtain ⟨y, hy, hry⟩ := ihB
    have := rc_join 18 (.inl rfl) tb nm ix v A B [] R x y hrx hry
    exact ⟨x.and y, by simp [Ex.cond, hx, hy], this⟩
  | or tb nm ix v A B _ _ ihA ihB =>
    obtain ⟨x, hx, hrx⟩ := ihA
    obtain ⟨y, hy, hry⟩ := ihB
    have := rc_join 19 (.inr rfl) tb nm ix v A B [] R x y hrx hry
    exact ⟨x.or y, by simp [Ex.cond, hx, hy], this⟩
  | not tb nm ix v A _ ihA =>
    obtain ⟨x, hx, hrx⟩ := ihA
    exact ⟨x.not, by simp [Ex.cond, hx], rc_not tb nm ix v A [] R x hrx⟩

/-- A condition's truth value, by the program and by the reference. -/
theorem both_conds {L : List Int} {R : List Vl} {E : Ex} (hR : RowOf L R) (h : CT L E) : ∃ x : T3, (∀ (a : Option Addr) (n c : Nat) (r : Value) (w : World), ArgsAt w E.args (.slice a n c) → ValsAt w R r → Tab w →
    Calls Tryd.prog 15 #[.agg #[.int .i64 E.op, .string E.table, .string E.name, .int .i64 E.index, .int .i64 E.v.kind, .int .i64 E.v.int, .string E.v.text, .slice a n c], r] w fun e w' => e = .returned (.int .i64 x.num) ∧ Below w.heap.size w w') ∧
    (∀ (a : Option Addr) (n c : Nat) (r : Value) (w : World), ArgsAt w E.args (.slice a n c) → ValsAt w R r →
    Calls Tryd.prog 16 #[.agg #[.int .i64 E.op, .string E.table, .string E.name, .int .i64 E.index, .int .i64 E.v.kind, .int .i64 E.v.int, .string E.v.text, .slice a n c], r] w fun e w' => e = .returned (.int .i64 x.num) ∧ Below w.heap.size w w') ∧ Ex.cond R E = some x := by
  obtain ⟨x, hx, hrx⟩ := rc_all hR h
  exact ⟨x, fun a n c r w hs hr ht => cond_calls _ E (Nat.le_refl _) R _ _ _ _ _ x hs hr ht hx, hrx, hx⟩

set_option maxHeartbeats 4000000 in
set_option maxRecDepth 20000 in
theorem econd_calls {L : List Int} {R : List Vl} (E : Ex) (a : Option Addr) (n c : Nat) (s r : Value) (w : World) (hs : ArgsAt w E.args (.slice a n c)) (hl : VarsAt w L s) (hr : ValsAt w R r) (ht : Tab w) :
    Calls Tryd.prog 4 #[.agg #[.int .i64 E.op, .string E.table, .string E.name, .int .i64 E.index, .int .i64 E.v.kind, .int .i64 E.v.int, .string E.v.text, .slice a n c, s, r]] w (LawPost w) := by
  have Hs := Lib.hid hs
  have Hl := Lib.hid hl
  have Hr := Lib.hid hr
  have Ht := Lib.hid ht
  have Hv := Lib.hid (VarIs.new w #[.int .i64 E.op, .string E.table, .string E.name, .int .i64 E.index, .int .i64 E.v.kind, .int .i64 E.v.int, .string E.v.text, .slice a n c, s, r] 31)
  have Hb0 : RowKit.Hid (∀ o, Below w.heap.size w (w.alloc o)) := fun o => (Below.refl _ _).alloc (Nat.le_refl _) o
  clear hs hl hr ht
  go_enter Tryd.func4, Tryd.ntmps4
  go_upto_region 1 with (fail)
  go_cut [9] (fun x wx => ∃ q : Bool, x = .bool q ∧ RowKit.Hid (q = false → CT L E ∧ RowOf L R) ∧ RowKit.Hid (Below (w.heap.size + 1) (w.alloc (.cells #[.int .i64 E.op, .string E.table, .string E.name, .int .i64 E.index, .int .i64 E.v.kind, .int .i64 E.v.int, .string E.v.text, .slice a n c, s, r] 31)) wx))
  case first =>
    go_wp2_with fail
    refine (awake_calls _ (Ht.out.mono (Hb0.out _))).mono ?_
    rintro e w1 ⟨rfl, hb1⟩
    have Hb1 := Lib.hid hb1
    simp only [World.size_alloc] at Hb1
    have Hbw := Lib.hid ((Hb0.out _).trans (Hb1.out.mono (Nat.le_succ _)))
    clear hb1
    obtain ⟨v1, v2, -⟩ := Hv.out.below Hb1.out (Nat.lt_succ_self _)
    go_wp2_with fail
    refine (case_calls 3 E _ _ _ _ _ _ (Hs.out.mono Hbw.out) (Hl.out.mono Hbw.out) (Hr.out.mono Hbw.out)).mono ?_
    rintro e w2 ⟨q, rfl, hq, hb2⟩
    have Hq := Lib.hid hq
    have Hb2 := Lib.hid (Hb1.out.trans (hb2.mono (by have := Hb1.out.size; simp at this; omega)))
    clear hb2 hq v1 v2
    cases q
    · go_wp2
      go_meet
      exact ⟨true, rfl, (fun h => nomatch h), Hb2⟩
    · go_wp2
      go_meet
      exact ⟨false, rfl, fun _ => ⟨(Hq.out (by simp)).1.2.2 rfl, (Hq.out (by simp)).2.2⟩, Hb2⟩
  case rest =>
    obtain ⟨q, rfl, Hq, Hb⟩ := hcut
    have Hbw := Lib.hid ((Hb0.out _).trans (Hb.out.mono (Nat.le_succ _)))
    cases q
    · obtain ⟨hE, hR⟩ := Hq.out rfl
      obtain ⟨x, h1, h2, -⟩ := both_conds hR hE
      have H1 := Lib.hid h1
      have H2 := Lib.hid h2
      clear h1 h2 hE hR Hq
      have Hv1 := Lib.hid (Hv.out.below Hb.out (Nat.lt_succ_self _))
      obtain ⟨v1, v2, -⟩ := Hv1.out
      have hs := Hs.out.mono Hbw.out
      have hr := Hr.out.mono Hbw.out
      have ht := Ht.out.mono Hbw.out
      clear Hs Hr Hl
      go_wp2_with fail
      go_region_held3 (fun w' => Below wc.heap.size wc w' ∧ ∀ b o, b < wc.heap.size → w'.cell? ⟨b, o, none⟩ = wc.cell? ⟨b, o, none⟩)
        (first | assumption | exact S_of (Below.drew (Below.refl _ _)) | exact S_step (by assumption) (by assumption))
        (first
          | (go_at_call 15; (with_reducible refine (H1.out _ _ _ _ _ (hs.keep ‹_›) (hr.keep ‹_›) (ht.keep ‹_›)).mono ?_); rintro e w1 ⟨rfl, hb1⟩)
          | (go_at_call 16; (with_reducible refine (H2.out _ _ _ _ _ (hs.keep ‹_›) (hr.keep ‹_›)).mono ?_); rintro e w1 ⟨rfl, hb1⟩))
      rename_i hH
      have H := Lib.hid (Hbw.out.trans (hH.1.mono Hbw.out.size))
      clear hH v1 v2
      go_wp2
      go_ret
      exact ⟨rfl, H.out⟩
    · go_wp2_with fail
      refine (awake_later Ht.out _ Hbw.out).mono ?_
      rintro e w1 ⟨rfl, hb1⟩
      have Hb1 := Lib.hid hb1
      clear hb1
      go_wp2
      go_ret
      exact ⟨rfl, Hb1.out⟩

/-- The reference's Matches. -/
theorem rmatches_calls (E : Ex) (R : List Vl) (a : Option Addr) (n c : Nat) (r : Value) (w : World) (b : Bool) (hs : ArgsAt w E.args (.slice a n c)) (hr : ValsAt w R r)
    (hb : if E.op = 0 then b = true else ∃ x, RcAt R E x ∧ b = decide (x = .t)) :
    Calls Tryd.prog 18 #[.agg #[.int .i64 E.op, .string E.table, .string E.name, .int .i64 E.index, .int .i64 E.v.kind, .int .i64 E.v.int, .string E.v.text, .slice a n c], r] w fun e w' => e = .returned (.bool b) ∧ Below w.heap.size w w' := by
  have Hb0 : RowKit.Hid (∀ o, Below w.heap.size w (w.alloc o)) := fun o => (Below.refl _ _).alloc (Nat.le_refl _) o
  by_cases h0 : E.op = 0
  · rw [if_pos h0] at hb
    subst hb
    have b0 : (E.op == 0) = true := by simp [h0]
    clear h0 hs hr
    go_enter Tryd.func18, Tryd.ntmps18
    go_wp2
    go_ret
    exact ⟨rfl, Hb0.out _⟩
  · rw [if_neg h0] at hb
    obtain ⟨x, hx, rfl⟩ := hb
    unfold RcAt at hx
    have HX := Lib.hid hx
    have b0 : (E.op == 0) = false := by simp [h0]
    have Hs := Lib.hid hs
    have Hr := Lib.hid hr
    clear h0 hs hr hx
    go_enter Tryd.func18, Tryd.ntmps18
    go_wp2_with fail
    refine (HX.out _ _ _ _ _ (Hs.out.mono (Hb0.out _)) (Hr.out.mono (Hb0.out _))).mono ?_
    rintro e w1 ⟨rfl, hb1⟩
    have Hbw := Lib.hid ((Hb0.out _).trans (hb1.mono (Hb0.out _).size))
    clear hb1
    cases x
    all_goals simp only [T3.num]
    all_goals go_wp2
    all_goals go_ret
    all_goals exact ⟨rfl, Hbw.out⟩
end Go.Proofs.YtgaeabodofabmaaDoor
