import Derived.Test.YtgaeabodofabmaaDoorC4
namespace Go.Proofs.YtgaeabodofabmaaDoor
open Go.RowKit

theorem cond_null (op : Int) (table name : ByteArray) (index : Int) (v0 : Vl) (hop : op = 1) (a : Option Addr) (n c : Nat) (r : Value) (w : World) :
    Calls Tryd.prog 15 #[.agg #[.int .i64 op, .string table, .string name, .int .i64 index, .int .i64 v0.kind, .int .i64 v0.int, .string v0.text, .slice a n c], r] w fun e w' => e = .returned T3.u.val ∧ Below w.heap.size w w' := by
  subst hop
  go_enter Tryd.func15, Tryd.ntmps15
  go_wp2
  go_ret
  exact ⟨rfl, (Below.refl _ _).alloc (Nat.le_refl _) _⟩

theorem cond_calls (m : Nat) : ∀ E : Ex, SizeOf.sizeOf E ≤ m → CondAt E := by
  induction m with
  | zero => intro E h; cases E; simp at h
  | succ m ih =>
    rintro ⟨op, table, name, index, v0, args⟩ hm R a n c r w x hs hr ht hx
    simp only [Ex.args] at hs
    simp only [Ex.op, Ex.table, Ex.name, Ex.index, Ex.v]
    have hmem : ∀ E ∈ args, SizeOf.sizeOf E ≤ m := by
      intro E hE
      have h1 := List.sizeOf_lt_of_mem hE
      simp at hm
      omega
    rw [Ex.cond.eq_def] at hx
    simp only at hx
    by_cases h1 : op = 1
    · rw [if_pos h1] at hx
      cases hx
      exact cond_null op table name index v0 h1 a n c r w
    rw [if_neg h1] at hx
    match args, hs, hmem, hx with
    | [], _, _, hx => simp at hx
    | A :: l, hs, hmem, hx =>
      have hA := ih A (hmem A (by simp))
      simp only at hx
      by_cases h20 : op = 20
      · rw [if_pos h20] at hx
        obtain ⟨y, hy, rfl⟩ := Option.map_eq_some_iff.1 hx
        exact cond_not op table name index v0 A l hA h20 R a n c r w y hs hr ht hy
      rw [if_neg h20] at hx
      by_cases h17 : op = 17
      · rw [if_pos h17] at hx
        obtain ⟨y, hy, rfl⟩ := Option.map_eq_some_iff.1 hx
        exact cond_isnull op table name index v0 A l h17 R a n c r w y hs hr hy
      rw [if_neg h17] at hx
      match l, hs, hmem, hx with
      | [], _, _, hx => simp at hx
      | B :: l, hs, hmem, hx =>
        have hB := ih B (hmem B (by simp))
        simp only at hx
        by_cases h18 : op = 18
        · rw [if_pos h18] at hx
          obtain ⟨x1, hx1, hx2⟩ := Option.bind_eq_some_iff.1 hx
          obtain ⟨y1, hy1, rfl⟩ := Option.map_eq_some_iff.1 hx2
          exact cond_and op table name index v0 A B l hA hB h18 R a n c r w x1 y1 hs hr ht hx1 hy1
        rw [if_neg h18] at hx
        by_cases h19 : op = 19
        · rw [if_pos h19] at hx
          obtain ⟨x1, hx1, hx2⟩ := Option.bind_eq_some_iff.1 hx
          obtain ⟨y1, hy1, rfl⟩ := Option.map_eq_some_iff.1 hx2
          exact cond_or op table name index v0 A B l hA hB h19 R a n c r w x1 y1 hs hr ht hx1 hy1
        rw [if_neg h19] at hx
        obtain ⟨v, hv, hx2⟩ := Option.bind_eq_some_iff.1 hx
        obtain ⟨u, hu, hx3⟩ := Option.bind_eq_some_iff.1 hx2
        exact cond_comp op table name index v0 A B l h1 h18 h19 h20 h17 R a n c r w v u x hs hr hv hu hx3

/-- Matches. -/
theorem matches_calls (E : Ex) (R : List Vl) (a : Option Addr) (n c : Nat) (r : Value) (w : World) (b : Bool) (hs : ArgsAt w E.args (.slice a n c)) (hr : ValsAt w R r) (ht : Tab w)
    (hb : if E.op = 0 then b = true else ∃ x, Ex.cond R E = some x ∧ b = decide (x = .t)) :
    Calls Tryd.prog 17 #[.agg #[.int .i64 E.op, .string E.table, .string E.name, .int .i64 E.index, .int .i64 E.v.kind, .int .i64 E.v.int, .string E.v.text, .slice a n c], r] w fun e w' => e = .returned (.bool b) ∧ Below w.heap.size w w' := by
  have Hb0 : RowKit.Hid (∀ o, Below w.heap.size w (w.alloc o)) := fun o => (Below.refl _ _).alloc (Nat.le_refl _) o
  by_cases h0 : E.op = 0
  · rw [if_pos h0] at hb
    subst hb
    have b0 : (E.op == 0) = true := by simp [h0]
    clear h0
    go_enter Tryd.func17, Tryd.ntmps17
    go_wp2
    go_ret
    exact ⟨rfl, Hb0.out _⟩
  · rw [if_neg h0] at hb
    obtain ⟨x, hx, rfl⟩ := hb
    have b0 : (E.op == 0) = false := by simp [h0]
    have HC := Lib.hid (fun w' h1 h2 h3 => cond_calls _ E (Nat.le_refl _) R a n c r w' x h1 h2 h3 hx)
    clear h0 hx
    go_enter Tryd.func17, Tryd.ntmps17
    go_wp2_with fail
    refine (HC.out _ (hs.mono (Hb0.out _)) (hr.mono (Hb0.out _)) (ht.mono (Hb0.out _))).mono ?_
    rintro e w1 ⟨rfl, hb1⟩
    have hbw := (Hb0.out _).trans (hb1.mono (Hb0.out _).size)
    clear hb1 HC
    cases x <;> (simp only [T3.val, T3.num]; go_wp2; go_ret; exact ⟨rfl, hbw⟩)
end Go.Proofs.YtgaeabodofabmaaDoor
