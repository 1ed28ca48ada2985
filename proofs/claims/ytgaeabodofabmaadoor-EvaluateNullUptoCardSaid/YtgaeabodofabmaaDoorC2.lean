import Derived.Test.YtgaeabodofabmaaDoorC1
namespace Go.Proofs.YtgaeabodofabmaaDoor
open Go.RowKit

theorem contains_calls (es : List Ex) (a : Option Addr) (n c : Nat) (w : World) (hs : ArgsAt w es (.slice a n c))
    (ih : ∀ E ∈ es, ∀ (s : Value) (w : World), ArgsAt w E.args s → Calls Tryd.prog 47 #[E.val s] w fun e w' => e = .returned (.bool E.cols) ∧ Below w.heap.size w w') :
    Calls Tryd.prog 57 #[.slice a n c, .func (.func 47) #[] #[]] w fun e w' => e = .returned (.bool (Ex.colsL es)) ∧ Below w.heap.size w w' := by
  have H := Lib.hid (index_calls es a n c w hs ih)
  clear ih hs
  go_enter Tryd.func57, Tryd.ntmps57
  go_wp2_with fail
  refine H.out.mono ?_
  rintro e w1 ⟨m, rfl, hm, hb⟩
  have Hm := Lib.hid hm
  clear hm
  go_wp2
  go_ret
  exact ⟨by rw [← Hm.out]; rfl, hb⟩

theorem columns_calls (m : Nat) : ∀ E : Ex, SizeOf.sizeOf E ≤ m → ∀ (s : Value) (w : World), ArgsAt w E.args s → Calls Tryd.prog 47 #[E.val s] w fun e w' => e = .returned (.bool E.cols) ∧ Below w.heap.size w w' := by
  induction m with
  | zero => intro E h; cases E; simp at h
  | succ m ih =>
    rintro ⟨op, table, name, index, v0, args⟩ hm s w hs
    simp only [Ex.args] at hs
    simp only [Ex.val, Ex.op, Ex.table, Ex.name, Ex.index, Ex.v, Ex.cols]
    obtain ⟨a, n, c, rfl, -, -⟩ := hs.shape
    have hmem : ∀ E ∈ args, SizeOf.sizeOf E ≤ m := by
      intro E hE
      have h1 := List.sizeOf_lt_of_mem hE
      simp at hm
      omega
    have hb0 : ∀ o, Below w.heap.size w (w.alloc o) := fun o => (Below.refl _ _).alloc (Nat.le_refl _) o
    have H := Lib.hid (fun w' h => contains_calls args a n c w' h (fun E hE s w hs => ih E (hmem E hE) s w hs))
    have Hs := Lib.hid hs
    have Hb0 := Lib.hid hb0
    clear ih hmem hs hm hb0
    cases hop : op == 2
    · go_enter Tryd.func47, Tryd.ntmps47
      go_wp2_with fail
      refine (H.out _ (Hs.out.mono (Hb0.out _))).mono ?_
      rintro e w1 ⟨rfl, hb⟩
      have hbw := (Hb0.out _).trans (hb.mono (by simp <;> omega))
      clear hb
      go_wp2
      go_ret
      exact ⟨by simp, hbw⟩
    · go_enter Tryd.func47, Tryd.ntmps47
      go_wp2
      go_ret
      exact ⟨by simp, Hb0.out _⟩

/-- Constant. -/
theorem constant_calls (E : Ex) (s : Value) (w : World) (hs : ArgsAt w E.args s) (v : Vl) (hv : E.cols = false → Ex.value [] E = some v) :
    Calls Tryd.prog 20 #[E.val s] w fun e w' => e = .returned (if E.cols then .tuple #[Vl.null.val, .int .i64 1] else .tuple #[v.val, .int .i64 0]) ∧ Below w.heap.size w w' := by
  obtain ⟨a, n, c, rfl, -, -⟩ := hs.shape
  have hb0 : ∀ o, Below w.heap.size w (w.alloc o) := fun o => (Below.refl _ _).alloc (Nat.le_refl _) o
  have hb1 : ∀ o o', Below w.heap.size w ((w.alloc o).alloc o') := fun o o' => ((Below.refl _ _).alloc (Nat.le_refl _) o).alloc (by simp) o'
  have H1 := Lib.hid (fun w' h => columns_calls _ E (Nat.le_refl _) (.slice a n c) w' h)
  have H2 := Lib.hid (fun w' h1 h => value_calls _ E (Nat.le_refl _) [] (.slice a n c) (.slice none 0 0) w' v h (.mt) h1)
  have Hs := Lib.hid hs
  have Hb1 := Lib.hid hb1
  have Hv := Lib.hid hv
  clear hs hb0 hb1 hv
  simp only [Ex.val] at *
  cases hcol : E.cols
  · rw [hcol] at H1
    have Hval := Lib.hid (Hv.out hcol)
    clear hcol Hv
    go_enter Tryd.func20, Tryd.ntmps20
    go_wp2_with fail
    refine (H1.out _ (Hs.out.mono (Hb1.out _ _))).mono ?_
    rintro e w1 ⟨rfl, hbb⟩
    have hx := ((VarIs.new w _ _).alloc _).below hbb (by simp <;> omega)
    have hy := (VarIs.new (w.alloc _) _ _).below hbb (by simp <;> omega)
    have hbw := (Hb1.out _ _).trans (hbb.mono (by simp <;> omega))
    clear hbb
    simp only [World.size_alloc] at hx hy
    obtain ⟨x1, x2, -⟩ := hx
    obtain ⟨y1, y2, y3⟩ := hy
    go_wp2_with fail
    refine (H2.out w1 Hval.out (Hs.out.mono hbw)).mono ?_
    rintro e w2 ⟨rfl, hbb⟩
    have hy := (VarIs.mk y1 y2 y3).below hbb y1
    have hbw2 := hbw.trans (hbb.mono hbw.size)
    clear hbb hbw x1 x2 y1 y2 y3
    obtain ⟨y1, y2, y3⟩ := hy
    simp only [Vl.val]
    go_wp2
    exact bodyPost_ret (v := .tuple #[.agg #[.int .i64 v.kind, .int .i64 v.int, .string v.text], .int .i64 0]) (by simp [results, Tryd.results20, go_sem, y2]) rfl
      ⟨by simp [Vl.val], ((hbw2.setCell (Nat.le_succ _) _).setCell (Nat.le_succ _) _).setCell (Nat.le_succ _) _⟩
  · rw [hcol] at H1
    clear hcol Hv H2
    go_enter Tryd.func20, Tryd.ntmps20
    go_wp2_with fail
    refine (H1.out _ (Hs.out.mono (Hb1.out _ _))).mono ?_
    rintro e w1 ⟨rfl, hbb⟩
    have hy := (VarIs.new (w.alloc _) _ _).below hbb (by simp <;> omega)
    have hbw := (Hb1.out _ _).trans (hbb.mono (by simp <;> omega))
    clear hbb
    simp only [World.size_alloc] at hy
    obtain ⟨y1, y2, y3⟩ := hy
    go_wp2
    exact bodyPost_ret (v := .tuple #[.agg #[.int .i64 0, .int .i64 0, .string ⟨#[]⟩], .int .i64 1]) (by simp [results, Tryd.results20, go_sem, y2]) rfl
      ⟨by simp [Vl.null, Vl.val], ((hbw.setCell (Nat.le_succ _) _).setCell (Nat.le_succ _) _).setCell (Nat.le_succ _) _⟩
end Go.Proofs.YtgaeabodofabmaaDoor
