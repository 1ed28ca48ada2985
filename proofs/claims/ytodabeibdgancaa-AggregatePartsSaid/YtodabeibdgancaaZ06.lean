/- Part 6 of the proof: Ay, Aw, Oi, Oj, Ls -/
import Derived.Test.YtodabeibdgancaaZ05
import Derived.Test.YtodabeibdgancaaZ03
import Derived.Test.YtodabeibdgancaaZ02
/- awake: its drawn region. -/
namespace Go.Proofs.Ytodabeibdgancaa
open Go Go.RowKit
noncomputable def oA6 : Array Oper := ((Try.f5.body).bind fun c => opsOf c 6).getD #[]
theorem wp_of_value {P : Program} {o : Oper} {a : Act} {w w' : World} {K : Act → World → Prop} {Q : Exit → Act → World → Prop} {v : Value} {d : Nat} (hd : o.dst = some d) (hr : (execOp a.eval o).run P w = .ok (.value v) w') (h : K (a.put (some d) v) w') : o.wp P a w K Q := by
  unfold Oper.wp
  rw [hr]
  show K (a.put o.dst v) w'
  rw [hd]; exact h
theorem wp_of_call {P : Program} {o : Oper} {a : Act} {w : World} {K : Act → World → Prop} {Q : Exit → Act → World → Prop} {f : FuncId} {args : Array Value} {R : Ending → World → Prop} {d : Nat} (hd : o.dst = some d) (hr : (execOp a.eval o).run P w = .ok (.enter f args) w) (hR : Calls P f args w R)
    (h : ∀ e w', R e w' → ∃ v, e = .returned v ∧ K (a.put (some d) v) w') : o.wp P a w K Q := by
  unfold Oper.wp
  rw [hr]
  refine hR.mono fun e w' hr => ?_
  obtain ⟨v, rfl, h'⟩ := h e w' hr
  show K (a.put o.dst v) w'
  rw [hd]; exact h'
def valF (i d : Nat) (R : Rw) : Ft := ⟨i, d, fun w v => ValsAt w R v, fun _ _ _ h hb => h.mono hb⟩
def rowF (i d : Nat) (L : List Rw) : Ft := ⟨i, d, fun w v => RowsAt w L v, fun _ _ _ h hb => h.mono hb⟩
def allF (i d : Nat) (L : List Rw) : Ft := ⟨i, d, fun w v => ∃ bx u, v = .func (.func 45) #[] #[.pointer (some ⟨bx, 0, none⟩)] ∧ Boxed w bx 29 u ∧ RowsAt w L u, fun w w' v h hb => by
  obtain ⟨bx, u, h1, h2, h3⟩ := h
  exact ⟨bx, u, h1, (hb.block bx h2.lt).trans h2, h3.mono hb⟩⟩
def two : Value := .agg #[.int .i64 1, .int .i64 2, .string ⟨#[]⟩]
def nul : Value := .agg #[.int .i64 0, .int .i64 0, .string ⟨#[]⟩]
def fA6 (A : Array Value) (R2 : List Rw) : List Ft := [.const 0 26 (.agg A), .const 1 27 two, valF 2 28 [intV 2], .const 3 29 nul, valF 4 30 [nilV], .const 5 31 two, valF 6 32 [intV 2], rowF 7 33 L3, allF 8 34 L3, rowF 9 35 R2, rowF 10 5 R2]
theorem one_vals (w : World) (v : Vl) (t : TypeId) (h : v.text.size ≤ maxLen) : ValsAt (w.alloc (.cells #[.int .i64 v.kind, .int .i64 v.int, .string v.text] t)) [v] (.slice (some ⟨w.heap.size, 0, none⟩) 1 1) := by
  refine .lie [v] _ 0 1 1 rfl (by simp) (by decide) (fun i hi j hj => ?_) (by simpa using h)
  obtain rfl : i = 0 := by simp at hi; omega
  rcases (by omega : j = 0 ∨ j = 1 ∨ j = 2) with rfl | rfl | rfl <;> simp [Vl.cells]
theorem two_vals (w : World) (v u : Vl) (t : TypeId) (h : v.text.size ≤ maxLen) (h2 : u.text.size ≤ maxLen) : ValsAt (w.alloc (.cells #[.int .i64 v.kind, .int .i64 v.int, .string v.text, .int .i64 u.kind, .int .i64 u.int, .string u.text] t)) [v, u] (.slice (some ⟨w.heap.size, 0, none⟩) 2 2) := by
  refine .lie [v, u] _ 0 2 2 rfl (by simp) (by decide) (fun i hi j hj => ?_) (by simpa using ⟨h, h2⟩)
  rcases (by simp at hi; omega : i = 0 ∨ i = 1) with rfl | rfl <;> rcases (by omega : j = 0 ∨ j = 1 ∨ j = 2) with rfl | rfl | rfl <;> simp [Vl.cells]
theorem one_row {w : World} {r : Rw} {x : Value} (t : TypeId) (h : ValsAt w r x) : RowsAt (w.alloc (.cells #[x] t)) [r] (.slice (some ⟨w.heap.size, 0, none⟩) 1 1) := by
  have hb2 : Below w.heap.size w (w.alloc (.cells #[x] t)) := (Below.refl _ _).alloc (Nat.le_refl _) _
  refine .lie [r] [x] _ 0 1 1 rfl (by simp) (by decide) (fun i y hi => ?_) (.cons (h.mono hb2) .nil)
  have hi3 : i < 1 := by have := (List.getElem?_eq_some_iff.1 hi).1; simpa using this
  obtain rfl : i = 0 := by omega
  simp at hi
  subst hi
  simp
theorem two_rows {w : World} {r q : Rw} {x y : Value} (t : TypeId) (h : ValsAt w r x) (h2 : ValsAt w q y) : RowsAt (w.alloc (.cells #[x, y] t)) [r, q] (.slice (some ⟨w.heap.size, 0, none⟩) 2 2) := by
  have hb2 : Below w.heap.size w (w.alloc (.cells #[x, y] t)) := (Below.refl _ _).alloc (Nat.le_refl _) _
  refine .lie [r, q] [x, y] _ 0 2 2 rfl (by simp) (by decide) (fun i z hi => ?_) (.cons (h.mono hb2) (.cons (h2.mono hb2) .nil))
  have hi3 : i < 2 := by have := (List.getElem?_eq_some_iff.1 hi).1; simpa using this
  rcases (by omega : i = 0 ∨ i = 1) with rfl | rfl <;> simp at hi <;> subst hi <;> simp
set_option maxHeartbeats 4000000 in
set_option maxRecDepth 100000 in
theorem rA6 {Q : Exit → Act → World → Prop} {a : Act} {w : World} (A : Array Value) (hA : A.size = 26) (bb : Nat) (R2 : List Rw) (hsz : a.tmps.size = 83) (h3 : a.eval (.tmp 3) = .pointer (some ⟨bb, 0, none⟩))
    (hbb : w.heap[bb]? = some (.cells A 56 (0, 0)))
    (HRes : ∀ (w' : World), Below w.heap.size w w' → ∀ (bx : Nat) (u : Value), Boxed w' bx 29 u → RowsAt w' L3 u → Calls Try.prog 13 #[.agg A, .func (.func 45) #[] #[.pointer (some ⟨bx, 0, none⟩)]] w' fun e w'' => ∃ v, e = .returned v ∧ RowsAt w'' R2 v ∧ Below w'.heap.size w' w'')
    (ops : Array Oper) (hops : ops = oA6) (hQ : ∀ (u : Nat → Value) w1, RowsAt w1 R2 (u 5) → Below w.heap.size w w1 → Q .normal (putK a (([26, 27, 28, 29, 30, 31, 32, 33, 34, 35, 5] : List Nat).map fun d => (d, u d))) w1) : (Code.region 6 ops true).wp Try.prog Q a w := by
  subst hops
  have hbl : bb < w.heap.size := (Array.getElem?_eq_some_iff.1 hbb).1
  refine wp_region_facts (ops' := oA6) [26, 27, 28, 29, 30, 31, 32, 33, 34, 35, 5] (fA6 A R2) rfl (by kernel_rfl) (by kernel_rfl) (by
      show coverB oA6 [(0, 26), (1, 27), (2, 28), (3, 29), (4, 30), (5, 31), (6, 32), (7, 33), (8, 34), (9, 35), (10, 5)] = true
      kernel_rfl) (by show List.Nodup [0, 1, 2, 3, 4, 5, 6, 7, 8, 9, 10]; decide) (by show List.Nodup [26, 27, 28, 29, 30, 31, 32, 33, 34, 35, 5]; decide) ?_ ?_ ?_
  · have hs : oA6.size = 11 := by kernel_rfl
    intro f hf
    simp only [fA6, List.mem_cons, List.not_mem_nil, or_false] at hf
    rcases hf with rfl | rfl | rfl | rfl | rfl | rfl | rfl | rfl | rfl | rfl | rfl <;> exact ⟨by simp [Ft.const, valF, rowF, allF], by rw [hsz]; simp [Ft.const, valF, rowF, allF], by rw [hs]; simp [Ft.const, valF, rowF, allF]⟩
  · intro f hf o a1 w1 ho hb hold hdep K hK
    simp only [fA6, List.mem_cons, List.not_mem_nil, or_false] at hf
    have D : ∀ g ∈ fA6 A R2, waitsB oA6 f.i g.i = true → g.p w1 (a1.eval (.tmp g.d)) := hdep
    clear hdep
    rcases hf with rfl | rfl | rfl | rfl | rfl | rfl | rfl | rfl | rfl | rfl | rfl
    · have hl : oA6[0]? = some ⟨some 26, Op.load 56 (Operand.tmp 3), _, _, _, none⟩ := rfl
      obtain rfl := Option.some.inj (ho.symm.trans hl)
      have x3 := (hold 3 (by decide)).trans h3
      exact wp_of_value (d := 26) rfl (exec_load_row 56 (.tmp 3) rfl bb x3 56 A (0, 0) _ ((hb.block bb hbl).trans hbb) Try.underlying56 rfl (by rw [hA]; exact Try.size56)) (hK _ _ (Below.refl _ _) rfl)
    · have hl : oA6[1]? = some ⟨some 27, Op.call ⟨Callee.value (Operand.func _), #[Operand.const (.int .i64 2)], _⟩, _, _, _, none⟩ := rfl
      obtain rfl := Option.some.inj (ho.symm.trans hl)
      refine wp_of_call (d := 27) (f := 12) (args := #[.int .i64 2]) rfl (by simp [go_sem, Act.eval]) (number_calls 2 w1) ?_
      rintro e w2 ⟨rfl, hb2⟩
      exact ⟨_, rfl, hK _ _ hb2 rfl⟩
    · have hl : oA6[2]? = some ⟨some 28, Op.buildSlice _ 1 #[(0, Operand.tmp 27)], _, _, _, none⟩ := rfl
      obtain rfl := Option.some.inj (ho.symm.trans hl)
      have x27 : a1.eval (.tmp 27) = two := D (.const 1 27 two) (by simp [fA6]) (by kernel_rfl : waitsB oA6 2 1 = true)
      have x27' := eval_spell x27
      refine wp_of_value (d := 28) (v := .slice (some ⟨w1.heap.size, 0, none⟩) 1 1) (w' := w1.alloc (.cells #[.int .i64 1, .int .i64 2, .string ⟨#[]⟩] 26)) rfl (by simp [go_sem, execOp, Act.eval, x27', two]) (hK _ _ ((Below.refl _ _).alloc (Nat.le_refl _) _) (one_vals w1 (intV 2) 26 (by decide)))
    · have hl : oA6[3]? = some ⟨some 29, Op.build _ #[], _, _, _, none⟩ := rfl
      obtain rfl := Option.some.inj (ho.symm.trans hl)
      exact wp_of_value (d := 29) (v := nul) (w' := w1) rfl (by simp [go_sem, execOp, Act.eval, nul]) (hK _ _ (Below.refl _ _) rfl)
    · have hl : oA6[4]? = some ⟨some 30, Op.buildSlice _ 1 #[(0, Operand.tmp 29)], _, _, _, none⟩ := rfl
      obtain rfl := Option.some.inj (ho.symm.trans hl)
      have x29 : a1.eval (.tmp 29) = nul := D (.const 3 29 nul) (by simp [fA6]) (by kernel_rfl : waitsB oA6 4 3 = true)
      have x29' := eval_spell x29
      refine wp_of_value (d := 30) (v := .slice (some ⟨w1.heap.size, 0, none⟩) 1 1) (w' := w1.alloc (.cells #[.int .i64 0, .int .i64 0, .string ⟨#[]⟩] 26)) rfl (by simp [go_sem, execOp, Act.eval, x29', nul]) (hK _ _ ((Below.refl _ _).alloc (Nat.le_refl _) _) (one_vals w1 nilV 26 (by decide)))
    · have hl : oA6[5]? = some ⟨some 31, Op.call ⟨Callee.value (Operand.func _), #[Operand.const (.int .i64 2)], _⟩, _, _, _, none⟩ := rfl
      obtain rfl := Option.some.inj (ho.symm.trans hl)
      refine wp_of_call (d := 31) (f := 12) (args := #[.int .i64 2]) rfl (by simp [go_sem, Act.eval]) (number_calls 2 w1) ?_
      rintro e w2 ⟨rfl, hb2⟩
      exact ⟨_, rfl, hK _ _ hb2 rfl⟩
    · have hl : oA6[6]? = some ⟨some 32, Op.buildSlice _ 1 #[(0, Operand.tmp 31)], _, _, _, none⟩ := rfl
      obtain rfl := Option.some.inj (ho.symm.trans hl)
      have x31 : a1.eval (.tmp 31) = two := D (.const 5 31 two) (by simp [fA6]) (by kernel_rfl : waitsB oA6 6 5 = true)
      have x31' := eval_spell x31
      refine wp_of_value (d := 32) (v := .slice (some ⟨w1.heap.size, 0, none⟩) 1 1) (w' := w1.alloc (.cells #[.int .i64 1, .int .i64 2, .string ⟨#[]⟩] 26)) rfl (by simp [go_sem, execOp, Act.eval, x31', two]) (hK _ _ ((Below.refl _ _).alloc (Nat.le_refl _) _) (one_vals w1 (intV 2) 26 (by decide)))
    · have hl : oA6[7]? = some ⟨some 33, Op.buildSlice _ 3 #[(0, Operand.tmp 28), (1, Operand.tmp 30), (2, Operand.tmp 32)], _, _, _, none⟩ := rfl
      obtain rfl := Option.some.inj (ho.symm.trans hl)
      have y28 : ValsAt w1 [intV 2] (a1.eval (.tmp 28)) := D (valF 2 28 [intV 2]) (by simp [fA6]) (by kernel_rfl : waitsB oA6 7 2 = true)
      have y30 : ValsAt w1 [nilV] (a1.eval (.tmp 30)) := D (valF 4 30 [nilV]) (by simp [fA6]) (by kernel_rfl : waitsB oA6 7 4 = true)
      have y32 : ValsAt w1 [intV 2] (a1.eval (.tmp 32)) := D (valF 6 32 [intV 2]) (by simp [fA6]) (by kernel_rfl : waitsB oA6 7 6 = true)
      obtain ⟨p28, q28⟩ : ∃ v, a1.eval (.tmp 28) = v := ⟨_, rfl⟩
      obtain ⟨p30, q30⟩ : ∃ v, a1.eval (.tmp 30) = v := ⟨_, rfl⟩
      obtain ⟨p32, q32⟩ : ∃ v, a1.eval (.tmp 32) = v := ⟨_, rfl⟩
      rw [q28] at y28
      rw [q30] at y30
      rw [q32] at y32
      have z28 := eval_spell q28
      have z30 := eval_spell q30
      have z32 := eval_spell q32
      obtain ⟨aa, an, ac, rfl, -⟩ := y28.shape
      obtain ⟨ba, bn, bc, rfl, -⟩ := y30.shape
      obtain ⟨ca, cn, cc, rfl, -⟩ := y32.shape
      have hb2 : Below w1.heap.size w1 (w1.alloc (.cells #[.slice aa an ac, .slice ba bn bc, .slice ca cn cc] 61)) := (Below.refl _ _).alloc (Nat.le_refl _) _
      refine wp_of_value (d := 33) (v := .slice (some ⟨w1.heap.size, 0, none⟩) 3 3) (w' := w1.alloc (.cells #[.slice aa an ac, .slice ba bn bc, .slice ca cn cc] 61)) rfl (by simp [go_sem, execOp, Act.eval, z28, z30, z32]) (hK _ _ hb2 ?_)
      refine .lie L3 [.slice aa an ac, .slice ba bn bc, .slice ca cn cc] _ 0 3 3 rfl (by simp) (by decide) (fun i x hi => ?_) (.cons (y28.mono hb2) (.cons (y30.mono hb2) (.cons (y32.mono hb2) .nil)))
      have hi3 : i < 3 := by have := (List.getElem?_eq_some_iff.1 hi).1; simpa using this
      rcases (by omega : i = 0 ∨ i = 1 ∨ i = 2) with rfl | rfl | rfl <;> simp at hi <;> subst hi <;> simp
    · have hl : oA6[8]? = some ⟨some 34, Op.call ⟨Callee.value (Operand.func _), #[Operand.tmp 33], _⟩, _, _, _, none⟩ := rfl
      obtain rfl := Option.some.inj (ho.symm.trans hl)
      have y33 : RowsAt w1 L3 (a1.eval (.tmp 33)) := D (rowF 7 33 L3) (by simp [fA6]) (by kernel_rfl : waitsB oA6 8 7 = true)
      obtain ⟨p33, q33⟩ : ∃ v, a1.eval (.tmp 33) = v := ⟨_, rfl⟩
      rw [q33] at y33
      have z33 := eval_spell q33
      refine wp_of_call (d := 34) (f := 14) (args := #[p33]) rfl (by simp [go_sem, Act.eval, z33]) (all_calls L3 p33 w1 y33 (by simp [L3]) (by decide)) ?_
      rintro e w2 ⟨bx, u, rfl, h1, h2, hb2⟩
      exact ⟨_, rfl, hK _ _ hb2 ⟨bx, u, rfl, h1, h2.at⟩⟩
    · have hl : oA6[9]? = some ⟨some 35, Op.call ⟨Callee.value (Operand.func _), #[Operand.tmp 26, Operand.tmp 34], _⟩, _, _, _, none⟩ := rfl
      obtain rfl := Option.some.inj (ho.symm.trans hl)
      have x26 : a1.eval (.tmp 26) = .agg A := D (.const 0 26 (.agg A)) (by simp [fA6]) (by kernel_rfl : waitsB oA6 9 0 = true)
      obtain ⟨bx, u, x34, y1, y2⟩ : ∃ bx u, a1.eval (.tmp 34) = .func (.func 45) #[] #[.pointer (some ⟨bx, 0, none⟩)] ∧ Boxed w1 bx 29 u ∧ RowsAt w1 L3 u := D (allF 8 34 L3) (by simp [fA6]) (by kernel_rfl : waitsB oA6 9 8 = true)
      have z26 := eval_spell x26
      have z34 := eval_spell x34
      refine wp_of_call (d := 35) (f := 13) (args := #[.agg A, .func (.func 45) #[] #[.pointer (some ⟨bx, 0, none⟩)]]) rfl (by simp [go_sem, Act.eval, z26, z34]) (HRes w1 hb bx u y1 y2) ?_
      rintro e w2 ⟨v, rfl, h1, hb2⟩
      exact ⟨_, rfl, hK _ _ hb2 h1⟩
    · have hl : oA6[10]? = some ⟨some 5, Op.assign (Operand.tmp 35), _, _, _, none⟩ := rfl
      obtain rfl := Option.some.inj (ho.symm.trans hl)
      have y35 : RowsAt w1 R2 (a1.eval (.tmp 35)) := D (rowF 9 35 R2) (by simp [fA6]) (by kernel_rfl : waitsB oA6 10 9 = true)
      obtain ⟨p35, q35⟩ : ∃ v, a1.eval (.tmp 35) = v := ⟨_, rfl⟩
      rw [q35] at y35
      have z35 := eval_spell q35
      exact wp_of_value (d := 5) (v := p35) (w' := w1) rfl (by simp [go_sem, execOp, Act.eval, z35]) (hK _ _ (Below.refl _ _) y35)
  · intro a1 w1 hfr hb hall
    rw [hfr.eq]
    exact hQ (fun d => a1.eval (.tmp d)) w1 (hall (rowF 10 5 R2) (by simp [fA6])) hb
end Go.Proofs.Ytodabeibdgancaa
/- awake: the walk. -/
namespace Go.Proofs.Ytodabeibdgancaa
open Go Go.RowKit
set_option maxHeartbeats 16000000 in
set_option maxRecDepth 100000 in
theorem awake_calls (w : World) : Calls Try.prog 5 #[] w fun e w' => e = .returned (.bool true) ∧ Below w.heap.size w w' := by
  have HNum := Lib.hid (fun n w' => number_calls n w')
  go_enter Try.func5, Try.ntmps5
  go_wp2_with fail
  (with_reducible refine (HNum.out _ _).mono ?_)
  rintro e wa ⟨rfl, ha⟩
  go_wp2_with fail
  (with_reducible refine (HNum.out _ _).mono ?_)
  rintro e wb ⟨rfl, hb⟩
  go_wp2_with fail
  (with_reducible refine (HNum.out _ _).mono ?_)
  rintro e w1 ⟨rfl, hb1⟩
  have hbw1 : Below w.heap.size w w1 := (ha.trans (hb.mono ha.size)).trans (hb1.mono (Nat.le_trans ha.size hb.size))
  clear ha hb hb1
  go_upto_region 2 with (fail)
  generalize hW1 : w1.alloc _ = W1 at *
  have hv1 : ValsAt W1 vs4 (.slice (some ⟨w1.heap.size, 0, none⟩) 4 4) := by
    rw [← hW1]
    refine .lie vs4 _ 0 4 4 rfl (by simp) (by decide) (fun i hi j hj => ?_) (by decide)
    rcases (by simp [vs4] at hi; omega : i = 0 ∨ i = 1 ∨ i = 2 ∨ i = 3) with rfl | rfl | rfl | rfl <;> rcases (by omega : j = 0 ∨ j = 1 ∨ j = 2) with rfl | rfl | rfl <;> simp [vs4, intV, nilV, Vl.cells]
  have hbW : Below w.heap.size w W1 := by
    rw [← hW1]
    exact hbw1.alloc hbw1.size _
  have hs1 : w1.heap.size < W1.heap.size := by rw [← hW1]; simp
  generalize w1.heap.size = b1 at *
  clear hbw1 hW1
  go_upto_region 3 with (fail)
  iterate 22 go_step
  generalize hW4 : ((W1.alloc _).alloc _).alloc _ = W4 at *
  obtain ⟨b2, hb2⟩ : ∃ b, W1.heap.size = b := ⟨_, rfl⟩
  have hsz4 : W4.heap.size = b2 + 3 := by rw [← hW4, ← hb2]; simp
  have hb14 : Below W1.heap.size W1 W4 := by
    rw [← hW4]
    exact (((Below.refl _ _).alloc (Nat.le_refl _) _).alloc (by simp) _).alloc (by simp; omega) _
  have hA8 : ∀ j, W4.cell? ⟨b2, j, none⟩ = (#[.int .i64 2, .string ⟨#[]⟩, .string strA, .int .i64 0, .int .i64 0, .int .i64 0, .string ⟨#[]⟩, .slice none 0 0] : Array Value)[j]? := by
    intro j
    have h1 := heap_alloc_new W1 (.cells #[.int .i64 2, .string ⟨#[]⟩, .string strA, .int .i64 0, .int .i64 0, .int .i64 0, .string ⟨#[]⟩, .slice none 0 0] 38)
    have h2 : W4.heap[b2]? = some (.cells #[.int .i64 2, .string ⟨#[]⟩, .string strA, .int .i64 0, .int .i64 0, .int .i64 0, .string ⟨#[]⟩, .slice none 0 0] 38 (0, 0)) := by
      rw [← hW4, ← hb2, heap_alloc_old _ _ (by simp; omega), heap_alloc_old _ _ (by simp), ← h1]
      rfl
    exact cell_of_row _ _ _ _ _ _ h2
  have hit : ItemsAt W4 its2 (.slice (some ⟨b2 + 1, 0, none⟩) 2 2) := by
    have h2 : W4.heap[b2 + 1]? = some (.cells #[.int .i64 1, .int .i64 0, .string ⟨#[]⟩, .string ⟨#[]⟩, .int .i64 0, .int .i64 0, .int .i64 0, .string ⟨#[]⟩, .slice none 0 0, .int .i64 3, .int .i64 2, .string ⟨#[]⟩, .string strA, .int .i64 0, .int .i64 0, .int .i64 0, .string ⟨#[]⟩, .slice none 0 0] 40 (0, 0)) := by
      rw [← hW4, ← hb2, heap_alloc_old _ _ (by simp)]
      rw [show W1.heap.size + 1 = (W1.alloc (.cells #[.int .i64 2, .string ⟨#[]⟩, .string strA, .int .i64 0, .int .i64 0, .int .i64 0, .string ⟨#[]⟩, .slice none 0 0] 38)).heap.size by simp]
      exact heap_alloc_new _ _
    refine .lie its2 (b2 + 1) 0 2 2 rfl (by omega) (by decide) fun i hi j hj => ?_
    rw [cell_of_row _ _ _ _ _ _ h2]
    rcases (by simp [its2] at hi; omega : i = 0 ∨ i = 1) with rfl | rfl <;> rcases (by omega : j = 0 ∨ j = 1 ∨ j = 2 ∨ j = 3 ∨ j = 4 ∨ j = 5 ∨ j = 6 ∨ j = 7 ∨ j = 8) with rfl | rfl | rfl | rfl | rfl | rfl | rfl | rfl | rfl <;> rfl
  rw [hb2]
  have hv4 := hv1.mono hb14
  have hbW4 := hbW.trans (hb14.mono hbW.size)
  have Hsz4 := Lib.hid hsz4
  have HA8 := Lib.hid hA8
  have Hit := Lib.hid hit
  have Hv4 := Lib.hid hv4
  have HbW4 := Lib.hid hbW4
  clear hW4 hb14 hA8 hit hv4 hbW4 hv1 hbW hs1 hb2 hsz4
  refine wpList_value (w' := W4) (v := .agg (bdA (b2 + 1) (b2 + 1 + 1) ⟨none, 0, 0⟩).arr) rfl (by kernel_rfl) ?_
  obtain ⟨b5, hb5⟩ : ∃ b, W4.heap.size = b := ⟨_, rfl⟩
  have HK5 : RowKit.Hid (∀ (Z : Array Value), Z.size = 26 → overA Z 0 (bdA (b2 + 1) (b2 + 1 + 1) ⟨none, 0, 0⟩).arr.toList = (bdA (b2 + 1) (b2 + 1 + 1) ⟨none, 0, 0⟩).arr → ((W4.alloc (.cells Z 56)).setCells W4.heap.size 0 (bdA (b2 + 1) (b2 + 1 + 1) ⟨none, 0, 0⟩).arr.toList).heap[W4.heap.size]? = some (.cells (bdA (b2 + 1) (b2 + 1 + 1) ⟨none, 0, 0⟩).arr 56 (0, 0)) ∧ Below W4.heap.size W4 ((W4.alloc (.cells Z 56)).setCells W4.heap.size 0 (bdA (b2 + 1) (b2 + 1 + 1) ⟨none, 0, 0⟩).arr.toList) ∧ (W4.alloc (.cells Z 56)).there W4.heap.size 0 26) :=
    Lib.hid fun Z hZ h => ⟨by rw [heap_setCellsA _ _ _ _ _ _ (heap_alloc_new W4 (.cells Z 56)), h], below_cellsR (Nat.le_refl _) _ 0 _ ((Below.refl _ _).alloc (Nat.le_refl _) _), fun j hj => by
      have hb := heap_alloc_new W4 (.cells Z 56)
      refine ⟨?_, ?_⟩
      · rw [Nat.zero_add, cell_of_row _ _ _ _ _ _ hb, Array.getElem?_eq_getElem (by omega)]
        rfl
      · rw [Nat.zero_add]; exact frozen_of_row _ _ _ _ _ hb⟩
  have hA26 : (bdA (b2 + 1) (b2 + 1 + 1) ⟨none, 0, 0⟩).arr.size = 26 := by kernel_rfl
  have HO := Lib.hid (arr_one (bdA (b2 + 1) (b2 + 1 + 1) ⟨none, 0, 0⟩))
  generalize hA5 : (bdA (b2 + 1) (b2 + 1 + 1) ⟨none, 0, 0⟩).arr = A5 at *
  iterate 4 go_step
  refine wp_store_mid 56 (.tmp 3) (.tmp 19) rfl b5 0 A5 rfl rfl ?ht ?hi ?h1 ?_
  case ht =>
    rw [← hb5, hA26]
    refine (HK5.out _ ?_ ?_).2.2
    · kernel_rfl
    · rw [← hA5]; kernel_rfl
  case hi => rw [hA26]; exact Try.size56
  case h1 => exact Array.all_eq_true_iff_forall_mem.2 (fun v hv => HO.out v (by simpa using hv))
  rw [← hb5]
  generalize hW5 : (W4.alloc _).setCells _ 0 _ = W5 at *
  have q1 : W5.heap[W4.heap.size]? = some (.cells A5 56 (0, 0)) := by
    rw [← hW5]
    refine (HK5.out _ ?_ ?_).1
    · kernel_rfl
    · rw [← hA5]; kernel_rfl
  have q2 : Below W4.heap.size W4 W5 := by
    rw [← hW5]
    refine (HK5.out _ ?_ ?_).2.1
    · kernel_rfl
    · rw [← hA5]; kernel_rfl
  clear hW5
  have hbl4 : b2 < W4.heap.size := by have := Hsz4.out; omega
  have hA8 : ∀ j, W5.cell? ⟨b2, j, none⟩ = _ := fun j => (q2.cell (p := ⟨b2, j, none⟩) hbl4).trans (HA8.out j)
  have hv5 := Hv4.out.mono q2
  have hbw5 := HbW4.out.trans (q2.mono HbW4.out.size)
  have hit5 := Hit.out.mono q2
  have hr1 := result13_nil _ _ _ _ _ W5 (fit1 (b2 + 1) (b2 + 1 + 1) W5 hit5)
  rw [hA5] at hr1
  have HR1 := Lib.hid hr1
  rw [hb5] at q1 ⊢
  have hl5 : b5 < W5.heap.size := (Array.getElem?_eq_some_iff.1 q1).1
  have hb25 : b2 < b5 := by rw [← hb5]; exact hbl4
  have Hb53 := Lib.hid (show b5 = b2 + 3 by rw [← hb5]; exact Hsz4.out)
  have hwb5 : w.heap.size ≤ b5 := by rw [← hb5]; exact HbW4.out.size
  have HA85 := Lib.hid hA8
  have Hq1 := Lib.hid q1
  have Hv5 := Lib.hid hv5
  have Hbw5 := Lib.hid hbw5
  have Hit5 := Lib.hid hit5
  clear hA8 hv5 hbw5 hit5 hr1 q1 q2 HK5 Hv4 HbW4 Hit HA8 Hsz4 hb5 hbl4 hA26
  go_wp2_with (refine wpList_load_row rfl 56 (.tmp 3) rfl b5 rfl 56 A5 (0, 0) _ Hq1.out Try.underlying56 rfl (by rw [← hA5]; exact Try.size56) ?_)
  go_wp2_with fail
  (with_reducible refine HR1.out.mono ?_)
  rintro e W6 ⟨v6, rfl, hr6, hb6⟩
  rw [awake1] at hr6
  obtain ⟨r6a, r6n, r6c, rfl, -⟩ := hr6.shape
  have hA6 : ∀ j, W6.cell? ⟨b2, j, none⟩ = _ := fun j => (hb6.cell (p := ⟨b2, j, none⟩) (Nat.lt_trans hb25 hl5)).trans (HA85.out j)
  have hq6 := (hb6.block b5 hl5).trans Hq1.out
  have hl6 : b5 < W6.heap.size := Nat.lt_of_lt_of_le hl5 hb6.size
  have hl62 : b2 < W6.heap.size := Nat.lt_trans hb25 hl6
  have e18 : W6.cell? ⟨b5, 18, none⟩ = some (.slice none 0 0) := by rw [cell_of_row _ _ _ _ _ _ hq6, ← hA5]; rfl
  have e18f : W6.frozen? ⟨b5, 18, none⟩ = false := frozen_of_row _ _ _ _ _ hq6
  have x0 := hA6 0
  have x1 := hA6 1
  have x2 := hA6 2
  have x3 := hA6 3
  have x4 := hA6 4
  have x5 := hA6 5
  have x6 := hA6 6
  have x7 := hA6 7
  simp only [List.getElem?_toArray, List.getElem?_cons_zero, List.getElem?_cons_succ] at x0 x1 x2 x3 x4 x5 x6 x7
  have HA6 := Lib.hid hA6
  have Hq6 := Lib.hid hq6
  have Hv6 := Lib.hid (Hv5.out.mono hb6)
  have Hbw6 := Lib.hid (Hbw5.out.trans (hb6.mono Hbw5.out.size))
  have Hit6 := Lib.hid (Hit5.out.mono hb6)
  have Hr6 := Lib.hid hr6
  clear hA6 hq6 hr6 hb6 HR1 HA85 Hq1 Hv5 Hbw5 Hit5 hl5
  go_upto_region 6 with (fail)
  have hb53 := Hb53.out
  obtain ⟨gg, hgg⟩ : ∃ g, W6.heap.size = g := ⟨_, rfl⟩
  have hA7 : A5.setIfInBounds 18 (.slice (some ⟨gg, 0, none⟩) 1 1) = (bdA (b2 + 1) (b2 + 1 + 1) ⟨some ⟨gg, 0, none⟩, 1, 1⟩).arr := by rw [← hA5]; kernel_rfl
  have hs18 := heap_setCell_same W6 b5 18 A5 56 (.slice (some ⟨gg, 0, none⟩) 1 1) Hq6.out
  rw [hA7] at hs18
  have hbb : Below b5 W6 (W6.setCell ⟨b5, 18, none⟩ (.slice (some ⟨gg, 0, none⟩) 1 1)) := (Below.refl b5 W6).setCell (p := ⟨b5, 18, none⟩) (Nat.le_refl _) _
  have hsz6 : (W6.setCell ⟨b5, 18, none⟩ (.slice (some ⟨gg, 0, none⟩) 1 1)).heap.size = gg := by rw [size_setC, hgg]
  have hv7 := Hv6.out.setNil (u := .slice (some ⟨gg, 0, none⟩) 1 1) e18
  have hr7 := Hr6.out.setNil (u := .slice (some ⟨gg, 0, none⟩) 1 1) e18 (by simp)
  have hbw7 := Hbw6.out.setCell (p := ⟨b5, 18, none⟩) hwb5 (.slice (some ⟨gg, 0, none⟩) 1 1)
  have hit7 : ItemsAt (W6.setCell ⟨b5, 18, none⟩ (.slice (some ⟨gg, 0, none⟩) 1 1)) its2 (.slice (some ⟨b2 + 1, 0, none⟩) 2 2) := by
    refine .lie its2 (b2 + 1) 0 2 2 rfl (by omega) (by decide) fun i hi j hj => ?_
    obtain ⟨b, o, e, _, hc⟩ := Hit6.out.at i hi
    injection e with e
    injection e with e1 e2
    subst e1 e2
    exact (hbb.cell (p := ⟨b2 + 1, 0 + i * 9 + j, none⟩) (show b2 + 1 < b5 by omega)).trans (hc j hj)
  rw [hgg]
  generalize W6.setCell ⟨b5, 18, none⟩ (.slice (some ⟨gg, 0, none⟩) 1 1) = W8 at *
  have hb9 : Below W8.heap.size W8 (W8.alloc (.cells #[.int .i64 2, .string ⟨#[]⟩, .string strA, .int .i64 0, .int .i64 0, .int .i64 0, .string ⟨#[]⟩, .slice none 0 0] 38)) := (Below.refl _ _).alloc (Nat.le_refl _) _
  have hx9 : XpsAt (W8.alloc (.cells #[.int .i64 2, .string ⟨#[]⟩, .string strA, .int .i64 0, .int .i64 0, .int .i64 0, .string ⟨#[]⟩, .slice none 0 0] 38)) [exA] (.slice (some ⟨gg, 0, none⟩) 1 1) := by
    refine .lie [exA] gg 0 1 1 rfl (by simp [hsz6]) (by decide) fun i hi j hj => ?_
    have hb := heap_alloc_new W8 (.cells #[.int .i64 2, .string ⟨#[]⟩, .string strA, .int .i64 0, .int .i64 0, .int .i64 0, .string ⟨#[]⟩, .slice none 0 0] 38)
    rw [hsz6] at hb
    rw [cell_of_row _ _ _ _ _ _ hb]
    obtain rfl : i = 0 := by simp at hi; omega
    rcases (by omega : j = 0 ∨ j = 1 ∨ j = 2 ∨ j = 3 ∨ j = 4 ∨ j = 5 ∨ j = 6 ∨ j = 7) with rfl | rfl | rfl | rfl | rfl | rfl | rfl | rfl <;> rfl
  have hq9 := (hb9.block b5 (Array.getElem?_eq_some_iff.1 hs18).1).trans hs18
  have hbw9 := hbw7.trans (hb9.mono hbw7.size)
  have hit9 := hit7.mono hb9
  have hv9 := hv7.mono hb9
  have hr9 := hr7.mono hb9
  generalize W8.alloc (.cells #[.int .i64 2, .string ⟨#[]⟩, .string strA, .int .i64 0, .int .i64 0, .int .i64 0, .string ⟨#[]⟩, .slice none 0 0] 38) = W9 at *
  have hfit := fit2 (b2 + 1) (b2 + 1 + 1) gg W9 hit9 hx9
  have HRes := Lib.hid (fun (w' : World) (hb : Below W9.heap.size W9 w') (bx : Nat) (u : Value) (hbx : Boxed w' bx 29 u) (hu : RowsAt w' L3 u) => (result13_rows _ _ _ _ L3 1 bx u w' (hfit.mono hb) hbx hu (by decide)).mono (R' := fun e w'' => ∃ v, e = .returned v ∧ RowsAt w'' [[intV 1, nilV], [intV 2, intV 4]] v ∧ Below w'.heap.size w' w'') (fun e w'' h => by obtain ⟨v, e1, h1, h2⟩ := h; rw [awake2] at h1; exact ⟨v, e1, h1, h2⟩))
  have hA726 : (bdA (b2 + 1) (b2 + 1 + 1) ⟨some ⟨gg, 0, none⟩, 1, 1⟩).arr.size = 26 := by kernel_rfl
  generalize (bdA (b2 + 1) (b2 + 1 + 1) ⟨some ⟨gg, 0, none⟩, 1, 1⟩).arr = A7 at *
  have Hq9 := Lib.hid hq9
  have Hv9 := Lib.hid hv9
  have Hr9 := Lib.hid hr9
  have Hbw9 := Lib.hid hbw9
  clear hs18 hbb hv7 hr7 hbw7 hit7 hb9 hx9 hq9 hbw9 hit9 hv9 hr9 hfit hA7 Hq6 Hv6 Hr6 Hbw6 Hit6 HA6 e18 e18f x0 x1 x2 x3 x4 x5 x6 x7 hgg hsz6 hl6 hl62 hb25 hb53 hwb5 hA5 HO
  generalize Value.agg A5 = ag5
  clear Hb53
  refine rA6 A7 hA726 b5 [[intV 1, nilV], [intV 2, intV 4]] rfl rfl Hq9.out (fun w' hb bx u h1 h2 => HRes.out w' hb bx u h1 h2) _ (by kernel_rfl) ?_
  intro u w10 hr10 hb10
  obtain ⟨r5a, r5n, r5c, hu5, -⟩ := hr10.shape
  rw [hu5] at hr10
  have Hr10 := Lib.hid hr10
  have Hv10 := Lib.hid (Hv9.out.mono hb10)
  have Hr610 := Lib.hid (Hr9.out.mono hb10)
  have Hbw10 := Lib.hid (Hbw9.out.trans (hb10.mono Hbw9.out.size))
  have HAg := Lib.hid (fun (k : Int) (w' : World) (hb : Below w10.heap.size w10 w') => aggregate_calls k vs4 _ w' (Hv10.out.mono hb) (by decide))
  have HSa := Lib.hid (fun (L M : List Rw) (s t : Value) (w' : World) (hs : RowsAt w' L s) (ht : RowsAt w' M t) => same_calls L M s t w' hs ht)
  have Hu5 := Lib.hid hu5
  clear hr10 hb10 Hr9 Hv9 Hbw9 Hq9 HRes hu5 hA726
  simp only [putK, List.map, List.foldl, Act.put, List.setIfInBounds_toArray, List.set_cons_succ, List.set_cons_zero]
  rw [Hu5.out]
  generalize u 26 = u26
  generalize u 27 = u27
  generalize u 28 = u28
  generalize u 29 = u29
  generalize u 30 = u30
  generalize u 31 = u31
  generalize u 32 = u32
  generalize u 33 = u33
  generalize u 34 = u34
  generalize u 35 = u35
  clear Hu5 u
  have hC : Below w10.heap.size w10 w10 := Below.refl _ _
  have HC0 := Lib.hid hC
  clear hC
  go_wp2_with fail
  (with_reducible refine (HAg.out 1 w10 HC0.out).mono ?_)
  rintro e p1 ⟨rfl, hq⟩
  have HC1 := Lib.hid (HC0.out.trans (hq.mono HC0.out.size))
  clear hq
  rw [show (aggV 1 vs4).val = .agg #[.int .i64 1, .int .i64 4, .string ⟨#[]⟩] from by kernel_rfl]
  go_wp2_with fail
  (with_reducible refine (HNum.out 4 p1).mono ?_)
  rintro e p2 ⟨rfl, hq⟩
  have HC2 := Lib.hid (HC1.out.trans (hq.mono HC1.out.size))
  clear hq
  go_wp2_with fail
  (with_reducible refine (HAg.out 2 p2 HC2.out).mono ?_)
  rintro e p3 ⟨rfl, hq⟩
  have HC3 := Lib.hid (HC2.out.trans (hq.mono HC2.out.size))
  clear hq
  rw [show (aggV 2 vs4).val = .agg #[.int .i64 1, .int .i64 3, .string ⟨#[]⟩] from by kernel_rfl]
  go_wp2_with fail
  (with_reducible refine (HNum.out 3 p3).mono ?_)
  rintro e p4 ⟨rfl, hq⟩
  have HC4 := Lib.hid (HC3.out.trans (hq.mono HC3.out.size))
  clear hq
  go_wp2_with fail
  (with_reducible refine (HAg.out 3 p4 HC4.out).mono ?_)
  rintro e p5 ⟨rfl, hq⟩
  have HC5 := Lib.hid (HC4.out.trans (hq.mono HC4.out.size))
  clear hq
  rw [show (aggV 3 vs4).val = .agg #[.int .i64 1, .int .i64 11, .string ⟨#[]⟩] from by kernel_rfl]
  go_wp2_with fail
  (with_reducible refine (HNum.out 11 p5).mono ?_)
  rintro e p6 ⟨rfl, hq⟩
  have HC6 := Lib.hid (HC5.out.trans (hq.mono HC5.out.size))
  clear hq
  go_wp2_with fail
  (with_reducible refine (HAg.out 4 p6 HC6.out).mono ?_)
  rintro e p7 ⟨rfl, hq⟩
  have HC7 := Lib.hid (HC6.out.trans (hq.mono HC6.out.size))
  clear hq
  rw [show (aggV 4 vs4).val = .agg #[.int .i64 1, .int .i64 3, .string ⟨#[]⟩] from by kernel_rfl]
  go_wp2_with fail
  (with_reducible refine (HNum.out 3 p7).mono ?_)
  rintro e p8 ⟨rfl, hq⟩
  have HC8 := Lib.hid (HC7.out.trans (hq.mono HC7.out.size))
  clear hq
  go_wp2_with fail
  (with_reducible refine (HAg.out 5 p8 HC8.out).mono ?_)
  rintro e p9 ⟨rfl, hq⟩
  have HC9 := Lib.hid (HC8.out.trans (hq.mono HC8.out.size))
  clear hq
  rw [show (aggV 5 vs4).val = .agg #[.int .i64 1, .int .i64 5, .string ⟨#[]⟩] from by kernel_rfl]
  go_wp2_with fail
  (with_reducible refine (HNum.out 5 p9).mono ?_)
  rintro e p10 ⟨rfl, hq⟩
  have HC10 := Lib.hid (HC9.out.trans (hq.mono HC9.out.size))
  clear hq
  go_wp2_with fail
  (with_reducible refine (HNum.out 0 p10).mono ?_)
  rintro e p11 ⟨rfl, hq⟩
  have HC11 := Lib.hid (HC10.out.trans (hq.mono HC10.out.size))
  clear hq
  have hx1 : ValsAt (p11.alloc (.cells #[.int .i64 1, .int .i64 0, .string ⟨#[]⟩, .int .i64 0, .int .i64 0, .string ⟨#[]⟩] 26)) [intV 0, nilV] (.slice (some ⟨p11.heap.size, 0, none⟩) 2 2) := two_vals p11 (intV 0) nilV 26 (by decide) (by decide)
  have hx2 := one_row 61 hx1
  simp only [World.size_alloc] at hx2
  have hx3 : Below p11.heap.size p11 ((p11.alloc (.cells #[.int .i64 1, .int .i64 0, .string ⟨#[]⟩, .int .i64 0, .int .i64 0, .string ⟨#[]⟩] 26)).alloc (.cells #[.slice (some ⟨p11.heap.size, 0, none⟩) 2 2] 61)) := ((Below.refl _ _).alloc (Nat.le_refl _) _).alloc (by simp) _
  have HX := Lib.hid hx2
  have HY := Lib.hid (HC11.out.trans (hx3.mono HC11.out.size))
  clear hx1 hx2 hx3
  go_wp2_with fail
  (with_reducible refine (HSa.out _ _ _ _ _ (Hr610.out.mono HY.out) HX.out).mono ?_)
  rintro e s1 ⟨rfl, hq⟩
  have HC20 := Lib.hid (HY.out.trans (hq.mono HY.out.size))
  clear hq
  rw [show decide ([[intV 0, nilV]] = [[intV 0, nilV]]) = true from by simp]
  go_wp2_with fail
  (with_reducible refine (HNum.out 1 s1).mono ?_)
  rintro e p21 ⟨rfl, hq⟩
  have HC21 := Lib.hid (HC20.out.trans (hq.mono HC20.out.size))
  clear hq
  have hx1 : ValsAt (p21.alloc (.cells #[.int .i64 1, .int .i64 1, .string ⟨#[]⟩, .int .i64 0, .int .i64 0, .string ⟨#[]⟩] 26)) [intV 1, nilV] (.slice (some ⟨p21.heap.size, 0, none⟩) 2 2) := two_vals p21 (intV 1) nilV 26 (by decide) (by decide)
  have hx3 : Below p21.heap.size p21 (p21.alloc (.cells #[.int .i64 1, .int .i64 1, .string ⟨#[]⟩, .int .i64 0, .int .i64 0, .string ⟨#[]⟩] 26)) := (Below.refl _ _).alloc (Nat.le_refl _) _
  have HX1 := Lib.hid hx1
  have HY1 := Lib.hid (HC21.out.trans (hx3.mono HC21.out.size))
  clear hx1 hx3
  go_wp2_with fail
  (with_reducible refine (HNum.out 2 _).mono ?_)
  rintro e p22 ⟨rfl, hq⟩
  have HC22 := Lib.hid ((HY1.out.trans (hq.mono HY1.out.size)))
  have HX2 := Lib.hid (HX1.out.mono hq)
  clear hq
  go_wp2_with fail
  (with_reducible refine (HNum.out 4 p22).mono ?_)
  rintro e p23 ⟨rfl, hq⟩
  have HC23 := Lib.hid (HC22.out.trans (hq.mono HC22.out.size))
  have HX3 := Lib.hid (HX2.out.mono hq)
  clear hq
  have hx4 : ValsAt (p23.alloc (.cells #[.int .i64 1, .int .i64 2, .string ⟨#[]⟩, .int .i64 1, .int .i64 4, .string ⟨#[]⟩] 26)) [intV 2, intV 4] (.slice (some ⟨p23.heap.size, 0, none⟩) 2 2) := two_vals p23 (intV 2) (intV 4) 26 (by decide) (by decide)
  have hx5 := two_rows 61 (HX3.out.mono ((Below.refl _ p23).alloc (Nat.le_refl _) (.cells #[.int .i64 1, .int .i64 2, .string ⟨#[]⟩, .int .i64 1, .int .i64 4, .string ⟨#[]⟩] 26))) hx4
  simp only [World.size_alloc] at hx5
  have hx6 : Below p23.heap.size p23 ((p23.alloc (.cells #[.int .i64 1, .int .i64 2, .string ⟨#[]⟩, .int .i64 1, .int .i64 4, .string ⟨#[]⟩] 26)).alloc (.cells #[.slice (some ⟨p21.heap.size, 0, none⟩) 2 2, .slice (some ⟨p23.heap.size, 0, none⟩) 2 2] 61)) := ((Below.refl _ _).alloc (Nat.le_refl _) _).alloc (by simp) _
  have HX5 := Lib.hid hx5
  have HY5 := Lib.hid (HC23.out.trans (hx6.mono HC23.out.size))
  clear hx4 hx5 hx6 HX3
  go_wp2_with fail
  (with_reducible refine (HSa.out _ _ _ _ _ (Hr10.out.mono HY5.out) HX5.out).mono ?_)
  rintro e s2 ⟨rfl, hq⟩
  have HF := Lib.hid (Hbw10.out.trans ((HY5.out.trans (hq.mono HY5.out.size)).mono Hbw10.out.size))
  clear hq HX5 HY5 HSa Hr10
  rw [show decide ([[intV 1, nilV], [intV 2, intV 4]] = [[intV 1, nilV], [intV 2, intV 4]]) = true from by simp]
  go_wp2
  go_ret
  exact ⟨rfl, HF.out⟩
end Go.Proofs.Ytodabeibdgancaa
/- The reference's Sort: the walk. -/
namespace Go.Proofs.Ytodabeibdgancaa
open Go Go.RowKit
theorem addr_add (g o j : Nat) : (⟨g, o, none⟩ : Addr).add j = ⟨g, o + j, none⟩ := by unfold Addr.add; split <;> simp_all
set_option maxHeartbeats 8000000 in
set_option maxRecDepth 20000 in
theorem rsort_calls (os : List Od) (L : List Rw) (m : Nat) (s so : Value) (w : World) (hs : RowsAt w L s) (ho : OrdsAt w os so) (hm : ∀ r ∈ L, r.length = m) (hf : OrdsFit os m) (hlen : L.length < 1099511627776) :
    Calls Try.prog 11 #[s, so] w fun e w' => ∃ u, e = .returned u ∧ RowsOwn w' w.heap.size (sortL os L) u ∧ Below w.heap.size w w' := by
  obtain ⟨a, n, c, rfl, hn, hmx⟩ := hs.shape
  obtain ⟨ao, no, co, rfl, hno, hmo⟩ := ho.shape
  have HS := Lib.hid hs
  have HO := Lib.hid ho
  have Hm := Lib.hid hm
  have HF := Lib.hid hf
  have Hn := Lib.hid hn
  have hnb : n < 1099511627776 := by omega
  clear hs ho hm hf hn hmx hmo hno hlen
  go_enter Try.func11, Try.ntmps11
  go_wp2
  go_loopw [5, 6] (fun z5 z6 wr => ∃ i : Nat, i ≤ n ∧ z6 = .int .i64 i ∧ RowKit.Hid (RowsOwn wr w.heap.size (sortL os (L.take i)) z5 ∧ Below w.heap.size w wr)) (fun _ z _ => n - (intOf z).toNat)
  case atStart => exact ⟨0, Nat.zero_le _, rfl, Lib.hid ⟨RowsOwn.nil _ _, Below.refl _ _⟩⟩
  case round =>
    rename_i v5 _ _
    obtain ⟨i, hi, rfl, HW⟩ := hrel
    by_cases hlt : i < n
    · have hil : i < L.length := by have := Hn.out; omega
      obtain ⟨b, o, rfl⟩ := HS.out.has i hlt
      obtain ⟨ax, nx, cx, Hcell, Hfar⟩ := HS.out.row i hil
      have Hsn := Lib.hid (sortL_snoc os L i hil)
      have Hlx := Lib.hid (Hm.out _ (List.getElem_mem hil))
      have HlM := Lib.hid (sortL_length os (L.take i))
      have HlT := Lib.hid (show (L.take i).length = i by rw [List.length_take, Nat.min_eq_left (by omega)])
      have Hmm := Lib.hid (show ∀ r ∈ sortL os (L.take i), r.length = m from fun r hr => Hm.out r (List.mem_of_mem_take ((sortL_spec os _).2.mem_iff.1 hr)))
      generalize L[i] = X at *
      generalize sortL os (L.take i) = M at *
      have hMn : M.length = i := by rw [HlM.out, HlT.out]
      obtain ⟨am, cm, hv5⟩ := HW.out.1.shape
      rw [hMn] at hv5
      subst hv5
      have HMn := Lib.hid hMn
      clear hil hMn
      go_wp2
      go_loopw [7] (fun z7 wr => ∃ k : Nat, k ≤ i ∧ z7 = .int .i64 k ∧ RowKit.Hid (∀ y ∈ M.take k, 0 ≤ ordC os X y) ∧ RowKit.Hid (RowsOwn wr w.heap.size M (.slice am i cm) ∧ Below w.heap.size w wr)) (fun z _ => i - (intOf z).toNat)
      case atStart => exact ⟨0, Nat.zero_le _, rfl, Lib.hid (by simp), HW⟩
      case round =>
        clear HW
        obtain ⟨k, hk, rfl, Hlo, HW⟩ := hrel
        obtain ⟨hc, hx, hbl⟩ := Hcell.out _ HW.out.2
        have Hx := Lib.hid hx
        clear hx
        go_upto_region 6 with (fail)
        go_cut [31] from 15 to 31 (fun z wx => ∃ q : Bool, z = .bool q ∧ RowKit.Hid ((q = true → k < i ∧ ∀ y ∈ M.take (k + 1), 0 ≤ ordC os X y) ∧ (q = false → insO os X M = M.take k ++ [X] ++ M.drop k)) ∧ RowKit.Hid (Below wr.heap.size wr wx))
        case first =>
          by_cases hki : k < i
          · have hkM : k < M.length := by have := HMn.out; omega
            have hat := HW.out.1.at
            obtain ⟨bm, om, rfl⟩ := hat.has k hki
            obtain ⟨ay, ny, cy, Hcy, -⟩ := hat.row k hkM
            obtain ⟨hcy, hy, hbm⟩ := Hcy.out _ (Below.refl _ _)
            have ly := Hmm.out _ (List.getElem_mem hkM)
            have HK := Lib.hid (fun w' (hb : Below wr.heap.size wr w') => before_calls os X M[k] _ _ _ m w' (Hx.out.mono hb) (hy.mono hb) (HO.out.mono (HW.out.2.trans (hb.mono HW.out.2.size))) Hlx.out ly HF.out)
            have HQ := Lib.hid (show (0 ≤ ordC os X M[k] → ∀ y ∈ M.take (k + 1), 0 ≤ ordC os X y) ∧ (ordC os X M[k] < 0 → insO os X M = M.take k ++ [X] ++ M.drop k) from ⟨fun h y hy => by
              rw [List.take_succ_eq_append_getElem hkM] at hy
              rcases List.mem_append.1 hy with hy | hy
              · exact Hlo.out y hy
              · rw [List.mem_singleton.1 hy]; exact h, fun h => insO_at os X M k (fun y hy => Int.not_lt.2 (Hlo.out y hy)) (fun y hy => by
              rw [List.getElem?_eq_getElem hkM] at hy
              rw [← Option.some.inj hy]; exact h)⟩)
            clear hy ly Hcy hat
            generalize M[k] = Y at *
            clear hkM
            have i1 : (0 : Int) ≤ k := by omega
            have i2 : (k : Int) < i := by omega
            have i3 : (0 : Int) ≤ i := by omega
            have i4 : (i : Int) < n := by omega
            generalize ordC os X Y = r at *
            go_region_held3 (fun w' => Below wr.heap.size wr w' ∧ ∀ b o, b < wr.heap.size → w'.cell? ⟨b, o, none⟩ = wr.cell? ⟨b, o, none⟩)
              (first | assumption | exact S_of (Below.drew (Below.refl _ _)) | exact S_step (by assumption) (by assumption))
              (first | (go_at_call 28; (with_reducible refine (HK.out _ (by first | assumption | exact And.left (by assumption))).mono ?_); rintro e w1 ⟨rfl, hb1⟩))
            all_goals
              rename_i hH
              have Hbb := Lib.hid hH.1
              clear hH
              go_step
              go_step
              go_meet
              exact ⟨_, rfl, Lib.hid ⟨fun h => ⟨hki, HQ.out.1 (by simpa using h)⟩, fun h => HQ.out.2 (by simpa using h)⟩, Hbb⟩
          · obtain rfl : k = i := by omega
            have HQ := Lib.hid (show insO os X M = M.take k ++ [X] ++ M.drop k from insO_at os X M k (fun y hy => Int.not_lt.2 (Hlo.out y hy)) (fun y hy => by rw [List.getElem?_eq_none (by have := HMn.out; omega)] at hy; cases hy))
            have hd : decide ((k : Int) < k) = false := by simp
            go_quiet (fail)
            go_step
            go_step
            go_meet
            exact ⟨false, rfl, Lib.hid ⟨fun h => (by cases h), fun _ => HQ.out⟩, Lib.hid ⟨rfl, rfl, rfl, Nat.le_refl _, fun _ _ => rfl⟩⟩
        obtain ⟨q, rfl, Hq, Hbb⟩ := hcut
        have HW2 := Lib.hid (show RowsOwn wc w.heap.size M (.slice am i cm) ∧ Below w.heap.size w wc from ⟨HW.out.1.mono Hbb.out, HW.out.2.trans (Hbb.out.mono HW.out.2.size)⟩)
        clear hc hbl Hx HW Hbb
        cases q
        · have HI := Lib.hid (Hq.out.2 rfl)
          clear Hq Hlo
          obtain ⟨i0, ii, iz0, iz1, iz2⟩ := info_parts Try.info61'
          have hin : (k : Int) ≤ i := by omega
          have hk0 : (0 : Int) ≤ k := by omega
          go_upto_region 8 with (fail)
          go_cut [8] from 34 to 38 (fun z wx => ∃ (ad8 : Addr) (c8 : Nat) (ys : List Value), z = .slice (some ad8) (i - k) c8 ∧ RowKit.Hid (RowsOwn wx w.heap.size M (.slice am i cm) ∧ Below w.heap.size w wx ∧ RowVs wx (M.drop k) ys ∧ (∀ y ∈ ys, Far wx w.heap.size y) ∧ (∀ j u, ys[j]? = some u → wx.cell? (ad8.add j) = some u) ∧ (∀ g, am = some ⟨g, 0, none⟩ → ad8.block ≠ g)))
          case first =>
            have hown0 := World.ownsRow_lit (e := 61) (size := 1) wc #[] 0 (Nat.le_refl _) (by simp) (by simp)
            obtain ⟨xs, h1, h2, h3⟩ := HW2.out.1
            have hBs := HW2.out.2.size
            have hbl := (Below.refl wc.heap.size wc).alloc (Nat.le_refl _) (.cells #[] 61)
            have Hbl := Lib.hid hbl
            have HBs := Lib.hid hBs
            have H3 := Lib.hid h3
            rcases h1.2 with ⟨e, e'⟩ | ⟨g, cap, cur, e, hgB, hg, hn1, hc1, hs1, ht1⟩
            · injection e with e1 e2 e3
              subst e1 e2 e3
              obtain rfl : k = 0 := by omega
              have hM : M = [] := List.length_eq_zero_iff.1 HMn.out
              have HM := Lib.hid hM
              clear h1 h2 h3 e' hBs hbl hM
              go_wp2_with (at_builtin; refine wpList_append_own_none rfl _ _ 29 rfl wc.heap.size 61 i0 1 Try.underlying29 ii _ 0 [] rfl hown0 rfl ?_)
              go_meet
              refine ⟨⟨wc.heap.size, 0, none⟩, 0, [], rfl, Lib.hid ⟨HW2.out.1.mono Hbl.out, HW2.out.2.trans (Hbl.out.mono HBs.out), by rw [HM.out]; exact .nil, by simp, by simp, by simp⟩⟩
            · injection e with e1 e2 e3
              have hgl : g < wc.heap.size := (Array.getElem?_eq_some_iff.1 hg).1
              subst e1
              have hcap : i ≤ cm := by rw [e3]; omega
              obtain ⟨ys, y1, y2, y3⟩ := HW2.out.1.behind (k := k)
              have hyl : ys.length = (i - k) * 1 := by rw [y1.length, List.length_drop, HMn.out]; omega
              have Y1 := Lib.hid (show (∀ j u, ys[j]? = some u → (wc.alloc (.cells #[] 61)).cell? ⟨g, k + j, none⟩ = some u) from fun j u hj => (Hbl.out.cell (p := ⟨g, k + j, none⟩) hgl).trans (y3 j u hj))
              have Y2 := Lib.hid y1
              have Y3 := Lib.hid y2
              have HgB := Lib.hid hgB
              have Hgl := Lib.hid hgl
              have Hyl := Lib.hid hyl
              have Hone := Lib.hid y1.one'
              have HFin : RowKit.Hid (∀ v' w', w'.ownsRow wc.heap.size 61 1 v' (0 + (i - k)) ([] ++ ys) → (wc.alloc (.cells #[] 61)).grownBy w' (some wc.heap.size) → ¬ v' = .slice none 0 0 → ∃ (ad8 : Addr) (c8 : Nat) (ys : List Value), v' = .slice (some ad8) (i - k) c8 ∧ RowKit.Hid (RowsOwn w' w.heap.size M (.slice (some ⟨g, 0, none⟩) i cm) ∧ Below w.heap.size w w' ∧ RowVs w' (M.drop k) ys ∧ (∀ y ∈ ys, Far w' w.heap.size y) ∧ (∀ j u, ys[j]? = some u → w'.cell? (ad8.add j) = some u) ∧ (∀ g', some (⟨g, 0, none⟩ : Addr) = some ⟨g', 0, none⟩ → ad8.block ≠ g'))) := by
                refine Lib.hid fun v' w' o1 o2 o3 => ?_
                have hb9 : Below wc.heap.size wc w' := Hbl.out.grown o2 (by simp) (fun j hj => by injection hj with hj; omega)
                rcases o1.2 with ⟨q1, q2⟩ | ⟨g', cap', cur', q1, q2, q3, q4, q5, q6, q7⟩
                · exact absurd q1 o3
                · refine ⟨⟨g', 0, none⟩, cap', ys, by rw [q1, Nat.zero_add], Lib.hid ⟨HW2.out.1.mono hb9, HW2.out.2.trans (hb9.mono HBs.out), Y2.out.mono hb9, Y2.out.far Y3.out hb9, fun j u hj => ?_, fun g2 hg2 => ?_⟩⟩
                  · exact o1.cells (by rw [q1]; rfl) j u (by simpa using hj)
                  · injection hg2 with hg2
                    injection hg2 with hg2
                    show g' ≠ g2
                    have := Hgl.out
                    omega
              have hcm : (k : Int) ≤ cm := by omega
              clear h1 h2 h3 hBs hbl hg hgB hgl hn1 hc1 hs1 ht1 y1 y2 y3 hyl e2 e3
              by_cases hik : k = i
              · subst hik
                have hy0 : ys = [] := List.length_eq_zero_iff.1 (by have := Hyl.out; omega)
                subst hy0
                by_cases hck : cm = k
                · subst hck
                  go_wp2_with (at_builtin; go_loud (refine wpList_append_own _ rfl _ _ 29 rfl wc.heap.size 61 i0 (.slice none 0 0) 1 24 Try.underlying29 ii iz0 iz1 iz2 rfl (by decide) _ 0 [] rfl hown0 ⟨g, 0, none⟩ 0 0 [] rfl rfl (by intro j u hj; simp at hj) (by simp) (by unfold maxLen; omega) (by omega) (by simp) ?_))
                  intro v' w' o1 o2 o3
                  have HR := Lib.hid (HFin.out v' w' (by first | exact o1 | (rw [Nat.sub_self]; exact o1) | (rw [Nat.zero_add, List.nil_append]; exact o1)) o2 (by first | exact o3 | exact fun h => absurd (o3.1 h).1 (by simp)))
                  clear o1 o2 o3 HFin
                  go_wp2_with fail
                  go_meet
                  exact HR.out
                · go_wp2_with (at_builtin; go_loud (refine wpList_append_own _ rfl _ _ 29 rfl wc.heap.size 61 i0 (.slice none 0 0) 1 24 Try.underlying29 ii iz0 iz1 iz2 rfl (by decide) _ 0 [] rfl hown0 ⟨g, k, none⟩ 0 _ [] rfl rfl (by intro j u hj; simp at hj) (by simp) (by unfold maxLen; omega) (by omega) (by simp) ?_))
                  intro v' w' o1 o2 o3
                  have HR := Lib.hid (HFin.out v' w' (by first | exact o1 | (rw [Nat.sub_self]; exact o1) | (rw [Nat.zero_add, List.nil_append]; exact o1)) o2 (by first | exact o3 | exact fun h => absurd (o3.1 h).1 (by simp)))
                  clear o1 o2 o3 HFin
                  go_wp2_with fail
                  go_meet
                  exact HR.out
              · have hck : ¬ cm = k := by omega
                have hik0 : ¬ i - k = 0 := by omega
                go_wp2_with (at_builtin; go_loud (refine wpList_append_own _ rfl _ _ 29 rfl wc.heap.size 61 i0 (.slice none 0 0) 1 24 Try.underlying29 ii iz0 iz1 iz2 rfl (by decide) _ 0 [] rfl hown0 ⟨g, k, none⟩ (i - k) _ ys rfl Hyl.out (by intro j u hj; have := Y1.out j u hj; rw [addr_add]; exact this) Hone.out (by unfold maxLen; omega) (by omega) (by simp) ?_))
                intro v' w' o1 o2 o3
                have HR := Lib.hid (HFin.out v' w' (by first | exact o1 | (rw [Nat.sub_self]; exact o1) | (rw [Nat.zero_add, List.nil_append]; exact o1)) o2 (by first | exact o3 | exact fun h => absurd (o3.1 h).1 (by simp)))
                clear o1 o2 o3 HFin
                go_wp2_with fail
                go_meet
                exact HR.out
          obtain ⟨ad8, c8, ys, rfl, HF8⟩ := hcut
          clear HW2
          go_upto_region 9 with (fail)
          obtain ⟨hc, hx, hbl⟩ := Hcell.out _ HF8.out.2.1
          have Hx := Lib.hid hx
          have Hxf := Lib.hid (Hfar.out wc)
          have hBs := HF8.out.2.1.size
          have HBs := Lib.hid hBs
          have HN := Lib.hid (show sortL os (L.take (i + 1)) = M.take k ++ [X] ++ M.drop k by rw [Hsn.out, HI.out])
          have Hlen := Lib.hid (show (M.take k).length = k ∧ (M.drop k).length = i - k by rw [List.length_take, List.length_drop, HMn.out, Nat.min_eq_left hk]; exact ⟨rfl, rfl⟩)
          clear hx hBs
          have i1 : (0 : Int) ≤ i := by omega
          have i2 : (i : Int) < n := by omega
          rcases HF8.out.1 with ⟨xs, h1, h2, h3⟩
          rcases h1.2 with ⟨e, e'⟩ | ⟨g, cap, cur, e, hgB, hg, hn1, hc1, hs1, ht1⟩
          · injection e with e1 e2 e3
            subst e1 e2 e3
            obtain rfl : k = 0 := by omega
            rw [Nat.add_zero] at hc
            have hM : M = [] := List.length_eq_zero_iff.1 HMn.out
            have HM0 := Lib.hid (show M.take 0 ++ [X] ++ M.drop 0 = [X] by rw [hM]; rfl)
            have HT := Lib.hid (fun w' (hb : Below wc.heap.size wc w') => RowsOwn.nil w' w.heap.size)
            have HY0 := Lib.hid (show ∀ W w1, Below wc.heap.size wc W → W.grownBy w1 none → True from fun _ _ _ _ => trivial)
            have HXf := Lib.hid (show ∀ W, Below wc.heap.size wc W → RowVs W [X] [.slice ax nx cx] ∧ (∀ y ∈ [Value.slice ax nx cx], Far W w.heap.size y) ∧ w.heap.size ≤ W.heap.size ∧ Below w.heap.size w W from fun W hb => ⟨.one (Hx.out.mono hb), by intro y hy; rw [List.mem_singleton.1 hy]; exact Hfar.out W, Nat.le_trans HBs.out hb.size, HF8.out.2.1.trans (hb.mono HBs.out)⟩)
            clear h1 h2 h3 e' hM
            go_region_law (first | (refine step_rows rfl (.tmp 41) (.tmp 46) rfl w.heap.size [] [X] _ rfl (HT.out _ (by first | exact (Below.refl _ _).alloc (Nat.le_refl _) _ | exact (Below.refl _ _).drew.alloc (Nat.le_refl _) _ | exact ((Below.refl _ _).alloc (Nat.le_refl _) _).drew)) _ _ 1 [.slice ax nx cx] rfl rfl (by intro j u hj; match j, hj with | 0, hj => (simp at hj; subst hj; simp [Addr.add])) (HXf.out _ (by first | exact (Below.refl _ _).alloc (Nat.le_refl _) _ | exact (Below.refl _ _).drew.alloc (Nat.le_refl _) _ | exact ((Below.refl _ _).alloc (Nat.le_refl _) _).drew)).1 (HXf.out _ (by first | exact (Below.refl _ _).alloc (Nat.le_refl _) _ | exact (Below.refl _ _).drew.alloc (Nat.le_refl _) _ | exact ((Below.refl _ _).alloc (Nat.le_refl _) _).drew)).2.1 (by simp) (HXf.out _ (by first | exact (Below.refl _ _).alloc (Nat.le_refl _) _ | exact (Below.refl _ _).drew.alloc (Nat.le_refl _) _ | exact ((Below.refl _ _).alloc (Nat.le_refl _) _).drew)).2.2.1 ?_; intro v1 w1 a1 a2 a3; have A2 := Lib.hid ((HXf.out _ (by first | exact (Below.refl _ _).alloc (Nat.le_refl _) _ | exact (Below.refl _ _).drew.alloc (Nat.le_refl _) _ | exact ((Below.refl _ _).alloc (Nat.le_refl _) _).drew)).2.2.2.trans a2); have A3 := Lib.hid (HY0.out _ _ (by first | exact (Below.refl _ _).alloc (Nat.le_refl _) _ | exact (Below.refl _ _).drew.alloc (Nat.le_refl _) _ | exact ((Below.refl _ _).alloc (Nat.le_refl _) _).drew) a3); clear a2 a3; have A1 := Lib.hid a1; clear a1) | (refine step_rows rfl (.tmp 47) (.tmp 48) rfl w.heap.size ([X]) [] _ rfl A1.out ad8 _ 0 [] rfl rfl (by intro j u hj; simp at hj) .nil (by simp) (by simp) A2.out.size ?_; intro v2 w2 a1 a2 a3; have A4 := Lib.hid (show RowsOwn w2 w.heap.size (sortL os (L.take (0 + 1))) v2 ∧ Below w.heap.size w w2 from ⟨by rw [HN.out, HM0.out]; exact a1, A2.out.trans a2⟩); clear a1 a2 a3 A1 A2 A3))
            go_wp2
            go_roundw
            case rel => exact ⟨0 + 1, by omega, by go_num, A4⟩
            case measure => simp [intOf]; omega
          · injection e with e1 e2 e3
            have hgl : g < wc.heap.size := (Array.getElem?_eq_some_iff.1 hg).1
            subst e1
            have hcap : i ≤ cm := by rw [e3]; omega
            have hcm : (k : Int) ≤ cm := by omega
            have HT := Lib.hid (fun w' (hb : Below wc.heap.size wc w') => (HF8.out.1.take hk).mono hb)
            have HY := Lib.hid (show ∀ W w1, Below wc.heap.size wc W → W.grownBy w1 (some g) → RowVs w1 (M.drop k) ys ∧ (∀ y ∈ ys, Far w1 w.heap.size y) ∧ ∀ j u, ys[j]? = some u → w1.cell? (ad8.add j) = some u from fun W w1 hb hgr => by
              obtain ⟨xs', q1, q2, q3⟩ := HT.out W hb
              have := (HF8.out.2.2.1.mono hb).grown (HF8.out.2.2.1.far HF8.out.2.2.2.1 hb) q1 hgr
              refine ⟨this.1, this.2, fun j u hj => ?_⟩
              have h5 := HF8.out.2.2.2.2.1 j u hj
              have h6 := World.block_lt_of_cell? _ _ h5
              have h7 : (ad8.add j).block = ad8.block := by unfold Addr.add; split <;> rfl
              exact hgr.cell ((hb.cell h6).trans h5) (by rw [h7]; intro e; exact HF8.out.2.2.2.2.2 g rfl (Option.some.inj e)))
            have HXf := Lib.hid (show ∀ W, Below wc.heap.size wc W → RowVs W [X] [.slice ax nx cx] ∧ (∀ y ∈ [Value.slice ax nx cx], Far W w.heap.size y) ∧ w.heap.size ≤ W.heap.size ∧ Below w.heap.size w W from fun W hb => ⟨.one (Hx.out.mono hb), by intro y hy; rw [List.mem_singleton.1 hy]; exact Hfar.out W, Nat.le_trans HBs.out hb.size, HF8.out.2.1.trans (hb.mono HBs.out)⟩)
            clear h1 h2 h3 hg hn1 hc1 hs1 ht1 e2 e3
            go_region_law (first | (refine step_rows rfl (.tmp 41) (.tmp 46) rfl w.heap.size (M.take k) [X] _ rfl (HT.out _ (by first | exact (Below.refl _ _).alloc (Nat.le_refl _) _ | exact (Below.refl _ _).drew.alloc (Nat.le_refl _) _ | exact ((Below.refl _ _).alloc (Nat.le_refl _) _).drew)) _ _ 1 [.slice ax nx cx] rfl rfl (by intro j u hj; match j, hj with | 0, hj => (simp at hj; subst hj; simp [Addr.add])) (HXf.out _ (by first | exact (Below.refl _ _).alloc (Nat.le_refl _) _ | exact (Below.refl _ _).drew.alloc (Nat.le_refl _) _ | exact ((Below.refl _ _).alloc (Nat.le_refl _) _).drew)).1 (HXf.out _ (by first | exact (Below.refl _ _).alloc (Nat.le_refl _) _ | exact (Below.refl _ _).drew.alloc (Nat.le_refl _) _ | exact ((Below.refl _ _).alloc (Nat.le_refl _) _).drew)).2.1 (by have := Hlen.out; omega) (HXf.out _ (by first | exact (Below.refl _ _).alloc (Nat.le_refl _) _ | exact (Below.refl _ _).drew.alloc (Nat.le_refl _) _ | exact ((Below.refl _ _).alloc (Nat.le_refl _) _).drew)).2.2.1 ?_; intro v1 w1 a1 a2 a3; have A2 := Lib.hid ((HXf.out _ (by first | exact (Below.refl _ _).alloc (Nat.le_refl _) _ | exact (Below.refl _ _).drew.alloc (Nat.le_refl _) _ | exact ((Below.refl _ _).alloc (Nat.le_refl _) _).drew)).2.2.2.trans a2); have A3 := Lib.hid (HY.out _ _ (by first | exact (Below.refl _ _).alloc (Nat.le_refl _) _ | exact (Below.refl _ _).drew.alloc (Nat.le_refl _) _ | exact ((Below.refl _ _).alloc (Nat.le_refl _) _).drew) a3); clear a2 a3; have A1 := Lib.hid a1; clear a1) | (refine step_rows rfl (.tmp 47) (.tmp 48) rfl w.heap.size (M.take k ++ [X]) (M.drop k) _ rfl A1.out ad8 _ (i - k) ys rfl Hlen.out.2.symm A3.out.2.2 A3.out.1 A3.out.2.1 (by rw [List.length_append]; have := Hlen.out; simp; omega) A2.out.size ?_; intro v2 w2 a1 a2 a3; have A4 := Lib.hid (show RowsOwn w2 w.heap.size (sortL os (L.take (i + 1))) v2 ∧ Below w.heap.size w w2 from ⟨by rw [HN.out]; exact a1, A2.out.trans a2⟩); clear a1 a2 a3 A1 A2 A3))
            go_wp2
            go_roundw
            case rel => exact ⟨i + 1, by omega, by go_num, A4⟩
            case measure => simp [intOf]; omega
        · have HI := Lib.hid (Hq.out.1 rfl)
          have hki := HI.out.1
          clear Hq Hlo
          go_wp2
          go_roundw
          case rel => exact ⟨k + 1, by omega, by go_num, Lib.hid HI.out.2, HW2⟩
          case measure => simp [intOf]; omega
    · obtain rfl : i = n := by omega
      have HE := Lib.hid HW.out
      rw [List.take_of_length_le (by have := Hn.out; omega)] at HE
      clear HW
      obtain ⟨am, cm, hv5⟩ := HE.out.1.shape
      subst hv5
      go_wp2
      go_ret
      exact ⟨_, rfl, HE.out⟩
end Go.Proofs.Ytodabeibdgancaa
/- usable. -/
namespace Go.Proofs.Ytodabeibdgancaa
open Go Go.RowKit
/-- What usable tells of rows and orders. -/
def Usable (L : List Rw) (os : List Od) : Prop := L.length ≤ 40 ∧ os.length ≤ 6 ∧ ∃ m, m < 1099511627776 ∧ (∀ r ∈ L, r.length = m) ∧ OrdsFit os m
def UsableEnd (L : List Rw) (os : List Od) (w : World) (e : Ending) (w' : World) : Prop := ∃ q : Bool, e = .returned (.bool q) ∧ (q = true → Usable L os) ∧ Below w.heap.size w w'
set_option maxHeartbeats 8000000 in
set_option maxRecDepth 20000 in
theorem usable_calls (os : List Od) (L : List Rw) (s so : Value) (w : World) (hs : RowsAt w L s) (ho : OrdsAt w os so) :
    Calls Try.prog 7 #[s, so] w (UsableEnd L os w) := by
  obtain ⟨a, n, c, rfl, hn, hmx⟩ := hs.shape
  obtain ⟨ao, no, co, rfl, hno, hmo⟩ := ho.shape
  unfold maxLen at hmx hmo
  have HS := Lib.hid hs
  have HO := Lib.hid ho
  have Hn := Lib.hid hn
  have Hno := Lib.hid hno
  clear hs ho hn hno
  by_cases h1 : 40 < n
  · go_enter Try.func7, Try.ntmps7
    go_wp2
    go_ret
    exact ⟨false, rfl, fun h => (by cases h), Below.refl _ _⟩
  by_cases h2 : 6 < no
  · go_enter Try.func7, Try.ntmps7
    go_wp2
    go_ret
    exact ⟨false, rfl, fun h => (by cases h), Below.refl _ _⟩
  have hn40 : n ≤ 40 := by omega
  have hno6 : no ≤ 6 := by omega
  go_enter Try.func7, Try.ntmps7
  go_upto_if 20 with (fail)
  go_cut [5] from 21 to 24 (fun z wx => ∃ m : Nat, m ≤ 9223372036854775807 ∧ z = .int .i64 m ∧ RowKit.Hid ((∀ r, L[0]? = some r → r.length = m) ∧ (L = [] → m = 1)) ∧ w = wx)
  case first =>
    by_cases h0 : 0 < n
    · have hl : 0 < L.length := by have := Hn.out; omega
      obtain ⟨b, o, rfl⟩ := HS.out.has 0 h0
      obtain ⟨x, hc, hx⟩ := HS.out.cell 0 hl
      have hbl := HS.out.lt hl
      obtain ⟨ax, nx, cx, rfl, hnx, hmx'⟩ := hx.shape
      rw [Nat.add_zero] at hc
      have HL := Lib.hid (show (∀ r, L[0]? = some r → r.length = nx) ∧ (L = [] → nx = 1) from ⟨fun r hr => by rw [List.getElem?_eq_getElem hl] at hr; rw [← Option.some.inj hr, hnx], fun h => by rw [h] at hl; simp at hl⟩)
      unfold maxLen at hmx'
      clear hx hnx hl
      go_wp2_with fail
      go_meet
      exact ⟨nx, by omega, rfl, HL, rfl⟩
    · have h00 : n = 0 := by omega
      have HL := Lib.hid (show (∀ r, L[0]? = some r → r.length = 1) ∧ (L = [] → 1 = 1) from ⟨fun r hr => by rw [List.getElem?_eq_none (by have := Hn.out; omega)] at hr; exact absurd hr (by simp), fun _ => rfl⟩)
      subst h00
      go_wp2_with fail
      go_meet
      exact ⟨1, by omega, rfl, Lib.hid ⟨HL.out.1, fun _ => rfl⟩, rfl⟩
  obtain ⟨m, hm, rfl, Hm0, rfl⟩ := hcut
  go_wp2_with fail
  go_loopw [27] (fun z wr => ∃ k : Nat, k ≤ n ∧ z = .int .i64 k ∧ RowKit.Hid (∀ r ∈ L.take k, r.length = m ∧ m ≤ 4) ∧ RowKit.Hid (Below w.heap.size w wr)) (fun z _ => n - (intOf z).toNat)
  case atStart => exact ⟨0, Nat.zero_le _, rfl, Lib.hid (by simp), Lib.hid (Below.refl _ _)⟩
  case round =>
    obtain ⟨k, hk, rfl, Hr, Hb⟩ := hrel
    by_cases hlt : k < n
    · have hkl : k < L.length := by have := Hn.out; omega
      obtain ⟨b, o, rfl⟩ := HS.out.has k hlt
      obtain ⟨ax, nx, cx, Hcell, -⟩ := HS.out.row k hkl
      obtain ⟨hc, hx, hbl⟩ := Hcell.out _ Hb.out
      have hsx : nx = L[k].length ∧ nx ≤ 9223372036854775807 := by
        obtain ⟨_, _, _, e, h1, h2⟩ := hx.shape
        injection e with e1 e2 e3
        unfold maxLen at h2
        omega
      have HT := Lib.hid (show nx = m → m ≤ 4 → ∀ r ∈ L.take (k + 1), r.length = m ∧ m ≤ 4 from fun e1 e2 r hr => by
        rw [List.take_succ_eq_append_getElem hkl] at hr
        rcases List.mem_append.1 hr with hr | hr
        · exact Hr.out r hr
        · rw [List.mem_singleton.1 hr]; exact ⟨by omega, e2⟩)
      have hx2 := hsx.2
      clear hx hsx
      by_cases q : nx = m ∧ 1 ≤ m ∧ m ≤ 4
      · have e1 : ((nx : Int) != m) = false := by simp; omega
        have e2 : ¬ (m : Int) < 1 := by omega
        have e3 : ¬ (4 : Int) < m := by omega
        have HT2 := Lib.hid (HT.out q.1 q.2.2)
        clear q HT
        go_wp2_with fail
        go_roundw
        case rel => exact ⟨k + 1, by omega, by go_num, HT2, Hb⟩
        case measure => simp [intOf]; omega
      · have Hq := Lib.hid q
        clear q HT
        by_cases q1 : nx = m
        · have e1 : ((nx : Int) != m) = false := by simp; omega
          by_cases q2 : 1 ≤ m
          · have e2 : ¬ (m : Int) < 1 := by omega
            have e3 : (4 : Int) < m := by have := Hq.out; omega
            have Hq1 := Lib.hid q1
            clear q1
            go_wp2_with fail
            go_ret
            exact ⟨false, rfl, fun h => (by cases h), Hb.out⟩
          · have e2 : (m : Int) < 1 := by omega
            have Hq1 := Lib.hid q1
            clear q1
            go_wp2_with fail
            go_ret
            exact ⟨false, rfl, fun h => (by cases h), Hb.out⟩
        · have e1 : ((nx : Int) != m) = true := by simp; omega
          go_wp2_with fail
          go_ret
          exact ⟨false, rfl, fun h => (by cases h), Hb.out⟩
    · obtain rfl : k = n := by omega
      have HR := Lib.hid (show (∀ r ∈ L, r.length = m ∧ m ≤ 4) from fun r hr => Hr.out r (by rw [List.take_of_length_le (by have := Hn.out; omega)]; exact hr))
      clear Hr
      go_wp2_with fail
      go_loopw [46] (fun z wr => ∃ j : Nat, j ≤ no ∧ z = .int .i64 j ∧ RowKit.Hid (OrdsFit (os.take j) m) ∧ RowKit.Hid (Below w.heap.size w wr)) (fun z _ => no - (intOf z).toNat)
      case atStart => exact ⟨0, Nat.zero_le _, rfl, Lib.hid (by unfold OrdsFit; simp), Hb⟩
      case round =>
        clear Hb
        obtain ⟨j, hj, rfl, Ho, Hb⟩ := hrel
        by_cases hlt : j < no
        · have hjl : j < os.length := by have := Hno.out; omega
          obtain ⟨b, o, rfl, hbl, c0, c1⟩ := (HO.out.mono Hb.out).at j hjl
          have HT := Lib.hid (show 1 ≤ (os[j]).item → (os[j]).item ≤ m → OrdsFit (os.take (j + 1)) m from fun e1 e2 x hx => by
            rw [List.take_succ_eq_append_getElem hjl] at hx
            rcases List.mem_append.1 hx with hx | hx
            · exact Ho.out x hx
            · rw [List.mem_singleton.1 hx]; exact ⟨e1, e2⟩)
          generalize os[j].item = it at *
          generalize os[j].desc = ds at *
          have V := VarIs.new wr #[.int .i64 it, .bool ds] 68
          have Hb1 := Lib.hid (show Below w.heap.size w (wr.alloc (.cells #[.int .i64 it, .bool ds] 68)) from Hb.out.alloc Hb.out.size _)
          clear V
          by_cases q1 : it < 1
          · go_wp2_with fail
            go_ret
            exact ⟨false, rfl, fun h => (by cases h), Hb1.out⟩
          · by_cases q2 : (m : Int) < it
            · go_wp2_with fail
              go_ret
              exact ⟨false, rfl, fun h => (by cases h), Hb1.out⟩
            · have HT2 := Lib.hid (HT.out (by omega) (by omega))
              clear HT
              go_wp2_with fail
              go_roundw
              case rel => exact ⟨j + 1, by omega, by go_num, HT2, Hb1⟩
              case measure => simp [intOf]; omega
        · obtain rfl : j = no := by omega
          have HU := Lib.hid (show Usable L os from ⟨by have := Hn.out; omega, by have := Hno.out; omega, by
            have ho : OrdsFit os m := by have := Ho.out; rwa [List.take_of_length_le (by have := Hno.out; omega)] at this
            by_cases hL : 0 < L.length
            · have h4 := HR.out L[0] (List.getElem_mem hL)
              exact ⟨m, by omega, fun r hr => (HR.out r hr).1, ho⟩
            · have hL0 : L = [] := List.length_eq_zero_iff.1 (by omega)
              have := Hm0.out.2 hL0
              exact ⟨m, by omega, fun r hr => (HR.out r hr).1, ho⟩⟩)
          go_wp2_with fail
          go_ret
          exact ⟨true, rfl, fun _ => HU.out, Hb.out⟩
end Go.Proofs.Ytodabeibdgancaa
/- AggregateSort: the walk. -/
namespace Go.Proofs.Ytodabeibdgancaa
open Go Go.RowKit
set_option maxHeartbeats 4000000 in
theorem sortLaw_calls (os : List Od) (L : List Rw) (s so : Value) (w : World) (hs : RowsAt w L s) (ho : OrdsAt w os so) :
    Calls Try.prog 4 #[s, so] w fun e w' => e = .returned (.bool true) ∧ Below w.heap.size w w' := by
  have HS := Lib.hid hs
  have HO := Lib.hid ho
  obtain ⟨a, n, c, rfl, -⟩ := hs.shape
  obtain ⟨ao, no, co, rfl, -⟩ := ho.shape
  have HA := Lib.hid (awake_calls w)
  clear hs ho
  go_enter Try.func4, Try.ntmps4
  go_wp2_with fail
  (with_reducible refine HA.out.mono ?_)
  rintro e w1 ⟨rfl, hb1⟩
  have HU := Lib.hid (usable_calls os L _ _ w1 (HS.out.mono hb1) (HO.out.mono hb1))
  have Hb1 := Lib.hid hb1
  clear hb1 HA
  go_wp2_with fail
  (with_reducible refine HU.out.mono ?_)
  rintro e w2 ⟨q, rfl, hq, hb2⟩
  have Hb2 := Lib.hid (Hb1.out.trans (hb2.mono Hb1.out.size))
  clear hb2 HU Hb1
  cases q with
  | false =>
    clear hq
    go_wp2
    go_ret
    exact ⟨rfl, Hb2.out⟩
  | true =>
    obtain ⟨q1, q2, m, q3, q4, q5⟩ := hq rfl
    have HC := Lib.hid (copied_calls L _ w2 (HS.out.mono Hb2.out) (fun r hr => by rw [q4 r hr]; exact q3) (by omega))
    have HSo := Lib.hid (fun (u : Value) (w' : World) (hb : Below w.heap.size w w') (hu : RowsAt w' L u) => sort_calls os L m u _ w' hu (HO.out.mono hb) q4 q5 (by omega) q3)
    have HRs := Lib.hid (fun (w' : World) (hb : Below w.heap.size w w') => rsort_calls os L m _ _ w' (HS.out.mono hb) (HO.out.mono hb) q4 q5 (by omega))
    clear hq q1 q2 q3 q4 q5
    go_wp2_with fail
    (with_reducible refine HC.out.mono ?_)
    rintro e w3 ⟨u, rfl, hu, hb3⟩
    have Hb3 := Lib.hid (Hb2.out.trans (hb3.mono Hb2.out.size))
    have HS3 := Lib.hid (HSo.out u w3 Hb3.out hu.at)
    obtain ⟨ua, uc, rfl⟩ := hu.shape
    clear hu hb3 HC HSo Hb2
    go_wp2_with fail
    (with_reducible refine HS3.out.mono ?_)
    rintro e w4 ⟨v, rfl, hv, hb4⟩
    have Hb4 := Lib.hid (Hb3.out.trans (hb4.mono Hb3.out.size))
    have HR4 := Lib.hid (HRs.out w4 Hb4.out)
    have Hv := Lib.hid hv.at
    obtain ⟨va, vc, rfl⟩ := hv.shape
    clear hv hb4 HS3 HRs Hb3
    go_wp2_with fail
    (with_reducible refine HR4.out.mono ?_)
    rintro e w5 ⟨x, rfl, hx, hb5⟩
    have Hb5 := Lib.hid (Hb4.out.trans (hb5.mono Hb4.out.size))
    have HSa := Lib.hid (same_calls (sortL os L) (sortL os L) _ _ w5 (Hv.out.mono hb5) hx.at)
    obtain ⟨xa, xc, rfl⟩ := hx.shape
    clear hx hb5 HR4 Hb4 Hv
    go_wp2_with fail
    (with_reducible refine HSa.out.mono ?_)
    rintro e w6 ⟨rfl, hb6⟩
    have HF := Lib.hid (Hb5.out.trans (hb6.mono Hb5.out.size))
    clear hb6 HSa Hb5
    go_wp2
    go_ret
    exact ⟨rfl, HF.out⟩
end Go.Proofs.Ytodabeibdgancaa
