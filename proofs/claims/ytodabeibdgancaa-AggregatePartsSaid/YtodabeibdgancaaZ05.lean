/- Part 5 of the proof: Gc, Gp, Wg, Gd, Gr, Pa, Pb, Sg, Rt, Ru, Rv, Rw, E4, Ax -/
import Derived.Test.YtodabeibdgancaaZ04
import Derived.Test.YtodabeibdgancaaZ02
import Derived.Test.YtodabeibdgancaaZ03
import Derived.Laws.Rows
import Derived.Deep.MidRow
import Derived.Shelf.Abstract
import Derived.Test.YtodabeibdgancaaZ00
/- Groups' comparison. -/
namespace Go.Proofs.Ytodabeibdgancaa
open Go Go.RowKit
def keyC (es : List Xp) (x y : Rw) : Int := cmpR (keyV es x) (keyV es y)
theorem keyC_ord3 (es : List Xp) : Ord3 (cc (keyC es)) :=
  ⟨fun x y => by unfold cc keyC; have := cmpR_swap (keyV es x.r) (keyV es y.r); omega, fun x y z h1 h2 => cmpR_le h1 h2⟩
noncomputable def oGc : Array Oper := ((Try.f53.body).bind fun c => opsOf c 1).getD #[]
theorem Try.size56 : (Try.prog.info? 56).map (·.size) = some 26 := by kernel_rfl
/-- A whole struct is loaded. -/
theorem exec_load_row {P : Program} {o : Oper} {a : Act} {w : World} (ty : TypeId) (x : Operand) (ho : o.op = .load ty x)
    (g : Nat) (hx : a.eval x = .pointer (some ⟨g, 0, none⟩)) (t : TypeId) (cs : Array Value) (fr : Nat × Nat) (d : TypeDesc) (hg : w.heap[g]? = some (.cells cs t fr))
    (hu : P.underlying ty = some d) (hd : (match d with | .struct _ | .array _ _ => true | _ => false) = true) (hi : (P.info? ty).map (·.size) = some cs.size) :
    (execOp a.eval o).run P w = .ok (.value (.agg cs)) w := by
  unfold execOp
  simp only [ho, hx, Instr.loadAt, Instr.sureAddr, Sem.run_bind, Sem.run_pure, Result.andThen_ok, run_loadVar_row w g t ty cs fr d hg hu hd hi]
/-- What holds while the comparison's region is carried out. -/
structure GcE (W : World) (KX KY : Rw) (c : Int) (L : Nat → Bool) (g : Nat → Value) (w : World) : Prop where
  below : Below W.heap.size W w
  x : L 2 = true → ValsAt w KX (g 8)
  y : L 5 = true → ValsAt w KY (g 11)
  z : L 6 = true → g 12 = .int .i64 c
  r : L 7 = true → g 5 = .int .i64 c
set_option maxHeartbeats 4000000 in
set_option maxRecDepth 100000 in
theorem rGc {Q : Exit → Act → World → Prop} {a : Act} {w : World} (A : Array Value) (hA : A.size = 26) (bb : Nat) (sx sy : Value) (KX KY : Rw) (hsz : a.tmps.size = 13) (h0 : a.eval (.tmp 0) = sx) (h1 : a.eval (.tmp 1) = sy) (h2 : a.eval (.tmp 2) = .pointer (some ⟨bb, 0, none⟩))
    (hbb : w.heap[bb]? = some (.cells A 56 (0, 0)))
    (HX : ∀ w', Below w.heap.size w w' → Calls Try.prog 54 #[.agg A, sx] w' fun e w'' => ∃ v, e = .returned v ∧ ValsAt w'' KX v ∧ Below w'.heap.size w' w'')
    (HY : ∀ w', Below w.heap.size w w' → Calls Try.prog 54 #[.agg A, sy] w' fun e w'' => ∃ v, e = .returned v ∧ ValsAt w'' KY v ∧ Below w'.heap.size w' w'')
    (ops : Array Oper) (hops : ops = oGc) (hQ : ∀ a1 w1, FrameLike a a1 [6, 7, 8, 9, 10, 11, 12, 5] → a1.eval (.tmp 5) = .int .i64 (cmpR KX KY) → Below w.heap.size w w1 → Q .normal a1 w1) : (Code.region 1 ops true).wp Try.prog Q a w := by
  subst hops
  have hsize : oGc.size = 8 := by kernel_rfl
  have hbl : bb < w.heap.size := (Array.getElem?_eq_some_iff.1 hbb).1
  have hE : Looks (GcE w KX KY (cmpR KX KY)) [2, 5, 6, 7] [8, 11, 12, 5] := by
    intro L L' g g' w1 hL hg h
    exact ⟨h.below, fun e => by rw [← hg 8 (by decide)]; exact h.x (by rw [hL 2 (by decide)]; exact e), fun e => by rw [← hg 11 (by decide)]; exact h.y (by rw [hL 5 (by decide)]; exact e), fun e => by rw [← hg 12 (by decide)]; exact h.z (by rw [hL 6 (by decide)]; exact e), fun e => by rw [← hg 5 (by decide)]; exact h.r (by rw [hL 7 (by decide)]; exact e)⟩
  have hn1 : (([(0, 6, .agg A), (1, 7, sx), (3, 9, .agg A), (4, 10, sy)] : List (Nat × Nat × Value)).map (·.1)).Nodup := by
    show List.Nodup [0, 1, 3, 4]
    decide
  have hn2 : (([(0, 6, .agg A), (1, 7, sx), (3, 9, .agg A), (4, 10, sy)] : List (Nat × Nat × Value)).map (·.2.1)).Nodup := by
    show List.Nodup [6, 7, 9, 10]
    decide
  refine wp_region_vals (ops' := oGc) [6, 7, 8, 9, 10, 11, 12, 5] [(0, 6, .agg A), (1, 7, sx), (3, 9, .agg A), (4, 10, sy)] (GcE w KX KY (cmpR KX KY)) rfl (by kernel_rfl) (by kernel_rfl) ⟨Below.drew (Below.refl _ _), fun h => (by cases h), fun h => (by cases h), fun h => (by cases h), fun h => (by cases h)⟩ ?_ ?_
  · intro oi o L a1 w1 ho hL hdep hI
    have hoi : oi < 8 := by have := (Array.getElem?_eq_some_iff.1 ho).1; omega
    have h1sz : a1.tmps.size = 13 := hI.frame.size.trans hsz
    have hblk : w1.heap[bb]? = some (.cells A 56 (0, 0)) := (hI.eff.below.block bb hbl).trans hbb
    rcases (by omega : oi = 0 ∨ oi = 1 ∨ oi = 2 ∨ oi = 3 ∨ oi = 4 ∨ oi = 5 ∨ oi = 6 ∨ oi = 7) with rfl | rfl | rfl | rfl | rfl | rfl | rfl | rfl
    · have hl : oGc[0]? = some ⟨some 6, Op.load _ (Operand.tmp 2), _, _, _, none⟩ := rfl
      obtain rfl := Option.some.inj (ho.symm.trans hl)
      have x2 := hI.old 2 (.pointer (some ⟨bb, 0, none⟩)) (by decide) h2
      exact hI.read hE 0 6 (.agg A) ho rfl rfl hdep (by decide) (by rw [hsz]; decide) (by decide) (by decide) (vals_at hn1 hn2 0 rfl) (exec_load_row 56 (.tmp 2) rfl bb (by simpa [Act.eval] using x2) 56 A (0, 0) _ hblk Try.underlying56 rfl (by rw [hA]; exact Try.size56))
    · have hl : oGc[1]? = some ⟨some 7, Op.move (Operand.tmp 0), _, _, _, none⟩ := rfl
      obtain rfl := Option.some.inj (ho.symm.trans hl)
      have x0 := hI.old 0 sx (by decide) h0
      exact hI.read hE 1 7 sx ho rfl rfl hdep (by decide) (by rw [hsz]; decide) (by decide) (by decide) (vals_at hn1 hn2 1 rfl) (by simp [go_sem, execOp, Act.eval, x0])
    · have hl : oGc[2]? = some ⟨some 8, Op.call ⟨Callee.value (Operand.func _), #[Operand.tmp 6, Operand.tmp 7], _⟩, _, _, _, none⟩ := rfl
      obtain rfl := Option.some.inj (ho.symm.trans hl)
      have x6 := hI.val 0 6 (.agg A) (List.mem_of_getElem? (i := 0) rfl) (dep_of ho hdep (by kernel_rfl : waitsB oGc 2 0 = true))
      have x7 := hI.val 1 7 sx (List.mem_of_getElem? (i := 1) rfl) (dep_of ho hdep (by kernel_rfl : waitsB oGc 2 1 = true))
      have hS1 := hI.eff
      have e2 : L 2 = false := hL
      have e5 : L 5 = false := hI.no hL (by kernel_rfl : waitsB oGc 5 2 = true)
      have e6 : L 6 = false := hI.no hL (by kernel_rfl : waitsB oGc 6 2 = true)
      have e7 : L 7 = false := hI.no e6 (by kernel_rfl : waitsB oGc 7 6 = true)
      refine inv_call ho rfl (f := 54) (by simp [go_sem, Act.eval, x6, x7]) (HX w1 hS1.below) ?_
      rintro e w2 ⟨v2, rfl, hv2, hb2⟩
      refine ⟨_, rfl, hI.put 2 8 _ ho hdep (by decide) (by intro t ht; exact vals_ne2 rfl rfl (by decide : 2 ∉ [0, 1, 3, 4]) (by decide : 8 ∉ [6, 7, 9, 10]) ht) ?_⟩
      exact ⟨hS1.below.trans (hb2.mono hS1.below.size), fun _ => by rw [eval_put_same (by rw [h1sz]; decide : 8 < a1.tmps.size)]; exact hv2, fun h => by simp [e5] at h, fun h => by simp [e6] at h, fun h => by simp [e7] at h⟩
    · have hl : oGc[3]? = some ⟨some 9, Op.load _ (Operand.tmp 2), _, _, _, none⟩ := rfl
      obtain rfl := Option.some.inj (ho.symm.trans hl)
      have x2 := hI.old 2 (.pointer (some ⟨bb, 0, none⟩)) (by decide) h2
      exact hI.read hE 3 9 (.agg A) ho rfl rfl hdep (by decide) (by rw [hsz]; decide) (by decide) (by decide) (vals_at hn1 hn2 2 rfl) (exec_load_row 56 (.tmp 2) rfl bb (by simpa [Act.eval] using x2) 56 A (0, 0) _ hblk Try.underlying56 rfl (by rw [hA]; exact Try.size56))
    · have hl : oGc[4]? = some ⟨some 10, Op.move (Operand.tmp 1), _, _, _, none⟩ := rfl
      obtain rfl := Option.some.inj (ho.symm.trans hl)
      have x1 := hI.old 1 sy (by decide) h1
      exact hI.read hE 4 10 sy ho rfl rfl hdep (by decide) (by rw [hsz]; decide) (by decide) (by decide) (vals_at hn1 hn2 3 rfl) (by simp [go_sem, execOp, Act.eval, x1])
    · have hl : oGc[5]? = some ⟨some 11, Op.call ⟨Callee.value (Operand.func _), #[Operand.tmp 9, Operand.tmp 10], _⟩, _, _, _, none⟩ := rfl
      obtain rfl := Option.some.inj (ho.symm.trans hl)
      have x9 := hI.val 3 9 (.agg A) (List.mem_of_getElem? (i := 2) rfl) (dep_of ho hdep (by kernel_rfl : waitsB oGc 5 3 = true))
      have x10 := hI.val 4 10 sy (List.mem_of_getElem? (i := 3) rfl) (dep_of ho hdep (by kernel_rfl : waitsB oGc 5 4 = true))
      have hS1 := hI.eff
      have e2 : L 2 = true := dep_of ho hdep (by kernel_rfl : waitsB oGc 5 2 = true)
      have e5 : L 5 = false := hL
      have e6 : L 6 = false := hI.no hL (by kernel_rfl : waitsB oGc 6 5 = true)
      have e7 : L 7 = false := hI.no e6 (by kernel_rfl : waitsB oGc 7 6 = true)
      refine inv_call ho rfl (f := 54) (by simp [go_sem, Act.eval, x9, x10]) (HY w1 hS1.below) ?_
      rintro e w2 ⟨v2, rfl, hv2, hb2⟩
      refine ⟨_, rfl, hI.put 5 11 _ ho hdep (by decide) (by intro t ht; exact vals_ne2 rfl rfl (by decide : 5 ∉ [0, 1, 3, 4]) (by decide : 11 ∉ [6, 7, 9, 10]) ht) ?_⟩
      exact ⟨hS1.below.trans (hb2.mono hS1.below.size), fun _ => by rw [eval_put_ne (by decide : 11 ≠ 8)]; exact (hS1.x e2).mono hb2, fun _ => by rw [eval_put_same (by rw [h1sz]; decide : 11 < a1.tmps.size)]; exact hv2, fun h => by simp [e6] at h, fun h => by simp [e7] at h⟩
    · have hl : oGc[6]? = some ⟨some 12, Op.call ⟨Callee.value (Operand.func _), #[Operand.tmp 8, Operand.tmp 11], _⟩, _, _, _, none⟩ := rfl
      obtain rfl := Option.some.inj (ho.symm.trans hl)
      have hS1 := hI.eff
      have e2 : L 2 = true := dep_of ho hdep (by kernel_rfl : waitsB oGc 6 2 = true)
      have e5 : L 5 = true := dep_of ho hdep (by kernel_rfl : waitsB oGc 6 5 = true)
      have e7 : L 7 = false := hI.no hL (by kernel_rfl : waitsB oGc 7 6 = true)
      obtain ⟨vx, hvx⟩ : ∃ v, a1.eval (.tmp 8) = v := ⟨_, rfl⟩
      obtain ⟨vy, hvy⟩ : ∃ v, a1.eval (.tmp 11) = v := ⟨_, rfl⟩
      have x8 := eval_spell hvx
      have x11 := eval_spell hvy
      have q1 := hS1.x e2
      have q2 := hS1.y e5
      rw [hvx] at q1
      rw [hvy] at q2
      refine inv_call ho rfl (f := 26) (by simp [go_sem, Act.eval, x8, x11]) (compareRows_calls KX KY vx vy w1 q1 q2) ?_
      rintro e w2 ⟨rfl, hb2⟩
      refine ⟨_, rfl, hI.put 6 12 _ ho hdep (by decide) (by intro t ht; exact vals_ne2 rfl rfl (by decide : 6 ∉ [0, 1, 3, 4]) (by decide : 12 ∉ [6, 7, 9, 10]) ht) ?_⟩
      exact ⟨hS1.below.trans (hb2.mono hS1.below.size), fun _ => by rw [eval_put_ne (by decide : 12 ≠ 8)]; exact (hS1.x e2).mono hb2, fun _ => by rw [eval_put_ne (by decide : 12 ≠ 11)]; exact (hS1.y e5).mono hb2, fun _ => eval_put_same (by rw [h1sz]; decide : 12 < a1.tmps.size), fun h => by simp [e7] at h⟩
    · have hl : oGc[7]? = some ⟨some 5, Op.assign (Operand.tmp 12), _, _, _, none⟩ := rfl
      obtain rfl := Option.some.inj (ho.symm.trans hl)
      have hS1 := hI.eff
      have e6 : L 6 = true := dep_of ho hdep (by kernel_rfl : waitsB oGc 7 6 = true)
      have hz : a1.eval (.tmp 12) = .int .i64 (cmpR KX KY) := hS1.z e6
      have x12 := eval_spell hz
      refine inv_value (w' := w1) ho rfl (v := .int .i64 (cmpR KX KY)) (by simp [go_sem, execOp, Act.eval, x12]) ?_
      refine hI.put 7 5 _ ho hdep (by decide) (by intro t ht; exact vals_ne2 rfl rfl (by decide : 7 ∉ [0, 1, 3, 4]) (by decide : 5 ∉ [6, 7, 9, 10]) ht) ?_
      exact ⟨hS1.below, fun h => by rw [eval_put_ne (by decide : 5 ≠ 8)]; exact hS1.x (by simpa using h), fun h => by rw [eval_put_ne (by decide : 5 ≠ 11)]; exact hS1.y (by simpa using h), fun _ => by rw [eval_put_ne (by decide : 5 ≠ 12)]; exact hS1.z e6, fun _ => eval_put_same (by rw [h1sz]; decide : 5 < a1.tmps.size)⟩
  · intro L a1 w1 hL hI
    exact hQ a1 w1 hI.frame (hI.eff.r (hL 7 (by rw [hsize]; decide))) hI.eff.below
set_option maxHeartbeats 8000000 in
set_option maxRecDepth 20000 in
theorem groups1_calls (bd : Bd) (es : List Xp) (X Y : Rw) (sx sy : Value) (bb : Nat) (w : World) (hx : ValsAt w X sx) (hy : ValsAt w Y sy) (he : XpsAt w es (.slice bd.group.a bd.group.n bd.group.c)) (hb : w.heap[bb]? = some (.cells bd.arr 56 (0, 0))) (hfx : KeyFit es X.length) (hfy : KeyFit es Y.length) (hl : es.length < 1099511627776) :
    Calls Try.prog 53 #[sx, sy, .pointer (some ⟨bb, 0, none⟩)] w fun e w' => e = .returned (.int .i64 (keyC es X Y)) ∧ Below w.heap.size w w' := by
  have HX : RowKit.Hid (∀ w', Below w.heap.size w w' → Calls Try.prog 54 #[.agg bd.arr, sx] w' (fun e w'' => ∃ v, e = .returned v ∧ ValsAt w'' (keyV es X) v ∧ Below w'.heap.size w' w'')) := by
    refine Lib.hid fun w' h => ?_
    refine (key_calls bd es X _ w' (he.mono h) (hx.mono h) hfx hl).mono ?_
    rintro e w'' ⟨v, h1, h2, h3⟩
    exact ⟨v, h1, h2.vals, h3⟩
  have HY : RowKit.Hid (∀ w', Below w.heap.size w w' → Calls Try.prog 54 #[.agg bd.arr, sy] w' (fun e w'' => ∃ v, e = .returned v ∧ ValsAt w'' (keyV es Y) v ∧ Below w'.heap.size w' w'')) := by
    refine Lib.hid fun w' h => ?_
    refine (key_calls bd es Y _ w' (he.mono h) (hy.mono h) hfy hl).mono ?_
    rintro e w'' ⟨v, h1, h2, h3⟩
    exact ⟨v, h1, h2.vals, h3⟩
  have HV := Lib.hid hb
  have HA := Lib.hid (show bd.arr.size = 26 from rfl)
  clear hx hy he hfx hfy hl hb
  generalize bd.arr = A at *
  go_enter Try.func53, Try.ntmps53
  go_upto_region 1 with (fail)
  refine rGc A HA.out bb sx sy (keyV es X) (keyV es Y) rfl rfl rfl rfl HV.out HX.out HY.out _ (by kernel_rfl) ?_
  intro a1 w1 hf h5 hb1
  go_step
  go_step
  go_step
  exact bodyPost_ret (v := .int .i64 (keyC es X Y)) ((results_tmp Try.results53 _ _ _).trans (congrArg (fun v => Result.ok v w1) h5)) hf.defers ⟨rfl, hb1⟩
end Go.Proofs.Ytodabeibdgancaa
/- Groups, in plain words. -/
namespace Go.Proofs.Ytodabeibdgancaa
section
variable {α : Type} {c : α → α → Int}
theorem stEq_cons {x : α} {l m : List α} (h : StEq c (x :: l) (x :: m)) : StEq c l m := fun z => by
  have := h z
  rw [List.filter_cons, List.filter_cons] at this
  split at this
  · exact (List.cons.inj this).2
  · exact this
theorem stEq_uniq (hc : Ord3 c) : ∀ {l m : List α}, AscC c l → AscC c m → StEq c l m → l = m
  | [], [], _, _, _ => rfl
  | [], y :: m, _, _, h => absurd (h.mem hc (List.mem_cons_self ..)) (by simp)
  | x :: l, [], _, _, h => absurd (h.symm.mem hc (List.mem_cons_self ..)) (by simp)
  | x :: l, y :: m, h1, h2, h => by
    obtain ⟨a1, a2⟩ := List.pairwise_cons.1 h1
    obtain ⟨b1, b2⟩ := List.pairwise_cons.1 h2
    have hx : c x y ≤ 0 := by
      rcases List.mem_cons.1 (h.mem hc (List.mem_cons_self .. : y ∈ y :: m)) with e | e
      · subst e; rw [hc.self]; exact Int.le_refl _
      · exact a1 y e
    have hy : c y x ≤ 0 := by
      rcases List.mem_cons.1 (h.symm.mem hc (List.mem_cons_self .. : x ∈ x :: l)) with e | e
      · subst e; rw [hc.self]; exact Int.le_refl _
      · exact b1 x e
    have e0 : c y x = 0 := by have := hc.anti y x; have := hc.anti x y; omega
    have e := h x
    rw [List.filter_cons, List.filter_cons, if_pos (by simp [hc.self]), if_pos (by simp [e0])] at e
    have exy : x = y := (List.cons.inj e).1
    subst exy
    rw [stEq_uniq hc a2 b2 (stEq_cons h)]
end
/-- The stable order by keys. -/
def insK (es : List Xp) (x : Rw) : List Rw → List Rw
  | [] => [x]
  | y :: l => if keyC es x y < 0 then x :: y :: l else y :: insK es x l
def stS (es : List Xp) (L : List Rw) : List Rw := L.foldl (fun l x => insK es x l) []
theorem keyC_ord (es : List Xp) : Ord3 (keyC es) :=
  ⟨fun x y => by unfold keyC; have := cmpR_swap (keyV es x) (keyV es y); omega, fun x y z h1 h2 => cmpR_le h1 h2⟩
theorem insK_asc (es : List Xp) (x : Rw) : ∀ {l : List Rw}, AscC (keyC es) l → AscC (keyC es) (insK es x l) ∧ StEq (keyC es) (l ++ [x]) (insK es x l)
  | [], _ => ⟨List.pairwise_singleton _ _, StEq.refl _⟩
  | y :: l, h => by
    obtain ⟨h1, h2⟩ := List.pairwise_cons.1 h
    unfold insK
    split
    · rename_i hlt
      refine ⟨List.pairwise_cons.2 ⟨fun z hz => ?_, h⟩, ?_⟩
      · rcases List.mem_cons.1 hz with rfl | hz
        · omega
        · exact (keyC_ord es).trans _ _ _ (by omega) (h1 z hz)
      · exact (StEq.swap (keyC_ord es) (u := y :: l) (v := [x]) fun a ha b hb => by
          rw [List.mem_singleton.1 hb]
          rcases List.mem_cons.1 ha with rfl | ha
          · exact hlt
          · exact (keyC_ord es).lt_le hlt (h1 a ha))
    · rename_i hlt
      obtain ⟨i1, i2⟩ := insK_asc es x h2
      refine ⟨List.pairwise_cons.2 ⟨fun z hz => ?_, i1⟩, (StEq.refl [y]).app i2⟩
      have := i2.mem (keyC_ord es) hz
      rcases List.mem_append.1 this with hz | hz
      · exact h1 z hz
      · rw [List.mem_singleton.1 hz]; exact (keyC_ord es).le hlt
theorem stS_spec (es : List Xp) (L : List Rw) : AscC (keyC es) (stS es L) ∧ StEq (keyC es) L (stS es L) := by
  have : ∀ (L l : List Rw), AscC (keyC es) l → AscC (keyC es) (L.foldl (fun l x => insK es x l) l) ∧ StEq (keyC es) (l ++ L) (L.foldl (fun l x => insK es x l) l) := by
    intro L
    induction L with
    | nil => intro l h; exact ⟨h, by rw [List.append_nil]; exact StEq.refl _⟩
    | cons x L ih =>
      intro l h
      obtain ⟨i1, i2⟩ := insK_asc es x h
      obtain ⟨h1, h2⟩ := ih _ i1
      refine ⟨h1, ?_⟩
      have := i2.app (StEq.refl (c := keyC es) L)
      rw [List.append_assoc] at this
      exact this.trans h2
  exact this L [] List.Pairwise.nil
theorem stS_eq (es : List Xp) {X Z : List Cel} (ha : AscC (cc (keyC es)) Z) (he : StEq (cc (keyC es)) X Z) : Z.map Cel.r = stS es (X.map Cel.r) := by
  obtain ⟨h1, h2⟩ := stS_spec es (X.map Cel.r)
  refine stEq_uniq (keyC_ord es) ?_ h1 (StEq.trans ?_ h2)
  · unfold AscC; rw [List.pairwise_map]; exact ha
  · intro z
    rw [List.filter_map, List.filter_map]
    have := he ⟨z, none, 0, 0⟩
    unfold cc at this
    exact congrArg (List.map Cel.r) this.symm
/-- The groups of rows that are in order: a row begins one unless it has the key of the row before. -/
def stepG (es : List Xp) (s : List (List Rw) × Option Rw) (r : Rw) : List (List Rw) × Option Rw :=
  (match s.2 with
    | none => s.1 ++ [[r]]
    | some p => if keyC es p r = 0 then s.1.dropLast ++ [s.1.getLastD [] ++ [r]] else s.1 ++ [[r]], some r)
def grpS (es : List Xp) (l : List Rw) : List (List Rw) := (l.foldl (stepG es) ([], none)).1
def groupsL (es : List Xp) (L : List Rw) : List (List Rw) := if es.length = 0 then [L] else grpS es (stS es L)
theorem grp_state (es : List Xp) (l : List Rw) (k : Nat) (hk : k < l.length) : (l.take (k + 1)).foldl (stepG es) ([], none) = (((l.take (k + 1)).foldl (stepG es) ([], none)).1, some l[k]) := by
  rw [List.take_succ_eq_append_getElem hk, List.foldl_append]
  rfl
theorem grpS_zero (es : List Xp) (l : List Rw) (h : 0 < l.length) : grpS es (l.take 1) = [[l[0]]] := by
  unfold grpS
  rw [List.take_succ_eq_append_getElem h]
  rfl
theorem grpS_succ (es : List Xp) (l : List Rw) (k : Nat) (hk : k + 1 < l.length) : grpS es (l.take (k + 1 + 1)) = if keyC es (l[k]) (l[k + 1]) = 0 then (grpS es (l.take (k + 1))).dropLast ++ [(grpS es (l.take (k + 1))).getLastD [] ++ [l[k + 1]]] else grpS es (l.take (k + 1)) ++ [[l[k + 1]]] := by
  unfold grpS
  rw [List.take_succ_eq_append_getElem hk, List.foldl_append, grp_state es l k (by omega)]
  rfl
theorem grpS_ne (es : List Xp) (l : List Rw) (k : Nat) (hk : k < l.length) : ∃ Gs G, grpS es (l.take (k + 1)) = Gs ++ [G] := by
  cases k with
  | zero => exact ⟨[], [l[0]], by rw [grpS_zero es l hk]; rfl⟩
  | succ k =>
    rw [grpS_succ es l k hk]
    split
    · exact ⟨_, _, rfl⟩
    · exact ⟨_, _, rfl⟩
theorem stepG_flat (es : List Xp) (s : List (List Rw) × Option Rw) (r : Rw) (h : s.2 = none ∨ s.1 ≠ []) : (stepG es s r).1.flatten = s.1.flatten ++ [r] ∧ (stepG es s r).1 ≠ [] := by
  obtain ⟨gs, p⟩ := s
  cases p with
  | none => simp [stepG]
  | some p =>
    have hne : gs ≠ [] := by rcases h with h | h; (cases h); exact h
    unfold stepG
    dsimp only
    split
    · refine ⟨?_, by simp⟩
      rw [List.flatten_append, List.flatten_cons, List.flatten_nil, List.append_nil, ← List.append_assoc]
      congr 1
      obtain ⟨g0, gl, rfl⟩ : ∃ g0 gl, gs = g0 ++ [gl] := by
        rcases List.eq_nil_or_concat gs with h | ⟨a, b, h⟩
        · exact absurd h hne
        · exact ⟨a, b, by rw [h, List.concat_eq_append]⟩
      simp
    · simp
theorem grpS_flat (es : List Xp) (l : List Rw) : (grpS es l).flatten = l := by
  have : ∀ (l : List Rw) (s : List (List Rw) × Option Rw), (s.2 = none ∨ s.1 ≠ []) → (l.foldl (stepG es) s).1.flatten = s.1.flatten ++ l := by
    intro l
    induction l with
    | nil => intro s _; simp
    | cons r l ih =>
      intro s h
      obtain ⟨h1, h2⟩ := stepG_flat es s r h
      rw [List.foldl_cons, ih _ (.inr h2), h1, List.append_assoc]
      rfl
  exact this l ([], none) (.inl rfl)
theorem grpS_le (es : List Xp) (l : List Rw) (Gs : List (List Rw)) (G : List Rw) (h : grpS es l = Gs ++ [G]) : G.length ≤ l.length := by
  have := congrArg List.length (grpS_flat es l)
  rw [h, List.flatten_append, List.length_append] at this
  simp at this
  omega
end Go.Proofs.Ytodabeibdgancaa
/- A guard that is met. -/
namespace Go.Proofs.Ytodabeibdgancaa
open Go Go.RowKit
theorem want_g {ops : Array Oper} {o oj : Oper} {j d : Nat} {b : Bool} {tmps : Array Value} (hg : o.guard = some (j, b)) (hj : ops[j]? = some oj) (hd : oj.dst = some d) (hv : tmps[d]?.getD undef = .bool b) : Region.wanted o (yielded ops tmps) = true := by
  have h1 : tmps[d]? = some (.bool b) := by
    cases h : tmps[d]? with
    | none => rw [h] at hv; cases hv
    | some v => rw [h] at hv; exact congrArg some hv
  unfold Region.wanted yielded
  simp [hg, hj, hd, h1]
end Go.Proofs.Ytodabeibdgancaa
/- Groups: whether a row begins a group: its region. (Printed by gd_gen.py.) -/
namespace Go.Proofs.Ytodabeibdgancaa
open Go Go.RowKit
noncomputable def oGd : Array Oper := ((Try.f43.body).bind fun c => opsOf c 14).getD #[]
structure GdE (W : World) (KX KY : Rw) (L : Nat → Bool) (g : Nat → Value) (w : World) : Prop where
  below : Below W.heap.size W w
  x : L 9 = true → ValsAt w KX (g 53)
  y : L 12 = true → ValsAt w KY (g 56)
  z : L 13 = true → g 57 = .int .i64 (cmpR KX KY)
  b : L 14 = true → g 58 = .bool (cmpR KX KY != 0)
  r : L 15 = true → g 59 = .bool (cmpR KX KY != 0)
set_option maxHeartbeats 4000000 in
set_option maxRecDepth 100000 in
theorem rGd {Q : Exit → Act → World → Prop} {a : Act} {w : World} (A : Array Value) (hA : A.size = 26) (bb g n cp i j pn pc : Nat) (px : Option Addr) (sr : Value) (KX KY : Rw) (hsz : a.tmps.size = 79) (h2 : a.eval (.tmp 2) = .pointer (some ⟨bb, 0, none⟩)) (h5 : a.eval (.tmp 5) = .slice (some ⟨g, 0, none⟩) n cp) (h9 : a.eval (.tmp 9) = .int .i64 i) (h10 : a.eval (.tmp 10) = sr)
    (hi : i = j + 1) (hjn : (j : Int) < n) (hn : n < 1099511627776)
    (hbb : w.heap[bb]? = some (.cells A 56 (0, 0))) (hgl : g < w.heap.size) (hc : w.cell? ⟨g, j, none⟩ = some (.slice px pn pc))
    (HX : ∀ w', Below w.heap.size w w' → Calls Try.prog 54 #[.agg A, .slice px pn pc] w' fun e w'' => ∃ v, e = .returned v ∧ ValsAt w'' KX v ∧ Below w'.heap.size w' w'')
    (HY : ∀ w', Below w.heap.size w w' → Calls Try.prog 54 #[.agg A, sr] w' fun e w'' => ∃ v, e = .returned v ∧ ValsAt w'' KY v ∧ Below w'.heap.size w' w'')
    (ops : Array Oper) (hops : ops = oGd) (hQ : ∀ (u : Nat → Value) w1, u 59 = .bool (cmpR KX KY != 0) → Below w.heap.size w w1 → Q .normal (putK a (([44, 45, 46, 47, 48, 49, 50, 51, 52, 53, 54, 55, 56, 57, 58, 59] : List Nat).map fun d => (d, u d))) w1) : (Code.region 14 ops true).wp Try.prog Q a w := by
  subst hops
  have hsize : oGd.size = 16 := by kernel_rfl
  have hbl : bb < w.heap.size := (Array.getElem?_eq_some_iff.1 hbb).1
  have hi0 : ((i : Int) == 0) = false := by simp; omega
  have hij : IntKind.i64.wrap ((i : Int) - 1) = j := by rw [show (i : Int) - 1 = j by omega]; exact IntWalk.i64_in _ (by omega)
  have hj0 : (0 : Int) ≤ j := by omega
  have hE : Looks (GdE w KX KY) [9, 12, 13, 14, 15] [53, 56, 57, 58, 59] := by
    intro L L' g g' w1 hL hg h
    exact ⟨h.below, fun e => by rw [← hg 53 (by decide)]; exact h.x (by rw [hL 9 (by decide)]; exact e), fun e => by rw [← hg 56 (by decide)]; exact h.y (by rw [hL 12 (by decide)]; exact e), fun e => by rw [← hg 57 (by decide)]; exact h.z (by rw [hL 13 (by decide)]; exact e), fun e => by rw [← hg 58 (by decide)]; exact h.b (by rw [hL 14 (by decide)]; exact e), fun e => by rw [← hg 59 (by decide)]; exact h.r (by rw [hL 15 (by decide)]; exact e)⟩
  have hn1 : (([(0, 44, .int .i64 i), (1, 45, .bool false), (2, 46, .bool false), (3, 47, .agg A), (4, 48, .slice (some ⟨g, 0, none⟩) n cp), (5, 49, .int .i64 i), (6, 50, .int .i64 j), (7, 51, .pointer (some ⟨g, j, none⟩)), (8, 52, .slice px pn pc), (10, 54, .agg A), (11, 55, sr)] : List (Nat × Nat × Value)).map (·.1)).Nodup := by
    show List.Nodup [0, 1, 2, 3, 4, 5, 6, 7, 8, 10, 11]
    decide
  have hn2 : (([(0, 44, .int .i64 i), (1, 45, .bool false), (2, 46, .bool false), (3, 47, .agg A), (4, 48, .slice (some ⟨g, 0, none⟩) n cp), (5, 49, .int .i64 i), (6, 50, .int .i64 j), (7, 51, .pointer (some ⟨g, j, none⟩)), (8, 52, .slice px pn pc), (10, 54, .agg A), (11, 55, sr)] : List (Nat × Nat × Value)).map (·.2.1)).Nodup := by
    show List.Nodup [44, 45, 46, 47, 48, 49, 50, 51, 52, 54, 55]
    decide
  refine wp_region_vals (ops' := oGd) [44, 45, 46, 47, 48, 49, 50, 51, 52, 53, 54, 55, 56, 57, 58, 59] [(0, 44, .int .i64 i), (1, 45, .bool false), (2, 46, .bool false), (3, 47, .agg A), (4, 48, .slice (some ⟨g, 0, none⟩) n cp), (5, 49, .int .i64 i), (6, 50, .int .i64 j), (7, 51, .pointer (some ⟨g, j, none⟩)), (8, 52, .slice px pn pc), (10, 54, .agg A), (11, 55, sr)] (GdE w KX KY) rfl (by kernel_rfl) (by kernel_rfl) ⟨Below.drew (Below.refl _ _), fun h => (by cases h), fun h => (by cases h), fun h => (by cases h), fun h => (by cases h), fun h => (by cases h)⟩ ?_ ?_
  · intro oi o L a1 w1 ho hL hdep hI
    have hoi : oi < 16 := by have := (Array.getElem?_eq_some_iff.1 ho).1; omega
    have h1sz : a1.tmps.size = 79 := hI.frame.size.trans hsz
    have hblk : w1.heap[bb]? = some (.cells A 56 (0, 0)) := (hI.eff.below.block bb hbl).trans hbb
    have hcell : w1.cell? ⟨g, j, none⟩ = some (.slice px pn pc) := (hI.eff.below.cell (p := ⟨g, j, none⟩) hgl).trans hc
    have hgj : oGd[2]? = some ⟨some 46, Op.move (Operand.tmp 45), _, _, _, none⟩ := rfl
    rcases (by omega : oi = 0 ∨ oi = 1 ∨ oi = 2 ∨ oi = 3 ∨ oi = 4 ∨ oi = 5 ∨ oi = 6 ∨ oi = 7 ∨ oi = 8 ∨ oi = 9 ∨ oi = 10 ∨ oi = 11 ∨ oi = 12 ∨ oi = 13 ∨ oi = 14 ∨ oi = 15) with rfl | rfl | rfl | rfl | rfl | rfl | rfl | rfl | rfl | rfl | rfl | rfl | rfl | rfl | rfl | rfl
    · have hl : oGd[0]? = some ⟨some 44, Op.move (Operand.tmp 9), _, _, _, none⟩ := rfl
      obtain rfl := Option.some.inj (ho.symm.trans hl)
      have x9 := hI.old 9 (.int .i64 i) (by decide) h9
      exact hI.read hE 0 44 (.int .i64 i) ho rfl rfl hdep (by decide) (by rw [hsz]; decide) (by decide) (by decide) (vals_at hn1 hn2 0 rfl) (by simp [go_sem, execOp, Act.eval, x9])
    · have hl : oGd[1]? = some ⟨some 45, Op.binOp BinOp.eql _ (Operand.tmp 44) (Operand.const (Value.int IntKind.i64 0)) _, _, _, _, none⟩ := rfl
      obtain rfl := Option.some.inj (ho.symm.trans hl)
      have x44 := hI.val 0 44 (.int .i64 i) (List.mem_of_getElem? (i := 0) rfl) (dep_of ho hdep (by kernel_rfl : waitsB oGd 1 0 = true))
      exact hI.read hE 1 45 (.bool false) ho rfl rfl hdep (by decide) (by rw [hsz]; decide) (by decide) (by decide) (vals_at hn1 hn2 1 rfl) (by simp [go_sem, execOp, Act.eval, x44, hi0])
    · have hl : oGd[2]? = some ⟨some 46, Op.move (Operand.tmp 45), _, _, _, none⟩ := rfl
      obtain rfl := Option.some.inj (ho.symm.trans hl)
      have x45 := hI.val 1 45 (.bool false) (List.mem_of_getElem? (i := 1) rfl) (dep_of ho hdep (by kernel_rfl : waitsB oGd 2 1 = true))
      exact hI.read hE 2 46 (.bool false) ho rfl rfl hdep (by decide) (by rw [hsz]; decide) (by decide) (by decide) (vals_at hn1 hn2 2 rfl) (by simp [go_sem, execOp, Act.eval, x45])
    · have hl : oGd[3]? = some ⟨some 47, Op.load _ (Operand.tmp 2), _, _, _, some (2, false)⟩ := rfl
      obtain rfl := Option.some.inj (ho.symm.trans hl)
      have x2 := hI.old 2 (.pointer (some ⟨bb, 0, none⟩)) (by decide) h2
      have x46 := hI.val 2 46 (.bool false) (List.mem_of_getElem? (i := 2) rfl) (dep_of ho hdep (by kernel_rfl : waitsB oGd 3 2 = true))
      exact hI.read hE 3 47 (.agg A) ho rfl (want_g rfl hgj rfl x46) hdep (by decide) (by rw [hsz]; decide) (by decide) (by decide) (vals_at hn1 hn2 3 rfl) (exec_load_row 56 (.tmp 2) rfl bb (by simpa [Act.eval] using x2) 56 A (0, 0) _ hblk Try.underlying56 rfl (by rw [hA]; exact Try.size56))
    · have hl : oGd[4]? = some ⟨some 48, Op.move (Operand.tmp 5), _, _, _, some (2, false)⟩ := rfl
      obtain rfl := Option.some.inj (ho.symm.trans hl)
      have x46 := hI.val 2 46 (.bool false) (List.mem_of_getElem? (i := 2) rfl) (dep_of ho hdep (by kernel_rfl : waitsB oGd 4 2 = true))
      have x5 := hI.old 5 (.slice (some ⟨g, 0, none⟩) n cp) (by decide) h5
      exact hI.read hE 4 48 (.slice (some ⟨g, 0, none⟩) n cp) ho rfl (want_g rfl hgj rfl x46) hdep (by decide) (by rw [hsz]; decide) (by decide) (by decide) (vals_at hn1 hn2 4 rfl) (by simp [go_sem, execOp, Act.eval, x5])
    · have hl : oGd[5]? = some ⟨some 49, Op.move (Operand.tmp 9), _, _, _, some (2, false)⟩ := rfl
      obtain rfl := Option.some.inj (ho.symm.trans hl)
      have x46 := hI.val 2 46 (.bool false) (List.mem_of_getElem? (i := 2) rfl) (dep_of ho hdep (by kernel_rfl : waitsB oGd 5 2 = true))
      have x9 := hI.old 9 (.int .i64 i) (by decide) h9
      exact hI.read hE 5 49 (.int .i64 i) ho rfl (want_g rfl hgj rfl x46) hdep (by decide) (by rw [hsz]; decide) (by decide) (by decide) (vals_at hn1 hn2 5 rfl) (by simp [go_sem, execOp, Act.eval, x9])
    · have hl : oGd[6]? = some ⟨some 50, Op.binOp BinOp.sub _ (Operand.tmp 49) (Operand.const (Value.int IntKind.i64 1)) _, _, _, _, some (2, false)⟩ := rfl
      obtain rfl := Option.some.inj (ho.symm.trans hl)
      have x46 := hI.val 2 46 (.bool false) (List.mem_of_getElem? (i := 2) rfl) (dep_of ho hdep (by kernel_rfl : waitsB oGd 6 2 = true))
      have x49 := hI.val 5 49 (.int .i64 i) (List.mem_of_getElem? (i := 5) rfl) (dep_of ho hdep (by kernel_rfl : waitsB oGd 6 5 = true))
      exact hI.read hE 6 50 (.int .i64 j) ho rfl (want_g rfl hgj rfl x46) hdep (by decide) (by rw [hsz]; decide) (by decide) (by decide) (vals_at hn1 hn2 6 rfl) (by simp [go_sem, execOp, Act.eval, x49, hij])
    · have hl : oGd[7]? = some ⟨some 51, Op.indexAddr _ (Operand.tmp 48) (Operand.tmp 50), _, _, _, some (2, false)⟩ := rfl
      obtain rfl := Option.some.inj (ho.symm.trans hl)
      have x46 := hI.val 2 46 (.bool false) (List.mem_of_getElem? (i := 2) rfl) (dep_of ho hdep (by kernel_rfl : waitsB oGd 7 2 = true))
      have x48 := hI.val 4 48 (.slice (some ⟨g, 0, none⟩) n cp) (List.mem_of_getElem? (i := 4) rfl) (dep_of ho hdep (by kernel_rfl : waitsB oGd 7 4 = true))
      have x50 := hI.val 6 50 (.int .i64 j) (List.mem_of_getElem? (i := 6) rfl) (dep_of ho hdep (by kernel_rfl : waitsB oGd 7 6 = true))
      exact hI.read hE 7 51 (.pointer (some ⟨g, j, none⟩)) ho rfl (want_g rfl hgj rfl x46) hdep (by decide) (by rw [hsz]; decide) (by decide) (by decide) (vals_at hn1 hn2 7 rfl) (by simp [go_sem, execOp, Act.eval, x48, x50, hj0, hjn])
    · have hl : oGd[8]? = some ⟨some 52, Op.load _ (Operand.tmp 51), _, _, _, some (2, false)⟩ := rfl
      obtain rfl := Option.some.inj (ho.symm.trans hl)
      have x46 := hI.val 2 46 (.bool false) (List.mem_of_getElem? (i := 2) rfl) (dep_of ho hdep (by kernel_rfl : waitsB oGd 8 2 = true))
      have x51 := hI.val 7 51 (.pointer (some ⟨g, j, none⟩)) (List.mem_of_getElem? (i := 7) rfl) (dep_of ho hdep (by kernel_rfl : waitsB oGd 8 7 = true))
      exact hI.read hE 8 52 (.slice px pn pc) ho rfl (want_g rfl hgj rfl x46) hdep (by decide) (by rw [hsz]; decide) (by decide) (by decide) (vals_at hn1 hn2 8 rfl) (by simp [go_sem, execOp, Act.eval, x51, hcell])
    · have hl : oGd[9]? = some ⟨some 53, Op.call ⟨Callee.value (Operand.func _), #[Operand.tmp 47, Operand.tmp 52], _⟩, _, _, _, some (2, false)⟩ := rfl
      obtain rfl := Option.some.inj (ho.symm.trans hl)
      have x46 := hI.val 2 46 (.bool false) (List.mem_of_getElem? (i := 2) rfl) (dep_of ho hdep (by kernel_rfl : waitsB oGd 9 2 = true))
      have x47 := hI.val 3 47 (.agg A) (List.mem_of_getElem? (i := 3) rfl) (dep_of ho hdep (by kernel_rfl : waitsB oGd 9 3 = true))
      have x52 := hI.val 8 52 (.slice px pn pc) (List.mem_of_getElem? (i := 8) rfl) (dep_of ho hdep (by kernel_rfl : waitsB oGd 9 8 = true))
      have hS1 := hI.eff
      have e12 : L 12 = false := hI.no hL (by kernel_rfl : waitsB oGd 12 9 = true)
      have e13 : L 13 = false := hI.no hL (by kernel_rfl : waitsB oGd 13 9 = true)
      have e14 : L 14 = false := hI.no e13 (by kernel_rfl : waitsB oGd 14 13 = true)
      have e15 : L 15 = false := hI.no e14 (by kernel_rfl : waitsB oGd 15 14 = true)
      refine inv_call ho (want_g rfl hgj rfl x46) (f := 54) (by simp [go_sem, Act.eval, x47, x52]) (HX w1 hS1.below) ?_
      rintro e w2 ⟨v2, rfl, hv2, hb2⟩
      refine ⟨_, rfl, hI.put 9 53 _ ho hdep (by decide) (by intro t ht; exact vals_ne2 rfl rfl (by decide : 9 ∉ [0, 1, 2, 3, 4, 5, 6, 7, 8, 10, 11]) (by decide : 53 ∉ [44, 45, 46, 47, 48, 49, 50, 51, 52, 54, 55]) ht) ?_⟩
      exact ⟨hS1.below.trans (hb2.mono hS1.below.size), fun _ => by rw [eval_put_same (by rw [h1sz]; decide : 53 < a1.tmps.size)]; exact hv2, fun h => by simp [e12] at h, fun h => by simp [e13] at h, fun h => by simp [e14] at h, fun h => by simp [e15] at h⟩
    · have hl : oGd[10]? = some ⟨some 54, Op.load _ (Operand.tmp 2), _, _, _, some (2, false)⟩ := rfl
      obtain rfl := Option.some.inj (ho.symm.trans hl)
      have x2 := hI.old 2 (.pointer (some ⟨bb, 0, none⟩)) (by decide) h2
      have x46 := hI.val 2 46 (.bool false) (List.mem_of_getElem? (i := 2) rfl) (dep_of ho hdep (by kernel_rfl : waitsB oGd 10 2 = true))
      exact hI.read hE 10 54 (.agg A) ho rfl (want_g rfl hgj rfl x46) hdep (by decide) (by rw [hsz]; decide) (by decide) (by decide) (vals_at hn1 hn2 9 rfl) (exec_load_row 56 (.tmp 2) rfl bb (by simpa [Act.eval] using x2) 56 A (0, 0) _ hblk Try.underlying56 rfl (by rw [hA]; exact Try.size56))
    · have hl : oGd[11]? = some ⟨some 55, Op.move (Operand.tmp 10), _, _, _, some (2, false)⟩ := rfl
      obtain rfl := Option.some.inj (ho.symm.trans hl)
      have x46 := hI.val 2 46 (.bool false) (List.mem_of_getElem? (i := 2) rfl) (dep_of ho hdep (by kernel_rfl : waitsB oGd 11 2 = true))
      have x10 := hI.old 10 (sr) (by decide) h10
      exact hI.read hE 11 55 (sr) ho rfl (want_g rfl hgj rfl x46) hdep (by decide) (by rw [hsz]; decide) (by decide) (by decide) (vals_at hn1 hn2 10 rfl) (by simp [go_sem, execOp, Act.eval, x10])
    · have hl : oGd[12]? = some ⟨some 56, Op.call ⟨Callee.value (Operand.func _), #[Operand.tmp 54, Operand.tmp 55], _⟩, _, _, _, some (2, false)⟩ := rfl
      obtain rfl := Option.some.inj (ho.symm.trans hl)
      have x46 := hI.val 2 46 (.bool false) (List.mem_of_getElem? (i := 2) rfl) (dep_of ho hdep (by kernel_rfl : waitsB oGd 12 2 = true))
      have x54 := hI.val 10 54 (.agg A) (List.mem_of_getElem? (i := 9) rfl) (dep_of ho hdep (by kernel_rfl : waitsB oGd 12 10 = true))
      have x55 := hI.val 11 55 (sr) (List.mem_of_getElem? (i := 10) rfl) (dep_of ho hdep (by kernel_rfl : waitsB oGd 12 11 = true))
      have hS1 := hI.eff
      have e9 : L 9 = true := dep_of ho hdep (by kernel_rfl : waitsB oGd 12 9 = true)
      have e13 : L 13 = false := hI.no hL (by kernel_rfl : waitsB oGd 13 12 = true)
      have e14 : L 14 = false := hI.no e13 (by kernel_rfl : waitsB oGd 14 13 = true)
      have e15 : L 15 = false := hI.no e14 (by kernel_rfl : waitsB oGd 15 14 = true)
      refine inv_call ho (want_g rfl hgj rfl x46) (f := 54) (by simp [go_sem, Act.eval, x54, x55]) (HY w1 hS1.below) ?_
      rintro e w2 ⟨v2, rfl, hv2, hb2⟩
      refine ⟨_, rfl, hI.put 12 56 _ ho hdep (by decide) (by intro t ht; exact vals_ne2 rfl rfl (by decide : 12 ∉ [0, 1, 2, 3, 4, 5, 6, 7, 8, 10, 11]) (by decide : 56 ∉ [44, 45, 46, 47, 48, 49, 50, 51, 52, 54, 55]) ht) ?_⟩
      exact ⟨hS1.below.trans (hb2.mono hS1.below.size), fun _ => by rw [eval_put_ne (by decide : 56 ≠ 53)]; exact (hS1.x e9).mono hb2, fun _ => by rw [eval_put_same (by rw [h1sz]; decide : 56 < a1.tmps.size)]; exact hv2, fun h => by simp [e13] at h, fun h => by simp [e14] at h, fun h => by simp [e15] at h⟩
    · have hl : oGd[13]? = some ⟨some 57, Op.call ⟨Callee.value (Operand.func _), #[Operand.tmp 53, Operand.tmp 56], _⟩, _, _, _, some (2, false)⟩ := rfl
      obtain rfl := Option.some.inj (ho.symm.trans hl)
      have x46 := hI.val 2 46 (.bool false) (List.mem_of_getElem? (i := 2) rfl) (dep_of ho hdep (by kernel_rfl : waitsB oGd 13 2 = true))
      have hS1 := hI.eff
      have e9 : L 9 = true := dep_of ho hdep (by kernel_rfl : waitsB oGd 13 9 = true)
      have e12 : L 12 = true := dep_of ho hdep (by kernel_rfl : waitsB oGd 13 12 = true)
      have e14 : L 14 = false := hI.no hL (by kernel_rfl : waitsB oGd 14 13 = true)
      have e15 : L 15 = false := hI.no e14 (by kernel_rfl : waitsB oGd 15 14 = true)
      obtain ⟨vx, hvx⟩ : ∃ v, a1.eval (.tmp 53) = v := ⟨_, rfl⟩
      obtain ⟨vy, hvy⟩ : ∃ v, a1.eval (.tmp 56) = v := ⟨_, rfl⟩
      have x53 := eval_spell hvx
      have x56 := eval_spell hvy
      have q1 := hS1.x e9
      have q2 := hS1.y e12
      rw [hvx] at q1
      rw [hvy] at q2
      refine inv_call ho (want_g rfl hgj rfl x46) (f := 26) (by simp [go_sem, Act.eval, x53, x56]) (compareRows_calls KX KY vx vy w1 q1 q2) ?_
      rintro e w2 ⟨rfl, hb2⟩
      refine ⟨_, rfl, hI.put 13 57 _ ho hdep (by decide) (by intro t ht; exact vals_ne2 rfl rfl (by decide : 13 ∉ [0, 1, 2, 3, 4, 5, 6, 7, 8, 10, 11]) (by decide : 57 ∉ [44, 45, 46, 47, 48, 49, 50, 51, 52, 54, 55]) ht) ?_⟩
      exact ⟨hS1.below.trans (hb2.mono hS1.below.size), fun _ => by rw [eval_put_ne (by decide : 57 ≠ 53)]; exact (hS1.x e9).mono hb2, fun _ => by rw [eval_put_ne (by decide : 57 ≠ 56)]; exact (hS1.y e12).mono hb2, fun _ => eval_put_same (by rw [h1sz]; decide : 57 < a1.tmps.size), fun h => by simp [e14] at h, fun h => by simp [e15] at h⟩
    · have hl : oGd[14]? = some ⟨some 58, Op.binOp BinOp.neq _ (Operand.tmp 57) (Operand.const (Value.int IntKind.i64 0)) _, _, _, _, some (2, false)⟩ := rfl
      obtain rfl := Option.some.inj (ho.symm.trans hl)
      have x46 := hI.val 2 46 (.bool false) (List.mem_of_getElem? (i := 2) rfl) (dep_of ho hdep (by kernel_rfl : waitsB oGd 14 2 = true))
      have hS1 := hI.eff
      have e13 : L 13 = true := dep_of ho hdep (by kernel_rfl : waitsB oGd 14 13 = true)
      have e15 : L 15 = false := hI.no hL (by kernel_rfl : waitsB oGd 15 14 = true)
      have hz : a1.eval (.tmp 57) = .int .i64 (cmpR KX KY) := hS1.z e13
      have x57 := eval_spell hz
      refine inv_value (w' := w1) ho (want_g rfl hgj rfl x46) (v := .bool (cmpR KX KY != 0)) (by simp [go_sem, execOp, Act.eval, x57]) ?_
      refine hI.put 14 58 _ ho hdep (by decide) (by intro t ht; exact vals_ne2 rfl rfl (by decide : 14 ∉ [0, 1, 2, 3, 4, 5, 6, 7, 8, 10, 11]) (by decide : 58 ∉ [44, 45, 46, 47, 48, 49, 50, 51, 52, 54, 55]) ht) ?_
      exact ⟨hS1.below, fun h => by rw [eval_put_ne (by decide : 58 ≠ 53)]; exact hS1.x (by simpa using h), fun h => by rw [eval_put_ne (by decide : 58 ≠ 56)]; exact hS1.y (by simpa using h), fun _ => by rw [eval_put_ne (by decide : 58 ≠ 57)]; exact hz, fun _ => eval_put_same (by rw [h1sz]; decide : 58 < a1.tmps.size), fun h => by simp [e15] at h⟩
    · have hl : oGd[15]? = some ⟨some 59, Op.pick (Operand.tmp 46) (Operand.const (Value.bool true)) (Operand.tmp 58), _, _, _, none⟩ := rfl
      obtain rfl := Option.some.inj (ho.symm.trans hl)
      have x46 := hI.val 2 46 (.bool false) (List.mem_of_getElem? (i := 2) rfl) (dep_of ho hdep (by kernel_rfl : waitsB oGd 15 2 = true))
      have hS1 := hI.eff
      have e14 : L 14 = true := dep_of ho hdep (by kernel_rfl : waitsB oGd 15 14 = true)
      have hz : a1.eval (.tmp 58) = .bool (cmpR KX KY != 0) := hS1.b e14
      have x58 := eval_spell hz
      refine inv_value (w' := w1) ho rfl (v := .bool (cmpR KX KY != 0)) (by simp [go_sem, execOp, Act.eval, x46, x58]) ?_
      refine hI.put 15 59 _ ho hdep (by decide) (by intro t ht; exact vals_ne2 rfl rfl (by decide : 15 ∉ [0, 1, 2, 3, 4, 5, 6, 7, 8, 10, 11]) (by decide : 59 ∉ [44, 45, 46, 47, 48, 49, 50, 51, 52, 54, 55]) ht) ?_
      exact ⟨hS1.below, fun h => by rw [eval_put_ne (by decide : 59 ≠ 53)]; exact hS1.x (by simpa using h), fun h => by rw [eval_put_ne (by decide : 59 ≠ 56)]; exact hS1.y (by simpa using h), fun h => by rw [eval_put_ne (by decide : 59 ≠ 57)]; exact hS1.z (by simpa using h), fun _ => by rw [eval_put_ne (by decide : 59 ≠ 58)]; exact hz, fun _ => eval_put_same (by rw [h1sz]; decide : 59 < a1.tmps.size)⟩
  · intro L a1 w1 hL hI
    have e := hI.frame.eq
    rw [e]
    exact hQ (fun d => a1.eval (.tmp d)) w1 (hI.eff.r (hL 15 (by rw [hsize]; decide))) hI.eff.below
end Go.Proofs.Ytodabeibdgancaa
/- Groups: the walk. -/
namespace Go.Proofs.Ytodabeibdgancaa
open Go Go.RowKit
def GroupsEnd (es : List Xp) (L : List Rw) (w : World) (e : Ending) (w' : World) : Prop := ∃ v, e = .returned v ∧ GsAt w' (groupsL es L) v ∧ Below w.heap.size w w'
set_option maxHeartbeats 8000000 in
set_option maxRecDepth 20000 in
theorem groups_calls (bd : Bd) (es : List Xp) (L : List Rw) (m : Nat) (s : Value) (w : World) (hs : RowsAt w L s) (he : XpsAt w es (.slice bd.group.a bd.group.n bd.group.c)) (hm : ∀ r ∈ L, r.length = m) (hf : KeyFit es m) (hle : es.length < 1099511627776) (hlen : L.length < 1099511627776) (hmb : m < 1099511627776) :
    Calls Try.prog 43 #[.agg bd.arr, s] w (GroupsEnd es L w) := by
  obtain ⟨a, n, c, rfl, hn, hmx⟩ := hs.shape
  obtain ⟨i0, ii, iz0, iz1, iz2⟩ := info_parts Try.info61'
  have hgn : bd.group.n = es.length := by
    obtain ⟨_, _, _, hg0, hgn, -⟩ := he.shape
    injection hg0 with _ hg0 _
    omega
  have HK := Lib.hid (fun (X Y : Rw) (sx sy : Value) (bb : Nat) (w' : World) (hb : Below w.heap.size w w') (hx : ValsAt w' X sx) (hy : ValsAt w' Y sy) (hbb : w'.heap[bb]? = some (.cells bd.arr 56 (0, 0))) (h1 : X.length = m) (h2 : Y.length = m) => groups1_calls bd es X Y sx sy bb w' hx hy (he.mono hb) hbb (by rw [h1]; exact hf) (by rw [h2]; exact hf) hle)
  have HKy := Lib.hid (fun (X : Rw) (sx : Value) (w' : World) (hb : Below w.heap.size w w') (hx : ValsAt w' X sx) (h1 : X.length = m) => key_calls bd es X sx w' (he.mono hb) hx (by rw [h1]; exact hf) hle)
  have HA := Lib.hid (show bd.arr.size = 26 ∧ bd.arr[18]? = some (.slice bd.group.a bd.group.n bd.group.c) from ⟨rfl, rfl⟩)
  have HS := Lib.hid hs
  have Hm := Lib.hid hm
  have Hn := Lib.hid hn
  have HM := Lib.hid hmb
  have Hgn := Lib.hid hgn
  have hnb : n < 1099511627776 := by omega
  obtain ⟨B, hB⟩ : ∃ B, w.heap.size = B := ⟨_, rfl⟩
  have HB := Lib.hid hB
  have hbb := World.ownsRow_nil w 0 0 0
  clear hbb he
  generalize bd.arr = A at *
  generalize bd.group.a = ga at *
  generalize bd.group.n = gn at *
  generalize bd.group.c = gc at *
  have hb0 : Below w.heap.size w (w.alloc (.cells A 56)) := (Below.refl _ _).alloc (Nat.le_refl _) _
  have hsz0 : (w.alloc (.cells A 56)).heap.size = B + 1 := by simp [hB]
  have hblk : (w.alloc (.cells A 56)).heap[B]? = some (.cells A 56 (0, 0)) := by rw [← hB]; exact heap_alloc_new w _
  rw [hB] at hb0
  clear hs hm hf hn hmx hlen hmb hB hgn hle
  go_enter Try.func43, Try.ntmps43
  go_upto_region 1 with (fail)
  simp only [HB.out]
  generalize w.alloc (.cells A 56) = W0 at *
  have HV := Lib.hid hblk
  have Hb0 := Lib.hid hb0
  have Hsz0 := Lib.hid hsz0
  clear hblk hb0 hsz0
  go_wp2_with (refine wpList_make_full _ rfl _ _ 29 rfl B 61 i0 (.slice none 0 0) 1 Try.underlying29 ii iz0 iz1 _ _ _ _ n rfl rfl rfl rfl ?k2 ?k3 ?k4 ?_)
  case k2 => rw [iz2]; omega
  case k3 => unfold maxLen; omega
  case k4 => rw [Hsz0.out]; omega
  intro w1 ho1 hg1
  have hown := rowsOwn_made (by rw [Nat.mul_one]; exact ho1)
  have hb1 : Below B w w1 := Hb0.out.grown hg1 (by rw [Hsz0.out]; omega) (by simp)
  have hBl : B < W0.heap.size := (Array.getElem?_eq_some_iff.1 HV.out).1
  have hv1 : w1.heap[B]? = some (.cells A 56 (0, 0)) := (hg1.block B hBl (by simp)).trans HV.out
  rw [Hsz0.out] at hown
  simp only [Hsz0.out]
  have HW : RowKit.Hid (RowsOwn w1 B (L.take 0 ++ List.replicate (n - 0) []) (.slice (some ⟨B + 1, 0, none⟩) n n) ∧ Below B w w1 ∧ w1.heap[B]? = some (.cells A 56 (0, 0))) := Lib.hid ⟨by simpa using hown, hb1, hv1⟩
  obtain ⟨g, hg⟩ : ∃ g, B + 1 = g := ⟨_, rfl⟩
  rw [hg] at HW ⊢
  have Hg := Lib.hid hg
  clear hown hb1 hv1 ho1 hg1 HV Hb0 Hsz0 hg hBl
  go_wp2
  go_loopw [16] (fun z wr => ∃ k : Nat, k ≤ n ∧ z = .int .i64 k ∧ RowKit.Hid (RowsOwn wr B (L.take k ++ List.replicate (n - k) []) (.slice (some ⟨g, 0, none⟩) n n) ∧ Below B w wr ∧ wr.heap[B]? = some (.cells A 56 (0, 0)))) (fun z _ => n - (intOf z).toNat)
  case atStart => exact ⟨0, Nat.zero_le _, rfl, HW⟩
  case round =>
    clear HW
    obtain ⟨k, hk, rfl, HW⟩ := hrel
    by_cases hlt : k < n
    · have hkl : k < L.length := by have := Hn.out; omega
      obtain ⟨b, o, rfl⟩ := HS.out.has k hlt
      obtain ⟨ax, nx, cx, Hcell, -⟩ := HS.out.row k hkl
      have hBw : Below w.heap.size w wr := by rw [HB.out]; exact HW.out.2.1
      obtain ⟨hc, hx, hbl⟩ := Hcell.out _ hBw
      have HC := Lib.hid (clone_calls L[k] _ wr hx (by rw [Hm.out _ (List.getElem_mem _)]; exact HM.out))
      have HN := Lib.hid (show (L.take k ++ List.replicate (n - k) []).set k L[k] = L.take (k + 1) ++ List.replicate (n - (k + 1)) [] by
        rw [List.set_append_right _ _ (by simp; omega), List.length_take, Nat.min_eq_left (by omega), Nat.sub_self, show n - k = n - (k + 1) + 1 by omega, List.replicate_succ, List.set_cons_zero, List.take_succ_eq_append_getElem hkl, List.append_assoc]; rfl)
      have hi2 : (k : Int) < n := by omega
      clear hx Hcell hBw
      generalize L[k] = R at *
      clear hkl
      go_wp2_with fail
      (with_reducible refine HC.out.mono ?_)
      rintro e w2 ⟨v, rfl, hv, hb2⟩
      have hown2 := HW.out.1.mono hb2
      obtain ⟨x, c1, f1, hgl, -⟩ := hown2.cellAt k hlt
      obtain ⟨av, nv, cv, rfl, -, -⟩ := hv.vals.shape
      have hset := hown2.set k hv.vals hv.far
      rw [HN.out] at hset
      have hgB : B ≤ g := by have := Hg.out; omega
      have hbb : Below B w w2 := HW.out.2.1.trans (hb2.mono (by have := (Array.getElem?_eq_some_iff.1 HW.out.2.2).1; omega))
      have hvv : w2.heap[B]? = some (.cells A 56 (0, 0)) := (hb2.block B (Array.getElem?_eq_some_iff.1 HW.out.2.2).1).trans HW.out.2.2
      have HW2 : RowKit.Hid (RowsOwn (w2.setCell ⟨g, k, none⟩ (.slice av nv cv)) B (L.take (k + 1) ++ List.replicate (n - (k + 1)) []) (.slice (some ⟨g, 0, none⟩) n n) ∧ Below B w (w2.setCell ⟨g, k, none⟩ (.slice av nv cv)) ∧ (w2.setCell ⟨g, k, none⟩ (.slice av nv cv)).heap[B]? = some (.cells A 56 (0, 0))) :=
        Lib.hid ⟨hset, hbb.setCell hgB _, (Below.heap_setCell w2 ⟨g, k, none⟩ _ B (show B ≠ g by have := Hg.out; omega)).trans hvv⟩
      clear hown2 hv hb2 hset hbb hvv hc hbl HC HW HN
      go_wp2
      go_roundw
      case rel => exact ⟨k + 1, by omega, by go_num, HW2⟩
      case measure => simp [intOf]; omega
    · obtain rfl : k = n := by omega
      have hL : L.take k ++ List.replicate (k - k) [] = L := by rw [Nat.sub_self, List.take_of_length_le (by have := Hn.out; omega)]; simp
      have HW2 := HW.out
      rw [hL] at HW2
      obtain ⟨hown, hbw, hvw⟩ := HW2
      have HO := Lib.hid hown
      have Hbw := Lib.hid hbw
      have Hvw := Lib.hid hvw
      have hgl : g < wr.heap.size := by
        obtain ⟨_, q1, _⟩ := hown
        exact (q1.lt g rfl).2
      have hBl : B < wr.heap.size := (Array.getElem?_eq_some_iff.1 hvw).1
      have c18 : wr.cell? ⟨B, 18, none⟩ = some (.slice ga gn gc) := by
        rw [cell_of_row wr B 18 _ 56 (0, 0) hvw]; exact HA.out.2
      clear hL HW hown hbw hvw
      by_cases hg0 : gn = 0
      · subst hg0
        have HE := Lib.hid (show groupsL es L = [L] by unfold groupsL; rw [if_pos Hgn.out.symm])
        go_wp2_with fail
        go_ret
        refine ⟨_, rfl, ?_, (Hbw.out.mono (by rw [HB.out]; exact Nat.le_refl _)).alloc (by have := Hbw.out.size; rw [HB.out] at this; rw [HB.out]; exact this) _⟩
        rw [HE.out]
        have ho := HO.out.at
        refine ⟨_, _, _, rfl, rfl, fun i hi => ⟨_, _, .slice (some ⟨g, 0, none⟩) k k, rfl, by simp, ?_, ?_⟩⟩
        · have : i = 0 := by simp at hi; omega
          subst this
          simp
        · have : i = 0 := by simp at hi; omega
          subst this
          exact ho.alloc _
      · have hg0' : ((gn : Int) == 0) = false := by simp; omega
        obtain ⟨xs, o1, o2, o3⟩ := HO.out
        obtain ⟨d, d1, d2, d3⟩ := rowVs_cels o2
        have e1 : L.length = k := by have := Hn.out; omega
        rw [e1] at o1
        have hA : Arr wr B g k k d wr := ⟨by rw [d1]; exact o1, World.grownBy.refl _ _⟩
        have hgne : B ≠ g := by have := Hg.out; omega
        have hgB : B ≤ g := by have := Hg.out; omega
        have hfar : ∀ x ∈ d, Far wr B x.v := fun x hx => o3 _ (by rw [← d1]; exact List.mem_map_of_mem hx)
        have hcmp : CmpOk 53 #[.pointer (some ⟨B, 0, none⟩)] (keyC es) d wr g := by
          refine ⟨Try.call53, fun x hx y hy w' hg' => ?_, keyC_ord3 es⟩
          have hbl : Below B wr w' := (Below.refl _ _).grown hg' (Nat.le_of_lt hBl) (fun j hj => by injection hj with hj; omega)
          have hxv := ((d3 x hx).grown (hfar x hx) hA.own hg').1
          have hyv := ((d3 y hy).grown (hfar y hy) hA.own hg').1
          have lx : x.r.length = m := Hm.out _ (by rw [← d2]; exact List.mem_map_of_mem hx)
          have ly : y.r.length = m := Hm.out _ (by rw [← d2]; exact List.mem_map_of_mem hy)
          exact HK.out x.r y.r _ _ B w' (by rw [HB.out]; exact Hbw.out.trans hbl) hxv hyv ((hg'.block B hBl (fun e => hgne (Option.some.inj e))).trans Hvw.out) lx ly
        have HSt := Lib.hid (sortStable_calls 53 #[.pointer (some ⟨B, 0, none⟩)] (keyC es) wr B g k k d wr hcmp hA (by omega))
        have HFin : RowKit.Hid (∀ Z w', AscC (cc (keyC es)) Z → StEq (cc (keyC es)) d Z → Arr wr B g k k ([] ++ Z ++ []) w' → RowsOwn w' B (stS es L) (.slice (some ⟨g, 0, none⟩) k k) ∧ Below B w w' ∧ w'.heap[B]? = some (.cells A 56 (0, 0))) := by
          refine Lib.hid fun Z w' h1 h2 h3 => ?_
          rw [List.nil_append, List.append_nil] at h3
          have hz : ∀ x ∈ Z, x ∈ d := fun x hx => h2.mem (keyC_ord3 es) hx
          have hbl : Below B wr w' := (Below.refl _ _).grown h3.gr (Nat.le_of_lt hBl) (fun j hj => by injection hj with hj; omega)
          refine ⟨⟨Z.map Cel.v, ?_, ?_, ?_⟩, Hbw.out.trans hbl, (h3.gr.block B hBl (fun e => hgne (Option.some.inj e))).trans Hvw.out⟩
          · rw [← d2, ← stS_eq es h1 h2, List.length_map, h3.len]; exact h3.own
          · rw [← d2, ← stS_eq es h1 h2]
            exact cels_rowVs fun x hx => ((d3 x (hz x hx)).grown (hfar x (hz x hx)) hA.own h3.gr).1
          · intro y hy
            obtain ⟨x, hx, rfl⟩ := List.mem_map.1 hy
            exact ((d3 x (hz x hx)).grown (hfar x (hz x hx)) hA.own h3.gr).2
        have HE := Lib.hid (show groupsL es L = grpS es (stS es L) by unfold groupsL; rw [if_neg (by rw [← Hgn.out]; exact hg0)])
        have Hzl := Lib.hid (show (stS es L).length = k by rw [← ((stS_spec es L).2.perm (keyC_ord es)).length_eq, e1])
        have Hzm := Lib.hid (show ∀ r ∈ stS es L, r.length = m from fun r hr => Hm.out r ((stS_spec es L).2.mem (keyC_ord es) hr))
        clear hA hfar hcmp o1 o2 o3 d1 d2 d3 e1 hgne hgB HO Hbw Hvw
        go_wp2_with fail
        (with_reducible refine HSt.out.mono ?_)
        rintro e w1 ⟨rfl, Z, h1, h2, h3⟩
        have H1 := Lib.hid (HFin.out Z w1 h1 h2 h3)
        clear h1 h2 h3 HSt HFin c18 hgl hBl
        generalize stS es L = zs at *
        obtain ⟨N, hN⟩ : ∃ N, w1.heap.size = N := ⟨_, rfl⟩
        have HN := Lib.hid hN
        clear hN
        go_wp2_with fail
        go_loopw [8, 39] (fun z8 z39 wr => ∃ i : Nat, i ≤ k ∧ z39 = .int .i64 i ∧ RowKit.Hid (GOwn wr N (grpS es (zs.take i)) z8 ∧ Below N w1 wr ∧ (grpS es (zs.take i)).length ≤ i)) (fun _ z _ => k - (intOf z).toNat)
        case atStart => exact ⟨0, Nat.zero_le _, rfl, Lib.hid ⟨GOwn.nil _ _, Below.refl _ _, by simp [grpS]⟩⟩
        case round =>
          obtain ⟨i, hi, rfl, HG⟩ := hrel
          obtain ⟨a8, c8, h8⟩ := HG.out.1.shape
          subst h8
          have hb1 : Below w1.heap.size w1 wr := by rw [HN.out]; exact HG.out.2.1
          by_cases hik : i < k
          · have hil : i < zs.length := by have := Hzl.out; omega
            have hat := H1.out.1.at
            obtain ⟨pa, pn, pc, Hrow, Hrf⟩ := hat.row i hil
            obtain ⟨hc, hx, hgl⟩ := Hrow.out wr hb1
            rw [Nat.zero_add] at hc
            have Hx := Lib.hid hx
            have hi2 : (i : Int) < k := by omega
            have Hb1 := Lib.hid hb1
            have HNr := Lib.hid (show N ≤ wr.heap.size by rw [← HN.out]; exact hb1.size)
            have Hbw := Lib.hid (show Below w.heap.size w wr from by
              have := H1.out.2.1
              rw [← HB.out] at this
              exact this.trans (hb1.mono this.size))
            have Hlz := Lib.hid (Hzm.out _ (List.getElem_mem hil))
            have Hblk := Lib.hid (show wr.heap[B]? = some (.cells A 56 (0, 0)) from (hb1.block B (Array.getElem?_eq_some_iff.1 H1.out.2.2).1).trans H1.out.2.2)
            have Hlen := Lib.hid HG.out.2.2
            clear hx hb1
            go_upto_region 14 with (fail)
            go_cut [59] from 44 to 59 (fun z wx => ∃ q : Bool, z = .bool q ∧ RowKit.Hid ((q = true → grpS es (zs.take (i + 1)) = grpS es (zs.take i) ++ [[zs[i]]]) ∧ (q = false → ∃ Gs G, grpS es (zs.take i) = Gs ++ [G] ∧ grpS es (zs.take (i + 1)) = Gs ++ [G ++ [zs[i]]])) ∧ RowKit.Hid (Below wr.heap.size wr wx))
            case first =>
              by_cases hi0 : i = 0
              · subst hi0
                have HQ := Lib.hid (show grpS es (zs.take (0 + 1)) = grpS es (zs.take 0) ++ [[zs[0]]] by rw [grpS_zero es zs hil]; rfl)
                clear hat Hrow
                go_quiet (fail)
                go_step
                go_step
                go_meet
                exact ⟨true, rfl, Lib.hid ⟨fun _ => HQ.out, fun h => (by cases h)⟩, Lib.hid (below_drewN _ _)⟩
              · obtain ⟨j, rfl⟩ : ∃ j, i = j + 1 := ⟨i - 1, by omega⟩
                have hjl : j < zs.length := by omega
                obtain ⟨qa, qn, qc, Hrow', -⟩ := hat.row j hjl
                obtain ⟨hc', hx', -⟩ := Hrow'.out wr Hb1.out
                rw [Nat.zero_add] at hc'
                have Hx' := Lib.hid hx'
                have Hlz' := Lib.hid (Hzm.out _ (List.getElem_mem hjl))
                have HS1 := Lib.hid (grpS_succ es zs j hil)
                have HS2 := Lib.hid (grpS_ne es zs j hjl)
                clear hx' hat
                refine rGd A HA.out.1 B g k k (j + 1) j qn qc qa (.slice pa pn pc) (keyV es zs[j]) (keyV es zs[j + 1]) rfl rfl rfl rfl rfl rfl (by omega) hnb Hblk.out hgl hc' (fun w' hb => (HKy.out zs[j] _ w' (Hbw.out.trans (hb.mono Hbw.out.size)) (Hx'.out.mono hb) Hlz'.out).mono ?_) (fun w' hb => (HKy.out zs[j + 1] _ w' (Hbw.out.trans (hb.mono Hbw.out.size)) (Hx.out.mono hb) Hlz.out).mono ?_) _ (by kernel_rfl) ?_
                · rintro e w'' ⟨v, h1, h2, h3⟩
                  exact ⟨v, h1, h2.vals, h3⟩
                · rintro e w'' ⟨v, h1, h2, h3⟩
                  exact ⟨v, h1, h2.vals, h3⟩
                · intro u wx hu hbx
                  have Hbx := Lib.hid hbx
                  have hu' : u 59 = .bool (keyC es zs[j] zs[j + 1] != 0) := hu
                  have HQ := Lib.hid (show ((keyC es zs[j] zs[j + 1] != 0) = true → grpS es (zs.take (j + 1 + 1)) = grpS es (zs.take (j + 1)) ++ [[zs[j + 1]]]) ∧ ((keyC es zs[j] zs[j + 1] != 0) = false → ∃ Gs G, grpS es (zs.take (j + 1)) = Gs ++ [G] ∧ grpS es (zs.take (j + 1 + 1)) = Gs ++ [G ++ [zs[j + 1]]]) from ⟨fun h => by
                    rw [HS1.out, if_neg (by simpa using h)], fun h => by
                    obtain ⟨Gs, G, e⟩ := HS2.out
                    refine ⟨Gs, G, e, ?_⟩
                    rw [HS1.out, if_pos (by simpa using h), e]
                    simp⟩)
                  generalize (keyC es zs[j] zs[j + 1] != 0) = q at *
                  have Hu := Lib.hid hu'
                  clear hu hu' hbx hc hc'
                  simp only [putK, List.map, List.foldl, Act.put, List.setIfInBounds_toArray, List.set_cons_succ, List.set_cons_zero]
                  rw [Hu.out]
                  go_step
                  go_step
                  go_meet
                  exact ⟨q, rfl, HQ, Hbx⟩
            obtain ⟨q, rfl, Hq, Hbx⟩ := hcut
            have HG2 := Lib.hid (show GOwn wc N (grpS es (zs.take i)) (.slice a8 (grpS es (zs.take i)).length c8) ∧ Below N w1 wc from ⟨HG.out.1.mono Hbx.out, HG.out.2.1.trans (Hbx.out.mono HNr.out)⟩)
            have HNc := Lib.hid (Nat.le_trans HNr.out Hbx.out.size)
            have hgn' : (grpS es (zs.take i)).length < 1099511627776 := by have := Hlen.out; omega
            obtain ⟨gl, hgl0⟩ : ∃ gl, (grpS es (zs.take i)).length = gl := ⟨_, rfl⟩
            have Hgl := Lib.hid hgl0
            rw [hgl0] at HG2 hgn' ⊢
            clear hc hgl hat HG hgl0
            go_upto_if 59 with (fail)
            go_cut [8] from 59 to 62 (fun z wx => ∃ (Gs : List (List Rw)) (G : List Rw) (a9 : Option Addr) (n9 c9 : Nat), z = .slice a9 n9 c9 ∧ n9 = Gs.length + 1 ∧ n9 ≤ i + 1 ∧ RowKit.Hid (GOwn wx N (Gs ++ [G]) z ∧ Below N w1 wx ∧ grpS es (zs.take (i + 1)) = Gs ++ [G ++ [zs[i]]] ∧ G.length ≤ i))
            case first =>
              cases q
              · obtain ⟨Gs, G, e1, e2⟩ := Hq.out.2 rfl
                have hgle : gl = Gs.length + 1 := by rw [← Hgl.out, e1]; simp
                have HF := Lib.hid (show GOwn wc N (Gs ++ [G]) (.slice a8 gl c8) ∧ Below N w1 wc ∧ grpS es (zs.take (i + 1)) = Gs ++ [G ++ [zs[i]]] ∧ G.length ≤ i from ⟨by rw [← e1]; exact HG2.out.1, HG2.out.2, e2, by have := grpS_le es _ Gs G e1; rw [List.length_take] at this; omega⟩)
                have Hgle := Lib.hid hgle
                clear e1 e2 hgle
                go_wp2_with fail
                go_meet
                exact ⟨Gs, G, a8, gl, c8, rfl, Hgle.out, by have := Hgl.out; have := Hlen.out; omega, HF⟩
              · have HQ := Lib.hid (Hq.out.1 rfl)
                go_wp2_with (at_builtin; go_loud (refine wpList_group rfl _ _ rfl N (grpS es (zs.take i)) _ rfl (HG2.out.1.mono ((Below.refl _ _).alloc (Nat.le_refl _) _)) _ _ rfl (by simp) (by rw [Hgl.out]; omega) (by have := HNc.out; simp; omega) ?_))
                intro v3 w3 ho3 hb3
                obtain ⟨a9, c9, h9⟩ := ho3.shape
                have hl9 : (grpS es (zs.take i) ++ [[]]).length = gl + 1 := by rw [List.length_append, Hgl.out]; rfl
                rw [hl9] at h9
                subst h9
                have HF := Lib.hid (show GOwn w3 N (grpS es (zs.take i) ++ [[]]) (.slice a9 (gl + 1) c9) ∧ Below N w1 w3 ∧ grpS es (zs.take (i + 1)) = grpS es (zs.take i) ++ [[] ++ [zs[i]]] ∧ ([] : List Rw).length ≤ i from ⟨ho3, (HG2.out.2.alloc HNc.out _).trans hb3, by rw [HQ.out]; rfl, Nat.zero_le _⟩)
                clear ho3 hb3 hl9
                go_wp2_with fail
                go_meet
                exact ⟨_, [], a9, gl + 1, c9, rfl, by rw [Hgl.out], by have := Hgl.out; have := Hlen.out; omega, HF⟩
            obtain ⟨Gs, G, a9, n9, c9, rfl, hn9, hn9i, HF⟩ := hcut
            clear HG2 HNc Hq q
            obtain ⟨g9, c9', x9, e9, hN9, hg9l, cx, fx, hRx, hgrow⟩ := HF.out.1.last
            injection e9 with e9a e9b e9c
            subst e9a
            have HRx := Lib.hid hRx
            have Hgrow := Lib.hid hgrow
            obtain ⟨xa, xn, xc, hx9, -, -⟩ := hRx.at.shape
            have hxn : xn = G.length := by
              obtain ⟨_, _, _, e, h1, _⟩ := hRx.at.shape
              rw [hx9] at e
              injection e with _ e2 _
              omega
            subst hx9
            subst hxn
            have Hx3 := Lib.hid (show ∀ w', Below wc.heap.size wc w' → ValsAt w' zs[i] (.slice pa pn pc) ∧ Far w' N (.slice pa pn pc) from fun w' hb => by
              have h1 : Below w1.heap.size w1 w' := by
                have h2 := HF.out.2.1
                rw [← HN.out] at h2
                exact h2.trans (hb.mono h2.size)
              have h3 := (Hrow.out w' h1).2.1
              refine ⟨h3, ?_⟩
              have := Hrf.out w'
              rwa [HN.out] at this)
            have HNc := Lib.hid (show N ≤ wc.heap.size by have := HF.out.2.1.size; have := HN.out; omega)
            have Hgl4 := Lib.hid (show G.length + 1 ≤ 1099511627776 by have := HF.out.2.2.2; omega)
            obtain ⟨p, hp⟩ : ∃ p, Gs.length = p := ⟨_, rfl⟩
            rw [hp] at e9b hn9 cx fx
            have Hp := Lib.hid hp
            subst e9b
            have hpb : p < 1099511627776 := by omega
            have hb0 := (Below.refl wc.heap.size wc).alloc (Nat.le_refl _) (.cells #[.slice pa pn pc] 61)
            have HB0 := Lib.hid hb0
            have HG3 := Lib.hid HF.out.2.2.1
            have HF2 := Lib.hid HF.out.2.1
            clear hp hn9 hRx hgrow HF e9c hb0
            go_wp2_with (at_builtin; go_loud (refine wpList_rowB rfl (.tmp 72) (.tmp 74) rfl N G zs[i] _ rfl (HRx.out.mono HB0.out) _ _ (.slice pa pn pc) rfl (by simp) (Hx3.out _ HB0.out).1 (Hx3.out _ HB0.out).2 Hgl4.out (by have := HNc.out; simp; omega) ?_))
            intro v3 w3 ho3 hg3 hd3
            obtain ⟨a3, n3, c3, rfl, -, -⟩ := ho3.at.shape
            obtain ⟨r1, ⟨y, r2⟩, r3, r4⟩ := Hgrow.out _ w3 (G ++ [zs[i]]) _ HB0.out HNc.out ho3 hg3 (fun k hk => by have := hd3 k hk; simpa using this)
            rw [Hp.out] at r2 r3 r4
            have hbN : Below N w1 w3 := by
              have h1 : Below N w1 (wc.alloc (.cells #[.slice pa pn pc] 61)) := HF2.out.alloc HNc.out _
              refine h1.grown hg3 (by have := HNc.out; simp; omega) fun k hk => ?_
              obtain ⟨_, q1, _⟩ := HRx.out
              exact (q1.lt k hk).1
            have HR := Lib.hid (show GOwn (w3.setCell ⟨g9, p, none⟩ (.slice a3 n3 c3)) N (grpS es (zs.take (i + 1))) (.slice (some ⟨g9, 0, none⟩) (p + 1) c9) ∧ Below N w1 (w3.setCell ⟨g9, p, none⟩ (.slice a3 n3 c3)) ∧ (grpS es (zs.take (i + 1))).length ≤ i + 1 from ⟨by rw [HG3.out]; exact r4, hbN.setCell hN9 _, by rw [HG3.out]; have := Hp.out; simp; omega⟩)
            clear r4 hbN ho3 hg3 hd3 cx fx hg9l Hgrow HRx
            go_wp2_with fail
            go_roundw
            case rel => exact ⟨i + 1, by omega, by go_num, HR⟩
            case measure => simp [intOf]; omega
          · obtain rfl : i = k := by omega
            have HE2 := Lib.hid (show GsAt wr (groupsL es L) (.slice a8 (grpS es (zs.take i)).length c8) ∧ Below w.heap.size w wr from by
              have h1 := HG.out.1.at
              rw [HE.out]
              refine ⟨?_, ?_⟩
              · rwa [show zs.take i = zs from List.take_of_length_le (by have := Hzl.out; omega)] at h1 ⊢
              · have := H1.out.2.1
                rw [← HB.out] at this
                exact this.trans (hb1.mono this.size))
            clear HG
            go_wp2_with fail
            go_ret
            exact ⟨_, rfl, HE2.out⟩
end Go.Proofs.Ytodabeibdgancaa
/- Contains an item that is an aggregate. -/
namespace Go.Proofs.Ytodabeibdgancaa
open Go Go.RowKit
def Bl : Array Value → Value := fun A => .agg A
theorem parts1_calls (kk op idx lk li : Int) (tab nm lt : ByteArray) (aa : Option Addr) (an ac : Nat) (hk : (kk != 0) = true) (w : World) :
    Calls Try.prog 42 #[.agg #[.int .i64 kk, .int .i64 op, .string tab, .string nm, .int .i64 idx, .int .i64 lk, .int .i64 li, .string lt, .slice aa an ac]] w fun e w' => e = .returned (.bool true) ∧ Below w.heap.size w w' := by
  go_enter Try.func42, Try.ntmps42
  go_wp2
  go_ret
  exact ⟨rfl, (Below.refl _ _).alloc (Nat.le_refl _) _⟩
set_option maxHeartbeats 2000000 in
set_option maxRecDepth 20000 in
theorem indexItem_calls (its : List It) (s : Value) (w : World) (hi : ItemsAt w its s) (hk : ∀ i ∈ its, i.k ≠ 0) (h0 : 0 < its.length) :
    Calls Try.prog 52 #[s, .func (.func 42) #[] #[]] w fun e w' => e = .returned (.int .i64 0) ∧ Below w.heap.size w w' := by
  obtain ⟨a, n, c, rfl, hn, -⟩ := hi.shape
  obtain ⟨b, o, rfl, hbl, hc⟩ := hi.at 0 h0
  have hk0 := hk _ (List.getElem_mem h0)
  have hn0 : 0 < n := by omega
  generalize its[0] = it at *
  obtain ⟨kk, ⟨op, tab, nm, idx, ⟨lk, li, lt⟩, ⟨aa, an, ac⟩⟩, f⟩ := it
  have hk0' : (kk != 0) = true := by simpa using hk0
  have c0 := hc 0 (by omega)
  have c1 := hc 1 (by omega)
  have c2 := hc 2 (by omega)
  have c3 := hc 3 (by omega)
  have c4 := hc 4 (by omega)
  have c5' := hc 5 (by omega)
  have c6 := hc 6 (by omega)
  have c7 := hc 7 (by omega)
  have c8 := hc 8 (by omega)
  simp only [It.cells, Xp.cells, List.getElem?_cons_zero, List.getElem?_cons_succ, Nat.add_zero, Nat.zero_mul] at c0 c1 c2 c3 c4 c5' c6 c7 c8
  have HC : RowKit.Hid (∀ w', Calls Try.prog 42 #[.agg #[.int .i64 kk, .int .i64 op, .string tab, .string nm, .int .i64 idx, .int .i64 lk, .int .i64 li, .string lt, .slice aa an ac]] w' fun e w'' => e = .returned (.bool true) ∧ Below w'.heap.size w' w'') := fun w' => parts1_calls kk op idx lk li tab nm lt aa an ac hk0' w'
  clear hi hk hn hc hk0 hk0' h0
  go_enter Try.func52, Try.ntmps52
  go_wp2
  go_loopg [8] 0 (fun g z wr => z = .int .i64 0 ∧ w = wr)
  case atStart => exact ⟨rfl, rfl⟩
  case round =>
    obtain ⟨rfl, rfl⟩ := hrel
    have i1 : (0 : Int) < n := by omega
    go_wp2_with fail
    (with_reducible refine (HC.out _).mono ?_)
    rintro e w1 ⟨rfl, hb1⟩
    have Hb1 := Lib.hid hb1
    clear hb1
    go_wp2
    go_ret
    exact ⟨rfl, Hb1.out⟩
theorem contains_calls (its : List It) (s : Value) (w : World) (hi : ItemsAt w its s) (hk : ∀ i ∈ its, i.k ≠ 0) (h0 : 0 < its.length) :
    Calls Try.prog 41 #[s, .func (.func 42) #[] #[]] w fun e w' => e = .returned (.bool true) ∧ Below w.heap.size w w' := by
  have H1 := Lib.hid (indexItem_calls its s w hi hk h0)
  obtain ⟨a, n, c, rfl, -, -⟩ := hi.shape
  clear hi hk h0
  go_enter Try.func41, Try.ntmps41
  go_wp2_with fail
  (with_reducible refine H1.out.mono ?_)
  rintro e w1 ⟨rfl, hb1⟩
  go_wp2
  go_ret
  exact ⟨rfl, hb1⟩
end Go.Proofs.Ytodabeibdgancaa
/- parts: the walk. -/
namespace Go.Proofs.Ytodabeibdgancaa
open Go Go.RowKit
theorem groups_opaque (A : Array Value) (bd : Bd) (hA : A = bd.arr) (es : List Xp) (L : List Rw) (m : Nat) (s : Value) (w : World) (hs : RowsAt w L s) (he : XpsAt w es (.slice bd.group.a bd.group.n bd.group.c)) (hm : ∀ r ∈ L, r.length = m) (hf : KeyFit es m) (hle : es.length < 1099511627776) (hlen : L.length < 1099511627776) (hmb : m < 1099511627776) :
    Calls Try.prog 43 #[.agg A, s] w (GroupsEnd es L w) := by
  subst hA
  exact groups_calls bd es L m s w hs he hm hf hle hlen hmb
set_option maxHeartbeats 8000000 in
set_option maxRecDepth 20000 in
theorem parts_calls (bd : Bd) (es : List Xp) (its : List It) (L : List Rw) (m : Nat) (s : Value) (w : World) (hs : RowsAt w L s) (he : XpsAt w es (.slice bd.group.a bd.group.n bd.group.c)) (hi : ItemsAt w its (.slice bd.items.a bd.items.n bd.items.c)) (hk : ∀ i ∈ its, i.k ≠ 0) (hne : 0 < its.length) (hm : ∀ r ∈ L, r.length = m) (hf : KeyFit es m) (hle : es.length < 1099511627776) (hlen : L.length < 1099511627776) (hmb : m < 1099511627776) :
    Calls Try.prog 29 #[.agg bd.arr, s] w (GroupsEnd es L w) := by
  obtain ⟨a, n, c, rfl, hn, hmx⟩ := hs.shape
  have HA := Lib.hid (show bd.arr.size = 26 ∧ bd.arr[18]? = some (.slice bd.group.a bd.group.n bd.group.c) ∧ bd.arr[8]? = some (.slice bd.items.a bd.items.n bd.items.c) from ⟨rfl, rfl, rfl⟩)
  have HG := Lib.hid (fun (w' : World) (hb : Below w.heap.size w w') => groups_opaque bd.arr bd rfl es L m _ w' (hs.mono hb) (he.mono hb) hm hf hle hlen hmb)
  have HC := Lib.hid (fun (w' : World) (hb : Below w.heap.size w w') => contains_calls its _ w' (hi.mono hb) hk hne)
  have hb0 : Below w.heap.size w (w.alloc (.cells bd.arr 56)) := (Below.refl _ _).alloc (Nat.le_refl _) _
  have hblk : (w.alloc (.cells bd.arr 56)).heap[w.heap.size]? = some (.cells bd.arr 56 (0, 0)) := heap_alloc_new w _
  generalize bd.arr = A at *
  generalize bd.group.a = ga at *
  generalize bd.group.n = gn at *
  generalize bd.group.c = gc at *
  generalize bd.items.a = ia at *
  generalize bd.items.n = inn at *
  generalize bd.items.c = ic at *
  have c18 : (w.alloc (.cells A 56)).cell? ⟨w.heap.size, 18, none⟩ = some (.slice ga gn gc) := (cell_of_row _ _ _ _ _ _ hblk).trans HA.out.2.1
  have c8 : (w.alloc (.cells A 56)).cell? ⟨w.heap.size, 8, none⟩ = some (.slice ia inn ic) := (cell_of_row _ _ _ _ _ _ hblk).trans HA.out.2.2
  have hsz : w.heap.size < (w.alloc (.cells A 56)).heap.size := (Array.getElem?_eq_some_iff.1 hblk).1
  clear hs he hi hk hne hm hf hle hlen hmb hn hmx
  go_enter Try.func29, Try.ntmps29
  go_upto_region 1 with (fail)
  generalize w.alloc (.cells A 56) = W0 at *
  obtain ⟨B, hB⟩ : ∃ B, w.heap.size = B := ⟨_, rfl⟩
  have HB := Lib.hid hB
  rw [hB] at c18 c8 hblk hsz hb0
  simp only [hB]
  have Hblk := Lib.hid hblk
  have Hb0 := Lib.hid hb0
  have HC0 := Lib.hid (HC.out W0 (by rw [HB.out]; exact Hb0.out))
  clear hblk hb0 hB HC
  by_cases hg0 : 0 < gn
  · have hi0 : (0 : Int) < gn := by omega
    clear hg0 HC0
    go_wp2_with (refine wpList_load_row rfl 56 (.tmp 2) rfl B rfl 56 A (0, 0) _ Hblk.out Try.underlying56 rfl (by rw [HA.out.1]; exact Try.size56) ?_)
    go_wp2_with fail
    (with_reducible refine (HG.out _ (by rw [HB.out]; exact Hb0.out)).mono ?_)
    rintro e w1 ⟨v, rfl, hv, hb1⟩
    have HF := Lib.hid (show GsAt w1 (groupsL es L) v ∧ Below w.heap.size w w1 from ⟨hv, by rw [HB.out]; exact Hb0.out.trans (hb1.mono (Nat.le_of_lt hsz))⟩)
    clear hv hb1 HG
    go_wp2
    go_ret
    exact ⟨_, rfl, HF.out⟩
  · have hi0 : ¬ (0 : Int) < gn := by omega
    clear hg0
    go_wp2_with fail
    (with_reducible refine HC0.out.mono ?_)
    rintro e w0 ⟨rfl, hb⟩
    have Hb1 := Lib.hid (hb.mono (Nat.le_of_lt hsz))
    have Hblk1 := Lib.hid ((hb.block B hsz).trans Hblk.out)
    have Hsz := Lib.hid (Nat.le_trans (Nat.le_of_lt hsz) hb.size)
    clear hb HC0
    go_wp2_with (refine wpList_load_row rfl 56 (.tmp 2) rfl B rfl 56 A (0, 0) _ Hblk1.out Try.underlying56 rfl (by rw [HA.out.1]; exact Try.size56) ?_)
    go_wp2_with fail
    (with_reducible refine (HG.out _ (by rw [HB.out]; exact Hb0.out.trans Hb1.out)).mono ?_)
    rintro e w1 ⟨v, rfl, hv, hb1⟩
    have HF := Lib.hid (show GsAt w1 (groupsL es L) v ∧ Below w.heap.size w w1 from ⟨hv, by rw [HB.out]; exact (Hb0.out.trans Hb1.out).trans (hb1.mono Hsz.out)⟩)
    clear hv hb1 HG
    go_wp2
    go_ret
    exact ⟨_, rfl, HF.out⟩
end Go.Proofs.Ytodabeibdgancaa
/- Sort: the walk. -/
namespace Go.Proofs.Ytodabeibdgancaa
open Go Go.RowKit
set_option maxHeartbeats 4000000 in
set_option maxRecDepth 20000 in
theorem sort_calls (os : List Od) (L : List Rw) (m : Nat) (s so : Value) (w : World) (hs : RowsAt w L s) (ho : OrdsAt w os so) (hm : ∀ r ∈ L, r.length = m) (hf : OrdsFit os m) (hlen : L.length < 1099511627776) (hmb : m < 1099511627776) :
    Calls Try.prog 8 #[s, so] w fun e w' => ∃ u, e = .returned u ∧ RowsOwn w' w.heap.size (sortL os L) u ∧ Below w.heap.size w w' := by
  obtain ⟨a, n, c, rfl, hn, hmx⟩ := hs.shape
  obtain ⟨ao, no, co, rfl, hno, hmo⟩ := ho.shape
  obtain ⟨i0, ii, iz0, iz1, iz2⟩ := info_parts Try.info61'
  have HS := Lib.hid hs
  have HO := Lib.hid ho
  have Hm := Lib.hid hm
  have HF := Lib.hid hf
  have Hn := Lib.hid hn
  have HM := Lib.hid hmb
  have hnb : n < 1099511627776 := by omega
  obtain ⟨B, hB⟩ : ∃ B, w.heap.size = B := ⟨_, rfl⟩
  have HB := Lib.hid hB
  have V := VarIs.new w #[.slice ao no co] 30
  have hb0 : Below w.heap.size w (w.alloc (.cells #[.slice ao no co] 30)) := (Below.refl _ _).alloc (Nat.le_refl _) _
  have hsz0 : (w.alloc (.cells #[.slice ao no co] 30)).heap.size = B + 1 := by simp [hB]
  rw [hB] at V hb0 ⊢
  clear hs ho hm hf hn hmx hmo hno hlen hmb hB
  go_enter Try.func8, Try.ntmps8
  have hbm : iz2 = iz2 := rfl
  clear hbm
  go_upto_region 1 with (fail)
  simp only [HB.out]
  generalize w.alloc (.cells #[.slice ao no co] 30) = W0 at *
  have HV := Lib.hid V
  have Hb0 := Lib.hid hb0
  have Hsz0 := Lib.hid hsz0
  clear V hb0 hsz0
  go_wp2_with (refine wpList_make_full _ rfl _ _ 29 rfl B 61 i0 (.slice none 0 0) 1 Try.underlying29 ii iz0 iz1 _ _ _ _ n rfl rfl rfl rfl ?k2 ?k3 ?k4 ?_)
  case k2 => rw [iz2]; omega
  case k3 => unfold maxLen; omega
  case k4 => rw [Hsz0.out]; omega
  intro w1 ho1 hg1
  have hown := rowsOwn_made (by rw [Nat.mul_one]; exact ho1)
  have hb1 : Below B w w1 := Hb0.out.grown hg1 (by rw [Hsz0.out]; omega) (by simp)
  have hv1 : VarIs w1 B #[.slice ao no co] := ⟨Nat.lt_of_lt_of_le HV.out.lt hg1.size, fun j => (World.cell?_of_block (a := ⟨B, j, none⟩) (hg1.block B HV.out.lt (by simp))).trans (HV.out.cell j), fun j => (World.frozen?_of_block (a := ⟨B, j, none⟩) (hg1.block B HV.out.lt (by simp))).trans (HV.out.free j)⟩
  rw [Hsz0.out] at hown
  simp only [Hsz0.out]
  have HW : RowKit.Hid (RowsOwn w1 B (L.take 0 ++ List.replicate (n - 0) []) (.slice (some ⟨B + 1, 0, none⟩) n n) ∧ Below B w w1 ∧ VarIs w1 B #[.slice ao no co]) := Lib.hid ⟨by simpa using hown, hb1, hv1⟩
  obtain ⟨g, hg⟩ : ∃ g, B + 1 = g := ⟨_, rfl⟩
  rw [hg] at HW ⊢
  have Hg := Lib.hid hg
  clear hown hb1 hv1 ho1 hg1 HV Hb0 Hsz0 hg
  go_wp2
  go_loopw [13] (fun z wr => ∃ k : Nat, k ≤ n ∧ z = .int .i64 k ∧ RowKit.Hid (RowsOwn wr B (L.take k ++ List.replicate (n - k) []) (.slice (some ⟨g, 0, none⟩) n n) ∧ Below B w wr ∧ VarIs wr B #[.slice ao no co])) (fun z _ => n - (intOf z).toNat)
  case atStart => exact ⟨0, Nat.zero_le _, rfl, HW⟩
  case round =>
    clear HW
    obtain ⟨k, hk, rfl, HW⟩ := hrel
    by_cases hlt : k < n
    · have hkl : k < L.length := by have := Hn.out; omega
      obtain ⟨b, o, rfl⟩ := HS.out.has k hlt
      obtain ⟨ax, nx, cx, Hcell, -⟩ := HS.out.row k hkl
      have hBw : Below w.heap.size w wr := by rw [HB.out]; exact HW.out.2.1
      obtain ⟨hc, hx, hbl⟩ := Hcell.out _ hBw
      have HC := Lib.hid (clone_calls L[k] _ wr hx (by rw [Hm.out _ (List.getElem_mem _)]; exact HM.out))
      have HN := Lib.hid (show (L.take k ++ List.replicate (n - k) []).set k L[k] = L.take (k + 1) ++ List.replicate (n - (k + 1)) [] by
        rw [List.set_append_right _ _ (by simp; omega), List.length_take, Nat.min_eq_left (by omega), Nat.sub_self, show n - k = n - (k + 1) + 1 by omega, List.replicate_succ, List.set_cons_zero, List.take_succ_eq_append_getElem hkl, List.append_assoc]; rfl)
      have hi2 : (k : Int) < n := by omega
      clear hx Hcell hBw
      generalize L[k] = R at *
      clear hkl
      go_wp2_with fail
      (with_reducible refine HC.out.mono ?_)
      rintro e w2 ⟨v, rfl, hv, hb2⟩
      have hown2 := HW.out.1.mono hb2
      obtain ⟨x, c1, f1, hgl, -⟩ := hown2.cellAt k hlt
      obtain ⟨av, nv, cv, rfl, -, -⟩ := hv.vals.shape
      have hset := hown2.set k hv.vals hv.far
      rw [HN.out] at hset
      have hgB : B ≤ g := by have := Hg.out; omega
      have hbb : Below B w w2 := HW.out.2.1.trans (hb2.mono (by have := HW.out.2.2.lt; omega))
      have hvv := HW.out.2.2.below hb2 HW.out.2.2.lt
      have HW2 : RowKit.Hid (RowsOwn (w2.setCell ⟨g, k, none⟩ (.slice av nv cv)) B (L.take (k + 1) ++ List.replicate (n - (k + 1)) []) (.slice (some ⟨g, 0, none⟩) n n) ∧ Below B w (w2.setCell ⟨g, k, none⟩ (.slice av nv cv)) ∧ VarIs (w2.setCell ⟨g, k, none⟩ (.slice av nv cv)) B #[.slice ao no co]) :=
        Lib.hid ⟨hset, hbb.setCell hgB _, hvv.setOther (by have := Hg.out; omega) _ _⟩
      clear hown2 hv hb2 hset hbb hvv hc hbl HC HW HN
      go_wp2
      go_roundw
      case rel => exact ⟨k + 1, by omega, by go_num, HW2⟩
      case measure => simp [intOf]; omega
    · obtain rfl : k = n := by omega
      have hL : L.take k ++ List.replicate (k - k) [] = L := by rw [Nat.sub_self, List.take_of_length_le (by have := Hn.out; omega)]; simp
      have HW2 := HW.out
      rw [hL] at HW2
      obtain ⟨⟨xs, o1, o2, o3⟩, hbw, hvw⟩ := HW2
      obtain ⟨d, d1, d2, d3⟩ := rowVs_cels o2
      have e1 : L.length = k := by have := Hn.out; omega
      rw [e1] at o1
      have hA : Arr wr B g k k d wr := ⟨by rw [d1]; exact o1, World.grownBy.refl _ _⟩
      have hvb := hvw.cell 0
      have hgne : B ≠ g := by have := Hg.out; omega
      have hgB : B ≤ g := by have := Hg.out; omega
      have hfar : ∀ x ∈ d, Far wr B x.v := fun x hx => o3 _ (by rw [← d1]; exact List.mem_map_of_mem hx)
      have HO2 := HO.out
      have hcmp : CmpOk 24 #[.pointer (some ⟨B, 0, none⟩)] (ordC os) d wr g := by
        refine ⟨Try.call24, fun x hx y hy w' hg' => ?_, ordC_ord3 os⟩
        have hbl : Below B wr w' := (Below.refl _ _).grown hg' (Nat.le_of_lt hvw.lt) (fun j hj => by injection hj with hj; omega)
        have hxv := ((d3 x hx).grown (hfar x hx) hA.own hg').1
        have hyv := ((d3 y hy).grown (hfar y hy) hA.own hg').1
        have hov : OrdsAt w' os (.slice ao no co) := by
          refine HO2.mono ?_
          rw [HB.out]
          exact hbw.trans hbl
        have hcell : w'.cell? ⟨B, 0, none⟩ = some (.slice ao no co) := by
          have h1 := hg'.cell (a := ⟨B, 0, none⟩) (v := .slice ao no co) (by simpa using hvb) (fun e => hgne (by injection e))
          exact h1
        have lx : x.r.length = m := Hm.out _ (by rw [← d2]; exact List.mem_map_of_mem hx)
        have ly : y.r.length = m := Hm.out _ (by rw [← d2]; exact List.mem_map_of_mem hy)
        exact sort1_calls os x.r y.r _ _ _ B m w' hxv hyv hov hcell lx ly HF.out
      have HSt := Lib.hid (sortStable_calls 24 #[.pointer (some ⟨B, 0, none⟩)] (ordC os) wr B g k k d wr hcmp hA (by omega))
      have HFin : RowKit.Hid (∀ Z w', AscC (cc (ordC os)) Z → StEq (cc (ordC os)) d Z → Arr wr B g k k ([] ++ Z ++ []) w' → RowsOwn w' B (sortL os L) (.slice (some ⟨g, 0, none⟩) k k) ∧ Below B w w') := by
        refine Lib.hid fun Z w' h1 h2 h3 => ?_
        rw [List.nil_append, List.append_nil] at h3
        have hz : ∀ x ∈ Z, x ∈ d := fun x hx => h2.mem (ordC_ord3 os) hx
        have hbl : Below B wr w' := (Below.refl _ _).grown h3.gr (Nat.le_of_lt hvw.lt) (fun j hj => by injection hj with hj; omega)
        refine ⟨⟨Z.map Cel.v, ?_, ?_, ?_⟩, hbw.trans hbl⟩
        · rw [← d2, ← sortL_eq os h1 h2, List.length_map, h3.len]; exact h3.own
        · rw [← d2, ← sortL_eq os h1 h2]
          exact cels_rowVs fun x hx => ((d3 x (hz x hx)).grown (hfar x (hz x hx)) hA.own h3.gr).1
        · intro y hy
          obtain ⟨x, hx, rfl⟩ := List.mem_map.1 hy
          exact ((d3 x (hz x hx)).grown (hfar x (hz x hx)) hA.own h3.gr).2
      clear hL HW hbw hvw o1 o2 o3 d1 d2 d3 e1 hA hfar HO2 hcmp hvb
      go_wp2_with fail
      (with_reducible refine HSt.out.mono ?_)
      rintro e w1 ⟨rfl, Z, h1, h2, h3⟩
      have H1 := Lib.hid (HFin.out Z w1 h1 h2 h3)
      clear h1 h2 h3 HSt HFin
      go_wp2
      go_ret
      exact ⟨_, rfl, H1.out⟩
end Go.Proofs.Ytodabeibdgancaa
/- Result: the walk. -/
namespace Go.Proofs.Ytodabeibdgancaa
open Go Go.RowKit
variable {P : Program}
theorem calls_of_wp_m {f : FuncId} {fn : Func} {c : Code} {args : Array Value} {w : World} {R : Ending → World → Prop} (hf : P.funcs[f]? = some fn) (hb : fn.body = some c)
    (h : c.wp P (bodyPostM Fence.wide 0 P fn R) { tmps := args ++ Array.replicate (fn.ntmps - args.size) undef, defers := [] } w) : Calls P f args w R :=
  callsIn_wide.1 (callsIn_of_wp_marks (n := 0) hf hb trivial (wpIn_wide.2 h))
theorem bodyPostM_ret {fn : Func} {R : Ending → World → Prop} {a : Act} {w : World} {v : Value} (hr : (results fn a.tmps).run P w = .ok v w) (hd : a.defers = []) (hR : R (.returned v) w) : bodyPostM Fence.wide 0 P fn R .ret a w := by
  show LeavesInM _ _ _ _ _ _ a.defers .returning w
  rw [hd]
  exact ⟨v, hr, hR⟩
theorem bodyPostM_mark {fn : Func} {R : Ending → World → Prop} {a : Act} {w : World} {D : Nat} (hk : w.heap[D]? = some (.deferred (some []))) (hd : a.defers = [{ target := .collected D, args := #[] }])
    (h : ∃ v, (results fn a.tmps).run P (w.putObj D (.deferred none)) = .ok v (w.putObj D (.deferred none)) ∧ R (.returned v) (w.putObj D (.deferred none))) : bodyPostM Fence.wide 0 P fn R .ret a w := by
  show LeavesInM _ _ _ _ _ _ a.defers .returning w
  rw [hd]
  exact ⟨by simp, .inl ⟨_, _, rfl, run_takeDeferred hk, h⟩⟩
theorem run_neq_nil {t : TypeId} {ps rs : Array TypeId} {vr : Bool} (ht : P.underlying t = some (.func ps rs vr)) (w : World) : (binOp .neq t .nilFunc .nilFunc).run P w = .ok (.bool false) w := by
  have h : ∀ d : Nat, (Op.equalIn (d + 1) t .nilFunc .nilFunc).run P w = .ok true w := fun d => by
    simp [Op.equalIn, run_underlying ht]
  simp only [binOp]
  simp [Op.equal, Op.maxDepth, h 9999]
theorem run_neq_func {t : TypeId} {ps rs : Array TypeId} {vr : Bool} {fn : Fn} {first cap : Array Value} (ht : P.underlying t = some (.func ps rs vr)) (w : World) : (binOp .neq t (.func fn first cap) .nilFunc).run P w = .ok (.bool true) w := by
  have h : ∀ d : Nat, (Op.equalIn (d + 1) t (.func fn first cap) .nilFunc).run P w = .ok false w := fun d => by
    simp [Op.equalIn, run_underlying ht]
  simp only [binOp]
  simp [Op.equal, Op.maxDepth, h 9999]
theorem below_cellsR {B b : Nat} {a : World} (hb : B ≤ b) : ∀ (vs : List Value) (o : Nat) (w : World), Below B a w → Below B a (w.setCells b o vs)
  | [], _, _, h => h
  | v :: r, o, w, h => by
    rw [World.setCells]
    exact below_cellsR hb r (o + 1) _ (h.setCell (p := ⟨b, o, none⟩) hb v)
/-- A block that holds no cells turns. -/
theorem ValsAt.turn {w : World} {r : Rw} {x : Value} {D : Nat} {ob o' : Obj} (h : ValsAt w r x) (hD : w.heap[D]? = some ob) (ho : ob.isCells = false) : ValsAt (w.putObj D o') r x := by
  cases h with
  | mt => exact .mt
  | lie _ b o n cap hn hlt hm hc ht =>
    refine .lie _ b o n cap hn (by simpa using hlt) hm (fun i hi j hj => ?_) ht
    have h1 := hc i hi j hj
    obtain ⟨v, hv⟩ : ∃ v, (r[i].cells)[j]? = some v := by
      rcases (by omega : j = 0 ∨ j = 1 ∨ j = 2) with rfl | rfl | rfl <;> exact ⟨_, rfl⟩
    rw [hv] at h1 ⊢
    exact cell_kept h1 (grownBy_putObj' _ D o') (fun k e => by cases e; exact ⟨_, hD, ho⟩)
theorem RowsAt.turn {w : World} {L : List Rw} {x : Value} {D : Nat} {ob o' : Obj} (h : RowsAt w L x) (hD : w.heap[D]? = some ob) (ho : ob.isCells = false) : RowsAt (w.putObj D o') L x := by
  cases h with
  | mt => exact .mt
  | lie _ xs b o n cap hn hlt hm hc hx =>
    refine .lie L xs b o n cap hn (by simpa using hlt) hm (fun i x hi => cell_kept (hc i x hi) (grownBy_putObj' _ D o') (fun k e => by cases e; exact ⟨_, hD, ho⟩)) ?_
    clear hc hn hm
    induction hx with
    | nil => exact .nil
    | cons h1 _ ih => exact .cons (h1.turn hD ho) ih
theorem Try.size51 : (Try.prog.info? 51).map (·.size) = some 22 := by kernel_rfl
def colOk (m : Nat) (i : It) : Prop := i.k = 1 ∨ ∃ q : Nat, i.e.op = 2 ∧ i.e.idx = q ∧ q < m ∧ i.f = fun R => R.getD q nilV
theorem arr_one (bd : Bd) : ∀ v ∈ bd.arr.toList, v.oneCell' = true := by
  unfold Bd.arr
  repeat (refine List.forall_mem_cons.2 ⟨rfl, ?_⟩)
  intro v hv
  cases hv
theorem arr_all (bd : Bd) : ((bd.arr.extract 0 (0 + 22)).toList.toArray.all (·.oneCell')) = true :=
  all_oneCell_toArray fun v hv => arr_one bd v (by
    rw [Array.toList_extract] at hv
    exact List.mem_of_mem_drop (List.mem_of_mem_take hv))
structure ResFit (bd : Bd) (es : List Xp) (its : List It) (os : List Od) (L : List Rw) (m : Nat) (w : World) : Prop where
  he : XpsAt w es (.slice bd.group.a bd.group.n bd.group.c)
  hi : ItemsAt w its (.slice bd.items.a bd.items.n bd.items.c)
  ho : OrdsAt w os (.slice bd.order.a bd.order.n bd.order.c)
  lim : bd.limit = 0
  ne : 0 < its.length
  hk : ∀ i ∈ its, i.k ≠ 0
  col : ∀ i ∈ its, colOk m i
  hm : ∀ r ∈ L, r.length = m
  hf : KeyFit es m
  hof : OrdsFit os its.length
  b1 : es.length < 1099511627776
  b2 : L.length < 1099511627776
  b3 : m < 1099511627776
  b4 : its.length < 1099511627776
  g1 : (groupsL es L).length < 1099511627776
  g2 : ∀ G ∈ groupsL es L, G.length < 1099511627776 ∧ ∀ R ∈ G, R.length = m
  g3 : ∀ G ∈ groupsL es L, ∀ i ∈ its, ∀ R ∈ G, (i.f R).text.size ≤ maxLen
def resL (es : List Xp) (its : List It) (L : List Rw) : List Rw := (groupsL es L).map fun G => its.map fun i => resV i G
def Res13 (_bd : Bd) (es : List Xp) (its : List It) (os : List Od) (L : List Rw) (w : World) (e : Ending) (w' : World) : Prop := ∃ v, e = .returned v ∧ RowsAt w' (sortL os (resL es its L)) v ∧ Below w.heap.size w w'
theorem parts_fit {bd : Bd} {es : List Xp} {its : List It} {os : List Od} {L : List Rw} {m : Nat} {w w' : World} {s : Value} (h : ResFit bd es its os L m w) (hb : Below w.heap.size w w') (hs : RowsAt w' L s) : Calls Try.prog 29 #[.agg bd.arr, s] w' (GroupsEnd es L w') :=
  parts_calls bd es its L m s w' hs (h.he.mono hb) (h.hi.mono hb) h.hk h.ne h.hm h.hf h.b1 h.b2 h.b3
theorem result_fit {bd : Bd} {es : List Xp} {its : List It} {os : List Od} {L : List Rw} {m : Nat} {w w' : World} {s : Value} (h : ResFit bd es its os L m w) (hb : Below w.heap.size w w') (i : Nat) (hi : i < (groupsL es L).length) (hs : RowsAt w' (groupsL es L)[i] s) :
    Calls Try.prog 30 #[.slice bd.items.a bd.items.n bd.items.c, s] w' (ResEnd its (groupsL es L)[i] w') := by
  have hG := List.getElem_mem hi
  refine result_calls its _ _ s w' (h.hi.mono hb) hs h.hk (fun i hi h1 => ?_) (h.g3 _ hG) h.b4 (h.g2 _ hG).1
  rcases h.col i hi with hc | ⟨q, q1, q2, q3, q4⟩
  · exact (h1 hc).elim
  · intro R hR w2 s2 _ hv
    rw [q4]
    exact evalue_col i.e R s2 q w2 q1 q2 hv (by rw [(h.g2 _ hG).2 R hR]; exact q3)
theorem sort_fit {bd : Bd} {es : List Xp} {its : List It} {os : List Od} {L : List Rw} {m : Nat} {w w' : World} {s : Value} (h : ResFit bd es its os L m w) (hb : Below w.heap.size w w') (hs : RowsAt w' (resL es its L) s) :
    Calls Try.prog 8 #[s, .slice bd.order.a bd.order.n bd.order.c] w' fun e w'' => ∃ u, e = .returned u ∧ RowsOwn w'' w'.heap.size (sortL os (resL es its L)) u ∧ Below w'.heap.size w' w'' :=
  sort_calls os _ its.length s _ w' hs (h.ho.mono hb) (fun r hr => by obtain ⟨G, _, rfl⟩ := List.mem_map.1 hr; simp) h.hof (by simpa [resL] using h.g1) h.b4
end Go.Proofs.Ytodabeibdgancaa
/- Result at no iterator: the walk. -/
namespace Go.Proofs.Ytodabeibdgancaa
open Go Go.RowKit
set_option maxHeartbeats 16000000 in
set_option maxRecDepth 100000 in
theorem result13_nil (bd : Bd) (es : List Xp) (its : List It) (os : List Od) (m : Nat) (w : World) (hfit : ResFit bd es its os [] m w) :
    Calls Try.prog 13 #[.agg bd.arr, .nilFunc] w (Res13 bd es its os [] w) := by
  have HFit := Lib.hid hfit
  have HP := Lib.hid (fun (w' : World) (s : Value) (hb : Below w.heap.size w w') (hs : RowsAt w' [] s) => parts_fit hfit hb hs)
  have HR := Lib.hid (fun (w' : World) (s : Value) (hb : Below w.heap.size w w') (i : Nat) (hi : i < (groupsL es []).length) (hs : RowsAt w' (groupsL es [])[i] s) => result_fit hfit hb i hi hs)
  have HSo := Lib.hid (fun (w' : World) (s : Value) (hb : Below w.heap.size w w') (hs : RowsAt w' (resL es its []) s) => sort_fit hfit hb hs)
  have Hni := Lib.hid (show bd.items.n = its.length ∧ 0 < its.length from by
    obtain ⟨_, _, _, h0, h1, -⟩ := hfit.hi.shape
    injection h0 with _ h0 _
    exact ⟨by omega, hfit.ne⟩)
  have HA := Lib.hid (show bd.arr.size = 26 ∧ bd.arr[8]? = some (.slice bd.items.a bd.items.n bd.items.c) ∧ bd.arr[19]? = some (.slice bd.order.a bd.order.n bd.order.c) ∧ bd.arr[20]? = some (.int .i64 0) from ⟨rfl, rfl, rfl, by rw [← hfit.lim]; rfl⟩)
  have HO := Lib.hid (arr_all bd)
  have hb0 : Below w.heap.size w (w.alloc (.cells bd.arr 56)) := (Below.refl _ _).alloc (Nat.le_refl _) _
  have hblk : (w.alloc (.cells bd.arr 56)).heap[w.heap.size]? = some (.cells bd.arr 56 (0, 0)) := heap_alloc_new w _
  clear hfit
  generalize bd.arr = A at *
  generalize bd.items.a = ia at *
  generalize bd.items.n = inn at *
  generalize bd.items.c = ic at *
  generalize bd.order.a = oa at *
  generalize bd.order.n = on at *
  generalize bd.order.c = oc at *
  obtain ⟨B, hB⟩ : ∃ B, w.heap.size = B := ⟨_, rfl⟩
  have hsz : (w.alloc (.cells A 56)).heap.size = B + 1 := by simp [hB]
  have HB := Lib.hid hB
  rw [hB] at hb0 hblk
  refine calls_of_wp_m Try.func13 rfl ?_
  simp only [Try.ntmps13, List.size_toArray, List.length_cons, List.length_nil, Nat.reduceAdd, Nat.reduceSub, Array.replicate_succ, Array.replicate_zero, List.push_toArray, List.append_toArray, List.nil_append, List.cons_append]
  clear hB
  go_upto_region 1 with (fail)
  simp only [HB.out]
  generalize w.alloc (.cells A 56) = W0 at *
  have HN := run_neq_nil (P := Try.prog) Try.underlying59
  have Hblk := Lib.hid hblk
  have Hb0 := Lib.hid hb0
  have Hsz := Lib.hid hsz
  obtain ⟨bt, hbt⟩ : ∃ bt, W0.heap.size = bt := ⟨_, rfl⟩
  have Hbt := Lib.hid hbt
  have hb2 : Below W0.heap.size W0 (W0.alloc (.cells #[.slice none 0 0] 29)) := (Below.refl _ _).alloc (Nat.le_refl _) _
  have hc2 : (W0.alloc (.cells #[.slice none 0 0] 29)).cell? ⟨bt, 0, none⟩ = some (.slice none 0 0) := by rw [← hbt]; simp
  have hs2 : (W0.alloc (.cells #[.slice none 0 0] 29)).heap.size = bt + 1 := by simp [hbt]
  clear hblk hb0 hsz
  go_upto_region 6 with (simp only [HN])
  have hsz := Hsz.out
  have hball : Below w.heap.size w (W0.alloc (.cells #[.slice none 0 0] 29)) := by rw [HB.out]; exact Hb0.out.trans (hb2.mono (by omega))
  have hbk2 : (W0.alloc (.cells #[.slice none 0 0] 29)).heap[B]? = some (.cells A 56 (0, 0)) := (hb2.block B (by omega)).trans Hblk.out
  have HRow : RowKit.Hid (RowsAt (W0.alloc (.cells #[.slice none 0 0] 29)) [] (.slice none 0 0)) := Lib.hid .mt
  generalize W0.alloc (.cells #[.slice none 0 0] 29) = WT at *
  generalize (none : Option Addr) = sa at HRow hc2
  have Hbk := Lib.hid hbk2
  have Hball := Lib.hid hball
  have hbtl : bt < WT.heap.size := by omega
  have hBl : B < WT.heap.size := by omega
  clear hbk2 hball hb2 hs2 hbt Hblk Hb0 HN hsz Hsz
  have hAr : WT.rangeAt B 0 (A.extract 0 (0 + 22)).toList := World.rangeAt_of_block Hbk.out 0 22
  have hAl : (A.extract 0 (0 + 22)).toList.length = 22 := by simp [HA.out.1]
  obtain ⟨cs, hcs⟩ : ∃ cs, (A.extract 0 (0 + 22)).toList = cs := ⟨_, rfl⟩
  have c8 : cs[8]? = some (.slice ia inn ic) := by rw [← hcs, Array.getElem?_toList, Array.getElem?_extract, if_pos (by rw [HA.out.1]; decide)]; exact HA.out.2.1
  have c19 : cs[19]? = some (.slice oa on oc) := by rw [← hcs, Array.getElem?_toList, Array.getElem?_extract, if_pos (by rw [HA.out.1]; decide)]; exact HA.out.2.2.1
  have c20 : cs[20]? = some (.int .i64 0) := by rw [← hcs, Array.getElem?_toList, Array.getElem?_extract, if_pos (by rw [HA.out.1]; decide)]; exact HA.out.2.2.2
  have HO2 := HO.out
  rw [hcs] at HO2 hAr hAl
  have Hcs := Lib.hid (And.intro c8 (And.intro c19 c20))
  have Har := Lib.hid hAr
  have Hal := Lib.hid hAl
  have Ho1 := Lib.hid HO2
  clear hAr hAl c8 c19 c20 HO2 hcs
  have hta : ∀ (Z : Array Value) (ty : TypeId), Z.size = 22 → (WT.alloc (.cells Z ty)).there WT.heap.size 0 22 := by
    intro Z ty hZ j hj
    have hb := heap_alloc_new WT (.cells Z ty)
    refine ⟨?_, ?_⟩
    · rw [Nat.zero_add, cell_of_row _ _ _ _ _ _ hb, Array.getElem?_eq_getElem (by omega)]
      rfl
    · rw [Nat.zero_add]; exact frozen_of_row _ _ _ _ _ hb
  have Hta := Lib.hid hta
  have HbA : RowKit.Hid (∀ (o : Obj), Below WT.heap.size WT ((WT.alloc o).setCells WT.heap.size 0 cs)) := Lib.hid fun o => below_cellsR (Nat.le_refl _) cs 0 _ ((Below.refl _ _).alloc (Nat.le_refl _) o)
  clear hta
  have HbR : RowKit.Hid (∀ (Z : Array Value) (ty : TypeId), Z.size = 22 → ((WT.alloc (.cells Z ty)).setCells WT.heap.size 0 cs).rangeAt WT.heap.size 0 cs) := Lib.hid fun Z ty hZ => World.rangeAt_setCells_same _ _ _ _ (by rw [Hal.out]; exact Hta.out Z ty hZ)
  obtain ⟨b7, hb7⟩ : ∃ b, WT.heap.size = b := ⟨_, rfl⟩
  have Hb7 := Lib.hid hb7
  go_upto_region 7 with (first
    | refine wpList_load_mid rfl 51 (.tmp 20) rfl B 0 rfl cs _ Har.out Try.underlying51 rfl (by rw [Hal.out]; exact Try.size51) ?_
    | refine wpList_store_mid rfl 51 (.tmp 7) (.tmp 21) rfl b7 0 cs.toArray rfl rfl (by rw [← Hb7.out]; simp only [List.size_toArray, Hal.out]; exact Hta.out _ _ rfl) (by simp only [List.size_toArray, Hal.out]; exact Try.size51) Ho1.out ?_)
  generalize hW6 : (WT.alloc _).setCells _ 0 cs = W6 at *
  have hb6 : Below WT.heap.size WT W6 := by rw [← hW6, ← hb7]; exact HbA.out _
  have hr6 : W6.rangeAt b7 0 cs := by rw [← hW6, ← hb7]; exact HbR.out _ _ rfl
  have d8 := hr6 8 _ Hcs.out.1
  have d19 := hr6 19 _ Hcs.out.2.1
  have d20 := hr6 20 _ Hcs.out.2.2
  have hl6 : b7 < W6.heap.size := World.block_lt_of_cell? _ _ d20
  have d0 := (hb6.cell (p := ⟨bt, 0, none⟩) hbtl).trans hc2
  have hbk6 := (hb6.block B hBl).trans Hbk.out
  have HRow6 := Lib.hid (HRow.out.mono hb6)
  have Hb6 := Lib.hid (Hball.out.trans (hb6.mono Hball.out.size))
  have Hbk6 := Lib.hid hbk6
  simp only [Nat.zero_add] at d8 d19 d20
  have HD := Lib.hid (show ∀ wx, Below W6.heap.size W6 wx → wx.cell? ⟨b7, 8, none⟩ = some (.slice ia inn ic) ∧ wx.cell? ⟨b7, 19, none⟩ = some (.slice oa on oc) ∧ wx.cell? ⟨b7, 20, none⟩ = some (.int .i64 0) from fun wx hb => ⟨(hb.cell (p := ⟨b7, 8, none⟩) hl6).trans d8, (hb.cell (p := ⟨b7, 19, none⟩) hl6).trans d19, (hb.cell (p := ⟨b7, 20, none⟩) hl6).trans d20⟩)
  have hi0 : (0 : Int) < inn := by have := Hni.out; omega
  have HPc := Lib.hid (HP.out W6 _ Hb6.out HRow6.out)
  clear hb6 hr6 hW6 hbk6 Hta HbA HbR Har Ho1 hc2 hbtl hBl Hbk Hball HRow Hcs
  go_wp2_with (refine wpList_load_row rfl 56 (.tmp 2) rfl B rfl 56 A (0, 0) _ Hbk6.out Try.underlying56 rfl (by rw [HA.out.1]; exact Try.size56) ?_)
  go_wp2_with fail
  (with_reducible refine HPc.out.mono ?_)
  rintro e w1 ⟨v1, rfl, hv1, hb1⟩
  obtain ⟨ga, gn, gc, rfl, hgn, hgs⟩ := hv1
  have Hgs := Lib.hid hgs
  have Hgn := Lib.hid hgn
  have Hb1 := Lib.hid hb1
  clear hgs hgn hb1 HPc d0 d8 d19 d20 hi0
  go_wp2
  obtain ⟨F, hF⟩ : ∃ F : List Rw → Rw, (fun G => its.map fun i => resV i G) = F := ⟨_, rfl⟩
  have hRL : resL es its [] = (groupsL es []).map F := by rw [← hF]; rfl
  have HRL := Lib.hid hRL
  have HR2 := Lib.hid (show ∀ (w' : World) (s : Value), Below w.heap.size w w' → ∀ (i : Nat) (hi : i < (groupsL es []).length), RowsAt w' (groupsL es [])[i] s → Calls Try.prog 30 #[.slice ia inn ic, s] w' (fun e w'' => ∃ v, e = .returned v ∧ RowO w'' w'.heap.size (F (groupsL es [])[i]) v ∧ Below w'.heap.size w' w'') from by rw [← hF]; exact HR.out)
  have Hg40 := Lib.hid (HFit.out.g1)
  clear hRL HR hF
  generalize groupsL es [] = GS at *
  have hgb : gn < 1099511627776 := by have := Hg40.out; have := Hgn.out; omega
  go_loopw [8, 31] (fun z8 z31 wr => ∃ k : Nat, k ≤ gn ∧ z31 = .int .i64 k ∧ RowKit.Hid (RowsOwn wr w1.heap.size ((GS.map F).take k) z8 ∧ Below w1.heap.size w1 wr)) (fun _ z _ => gn - (intOf z).toNat)
  case atStart => exact ⟨0, Nat.zero_le _, rfl, Lib.hid ⟨by simpa using RowsOwn.nil w1 w1.heap.size, Below.refl _ _⟩⟩
  case round =>
    obtain ⟨k, hk, rfl, HW⟩ := hrel
    obtain ⟨a8, h8c, h8⟩ := HW.out.1.shape
    have hlk : ((GS.map F).take k).length = k := by rw [List.length_take, List.length_map, Nat.min_eq_left (by have := Hgn.out; omega)]
    rw [hlk] at h8
    subst h8
    have hbw6 : Below W6.heap.size W6 wr := Hb1.out.trans (HW.out.2.mono Hb1.out.size)
    have hbw : Below w.heap.size w wr := Hb6.out.trans (hbw6.mono Hb6.out.size)
    have HDr := Lib.hid (show ∀ wx, Below wr.heap.size wr wx → wx.cell? ⟨b7, 8, none⟩ = some (.slice ia inn ic) ∧ wx.cell? ⟨b7, 19, none⟩ = some (.slice oa on oc) ∧ wx.cell? ⟨b7, 20, none⟩ = some (.int .i64 0) from fun wx hb => HD.out wx (hbw6.trans (hb.mono hbw6.size)))
    obtain ⟨d8, d19, -⟩ := HDr.out wr (Below.refl _ _)
    have Hbw := Lib.hid hbw
    clear hbw6 hbw
    by_cases hlt : k < gn
    · have hkl : k < GS.length := by have := Hgn.out; omega
      obtain ⟨b, o, x, rfl, hbl, hcx, hrx⟩ := Hgs.out k hkl
      have hcx' := (HW.out.2.cell (p := ⟨b, o + k, none⟩) hbl).trans hcx
      have hrx' := hrx.mono HW.out.2
      obtain ⟨xa, xn, xc, rfl, -⟩ := hrx.shape
      have hbl' := Nat.lt_of_lt_of_le hbl HW.out.2.size
      have HRc := Lib.hid (HR2.out wr _ Hbw.out k hkl hrx')
      have HT := Lib.hid (show (GS.map F).take (k + 1) = (GS.map F).take k ++ [F GS[k]] by rw [List.take_succ_eq_append_getElem (by simpa using hkl), List.getElem_map])
      have Hlk := Lib.hid hlk
      have hi2 : (k : Int) < gn := by omega
      generalize F GS[k] = R at *
      clear hcx hbl hrx hrx' hkl d19 hlk
      go_wp2_with fail
      (with_reducible refine HRc.out.mono ?_)
      rintro e w2 ⟨v2, rfl, hv2, hb2⟩
      obtain ⟨ya, yn, yc, rfl, -, -⟩ := hv2.vals.shape
      have hown2 := HW.out.1.mono hb2
      have hval2 := hv2.vals
      have hfar2 : Far w2 w1.heap.size (.slice ya yn yc) := hv2.far
      have hs2 : w1.heap.size ≤ w2.heap.size := Nat.le_trans HW.out.2.size hb2.size
      have hb3 : Below w2.heap.size w2 (w2.alloc (.cells #[.slice ya yn yc] 61)) := (Below.refl _ _).alloc (Nat.le_refl _) _
      have H2 := Lib.hid (show RowsOwn (w2.alloc (.cells #[.slice ya yn yc] 61)) w1.heap.size ((GS.map F).take k) (.slice a8 k h8c) ∧ ValsAt (w2.alloc (.cells #[.slice ya yn yc] 61)) R (.slice ya yn yc) ∧ Far (w2.alloc (.cells #[.slice ya yn yc] 61)) w1.heap.size (.slice ya yn yc) ∧ w1.heap.size ≤ (w2.alloc (.cells #[.slice ya yn yc] 61)).heap.size ∧ Below w1.heap.size w1 (w2.alloc (.cells #[.slice ya yn yc] 61)) from
        ⟨hown2.mono hb3, hval2.mono hb3, hfar2.mono hval2 hb3, Nat.le_trans hs2 hb3.size, (HW.out.2.trans (hb2.mono HW.out.2.size)).trans (hb3.mono hs2)⟩)
      clear hv2 hown2 hval2 hfar2 hs2 hb3 hb2 HRc
      go_wp2_with (at_builtin; go_loud (refine wpList_row rfl _ _ rfl w1.heap.size ((GS.map F).take k) R _ rfl H2.out.1 _ _ _ rfl (by simp) H2.out.2.1 H2.out.2.2.1 (by rw [Hlk.out]; have := Hg40.out; have := Hgn.out; omega) H2.out.2.2.2.1 ?_))
      intro v4 w4 ho4 hb4 _
      have HN := Lib.hid (show RowsOwn w4 w1.heap.size ((GS.map F).take (k + 1)) v4 ∧ Below w1.heap.size w1 w4 from ⟨by rw [HT.out]; exact ho4, H2.out.2.2.2.2.trans hb4⟩)
      clear ho4 hb4 H2
      go_wp2
      go_roundw
      case rel => exact ⟨k + 1, by omega, by go_num, HN⟩
      case measure => simp [intOf]; omega
    · obtain rfl : k = gn := by omega
      have hall : (GS.map F).take k = resL es its [] := by rw [HRL.out, List.take_of_length_le (by rw [List.length_map]; have := Hgn.out; omega)]
      have HSc := Lib.hid (HSo.out wr _ Hbw.out (by rw [← hall]; exact HW.out.1.at))
      clear d8 hlk
      go_wp2_with fail
      (with_reducible refine HSc.out.mono ?_)
      rintro e w3 ⟨u, rfl, hu, hb3⟩
      obtain ⟨-, -, d20⟩ := HDr.out w3 hb3
      obtain ⟨ua, uc, rfl⟩ := hu.shape
      have HE := Lib.hid (show RowsAt w3 (sortL os (resL es its [])) (.slice ua (sortL os (resL es its [])).length uc) ∧ Below w.heap.size w w3 from ⟨hu.at, Hbw.out.trans (hb3.mono Hbw.out.size)⟩)
      generalize (sortL os (resL es its [])).length = un at *
      clear hu hb3 HSc
      go_wp2
      refine bodyPostM_ret (results_tmp rfl _ _ _) rfl ?_
      exact ⟨_, rfl, HE.out⟩
end Go.Proofs.Ytodabeibdgancaa
/- Result at an iterator over rows: the walk. -/
namespace Go.Proofs.Ytodabeibdgancaa
open Go Go.RowKit Go.Shelf
attribute [local go_sem] Oper.semAt_some
theorem fins_map (n : Nat) (L : List Rw) (h : n = L.length) : (List.finRange n).map (fun i => L.getD i.val []) = L := by
  subst h
  apply List.ext_getElem
  · simp
  · intro i h1 h2
    simp [List.getD_eq_getElem?_getD]
/-- The rows' slices, by their places. -/
theorem rows_fun {w : World} {L : List Rw} {b o n c : Nat} (h : RowsAt w L (.slice (some ⟨b, o, none⟩) n c)) (hn : n = L.length) :
    ∃ f : Nat → Option Addr × Nat × Nat, ∀ i, i < n → w.cell? ⟨b, o + i, none⟩ = some (.slice (f i).1 (f i).2.1 (f i).2.2) ∧ ValsAt w (L.getD i []) (.slice (f i).1 (f i).2.1 (f i).2.2) := by
  refine Classical.axiomOfChoice (r := fun i (p : Option Addr × Nat × Nat) => i < n → w.cell? ⟨b, o + i, none⟩ = some (.slice p.1 p.2.1 p.2.2) ∧ ValsAt w (L.getD i []) (.slice p.1 p.2.1 p.2.2)) fun i => ?_
  by_cases hi : i < n
  · obtain ⟨x, h1, h2⟩ := h.cell i (by omega)
    obtain ⟨a, m, c, rfl, -⟩ := h2.shape
    exact ⟨(a, m, c), fun _ => ⟨h1, by rw [List.getD_eq_getElem?_getD, List.getElem?_eq_getElem (by omega)]; exact h2⟩⟩
  · exact ⟨(none, 0, 0), fun h => absurd h hi⟩
/-- What holds between two rounds. -/
def RsI (L : List Rw) (n bt : Nat) (W0 : World) (pre : List (Fin n)) (W : World) : Prop := ∃ v, Boxed W bt 29 v ∧ RowsOwn W W0.heap.size (pre.map fun i => L.getD i.val []) v ∧ Below W0.heap.size W0 W
theorem rsI_own (L : List Rw) (n bt : Nat) (W0 : World) (B : Nat) (hB : W0.heap.size ≤ B) : OwnFrom B (RsI L n bt W0) := by
  rintro s W W' row ⟨v, h1, h2, h3⟩ hg hr
  have hne : ∀ k, row = some k → ∃ o : Obj, W.heap[k]? = some o ∧ o.isCells = false := fun k e => (hr k e).2
  refine ⟨v, h1.kept hg (fun e => ?_), h2.kept hg (fun k e => ⟨Nat.le_trans hB (hr k e).1, fun h => ?_, fun cur fr h => ?_⟩), h3.grown hg h3.size (fun k e => Nat.le_trans hB (hr k e).1)⟩
  · obtain ⟨o, e1, e2⟩ := hne bt e.symm
    rw [show W.heap[bt]? = _ from h1] at e1; cases e1; cases e2
  · obtain ⟨o, e1, e2⟩ := hne k e
    obtain ⟨cur, fr, e3⟩ := h2.type h
    rw [e3] at e1; cases e1; cases e2
  · obtain ⟨o, e1, e2⟩ := hne k e
    rw [h] at e1; cases e1; cases e2
set_option maxHeartbeats 16000000 in
set_option maxRecDepth 100000 in
theorem result13_rows (bd : Bd) (es : List Xp) (its : List It) (os : List Od) (L : List Rw) (m : Nat) (bx : Nat) (u : Value) (w : World) (hfit : ResFit bd es its os L m w) (hbx : Boxed w bx 29 u) (hu : RowsAt w L u) (hl0 : 0 < L.length) :
    Calls Try.prog 13 #[.agg bd.arr, .func (.func 45) #[] #[.pointer (some ⟨bx, 0, none⟩)]] w (Res13 bd es its os L w) := by
  obtain ⟨ua, n, uc, rfl, hn, -⟩ := hu.shape
  obtain ⟨ub, uo, rfl⟩ := hu.has 0 (by omega)
  obtain ⟨f, hf⟩ := rows_fun hu hn
  have hub := hu.lt hl0
  have HF := Lib.hid hf
  have HLm := Lib.hid (show ∀ r ∈ L, r.length < 1099511627776 from fun r hr => by rw [hfit.hm r hr]; exact hfit.b3)
  have hn40 : n < 1099511627776 := by have := hfit.b2; omega
  have Hn := Lib.hid hn
  have Hub := Lib.hid hub
  have HBx := Lib.hid hbx
  clear hf hu hl0 hub hbx
  have HFit := Lib.hid hfit
  have HP := Lib.hid (fun (w' : World) (s : Value) (hb : Below w.heap.size w w') (hs : RowsAt w' L s) => parts_fit hfit hb hs)
  have HR := Lib.hid (fun (w' : World) (s : Value) (hb : Below w.heap.size w w') (i : Nat) (hi : i < (groupsL es L).length) (hs : RowsAt w' (groupsL es L)[i] s) => result_fit hfit hb i hi hs)
  have HSo := Lib.hid (fun (w' : World) (s : Value) (hb : Below w.heap.size w w') (hs : RowsAt w' (resL es its L) s) => sort_fit hfit hb hs)
  have Hni := Lib.hid (show bd.items.n = its.length ∧ 0 < its.length from by
    obtain ⟨_, _, _, h0, h1, -⟩ := hfit.hi.shape
    injection h0 with _ h0 _
    exact ⟨by omega, hfit.ne⟩)
  have HA := Lib.hid (show bd.arr.size = 26 ∧ bd.arr[8]? = some (.slice bd.items.a bd.items.n bd.items.c) ∧ bd.arr[19]? = some (.slice bd.order.a bd.order.n bd.order.c) ∧ bd.arr[20]? = some (.int .i64 0) from ⟨rfl, rfl, rfl, by rw [← hfit.lim]; rfl⟩)
  have HO := Lib.hid (arr_all bd)
  have hb0 : Below w.heap.size w (w.alloc (.cells bd.arr 56)) := (Below.refl _ _).alloc (Nat.le_refl _) _
  have hblk : (w.alloc (.cells bd.arr 56)).heap[w.heap.size]? = some (.cells bd.arr 56 (0, 0)) := heap_alloc_new w _
  clear hfit
  generalize bd.arr = A at *
  generalize bd.items.a = ia at *
  generalize bd.items.n = inn at *
  generalize bd.items.c = ic at *
  generalize bd.order.a = oa at *
  generalize bd.order.n = on at *
  generalize bd.order.c = oc at *
  obtain ⟨B, hB⟩ : ∃ B, w.heap.size = B := ⟨_, rfl⟩
  have hsz : (w.alloc (.cells A 56)).heap.size = B + 1 := by simp [hB]
  have HB := Lib.hid hB
  rw [hB] at hb0 hblk
  refine calls_of_wp_m Try.func13 rfl ?_
  simp only [Try.ntmps13, List.size_toArray, List.length_cons, List.length_nil, Nat.reduceAdd, Nat.reduceSub, Array.replicate_succ, Array.replicate_zero, List.push_toArray, List.append_toArray, List.nil_append, List.cons_append]
  clear hB
  go_upto_region 1 with (fail)
  simp only [HB.out]
  generalize w.alloc (.cells A 56) = W0 at *
  have HN := run_neq_func (P := Try.prog) Try.underlying59 (fn := .func 45) (first := #[]) (cap := #[.pointer (some ⟨bx, 0, none⟩)])
  have Hblk := Lib.hid hblk
  have Hb0 := Lib.hid hb0
  have Hsz := Lib.hid hsz
  obtain ⟨bt, hbt⟩ : ∃ bt, W0.heap.size = bt := ⟨_, rfl⟩
  have Hbt := Lib.hid hbt
  clear hblk hb0 hsz hn
  go_wp2_with (simp only [HN])
  have hWs : (W0.alloc (.cells #[.slice none 0 0] 29)).heap.size = bt + 1 := by simp [Hbt.out]
  have hWb : Below W0.heap.size W0 (W0.alloc (.cells #[.slice none 0 0] 29)) := (Below.refl _ _).alloc (Nat.le_refl _) _
  have hWx : Boxed (W0.alloc (.cells #[.slice none 0 0] 29)) bt 29 (.slice none 0 0) := by rw [← Hbt.out]; exact Boxed.new _ _ _
  generalize W0.alloc (.cells #[.slice none 0 0] 29) = WL at *
  have hb0w : Below w.heap.size w W0 := by rw [HB.out]; exact Hb0.out
  have Hb0w := Lib.hid hb0w
  have HWs := Lib.hid hWs
  have HWb := Lib.hid hWb
  have HWx := Lib.hid hWx
  have hbx0 : Boxed W0 bx 29 (.slice (some ⟨ub, uo, none⟩) n uc) := (hb0w.block bx HBx.out.lt).trans HBx.out
  have Hbx0 := Lib.hid hbx0
  have HF0 := Lib.hid (show ∀ i, i < n → W0.cell? ⟨ub, uo + i, none⟩ = some (.slice (f i).1 (f i).2.1 (f i).2.2) ∧ ValsAt W0 (L.getD i []) (.slice (f i).1 (f i).2.1 (f i).2.2) from fun i hi => ⟨(hb0w.cell (p := ⟨ub, uo + i, none⟩) Hub.out).trans (HF.out i hi).1, (HF.out i hi).2.mono hb0w⟩)
  have hub0 : ub < W0.heap.size := Nat.lt_of_lt_of_le Hub.out hb0w.size
  have Hub0 := Lib.hid hub0
  clear hWs hWb hWx hb0w hbx0 hub0 hbt HN
  refine (wpIn_wide (n := 3)).1 (wpIn_rangeFunc_ownF (w0 := W0) (α := Fin n) (Kp := fun X Y => Below W0.heap.size X Y) (S := fun ys => ys = List.finRange n) (Sp := fun _ => True) (N := n) (encs := fun i => #[.slice (f i.val).1 (f i.val).2.1 (f i.val).2.2]) rfl (by decide) rfl trivial (enters_of Try.func45 (by kernel_rfl) rfl)
    ?seq (fun h k => h.trans k) ?hKb HWb.out (fun _ => rfl) (RsI L n bt W0) (fun _ _ _ => False) (rsI_own L n bt W0 _ HWb.out.size) (fun _ _ _ _ _ h _ _ => h) ?h0 (fun i => { tmps := #[.agg A, .func (.func 45) #[] #[.pointer (some ⟨bx, 0, none⟩)], .pointer (some ⟨B, 0, none⟩), undef, .slice none 0 0, .pointer (some ⟨bt, 0, none⟩), .slice (f i.val).1 (f i.val).2.1 (f i.val).2.2, undef, undef, undef, undef, .func (.func 45) #[] #[.pointer (some ⟨bx, 0, none⟩)], .bool true, .func (.func 45) #[] #[.pointer (some ⟨bx, 0, none⟩)], .slice (f i.val).1 (f i.val).2.1 (f i.val).2.2, undef, undef, undef, undef, undef, undef, undef, undef, undef, undef, undef, undef, undef, undef, undef, undef, undef, undef, undef, undef, undef, undef, undef, undef, undef, undef, undef, undef, undef, undef, undef, undef, undef, undef, undef, undef, undef, undef, undef, undef, undef, undef, undef, undef, undef, undef, undef], defers := [] }) ?assign ?body ?done ?stop)
  case seq =>
    intro l J Jx W hW _ _ hY h0
    refine values1_in 2 (by decide) l bx n ub uo uc W0.heap.size (fun i => (f i).1) (fun i => (f i).2.1) (fun i => (f i).2.2) Hub0.out hn40 J Jx hY W ?_ (fun j hj => ?_) h0
    · exact (hW.cell (p := ⟨bx, 0, none⟩) Hbx0.out.lt).trans Hbx0.out.cell
    · exact (hW.cell (p := ⟨ub, uo + j, none⟩) Hub0.out).trans (HF0.out j hj).1
  case hKb =>
    intro W l o o' hl h1 h2 h3
    exact belowK_b HWb.out.size W l o o' hl h1 h2 h3
  case h0 => exact ⟨_, HWx.out, RowsOwn.nil _ _, HWb.out⟩
  case assign =>
    intro l x W K hK
    gi_wp2
    exact hK
  case body =>
    rintro l pre x W ⟨v, h1, h2, h3⟩ hlen
    have hx := (HF0.out x.val x.isLt).2
    have hxl : x.val < L.length := by rw [← Hn.out]; exact x.isLt
    have hR : (L.getD x.val []).length < 1099511627776 := by
      rw [List.getD_eq_getElem?_getD, List.getElem?_eq_getElem hxl]
      exact HLm.out _ (List.getElem_mem hxl)
    have H1 := Lib.hid (And.intro h1 (And.intro h2 h3))
    have HX := Lib.hid hx
    have HRl := Lib.hid hR
    have Hlen := Lib.hid hlen
    clear h1 h2 h3 hx hxl hR hlen
    gi_wp2
    refine rRs W0.heap.size bt (pre.map fun (i : Fin n) => L.getD i.val []) (L.getD x.val []) v (.slice (f x.val).1 (f x.val).2.1 (f x.val).2.2) rfl rfl rfl (fun _ _ h => h) H1.out.1 H1.out.2.1 (HX.out.mono H1.out.2.2) (by rw [Hbt.out]; exact Nat.le_refl _) H1.out.2.2.size HRl.out (by rw [List.length_map]; have := Hlen.out; omega) _ (by kernel_rfl) ?_
    rintro a1 w1 hk hb ⟨v', q1, q2⟩
    exact ⟨hk, hb, v', q1, by rw [List.map_append]; exact q2, H1.out.2.2.trans hb⟩
  case done =>
    rintro D ys WT hD hS ⟨v, h1, h2, h3⟩ hK
    rw [hS, fins_map n L Hn.out] at h2
    obtain ⟨sa, sc, rfl⟩ := h2.shape
    have hBW0 : B < W0.heap.size := by have := Hsz.out; omega
    have hbtl : bt < WT.heap.size := h1.lt
    have hBl : B < WT.heap.size := Nat.lt_of_lt_of_le hBW0 h3.size
    have hc2 := h1.cell
    have HRow := Lib.hid h2.at
    have Hball := Lib.hid (Hb0w.out.trans (h3.mono Hb0w.out.size))
    have Hbk := Lib.hid ((h3.block B hBW0).trans Hblk.out)
    have HKD := Lib.hid hK
    have HDl := Lib.hid (show w.heap.size ≤ D from Nat.le_trans Hb0w.out.size (Nat.le_trans HWb.out.size hD))
    clear h1 h2 h3 hS hK hBW0 hD HWb HWx Hbx0 HF0 Hub0 HWs Hb0w Hblk Hb0 HF Hub HBx HLm Hsz
    generalize L.length = n0 at hc2 HRow ⊢
    dsimp only
    have hAr : WT.rangeAt B 0 (A.extract 0 (0 + 22)).toList := World.rangeAt_of_block Hbk.out 0 22
    have hAl : (A.extract 0 (0 + 22)).toList.length = 22 := by simp [HA.out.1]
    obtain ⟨cs, hcs⟩ : ∃ cs, (A.extract 0 (0 + 22)).toList = cs := ⟨_, rfl⟩
    have c8 : cs[8]? = some (.slice ia inn ic) := by rw [← hcs, Array.getElem?_toList, Array.getElem?_extract, if_pos (by rw [HA.out.1]; decide)]; exact HA.out.2.1
    have c19 : cs[19]? = some (.slice oa on oc) := by rw [← hcs, Array.getElem?_toList, Array.getElem?_extract, if_pos (by rw [HA.out.1]; decide)]; exact HA.out.2.2.1
    have c20 : cs[20]? = some (.int .i64 0) := by rw [← hcs, Array.getElem?_toList, Array.getElem?_extract, if_pos (by rw [HA.out.1]; decide)]; exact HA.out.2.2.2
    have HO2 := HO.out
    rw [hcs] at HO2 hAr hAl
    have Hcs := Lib.hid (And.intro c8 (And.intro c19 c20))
    have Har := Lib.hid hAr
    have Hal := Lib.hid hAl
    have Ho1 := Lib.hid HO2
    clear hAr hAl c8 c19 c20 HO2 hcs
    have hta : ∀ (Z : Array Value) (ty : TypeId), Z.size = 22 → (WT.alloc (.cells Z ty)).there WT.heap.size 0 22 := by
      intro Z ty hZ j hj
      have hb := heap_alloc_new WT (.cells Z ty)
      refine ⟨?_, ?_⟩
      · rw [Nat.zero_add, cell_of_row _ _ _ _ _ _ hb, Array.getElem?_eq_getElem (by omega)]
        rfl
      · rw [Nat.zero_add]; exact frozen_of_row _ _ _ _ _ hb
    have Hta := Lib.hid hta
    have HbA : RowKit.Hid (∀ (o : Obj), Below WT.heap.size WT ((WT.alloc o).setCells WT.heap.size 0 cs)) := Lib.hid fun o => below_cellsR (Nat.le_refl _) cs 0 _ ((Below.refl _ _).alloc (Nat.le_refl _) o)
    clear hta
    have HbR : RowKit.Hid (∀ (Z : Array Value) (ty : TypeId), Z.size = 22 → ((WT.alloc (.cells Z ty)).setCells WT.heap.size 0 cs).rangeAt WT.heap.size 0 cs) := Lib.hid fun Z ty hZ => World.rangeAt_setCells_same _ _ _ _ (by rw [Hal.out]; exact Hta.out Z ty hZ)
    obtain ⟨b7, hb7⟩ : ∃ b, WT.heap.size = b := ⟨_, rfl⟩
    have Hb7 := Lib.hid hb7
    go_upto_region 7 with (first
      | refine wpList_load_mid rfl 51 (.tmp 20) rfl B 0 rfl cs _ Har.out Try.underlying51 rfl (by rw [Hal.out]; exact Try.size51) ?_
      | refine wpList_store_mid rfl 51 (.tmp 7) (.tmp 21) rfl b7 0 cs.toArray rfl rfl (by rw [← Hb7.out]; simp only [List.size_toArray, Hal.out]; exact Hta.out _ _ rfl) (by simp only [List.size_toArray, Hal.out]; exact Try.size51) Ho1.out ?_)
    generalize hW6 : (WT.alloc _).setCells _ 0 cs = W6 at *
    have hb6 : Below WT.heap.size WT W6 := by rw [← hW6, ← hb7]; exact HbA.out _
    have hr6 : W6.rangeAt b7 0 cs := by rw [← hW6, ← hb7]; exact HbR.out _ _ rfl
    have d8 := hr6 8 _ Hcs.out.1
    have d19 := hr6 19 _ Hcs.out.2.1
    have d20 := hr6 20 _ Hcs.out.2.2
    have hl6 : b7 < W6.heap.size := World.block_lt_of_cell? _ _ d20
    have d0 := (hb6.cell (p := ⟨bt, 0, none⟩) hbtl).trans hc2
    have hbk6 := (hb6.block B hBl).trans Hbk.out
    have HRow6 := Lib.hid (HRow.out.mono hb6)
    have Hb6 := Lib.hid (Hball.out.trans (hb6.mono Hball.out.size))
    have Hbk6 := Lib.hid hbk6
    simp only [Nat.zero_add] at d8 d19 d20
    have HD := Lib.hid (show ∀ wx, Below W6.heap.size W6 wx → wx.cell? ⟨b7, 8, none⟩ = some (.slice ia inn ic) ∧ wx.cell? ⟨b7, 19, none⟩ = some (.slice oa on oc) ∧ wx.cell? ⟨b7, 20, none⟩ = some (.int .i64 0) from fun wx hb => ⟨(hb.cell (p := ⟨b7, 8, none⟩) hl6).trans d8, (hb.cell (p := ⟨b7, 19, none⟩) hl6).trans d19, (hb.cell (p := ⟨b7, 20, none⟩) hl6).trans d20⟩)
    have HDk := Lib.hid (show ∀ wx, Below W6.heap.size W6 wx → wx.heap[D]? = some (.deferred (some [])) from fun wx hb => by
      have hDl : D < WT.heap.size := (Array.getElem?_eq_some_iff.1 HKD.out).1
      exact (hb.block D (Nat.lt_of_lt_of_le hDl hb6.size)).trans ((hb6.block D hDl).trans HKD.out))
    have hi0 : (0 : Int) < inn := by have := Hni.out; omega
    have HPc := Lib.hid (HP.out W6 _ Hb6.out HRow6.out)
    clear hb6 hr6 hW6 hbk6 Hta HbA HbR Har Ho1 hc2 hbtl hBl Hbk Hball HRow Hcs
    go_wp2_with (refine wpList_load_row rfl 56 (.tmp 2) rfl B rfl 56 A (0, 0) _ Hbk6.out Try.underlying56 rfl (by rw [HA.out.1]; exact Try.size56) ?_)
    go_wp2_with fail
    (with_reducible refine HPc.out.mono ?_)
    rintro e w1 ⟨v1, rfl, hv1, hb1⟩
    obtain ⟨ga, gn, gc, rfl, hgn, hgs⟩ := hv1
    have Hgs := Lib.hid hgs
    have Hgn := Lib.hid hgn
    have Hb1 := Lib.hid hb1
    clear hgs hgn hb1 HPc d0 d8 d19 d20 hi0
    go_wp2
    obtain ⟨F, hF⟩ : ∃ F : List Rw → Rw, (fun G => its.map fun i => resV i G) = F := ⟨_, rfl⟩
    have hRL : resL es its L = (groupsL es L).map F := by rw [← hF]; rfl
    have HRL := Lib.hid hRL
    have HR2 := Lib.hid (show ∀ (w' : World) (s : Value), Below w.heap.size w w' → ∀ (i : Nat) (hi : i < (groupsL es L).length), RowsAt w' (groupsL es L)[i] s → Calls Try.prog 30 #[.slice ia inn ic, s] w' (fun e w'' => ∃ v, e = .returned v ∧ RowO w'' w'.heap.size (F (groupsL es L)[i]) v ∧ Below w'.heap.size w' w'') from by rw [← hF]; exact HR.out)
    have Hg40 := Lib.hid (HFit.out.g1)
    clear hRL HR hF
    generalize groupsL es L = GS at *
    have hgb : gn < 1099511627776 := by have := Hg40.out; have := Hgn.out; omega
    go_loopw [8, 31] (fun z8 z31 wr => ∃ k : Nat, k ≤ gn ∧ z31 = .int .i64 k ∧ RowKit.Hid (RowsOwn wr w1.heap.size ((GS.map F).take k) z8 ∧ Below w1.heap.size w1 wr)) (fun _ z _ => gn - (intOf z).toNat)
    case atStart => exact ⟨0, Nat.zero_le _, rfl, Lib.hid ⟨by simpa using RowsOwn.nil w1 w1.heap.size, Below.refl _ _⟩⟩
    case round =>
      obtain ⟨k, hk, rfl, HW⟩ := hrel
      obtain ⟨a8, h8c, h8⟩ := HW.out.1.shape
      have hlk : ((GS.map F).take k).length = k := by rw [List.length_take, List.length_map, Nat.min_eq_left (by have := Hgn.out; omega)]
      rw [hlk] at h8
      subst h8
      have hbw6 : Below W6.heap.size W6 wr := Hb1.out.trans (HW.out.2.mono Hb1.out.size)
      have hbw : Below w.heap.size w wr := Hb6.out.trans (hbw6.mono Hb6.out.size)
      have HDr := Lib.hid (show ∀ wx, Below wr.heap.size wr wx → wx.cell? ⟨b7, 8, none⟩ = some (.slice ia inn ic) ∧ wx.cell? ⟨b7, 19, none⟩ = some (.slice oa on oc) ∧ wx.cell? ⟨b7, 20, none⟩ = some (.int .i64 0) from fun wx hb => HD.out wx (hbw6.trans (hb.mono hbw6.size)))
      have HDk2 := Lib.hid (show ∀ wx, Below wr.heap.size wr wx → wx.heap[D]? = some (.deferred (some [])) from fun wx hb => HDk.out wx (hbw6.trans (hb.mono hbw6.size)))
      obtain ⟨d8, d19, -⟩ := HDr.out wr (Below.refl _ _)
      have Hbw := Lib.hid hbw
      clear hbw6 hbw
      by_cases hlt : k < gn
      · have hkl : k < GS.length := by have := Hgn.out; omega
        obtain ⟨b, o, x, rfl, hbl, hcx, hrx⟩ := Hgs.out k hkl
        have hcx' := (HW.out.2.cell (p := ⟨b, o + k, none⟩) hbl).trans hcx
        have hrx' := hrx.mono HW.out.2
        obtain ⟨xa, xn, xc, rfl, -⟩ := hrx.shape
        have hbl' := Nat.lt_of_lt_of_le hbl HW.out.2.size
        have HRc := Lib.hid (HR2.out wr _ Hbw.out k hkl hrx')
        have HT := Lib.hid (show (GS.map F).take (k + 1) = (GS.map F).take k ++ [F GS[k]] by rw [List.take_succ_eq_append_getElem (by simpa using hkl), List.getElem_map])
        have Hlk := Lib.hid hlk
        have hi2 : (k : Int) < gn := by omega
        generalize F GS[k] = R at *
        clear hcx hbl hrx hrx' hkl d19 hlk
        go_wp2_with fail
        (with_reducible refine HRc.out.mono ?_)
        rintro e w2 ⟨v2, rfl, hv2, hb2⟩
        obtain ⟨ya, yn, yc, rfl, -, -⟩ := hv2.vals.shape
        have hown2 := HW.out.1.mono hb2
        have hval2 := hv2.vals
        have hfar2 : Far w2 w1.heap.size (.slice ya yn yc) := hv2.far
        have hs2 : w1.heap.size ≤ w2.heap.size := Nat.le_trans HW.out.2.size hb2.size
        have hb3 : Below w2.heap.size w2 (w2.alloc (.cells #[.slice ya yn yc] 61)) := (Below.refl _ _).alloc (Nat.le_refl _) _
        have H2 := Lib.hid (show RowsOwn (w2.alloc (.cells #[.slice ya yn yc] 61)) w1.heap.size ((GS.map F).take k) (.slice a8 k h8c) ∧ ValsAt (w2.alloc (.cells #[.slice ya yn yc] 61)) R (.slice ya yn yc) ∧ Far (w2.alloc (.cells #[.slice ya yn yc] 61)) w1.heap.size (.slice ya yn yc) ∧ w1.heap.size ≤ (w2.alloc (.cells #[.slice ya yn yc] 61)).heap.size ∧ Below w1.heap.size w1 (w2.alloc (.cells #[.slice ya yn yc] 61)) from
          ⟨hown2.mono hb3, hval2.mono hb3, hfar2.mono hval2 hb3, Nat.le_trans hs2 hb3.size, (HW.out.2.trans (hb2.mono HW.out.2.size)).trans (hb3.mono hs2)⟩)
        clear hv2 hown2 hval2 hfar2 hs2 hb3 hb2 HRc
        go_wp2_with (at_builtin; go_loud (refine wpList_row rfl _ _ rfl w1.heap.size ((GS.map F).take k) R _ rfl H2.out.1 _ _ _ rfl (by simp) H2.out.2.1 H2.out.2.2.1 (by rw [Hlk.out]; have := Hg40.out; have := Hgn.out; omega) H2.out.2.2.2.1 ?_))
        intro v4 w4 ho4 hb4 _
        have HN := Lib.hid (show RowsOwn w4 w1.heap.size ((GS.map F).take (k + 1)) v4 ∧ Below w1.heap.size w1 w4 from ⟨by rw [HT.out]; exact ho4, H2.out.2.2.2.2.trans hb4⟩)
        clear ho4 hb4 H2
        go_wp2
        go_roundw
        case rel => exact ⟨k + 1, by omega, by go_num, HN⟩
        case measure => simp [intOf]; omega
      · obtain rfl : k = gn := by omega
        have hall : (GS.map F).take k = resL es its L := by rw [HRL.out, List.take_of_length_le (by rw [List.length_map]; have := Hgn.out; omega)]
        have HSc := Lib.hid (HSo.out wr _ Hbw.out (by rw [← hall]; exact HW.out.1.at))
        clear d8 hlk
        go_wp2_with fail
        (with_reducible refine HSc.out.mono ?_)
        rintro e w3 ⟨u, rfl, hu, hb3⟩
        have HDk3 := Lib.hid (HDk2.out w3 hb3)
        obtain ⟨-, -, d20⟩ := HDr.out w3 hb3
        obtain ⟨ua, uc, rfl⟩ := hu.shape
        have HE := Lib.hid (show RowsAt w3 (sortL os (resL es its L)) (.slice ua (sortL os (resL es its L)).length uc) ∧ Below w.heap.size w w3 from ⟨hu.at, Hbw.out.trans (hb3.mono Hbw.out.size)⟩)
        generalize (sortL os (resL es its L)).length = un at *
        clear hu hb3 HSc
        go_wp2
        refine bodyPostM_mark HDk3.out rfl ⟨_, results_tmp rfl _ _ _, _, rfl, HE.out.1.turn HDk3.out rfl, HE.out.2.trans (belowK_b (w := w) (Nat.le_refl _) w3 D _ _ HDl.out HDk3.out rfl rfl)⟩
  case stop =>
    intro D c pre W _ _ h
    exact h.elim
end Go.Proofs.Ytodabeibdgancaa
/- A region that draws its order, by what is known of each operation's value: facts that stay as the memory grows. (Over any program.) -/
namespace Go.Proofs.Ytodabeibdgancaa
open Go Go.RowKit
/-- Operation i writes slot d; what is known of the value stays as the memory grows. -/
structure Ft where
  i : Nat
  d : Nat
  p : World → Value → Prop
  mono : ∀ w w' v, p w v → Below w.heap.size w w' → p w' v
def Ft.const (i d : Nat) (v : Value) : Ft := ⟨i, d, fun _ u => u = v, fun _ _ _ h _ => h⟩
structure FInv (ops : Array Oper) (a0 : Act) (ks : List Nat) (fs : List Ft) (W : World) (L : Nat → Bool) (a : Act) (w : World) : Prop where
  frame : FrameLike a0 a ks
  below : Below W.heap.size W w
  facts : ∀ f ∈ fs, L f.i = true → f.p w (a.eval (.tmp f.d))
def coverB (ops : Array Oper) (l : List (Nat × Nat)) : Bool := (List.range ops.size).all fun i => match ops[i]? with
  | none => true
  | some o => o.guard.isNone && l.any fun t => t.1 == i && o.dst == some t.2
theorem pair_nodup {l : List Ft} (h : (l.map (·.i)).Nodup) {f g : Ft} (hf : f ∈ l) (hg : g ∈ l) (e : f.i = g.i) : f = g := by
  obtain ⟨k, hk⟩ := List.getElem?_of_mem hf
  obtain ⟨j, hj⟩ := List.getElem?_of_mem hg
  have h1 : (l.map (·.i))[k]? = some f.i := by rw [List.getElem?_map, hk]; rfl
  have h2 : (l.map (·.i))[j]? = some f.i := by rw [List.getElem?_map, hj, e]; rfl
  have := nodup_at h h1 h2
  subst this
  rw [hk] at hj
  exact Option.some.inj hj
theorem pair_nodup_d {l : List Ft} (h : (l.map (·.d)).Nodup) {f g : Ft} (hf : f ∈ l) (hg : g ∈ l) (e : f.d = g.d) : f = g := by
  obtain ⟨k, hk⟩ := List.getElem?_of_mem hf
  obtain ⟨j, hj⟩ := List.getElem?_of_mem hg
  have h1 : (l.map (·.d))[k]? = some f.d := by rw [List.getElem?_map, hk]; rfl
  have h2 : (l.map (·.d))[j]? = some f.d := by rw [List.getElem?_map, hj, e]; rfl
  have := nodup_at h h1 h2
  subst this
  rw [hk] at hj
  exact Option.some.inj hj
theorem wp_region_facts {P : Program} {id : Nat} {ops ops' : Array Oper} {Q : Exit → Act → World → Prop} {a : Act} {w : World} (ks : List Nat) (fs : List Ft) (he : ops = ops') (hm : P.follows .mixedOrders = true) (hf : forwardB ops' = true)
    (hc : coverB ops' (fs.map fun f => (f.i, f.d)) = true) (hi : (fs.map (·.i)).Nodup) (hd : (fs.map (·.d)).Nodup) (hk : ∀ f ∈ fs, f.d ∈ ks ∧ f.d < a.tmps.size ∧ f.i < ops'.size)
    (hstep : ∀ f ∈ fs, ∀ (o : Oper) (a1 : Act) (w1 : World), ops'[f.i]? = some o → Below w.heap.size w w1 → (∀ d, d ∉ ks → a1.eval (.tmp d) = a.eval (.tmp d)) → (∀ g ∈ fs, waitsB ops' f.i g.i = true → g.p w1 (a1.eval (.tmp g.d))) →
      ∀ K : Act → World → Prop, (∀ v w2, Below w1.heap.size w1 w2 → f.p w2 v → K (a1.put (some f.d) v) w2) → o.wp P a1 w1 K (NoPanic Q))
    (hend : ∀ a1 w1, FrameLike a a1 ks → Below w.heap.size w w1 → (∀ f ∈ fs, f.p w1 (a1.eval (.tmp f.d))) → NoPanic Q .normal a1 w1) : (Code.region id ops true).wp P Q a w := by
  have cov : ∀ i o, ops'[i]? = some o → o.guard = none ∧ ∃ f ∈ fs, f.i = i ∧ o.dst = some f.d := by
    intro i o ho
    unfold coverB at hc
    have h1 := List.all_eq_true.1 hc i (List.mem_range.2 (Array.getElem?_eq_some_iff.1 ho).1)
    rw [ho] at h1
    simp only [Bool.and_eq_true, Option.isNone_iff_eq_none, List.any_eq_true, List.mem_map] at h1
    obtain ⟨h2, t, ⟨f, hf, rfl⟩, h3⟩ := h1
    exact ⟨h2, f, hf, by simpa using h3.1, by simpa using h3.2⟩
  refine wp_region_inv (fun L a1 w1 => FInv ops' a ks fs w L a1 w1) he hm hf ⟨FrameLike.refl _ _, Below.drew (Below.refl _ _), fun _ _ h => (nomatch h)⟩ ?_ ?_
  · intro i o L a1 w1 ho hL hdep hI
    obtain ⟨hg, f, hfm, rfl, hdst⟩ := cov i o ho
    have hw : Region.wanted o (yielded ops' a1.tmps) = true := by simp [Region.wanted, hg]
    unfold wpOp
    simp only [ho, hw, if_true]
    refine .inl (hstep f hfm o a1 w1 ho hI.below (fun d hd => hI.frame.same d hd) (fun g hgm hwt => hI.facts g hgm (dep_of ho hdep hwt)) _ (fun v w2 hb hp => ?_))
    refine ⟨hI.frame.put (hk f hfm).1 v, hI.below.trans (hb.mono hI.below.size), fun g hgm hL' => ?_⟩
    by_cases e : g.i = f.i
    · have := pair_nodup hi hgm hfm e
      subst this
      rw [eval_put_same (by rw [hI.frame.size]; exact (hk g hgm).2.1)]
      exact hp
    · have hne : g.d ≠ f.d := fun e' => e (by rw [pair_nodup_d hd hgm hfm e'])
      rw [eval_put_ne hne.symm]
      exact g.mono _ _ _ (hI.facts g hgm (by simpa [e] using hL')) hb
  · intro L a1 w1 hL hI
    refine hend a1 w1 hI.frame hI.below fun f hfm => hI.facts f hfm (hL _ ?_)
    exact (hk f hfm).2.2
end Go.Proofs.Ytodabeibdgancaa
/- The reference's Same (of lists) and Small. -/
namespace Go.Proofs.Ytodabeibdgancaa
open Go.RowKit

set_option maxHeartbeats 2000000 in
theorem same_calls (L M : List Rw) (s t : Value) (w : World) (hs : RowsAt w L s) (ht : RowsAt w M t) :
    Calls Try.prog 10 #[s, t] w fun e w' => e = .returned (.bool (decide (L = M))) ∧ Below w.heap.size w w' := by
  obtain ⟨a, n, c, rfl, hn, hm⟩ := hs.shape
  obtain ⟨a', n', c', rfl, hn', hm'⟩ := ht.shape
  unfold maxLen at hm hm'
  have Hs := Lib.hid hs
  have Ht := Lib.hid ht
  have Hn := Lib.hid hn
  have Hn' := Lib.hid hn'
  clear hs ht hn hn'
  by_cases hne : n = n'
  · subst hne
    have bne : ((n : Int) != (n : Int)) = false := by simp
    go_enter Try.func10, Try.ntmps10
    go_wp2
    go_loopw [5] (fun i wr => ∃ k : Nat, k ≤ n ∧ i = .int .i64 k ∧ RowKit.Hid (decide (L = M) = decide (L.drop k = M.drop k)) ∧ RowKit.Hid (Below w.heap.size w wr)) (fun i _ => n - (intOf i).toNat)
    case atStart => exact ⟨0, Nat.zero_le _, rfl, rfl, Below.refl _ _⟩
    case round =>
      obtain ⟨k, hk, rfl, He, Hb⟩ := hrel
      by_cases hlt : k < n
      · have hk1 : k < L.length := by have := Hn.out; omega
        have hk2 : k < M.length := by have := Hn'.out; omega
        obtain ⟨b, o, rfl⟩ := Hs.out.has k hlt
        obtain ⟨ax, nx, cx, Hcell, -⟩ := Hs.out.row k hk1
        obtain ⟨b', o', rfl⟩ := Ht.out.has k hlt
        obtain ⟨ay, ny, cy, Hcell', -⟩ := Ht.out.row k hk2
        have Hd : RowKit.Hid (L.drop k = L[k] :: L.drop (k + 1)) := List.drop_eq_getElem_cons hk1
        have Hd' : RowKit.Hid (M.drop k = M[k] :: M.drop (k + 1)) := List.drop_eq_getElem_cons hk2
        obtain ⟨hc, hx, hbl⟩ := Hcell.out _ Hb.out
        obtain ⟨hc', hx', hbl'⟩ := Hcell'.out _ Hb.out
        have HC := Lib.hid (fun w' (hb : Below wr.heap.size wr w') => rsame_calls L[k] M[k] _ _ w' (hx.mono hb) (hx'.mono hb))
        clear hx hx'
        generalize L[k] = X at *
        generalize M[k] = Y at *
        have i1 : (0 : Int) ≤ k := by omega
        have i2 : (k : Int) < n := by omega
        clear hk1 hk2
        go_upto_region 6 with (fail)
        go_cut [26] (fun z wx => ∃ q : Bool, z = .bool q ∧ RowKit.Hid (q = !decide (X = Y)) ∧ RowKit.Hid (Below w.heap.size w wx))
        case first =>
          go_region_held3 (fun w' => Below wr.heap.size wr w' ∧ ∀ b o, b < wr.heap.size → w'.cell? ⟨b, o, none⟩ = wr.cell? ⟨b, o, none⟩)
            (first | assumption | exact S_of (Below.drew (Below.refl _ _)) | exact S_step (by assumption) (by assumption))
            (first | (go_at_call 27; (with_reducible refine (HC.out _ (by first | assumption | exact And.left (by assumption))).mono ?_); rintro e w1 ⟨rfl, hb1⟩))
          all_goals
            rename_i hH
            have Hb1 := Lib.hid (Hb.out.trans (hH.1.mono Hb.out.size))
            clear hH
            go_wp2_with fail
            go_meet
            exact ⟨_, rfl, rfl, Hb1⟩
        obtain ⟨q, rfl, Hq, Hb1⟩ := hcut
        clear hc hc' i1 i2 hbl hbl'
        cases q
        · have h0 : X = Y := by simpa using Hq.out
          have Hnext : RowKit.Hid (decide (L = M) = decide (L.drop (k + 1) = M.drop (k + 1))) := by show _ = _; rw [He.out, Hd.out, Hd'.out, h0]; simp
          clear h0
          go_wp2
          go_roundw
          case rel => exact ⟨k + 1, by omega, by go_num, Hnext, Hb1⟩
          case measure => simp [intOf]; omega
        · have h0 : ¬ X = Y := by simpa using Hq.out
          have Hnext : RowKit.Hid (decide (L = M) = false) := by show _ = _; rw [He.out, Hd.out, Hd'.out]; simp [h0]
          clear h0
          go_wp2
          go_ret
          exact ⟨by rw [Hnext.out]; rfl, Hb1.out⟩
      · obtain rfl : k = n := by omega
        have Hend : RowKit.Hid (decide (L = M) = true) := by
          show _ = _
          rw [He.out, List.drop_eq_nil_iff.2 (by have := Hn.out; omega), List.drop_eq_nil_iff.2 (by have := Hn'.out; omega)]
          simp
        go_wp2
        go_ret
        exact ⟨by rw [Hend.out]; rfl, Hb.out⟩
  · have bne : ((n : Int) != (n' : Int)) = true := by simp; omega
    have Hend : RowKit.Hid (decide (L = M) = false) := by
      show _ = _
      rw [decide_eq_false_iff_not]
      intro h
      have h1 := Hn.out
      have h2 := Hn'.out
      rw [h] at h1
      omega
    clear hne
    go_enter Try.func10, Try.ntmps10
    go_wp2
    go_ret
    exact ⟨by rw [Hend.out]; rfl, Below.refl _ _⟩

end Go.Proofs.Ytodabeibdgancaa
/- awake: what is bound, and what comes out. -/
namespace Go.Proofs.Ytodabeibdgancaa
open Go Go.RowKit
theorem wpList_value {P : Program} {ops : Array Oper} {rest : List Oper} {o : Oper} {a : Act} {Q : Exit → Act → World → Prop} {w w' : World} (hgd : o.guard = none) {v : Value} (hr : (execOp a.eval o).run P w = .ok (.value v) w')
    (h : wpList P ops Q rest (a.put o.dst v) w') : wpList P ops Q (o :: rest) a w :=
  wpList_plain hgd fun K hK => by
    unfold Oper.wp
    rw [hr]
    exact hK _ _ h
def overA : Array Value → Nat → List Value → Array Value
  | cs, _, [] => cs
  | cs, o, v :: r => overA (cs.setIfInBounds o v) (o + 1) r
theorem heap_setCellsA (g : Nat) (t : TypeId) : ∀ (vs : List Value) (o : Nat) (cs : Array Value) (w : World), w.heap[g]? = some (.cells cs t (0, 0)) → (w.setCells g o vs).heap[g]? = some (.cells (overA cs o vs) t (0, 0))
  | [], _, _, _, h => h
  | v :: r, o, cs, w, h => by
    rw [World.setCells]
    exact heap_setCellsA g t r (o + 1) _ _ (heap_setCell_same w g o cs t v h)
def strA : ByteArray := ⟨#[97]⟩
def exA : Xp := ⟨2, ⟨#[]⟩, strA, 0, nilV, ⟨none, 0, 0⟩⟩
def ex0 : Xp := ⟨0, ⟨#[]⟩, ⟨#[]⟩, 0, nilV, ⟨none, 0, 0⟩⟩
def its2 : List It := [⟨1, ex0, fun _ => nilV⟩, ⟨3, exA, fun R => R.getD 0 nilV⟩]
def bdA (gi gt : Nat) (grp : Sl) : Bd := ⟨5, ⟨#[]⟩, ⟨none, 0, 0⟩, ⟨none, 0, 0⟩, ⟨none, 0, 0⟩, ⟨none, 0, 0⟩, ⟨none, 0, 0⟩, ⟨none, 0, 0⟩, ⟨some ⟨gi, 0, none⟩, 2, 2⟩, ⟨none, 0, 0⟩, ex0, grp, ⟨none, 0, 0⟩, 0, ⟨#[]⟩, 0, ⟨none, 0, 0⟩, ⟨some ⟨gt, 0, none⟩, 1, 1⟩, ⟨none, 0, 0⟩⟩
def vs4 : Rw := [intV 3, nilV, intV 5, intV 3]
def L3 : List Rw := [[intV 2], [nilV], [intV 2]]
theorem awake1 : sortL [] (resL [] its2 []) = [[intV 0, nilV]] := by kernel_rfl
theorem awake2 : sortL [] (resL [exA] its2 L3) = [[intV 1, nilV], [intV 2, intV 4]] := by kernel_rfl
theorem awake3 : groupsL [exA] L3 = [[[nilV]], [[intV 2], [intV 2]]] := by kernel_rfl
theorem fit_k : ∀ i ∈ its2, i.k ≠ 0 := by
  intro i hi
  simp only [its2, List.mem_cons, List.not_mem_nil, or_false] at hi
  rcases hi with rfl | rfl <;> decide
theorem fit_col : ∀ i ∈ its2, colOk 1 i := by
  intro i hi
  simp only [its2, List.mem_cons, List.not_mem_nil, or_false] at hi
  rcases hi with rfl | rfl
  · exact .inl rfl
  · exact .inr ⟨0, rfl, rfl, by decide, rfl⟩
theorem fit1 (gi gt : Nat) (w : World) (hit : ItemsAt w its2 (.slice (some ⟨gi, 0, none⟩) 2 2)) : ResFit (bdA gi gt ⟨none, 0, 0⟩) [] its2 [] [] 1 w where
  he := .mt
  hi := hit
  ho := .mt
  lim := rfl
  ne := by decide
  hk := fit_k
  col := fit_col
  hm := by simp
  hf := fun e h => nomatch h
  hof := fun e h => nomatch h
  b1 := by decide
  b2 := by decide
  b3 := by decide
  b4 := by decide
  g1 := by decide
  g2 := by
    intro G hG
    have : G = [] := by simpa [groupsL] using hG
    subst this
    exact ⟨by decide, by simp⟩
  g3 := by
    intro G hG
    have : G = [] := by simpa [groupsL] using hG
    subst this
    simp
theorem fit2 (gi gt gg : Nat) (w : World) (hit : ItemsAt w its2 (.slice (some ⟨gi, 0, none⟩) 2 2)) (hx : XpsAt w [exA] (.slice (some ⟨gg, 0, none⟩) 1 1)) : ResFit (bdA gi gt ⟨some ⟨gg, 0, none⟩, 1, 1⟩) [exA] its2 [] L3 1 w where
  he := hx
  hi := hit
  ho := .mt
  lim := rfl
  ne := by decide
  hk := fit_k
  col := fit_col
  hm := by simp [L3]
  hf := by
    intro e h
    rw [List.mem_singleton.1 h]
    exact ⟨by decide, by decide⟩
  hof := fun e h => nomatch h
  b1 := by decide
  b2 := by decide
  b3 := by decide
  b4 := by decide
  g1 := by rw [awake3]; decide
  g2 := by
    rw [awake3]
    intro G hG
    simp only [List.mem_cons, List.not_mem_nil, or_false] at hG
    rcases hG with rfl | rfl <;> exact ⟨by decide, by simp⟩
  g3 := by
    rw [awake3]
    intro G hG i hi R hR
    simp only [its2, List.mem_cons, List.not_mem_nil, or_false] at hG hi
    rcases hG with rfl | rfl <;> rcases hi with rfl | rfl <;> simp only [List.mem_cons, List.not_mem_nil, or_false, or_self] at hR <;> subst hR <;> decide
/-- A cell turns that held the empty slice: what holds anything else is as it was. -/
theorem cell_setNil {w : World} {p q : Addr} {v old u : Value} (h : w.cell? p = some v) (ho : w.cell? q = some old) (hne : v ≠ old) : (w.setCell q u).cell? p = some v := by
  rw [World.cell?_setCell_other _ _ _ _ (fun e => hne (by rw [e, h] at ho; exact Option.some.inj ho))]
  exact h
theorem size_setC (w : World) (q : Addr) (u : Value) : (w.setCell q u).heap.size = w.heap.size := by
  show (w.heap.modify _ _).size = _
  rw [Array.size_modify]
theorem ValsAt.setNil {w : World} {r : Rw} {x u : Value} {q : Addr} (h : ValsAt w r x) (ho : w.cell? q = some (.slice none 0 0)) : ValsAt (w.setCell q u) r x := by
  cases h with
  | mt => exact .mt
  | lie _ b o n cap hn hlt hm hc ht =>
    refine .lie _ b o n cap hn (by rw [size_setC]; exact hlt) hm (fun i hi j hj => ?_) ht
    have h1 := hc i hi j hj
    rcases (by omega : j = 0 ∨ j = 1 ∨ j = 2) with rfl | rfl | rfl
    · exact cell_setNil (v := .int .i64 r[i].kind) h1 ho (by simp)
    · exact cell_setNil (v := .int .i64 r[i].int) h1 ho (by simp)
    · exact cell_setNil (v := .string r[i].text) h1 ho (by simp)
theorem RowsAt.setNil {w : World} {L : List Rw} {x u : Value} {q : Addr} (h : RowsAt w L x) (ho : w.cell? q = some (.slice none 0 0)) (hne : ∀ r ∈ L, r ≠ []) : RowsAt (w.setCell q u) L x := by
  cases h with
  | mt => exact .mt
  | lie _ xs b o n cap hn hlt hm hc hx =>
    have hx2 : ∀ y ∈ xs, y ≠ .slice none 0 0 := by
      clear hc hn hm
      induction hx with
      | nil => simp
      | @cons r y L xs h1 _ ih =>
        intro z hz
        rcases List.mem_cons.1 hz with rfl | hz
        · intro e
          obtain ⟨a, n, c, e2, e3, -⟩ := h1.shape
          rw [e2] at e
          injection e with _ e _
          exact hne r (by simp) (List.eq_nil_of_length_eq_zero (by omega))
        · exact ih (fun r hr => hne r (List.mem_cons_of_mem _ hr)) z hz
    refine .lie L xs b o n cap hn (by rw [size_setC]; exact hlt) hm (fun i x hi => cell_setNil (hc i x hi) ho (hx2 x (List.mem_of_getElem? hi))) ?_
    clear hc hn hm hx2 hne
    induction hx with
    | nil => exact .nil
    | cons h1 _ ih => exact .cons (h1.setNil ho) ih
theorem ResFit.mono {bd : Bd} {es : List Xp} {its : List It} {os : List Od} {L : List Rw} {m : Nat} {w w' : World} (h : ResFit bd es its os L m w) (hb : Below w.heap.size w w') : ResFit bd es its os L m w' :=
  { h with he := h.he.mono hb, hi := h.hi.mono hb, ho := h.ho.mono hb }
end Go.Proofs.Ytodabeibdgancaa
