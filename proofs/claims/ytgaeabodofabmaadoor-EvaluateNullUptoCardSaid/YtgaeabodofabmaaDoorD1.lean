/- The walk of awake: the chapter's examples hold: it returns true. -/
import Derived.Test.YtgaeabodofabmaaDoorAwOps
import Derived.Test.YtgaeabodofabmaaDoorC5
namespace Go.Proofs.YtgaeabodofabmaaDoor
open Go.RowKit

/-- Two operands in a block of their own; one. -/
theorem args_two {w : World} {g : Nat} {A B : Ex} {s t : Value} (hg : w.heap[g]? = some (.cells (A.cells s ++ B.cells t).toArray 26 (0, 0))) (hs : ArgsAt w A.args s) (ht : ArgsAt w B.args t) : ArgsAt w [A, B] (.slice (some ⟨g, 0, none⟩) 2 2) := by
  refine .lie [A, B] g 0 2 2 (fun i => if i = 0 then s else t) rfl (Array.getElem?_eq_some_iff.1 hg).1 (by omega) ?_ ?_
  · intro i hi j hj
    rw [cell_of_row w g _ _ 26 (0, 0) hg]
    match i, hi with
    | 0, _ => match j, hj with
      | 0, _ | 1, _ | 2, _ | 3, _ | 4, _ | 5, _ | 6, _ | 7, _ => rfl
    | 1, _ => match j, hj with
      | 0, _ | 1, _ | 2, _ | 3, _ | 4, _ | 5, _ | 6, _ | 7, _ => rfl
  · intro i hi
    match i, hi with
    | 0, _ => exact hs
    | 1, _ => exact ht
theorem args_one {w : World} {g : Nat} {A : Ex} {s : Value} (hg : w.heap[g]? = some (.cells (A.cells s).toArray 26 (0, 0))) (hs : ArgsAt w A.args s) : ArgsAt w [A] (.slice (some ⟨g, 0, none⟩) 1 1) := by
  refine .lie [A] g 0 1 1 (fun i => s) rfl (Array.getElem?_eq_some_iff.1 hg).1 (by omega) ?_ ?_
  · intro i hi j hj
    rw [cell_of_row w g _ _ 26 (0, 0) hg]
    match i, hi with
    | 0, _ => match j, hj with
      | 0, _ | 1, _ | 2, _ | 3, _ | 4, _ | 5, _ | 6, _ | 7, _ => rfl
  · intro i hi
    match i, hi with
    | 0, _ => exact hs
theorem vals_two {w : World} {g : Nat} {A B : Vl} (hg : w.heap[g]? = some (.cells (A.cells ++ B.cells).toArray 23 (0, 0))) : ValsAt w [A, B] (.slice (some ⟨g, 0, none⟩) 2 2) := by
  refine .lie [A, B] g 0 2 2 rfl (Array.getElem?_eq_some_iff.1 hg).1 (by unfold maxLen; omega) ?_
  intro i hi j hj
  rw [cell_of_row w g _ _ 23 (0, 0) hg]
  match i, hi with
  | 0, _ => match j, hj with
    | 0, _ | 1, _ | 2, _ => rfl
  | 1, _ => match j, hj with
    | 0, _ | 1, _ | 2, _ => rfl

theorem below_a {W W' : World} {o : Obj} (h : Below (W.alloc o).heap.size (W.alloc o) W') : Below W.heap.size W W' := ((Below.refl _ _).alloc (Nat.le_refl _) o).trans (h.mono (by simp))
theorem VarIs.mono {w w' : World} {b : Nat} {c : Array Value} (h : VarIs w b c) (hb : Below w.heap.size w w') : VarIs w' b c := h.below hb h.lt
/-- 'Below', the later world second. -/
def Bel (w W : World) : Prop := Below w.heap.size w W
theorem Bel.mono {w W W' : World} (h : Bel w W) (hb : Below W.heap.size W W') : Bel w W' := Below.trans h (hb.mono h.size)
def nilS : Value := .slice none 0 0
def colE (n : Int) : Ex := .mk 2 ⟨#[]⟩ ⟨#[]⟩ n ⟨0, 0, ⟨#[]⟩⟩ []
def numE (n : Int) : Ex := .mk 1 ⟨#[]⟩ ⟨#[]⟩ 0 ⟨1, n, ⟨#[]⟩⟩ []
def nodE (op : Int) (l : List Ex) : Ex := .mk op ⟨#[]⟩ ⟨#[]⟩ 0 ⟨0, 0, ⟨#[]⟩⟩ l

theorem const_ok (E : Ex) (s : Value) (w : World) (v : Vl) (hs : ArgsAt w E.args s) (hc : E.cols = false) (hv : Ex.value [] E = some v) :
    Calls Tryd.prog 20 #[E.val s] w fun e w' => e = .returned (.tuple #[.agg #[.int .i64 v.kind, .int .i64 v.int, .string v.text], .int .i64 0]) ∧ Below w.heap.size w w' := by
  refine (constant_calls E s w hs v (fun _ => hv)).mono ?_
  rintro e w' ⟨he, hb⟩
  rw [hc] at he
  exact ⟨he, hb⟩
theorem const_bad (E : Ex) (s : Value) (w : World) (hs : ArgsAt w E.args s) (hc : E.cols = true) :
    Calls Tryd.prog 20 #[E.val s] w fun e w' => e = .returned (.tuple #[.agg #[.int .i64 0, .int .i64 0, .string ⟨#[]⟩], .int .i64 1]) ∧ Below w.heap.size w w' := by
  refine (constant_calls E s w hs Vl.null (fun h => by rw [hc] at h; cases h)).mono ?_
  rintro e w' ⟨he, hb⟩
  rw [hc] at he
  exact ⟨he, hb⟩
theorem like_lit (t p : ByteArray) (b : Bool) (w : World) (ht : t.size ≤ 2000000000000) (hp : p.size ≤ 2000000000000) (h : likeS t.data.toList p.data.toList = b) :
    Calls Tryd.prog 22 #[.string t, .string p] w fun e w' => e = .returned (.bool b) ∧ Below w.heap.size w w' := by
  rw [← h]; exact like_calls t p w ht hp

theorem aw_num (n : Int) (w : World) : Calls Tryd.prog 25 #[.int .i64 n] w fun e w' => e = .returned (.agg #[.int .i64 1, .string ⟨#[]⟩, .string ⟨#[]⟩, .int .i64 0, .int .i64 1, .int .i64 n, .string ⟨#[]⟩, .slice none 0 0]) ∧ Below w.heap.size w w' := number_calls n w
theorem aw_int (n : Int) (w : World) : Calls Tryd.prog 28 #[.int .i64 n] w fun e w' => e = .returned (.agg #[.int .i64 1, .int .i64 n, .string ⟨#[]⟩]) ∧ Below w.heap.size w w' := integer_calls n w
theorem aw_node (op : Int) (a : Option Addr) (n c : Nat) (w : World) : Calls Tryd.prog 24 #[.int .i64 op, .slice a n c] w fun e w' => e = .returned (.agg #[.int .i64 op, .string ⟨#[]⟩, .string ⟨#[]⟩, .int .i64 0, .int .i64 0, .int .i64 0, .string ⟨#[]⟩, .slice a n c]) ∧ Below w.heap.size w w' := node_calls op a n c [] w
abbrev awR : List Vl := [⟨1, -7, ⟨#[]⟩⟩, Vl.null]
theorem aw_v7 (a : Option Addr) (n c : Nat) (r : Value) (w : World) (h : ArgsAt w [colE 0, numE 2] (.slice a n c)) (hr : ValsAt w awR r) : Calls Tryd.prog 13 #[.agg #[.int .i64 7, .string ⟨#[]⟩, .string ⟨#[]⟩, .int .i64 0, .int .i64 0, .int .i64 0, .string ⟨#[]⟩, .slice a n c], r] w fun e w' => e = .returned (.agg #[.int .i64 1, .int .i64 (-4), .string ⟨#[]⟩]) ∧ Below w.heap.size w w' := value_calls _ (nodE 7 [colE 0, numE 2]) (Nat.le_refl _) awR _ r w ⟨1, -4, ⟨#[]⟩⟩ h hr (by kernel_rfl)
theorem aw_v8 (a : Option Addr) (n c : Nat) (r : Value) (w : World) (h : ArgsAt w [colE 0, numE 2] (.slice a n c)) (hr : ValsAt w awR r) : Calls Tryd.prog 13 #[.agg #[.int .i64 8, .string ⟨#[]⟩, .string ⟨#[]⟩, .int .i64 0, .int .i64 0, .int .i64 0, .string ⟨#[]⟩, .slice a n c], r] w fun e w' => e = .returned (.agg #[.int .i64 1, .int .i64 (1), .string ⟨#[]⟩]) ∧ Below w.heap.size w w' := value_calls _ (nodE 8 [colE 0, numE 2]) (Nat.le_refl _) awR _ r w ⟨1, 1, ⟨#[]⟩⟩ h hr (by kernel_rfl)
theorem aw_c12 (a : Option Addr) (n c : Nat) (r : Value) (w : World) (h : ArgsAt w [colE 0, colE 1] (.slice a n c)) (hr : ValsAt w awR r) (ht : Tab w) : Calls Tryd.prog 15 #[.agg #[.int .i64 12, .string ⟨#[]⟩, .string ⟨#[]⟩, .int .i64 0, .int .i64 0, .int .i64 0, .string ⟨#[]⟩, .slice a n c], r] w fun e w' => e = .returned (.int .i64 2) ∧ Below w.heap.size w w' := cond_calls _ (nodE 12 [colE 0, colE 1]) (Nat.le_refl _) awR a n c r w .u h hr ht (by kernel_rfl)
theorem aw_c20 (a : Option Addr) (n c : Nat) (r : Value) (w : World) (h : ArgsAt w [nodE 12 [colE 0, colE 1]] (.slice a n c)) (hr : ValsAt w awR r) (ht : Tab w) : Calls Tryd.prog 15 #[.agg #[.int .i64 20, .string ⟨#[]⟩, .string ⟨#[]⟩, .int .i64 0, .int .i64 0, .int .i64 0, .string ⟨#[]⟩, .slice a n c], r] w fun e w' => e = .returned (.int .i64 2) ∧ Below w.heap.size w w' := cond_calls _ (nodE 20 [nodE 12 [colE 0, colE 1]]) (Nat.le_refl _) awR a n c r w .u h hr ht (by kernel_rfl)
theorem aw_c19 (a : Option Addr) (n c : Nat) (r : Value) (w : World) (h : ArgsAt w [nodE 12 [colE 0, numE 0], nodE 12 [colE 0, colE 1]] (.slice a n c)) (hr : ValsAt w awR r) (ht : Tab w) : Calls Tryd.prog 15 #[.agg #[.int .i64 19, .string ⟨#[]⟩, .string ⟨#[]⟩, .int .i64 0, .int .i64 0, .int .i64 0, .string ⟨#[]⟩, .slice a n c], r] w fun e w' => e = .returned (.int .i64 1) ∧ Below w.heap.size w w' := cond_calls _ (nodE 19 [nodE 12 [colE 0, numE 0], nodE 12 [colE 0, colE 1]]) (Nat.le_refl _) awR a n c r w .t h hr ht (by kernel_rfl)
theorem aw_c17 (a : Option Addr) (n c : Nat) (r : Value) (w : World) (h : ArgsAt w [colE 1] (.slice a n c)) (hr : ValsAt w awR r) (ht : Tab w) : Calls Tryd.prog 15 #[.agg #[.int .i64 17, .string ⟨#[]⟩, .string ⟨#[]⟩, .int .i64 0, .int .i64 0, .int .i64 0, .string ⟨#[]⟩, .slice a n c], r] w fun e w' => e = .returned (.int .i64 1) ∧ Below w.heap.size w w' := cond_calls _ (nodE 17 [colE 1]) (Nat.le_refl _) awR a n c r w .t h hr ht (by kernel_rfl)
theorem aw_m12 (a : Option Addr) (n c : Nat) (r : Value) (w : World) (h : ArgsAt w [colE 0, colE 1] (.slice a n c)) (hr : ValsAt w awR r) (ht : Tab w) : Calls Tryd.prog 17 #[.agg #[.int .i64 12, .string ⟨#[]⟩, .string ⟨#[]⟩, .int .i64 0, .int .i64 0, .int .i64 0, .string ⟨#[]⟩, .slice a n c], r] w fun e w' => e = .returned (.bool false) ∧ Below w.heap.size w w' := matches_calls (nodE 12 [colE 0, colE 1]) awR a n c r w false h hr ht (by show if (12 : Int) = 0 then _ else _; rw [if_neg (by decide)]; exact ⟨.u, by kernel_rfl, rfl⟩)
theorem aw_m0 (a : Option Addr) (n c : Nat) (r : Value) (w : World) (h : ArgsAt w [] (.slice a n c)) (hr : ValsAt w awR r) (ht : Tab w) : Calls Tryd.prog 17 #[.agg #[.int .i64 0, .string ⟨#[]⟩, .string ⟨#[]⟩, .int .i64 0, .int .i64 0, .int .i64 0, .string ⟨#[]⟩, .slice a n c], r] w fun e w' => e = .returned (.bool true) ∧ Below w.heap.size w w' := matches_calls (nodE 0 []) awR a n c r w true h hr ht (by show if (0 : Int) = 0 then _ else _; rw [if_pos rfl])

set_option maxHeartbeats 4000000 in
set_option maxRecDepth 100000 in
theorem awake_calls (w : World) (ht : Tab w) : Calls Tryd.prog 11 #[] w fun e w' => e = .returned (.bool true) ∧ Below w.heap.size w w' := by
  have Tb := Lib.hid ht
  have Bw : RowKit.Hid (Bel w w) := Below.refl _ _
  clear ht
  go_enter Tryd.func11, Tryd.ntmps11
  go_wp2_with fail
  refine (column_calls _ _).mono ?_
  rintro e w0 ⟨rfl, hb⟩
  replace Tb := Lib.hid (Tb.out.mono hb)
  replace Bw := Lib.hid (Bw.out.mono hb)
  clear hb
  simp only [Ex.val, Ex.op, Ex.table, Ex.name, Ex.index, Ex.v]
  go_wp2_with fail
  refine (column_calls _ _).mono ?_
  rintro e w1 ⟨rfl, hb⟩
  replace Tb := Lib.hid (Tb.out.mono hb)
  replace Bw := Lib.hid (Bw.out.mono hb)
  clear hb
  simp only [Ex.val, Ex.op, Ex.table, Ex.name, Ex.index, Ex.v]
  go_wp2_with fail
  have X0 := Lib.hid ((VarIs.new w1 ((colE 0).cells nilS).toArray 26).mono ((Below.refl _ _).alloc (Nat.le_refl _) (.cells ((colE 1).cells nilS).toArray 26)))
  have Y0 := Lib.hid (VarIs.new (w1.alloc (.cells ((colE 0).cells nilS).toArray 26)) ((colE 1).cells nilS).toArray 26)
  refine (integer_calls _ _).mono ?_
  rintro e w2 ⟨rfl, hb⟩
  have X := Lib.hid (X0.out.mono hb)
  clear X0
  have Y := Lib.hid (Y0.out.mono hb)
  clear Y0
  replace hb := below_a hb
  replace hb := below_a hb
  replace Tb := Lib.hid (Tb.out.mono hb)
  replace Bw := Lib.hid (Bw.out.mono hb)
  clear hb
  simp only [World.size_alloc] at *
  simp only [colE, nilS, Ex.cells, Ex.op, Ex.table, Ex.name, Ex.index, Ex.v] at X
  simp only [colE, nilS, Ex.cells, Ex.op, Ex.table, Ex.name, Ex.index, Ex.v] at Y
  simp only [Vl.val]
  obtain ⟨x1, x2, -⟩ := X.out
  obtain ⟨y1, y2, -⟩ := Y.out
  go_wp2_with fail
  clear x1 x2
  clear y1 y2
  have R0 := Lib.hid ((vals_two (heap_alloc_new w2 (.cells (Vl.cells ⟨1, -7, ⟨#[]⟩⟩ ++ Vl.cells Vl.null).toArray 23))).mono ((Below.refl _ _).alloc (Nat.le_refl _) (.cells ((colE 0).cells nilS ++ (colE 1).cells nilS).toArray 26)))
  have G0 := Lib.hid (args_two (heap_alloc_new (w2.alloc (.cells (Vl.cells ⟨1, -7, ⟨#[]⟩⟩ ++ Vl.cells Vl.null).toArray 23)) (.cells ((colE 0).cells nilS ++ (colE 1).cells nilS).toArray 26)) .mt .mt)
  refine (node_calls _ _ _ _ [colE 0, colE 1] _).mono ?_
  rintro e w3 ⟨rfl, hb⟩
  have R := Lib.hid (R0.out.mono hb)
  clear R0
  have G := Lib.hid (G0.out.mono hb)
  clear G0
  replace hb := below_a hb
  replace hb := below_a hb
  replace Tb := Lib.hid (Tb.out.mono hb)
  replace Bw := Lib.hid (Bw.out.mono hb)
  replace X := Lib.hid (X.out.mono hb)
  replace Y := Lib.hid (Y.out.mono hb)
  clear hb
  simp only [World.size_alloc] at *
  simp only [Ex.val, Ex.op, Ex.table, Ex.name, Ex.index, Ex.v]
  obtain ⟨x1, x2, -⟩ := X.out
  obtain ⟨y1, y2, -⟩ := Y.out
  go_wp2_with fail
  clear x1 x2
  clear y1 y2
  have L0 := Lib.hid (VarIs.new w3 ((nodE 12 [colE 0, colE 1]).cells (.slice (some ⟨w2.heap.size + 1, 0, none⟩) 2 2)).toArray 26)
  refine (number_calls _ _).mono ?_
  rintro e w4 ⟨rfl, hb⟩
  have L := Lib.hid (L0.out.mono hb)
  clear L0
  replace hb := below_a hb
  replace Tb := Lib.hid (Tb.out.mono hb)
  replace Bw := Lib.hid (Bw.out.mono hb)
  replace X := Lib.hid (X.out.mono hb)
  replace Y := Lib.hid (Y.out.mono hb)
  replace R := Lib.hid (R.out.mono hb)
  replace G := Lib.hid (G.out.mono hb)
  clear hb
  simp only [nodE, Ex.cells, Ex.op, Ex.table, Ex.name, Ex.index, Ex.v] at L
  simp only [Ex.val, Ex.op, Ex.table, Ex.name, Ex.index, Ex.v]
  obtain ⟨x1, x2, -⟩ := X.out
  obtain ⟨y1, y2, -⟩ := Y.out
  obtain ⟨l1, l2, -⟩ := L.out
  go_wp2_with fail
  clear x1 x2
  clear y1 y2
  clear l1 l2
  have N0 := Lib.hid (args_one (heap_alloc_new w4 (.cells ((numE 7).cells nilS).toArray 26)) .mt)
  refine (node_calls _ _ _ _ [numE 7] _).mono ?_
  rintro e w5 ⟨rfl, hb⟩
  have N := Lib.hid (N0.out.mono hb)
  clear N0
  replace hb := below_a hb
  replace Tb := Lib.hid (Tb.out.mono hb)
  replace Bw := Lib.hid (Bw.out.mono hb)
  replace X := Lib.hid (X.out.mono hb)
  replace Y := Lib.hid (Y.out.mono hb)
  replace R := Lib.hid (R.out.mono hb)
  replace G := Lib.hid (G.out.mono hb)
  replace L := Lib.hid (L.out.mono hb)
  clear hb
  simp only [Ex.val, Ex.op, Ex.table, Ex.name, Ex.index, Ex.v]
  obtain ⟨x1, x2, -⟩ := X.out
  obtain ⟨y1, y2, -⟩ := Y.out
  obtain ⟨l1, l2, -⟩ := L.out
  go_wp2_with fail
  clear x1 x2
  clear y1 y2
  clear l1 l2
  refine (number_calls _ _).mono ?_
  rintro e w6 ⟨rfl, hb⟩
  replace Tb := Lib.hid (Tb.out.mono hb)
  replace Bw := Lib.hid (Bw.out.mono hb)
  replace X := Lib.hid (X.out.mono hb)
  replace Y := Lib.hid (Y.out.mono hb)
  replace R := Lib.hid (R.out.mono hb)
  replace G := Lib.hid (G.out.mono hb)
  replace L := Lib.hid (L.out.mono hb)
  replace N := Lib.hid (N.out.mono hb)
  clear hb
  simp only [Ex.val, Ex.op, Ex.table, Ex.name, Ex.index, Ex.v]
  obtain ⟨x1, x2, -⟩ := X.out
  obtain ⟨y1, y2, -⟩ := Y.out
  obtain ⟨l1, l2, -⟩ := L.out
  go_wp2_with fail
  clear x1 x2
  clear y1 y2
  clear l1 l2
  have D0 := Lib.hid (args_two (heap_alloc_new w6 (.cells ((nodE 3 [numE 7]).cells (.slice (some ⟨w4.heap.size, 0, none⟩) 1 1) ++ (numE 2).cells nilS).toArray 26)) (N.out.mono ((Below.refl _ _).alloc (by simp <;> omega) (.cells ((nodE 3 [numE 7]).cells (.slice (some ⟨w4.heap.size, 0, none⟩) 1 1) ++ (numE 2).cells nilS).toArray 26))) .mt)
  refine (node_calls _ _ _ _ [(nodE 3 [numE 7]), numE 2] _).mono ?_
  rintro e w7 ⟨rfl, hb⟩
  have D := Lib.hid (D0.out.mono hb)
  clear D0
  replace hb := below_a hb
  replace Tb := Lib.hid (Tb.out.mono hb)
  replace Bw := Lib.hid (Bw.out.mono hb)
  replace X := Lib.hid (X.out.mono hb)
  replace Y := Lib.hid (Y.out.mono hb)
  replace R := Lib.hid (R.out.mono hb)
  replace G := Lib.hid (G.out.mono hb)
  replace L := Lib.hid (L.out.mono hb)
  replace N := Lib.hid (N.out.mono hb)
  clear hb
  simp only [Ex.val, Ex.op, Ex.table, Ex.name, Ex.index, Ex.v]
  obtain ⟨x1, x2, -⟩ := X.out
  obtain ⟨y1, y2, -⟩ := Y.out
  obtain ⟨l1, l2, -⟩ := L.out
  go_wp2_with fail
  clear x1 x2
  clear y1 y2
  clear l1 l2
  refine (const_ok (nodE 7 [(nodE 3 [numE 7]), numE 2]) (.slice (some ⟨w6.heap.size, 0, none⟩) 2 2) _ ⟨1, -4, ⟨#[]⟩⟩ D.out (by kernel_rfl) (by kernel_rfl)).mono ?_
  rintro e w8 ⟨rfl, hb⟩
  replace Tb := Lib.hid (Tb.out.mono hb)
  replace Bw := Lib.hid (Bw.out.mono hb)
  replace X := Lib.hid (X.out.mono hb)
  replace Y := Lib.hid (Y.out.mono hb)
  replace R := Lib.hid (R.out.mono hb)
  replace G := Lib.hid (G.out.mono hb)
  replace L := Lib.hid (L.out.mono hb)
  replace N := Lib.hid (N.out.mono hb)
  replace D := Lib.hid (D.out.mono hb)
  clear hb
  clear N
  clear D
  obtain ⟨x1, x2, -⟩ := X.out
  obtain ⟨y1, y2, -⟩ := Y.out
  obtain ⟨l1, l2, -⟩ := L.out
  go_wp2_with fail
  clear x1 x2
  clear y1 y2
  clear l1 l2
  have Q0 := Lib.hid (VarIs.new w8 (Vl.cells ⟨1, -4, ⟨#[]⟩⟩).toArray 23)
  refine (const_bad (colE 0) nilS _ .mt (by kernel_rfl)).mono ?_
  rintro e w9 ⟨rfl, hb⟩
  have Q := Lib.hid (Q0.out.mono hb)
  clear Q0
  replace hb := below_a hb
  replace Tb := Lib.hid (Tb.out.mono hb)
  replace Bw := Lib.hid (Bw.out.mono hb)
  replace X := Lib.hid (X.out.mono hb)
  replace Y := Lib.hid (Y.out.mono hb)
  replace R := Lib.hid (R.out.mono hb)
  replace G := Lib.hid (G.out.mono hb)
  replace L := Lib.hid (L.out.mono hb)
  clear hb
  simp only [Vl.cells] at Q
  have Z0 := Lib.hid (VarIs.new w9 (Vl.cells ⟨0, 0, ⟨#[]⟩⟩).toArray 23)
  replace Tb := Lib.hid (Tb.out.mono ((Below.refl _ _).alloc (Nat.le_refl _) (.cells (Vl.cells ⟨0, 0, ⟨#[]⟩⟩).toArray 23)))
  replace Bw := Lib.hid (Bw.out.mono ((Below.refl _ _).alloc (Nat.le_refl _) (.cells (Vl.cells ⟨0, 0, ⟨#[]⟩⟩).toArray 23)))
  replace X := Lib.hid (X.out.mono ((Below.refl _ _).alloc (Nat.le_refl _) (.cells (Vl.cells ⟨0, 0, ⟨#[]⟩⟩).toArray 23)))
  replace Y := Lib.hid (Y.out.mono ((Below.refl _ _).alloc (Nat.le_refl _) (.cells (Vl.cells ⟨0, 0, ⟨#[]⟩⟩).toArray 23)))
  replace R := Lib.hid (R.out.mono ((Below.refl _ _).alloc (Nat.le_refl _) (.cells (Vl.cells ⟨0, 0, ⟨#[]⟩⟩).toArray 23)))
  replace G := Lib.hid (G.out.mono ((Below.refl _ _).alloc (Nat.le_refl _) (.cells (Vl.cells ⟨0, 0, ⟨#[]⟩⟩).toArray 23)))
  replace L := Lib.hid (L.out.mono ((Below.refl _ _).alloc (Nat.le_refl _) (.cells (Vl.cells ⟨0, 0, ⟨#[]⟩⟩).toArray 23)))
  replace Q := Lib.hid (Q.out.mono ((Below.refl _ _).alloc (Nat.le_refl _) (.cells (Vl.cells ⟨0, 0, ⟨#[]⟩⟩).toArray 23)))
  obtain ⟨x1, x2, -⟩ := X.out
  obtain ⟨y1, y2, -⟩ := Y.out
  obtain ⟨l1, l2, -⟩ := L.out
  obtain ⟨q1, q2, -⟩ := Q.out
  go_wp2_with fail
  clear x1 x2
  clear y1 y2
  clear l1 l2
  clear q1 q2
  clear Z0
  have e0 : w9.alloc (.cells #[.int .i64 0, .int .i64 0, .string ⟨#[]⟩] 23) = w9.alloc (.cells (Vl.cells ⟨0, 0, ⟨#[]⟩⟩).toArray 23) := rfl
  rw [e0]
  clear e0
  generalize w9.alloc (.cells (Vl.cells ⟨0, 0, ⟨#[]⟩⟩).toArray 23) = W at *
  obtain ⟨x1, x2, -⟩ := X.out
  obtain ⟨y1, y2, -⟩ := Y.out
  obtain ⟨l1, l2, -⟩ := L.out
  obtain ⟨q1, q2, -⟩ := Q.out
  refine wp_region_ord (S := fun w' => Below W.heap.size W w' ∧ ∀ b o, b < W.heap.size → w'.cell? ⟨b, o, none⟩ = W.cell? ⟨b, o, none⟩) awOrd awInf (ops' := awOps) (by kernel_rfl) (by kernel_rfl) aw_noSelect aw_len aw_inf aw_ok (S_of (Below.drew (Below.refl _ _))) ?_
  have hS := S_of (Below.drew (Below.refl W.heap.size W))
  unfold awOrd
  refine ord_yield (v := .agg #[.int .i64 2, .string ⟨#[]⟩, .string ⟨#[]⟩, .int .i64 0, .int .i64 0, .int .i64 0, .string ⟨#[]⟩, .slice none 0 0]) aw_0 (by rfl) (fun w hSw => by go_simp) ?_
  simp only [Act.put, List.setIfInBounds_toArray, List.set_cons_zero, List.set_cons_succ]
  refine ord_yield (v := (.slice (some ⟨w2.heap.size, 0, none⟩) 2 2)) aw_4 (by rfl) (fun w hSw => by go_simp) ?_
  simp only [Act.put, List.setIfInBounds_toArray, List.set_cons_zero, List.set_cons_succ]
  refine ord_call aw_1 (by rfl) (by go_simp) (aw_num 2 _) ?_
  rintro e v1 ⟨rfl, hb⟩
  replace hS := S_step hS hb
  clear hb
  refine ⟨_, rfl, hS, ?_⟩
  simp only [Act.put, List.setIfInBounds_toArray, List.set_cons_zero, List.set_cons_succ]
  refine ord_value (v := .slice (some ⟨v1.heap.size, 0, none⟩) 2 2) (w' := v1.alloc (.cells #[.int .i64 2, .string ⟨#[]⟩, .string ⟨#[]⟩, .int .i64 0, .int .i64 0, .int .i64 0, .string ⟨#[]⟩, .slice none 0 0, .int .i64 1, .string ⟨#[]⟩, .string ⟨#[]⟩, .int .i64 0, .int .i64 1, .int .i64 2, .string ⟨#[]⟩, .slice none 0 0] 26)) aw_2 (by rfl) (by go_simp) (S_step hS ((Below.refl _ _).alloc (Nat.le_refl _) _)) ?_
  replace hS := S_step hS ((Below.refl _ _).alloc (Nat.le_refl _) (.cells #[.int .i64 2, .string ⟨#[]⟩, .string ⟨#[]⟩, .int .i64 0, .int .i64 0, .int .i64 0, .string ⟨#[]⟩, .slice none 0 0, .int .i64 1, .string ⟨#[]⟩, .string ⟨#[]⟩, .int .i64 0, .int .i64 1, .int .i64 2, .string ⟨#[]⟩, .slice none 0 0] 26))
  simp only [Act.put, List.setIfInBounds_toArray, List.set_cons_zero, List.set_cons_succ]
  have A30 := Lib.hid (args_two (A := colE 0) (B := numE 2) (s := nilS) (t := nilS) (heap_alloc_new v1 (.cells #[.int .i64 2, .string ⟨#[]⟩, .string ⟨#[]⟩, .int .i64 0, .int .i64 0, .int .i64 0, .string ⟨#[]⟩, .slice none 0 0, .int .i64 1, .string ⟨#[]⟩, .string ⟨#[]⟩, .int .i64 0, .int .i64 1, .int .i64 2, .string ⟨#[]⟩, .slice none 0 0] 26)) .mt .mt)
  refine ord_call aw_3 (by rfl) (by go_simp) (aw_node 7 (some ⟨v1.heap.size, 0, none⟩) 2 2 _) ?_
  rintro e v2 ⟨rfl, hb⟩
  have A3 := Lib.hid (A30.out.mono hb)
  clear A30
  replace hS := S_step hS hb
  clear hb
  refine ⟨_, rfl, hS, ?_⟩
  simp only [Act.put, List.setIfInBounds_toArray, List.set_cons_zero, List.set_cons_succ]
  refine ord_call aw_5 (by rfl) (by go_simp) (aw_v7 _ _ _ _ _ A3.out (R.out.keep hS)) ?_
  rintro e v3 ⟨rfl, hb⟩
  replace hS := S_step hS hb
  clear hb
  refine ⟨_, rfl, hS, ?_⟩
  simp only [Act.put, List.setIfInBounds_toArray, List.set_cons_zero, List.set_cons_succ]
  refine ord_call aw_6 (by rfl) (by go_simp) (aw_int (-4) _) ?_
  rintro e v4 ⟨rfl, hb⟩
  replace hS := S_step hS hb
  clear hb
  refine ⟨_, rfl, hS, ?_⟩
  simp only [Act.put, List.setIfInBounds_toArray, List.set_cons_zero, List.set_cons_succ]
  refine ord_yield (v := .bool true) aw_7 (by rfl) (fun w hSw => by go_simp) ?_
  simp only [Act.put, List.setIfInBounds_toArray, List.set_cons_zero, List.set_cons_succ]
  refine ord_yield (v := .bool true) aw_8 (by rfl) (fun w hSw => by go_simp) ?_
  simp only [Act.put, List.setIfInBounds_toArray, List.set_cons_zero, List.set_cons_succ]
  refine ord_yield (v := .agg #[.int .i64 2, .string ⟨#[]⟩, .string ⟨#[]⟩, .int .i64 0, .int .i64 0, .int .i64 0, .string ⟨#[]⟩, .slice none 0 0]) aw_9 (by rfl) (fun w hSw => by go_simp) ?_
  simp only [Act.put, List.setIfInBounds_toArray, List.set_cons_zero, List.set_cons_succ]
  refine ord_yield (v := (.slice (some ⟨w2.heap.size, 0, none⟩) 2 2)) aw_13 (by rfl) (fun w hSw => by go_simp) ?_
  simp only [Act.put, List.setIfInBounds_toArray, List.set_cons_zero, List.set_cons_succ]
  refine ord_call aw_10 (by rfl) (by go_simp) (aw_num 2 _) ?_
  rintro e v5 ⟨rfl, hb⟩
  replace hS := S_step hS hb
  clear hb
  refine ⟨_, rfl, hS, ?_⟩
  simp only [Act.put, List.setIfInBounds_toArray, List.set_cons_zero, List.set_cons_succ]
  refine ord_value (v := .slice (some ⟨v5.heap.size, 0, none⟩) 2 2) (w' := v5.alloc (.cells #[.int .i64 2, .string ⟨#[]⟩, .string ⟨#[]⟩, .int .i64 0, .int .i64 0, .int .i64 0, .string ⟨#[]⟩, .slice none 0 0, .int .i64 1, .string ⟨#[]⟩, .string ⟨#[]⟩, .int .i64 0, .int .i64 1, .int .i64 2, .string ⟨#[]⟩, .slice none 0 0] 26)) aw_11 (by rfl) (by go_simp) (S_step hS ((Below.refl _ _).alloc (Nat.le_refl _) _)) ?_
  replace hS := S_step hS ((Below.refl _ _).alloc (Nat.le_refl _) (.cells #[.int .i64 2, .string ⟨#[]⟩, .string ⟨#[]⟩, .int .i64 0, .int .i64 0, .int .i64 0, .string ⟨#[]⟩, .slice none 0 0, .int .i64 1, .string ⟨#[]⟩, .string ⟨#[]⟩, .int .i64 0, .int .i64 1, .int .i64 2, .string ⟨#[]⟩, .slice none 0 0] 26))
  simp only [Act.put, List.setIfInBounds_toArray, List.set_cons_zero, List.set_cons_succ]
  have A120 := Lib.hid (args_two (A := colE 0) (B := numE 2) (s := nilS) (t := nilS) (heap_alloc_new v5 (.cells #[.int .i64 2, .string ⟨#[]⟩, .string ⟨#[]⟩, .int .i64 0, .int .i64 0, .int .i64 0, .string ⟨#[]⟩, .slice none 0 0, .int .i64 1, .string ⟨#[]⟩, .string ⟨#[]⟩, .int .i64 0, .int .i64 1, .int .i64 2, .string ⟨#[]⟩, .slice none 0 0] 26)) .mt .mt)
  refine ord_call aw_12 (by rfl) (by go_simp) (aw_node 8 (some ⟨v5.heap.size, 0, none⟩) 2 2 _) ?_
  rintro e v6 ⟨rfl, hb⟩
  have A12 := Lib.hid (A120.out.mono hb)
  clear A120
  replace hS := S_step hS hb
  clear hb
  refine ⟨_, rfl, hS, ?_⟩
  simp only [Act.put, List.setIfInBounds_toArray, List.set_cons_zero, List.set_cons_succ]
  refine ord_call aw_14 (by rfl) (by go_simp) (aw_v8 _ _ _ _ _ A12.out (R.out.keep hS)) ?_
  rintro e v7 ⟨rfl, hb⟩
  replace hS := S_step hS hb
  clear hb
  refine ⟨_, rfl, hS, ?_⟩
  simp only [Act.put, List.setIfInBounds_toArray, List.set_cons_zero, List.set_cons_succ]
  refine ord_call aw_15 (by rfl) (by go_simp) (aw_int 1 _) ?_
  rintro e v8 ⟨rfl, hb⟩
  replace hS := S_step hS hb
  clear hb
  refine ⟨_, rfl, hS, ?_⟩
  simp only [Act.put, List.setIfInBounds_toArray, List.set_cons_zero, List.set_cons_succ]
  refine ord_yield (v := .bool true) aw_16 (by rfl) (fun w hSw => by go_simp) ?_
  simp only [Act.put, List.setIfInBounds_toArray, List.set_cons_zero, List.set_cons_succ]
  refine ord_yield (v := .bool true) aw_17 (by rfl) (fun w hSw => by go_simp) ?_
  simp only [Act.put, List.setIfInBounds_toArray, List.set_cons_zero, List.set_cons_succ]
  refine ord_yield (v := .bool true) aw_18 (by rfl) (fun w hSw => by go_simp) ?_
  simp only [Act.put, List.setIfInBounds_toArray, List.set_cons_zero, List.set_cons_succ]
  refine ord_yield (v := .agg #[.int .i64 12, .string ⟨#[]⟩, .string ⟨#[]⟩, .int .i64 0, .int .i64 0, .int .i64 0, .string ⟨#[]⟩, (.slice (some ⟨w2.heap.size + 1, 0, none⟩) 2 2)]) aw_19 (by rfl) (fun w hSw => by go_simp) ?_
  simp only [Act.put, List.setIfInBounds_toArray, List.set_cons_zero, List.set_cons_succ]
  refine ord_yield (v := (.slice (some ⟨w2.heap.size, 0, none⟩) 2 2)) aw_20 (by rfl) (fun w hSw => by go_simp) ?_
  simp only [Act.put, List.setIfInBounds_toArray, List.set_cons_zero, List.set_cons_succ]
  refine ord_call aw_21 (by rfl) (by go_simp) (aw_c12 _ _ _ _ _ (G.out.keep hS) (R.out.keep hS) (Tb.out.mono hS.1)) ?_
  rintro e v9 ⟨rfl, hb⟩
  replace hS := S_step hS hb
  clear hb
  refine ⟨_, rfl, hS, ?_⟩
  simp only [Act.put, List.setIfInBounds_toArray, List.set_cons_zero, List.set_cons_succ]
  refine ord_yield (v := .bool true) aw_22 (by rfl) (fun w hSw => by go_simp) ?_
  simp only [Act.put, List.setIfInBounds_toArray, List.set_cons_zero, List.set_cons_succ]
  refine ord_yield (v := .bool true) aw_23 (by rfl) (fun w hSw => by go_simp) ?_
  simp only [Act.put, List.setIfInBounds_toArray, List.set_cons_zero, List.set_cons_succ]
  refine ord_yield (v := .bool true) aw_24 (by rfl) (fun w hSw => by go_simp) ?_
  simp only [Act.put, List.setIfInBounds_toArray, List.set_cons_zero, List.set_cons_succ]
  refine ord_yield (v := .agg #[.int .i64 12, .string ⟨#[]⟩, .string ⟨#[]⟩, .int .i64 0, .int .i64 0, .int .i64 0, .string ⟨#[]⟩, (.slice (some ⟨w2.heap.size + 1, 0, none⟩) 2 2)]) aw_25 (by rfl) (fun w hSw => by go_simp) ?_
  simp only [Act.put, List.setIfInBounds_toArray, List.set_cons_zero, List.set_cons_succ]
  refine ord_yield (v := (.slice (some ⟨w2.heap.size, 0, none⟩) 2 2)) aw_28 (by rfl) (fun w hSw => by go_simp) ?_
  simp only [Act.put, List.setIfInBounds_toArray, List.set_cons_zero, List.set_cons_succ]
  refine ord_value (v := .slice (some ⟨v9.heap.size, 0, none⟩) 1 1) (w' := v9.alloc (.cells #[.int .i64 12, .string ⟨#[]⟩, .string ⟨#[]⟩, .int .i64 0, .int .i64 0, .int .i64 0, .string ⟨#[]⟩, (.slice (some ⟨w2.heap.size + 1, 0, none⟩) 2 2)] 26)) aw_26 (by rfl) (by go_simp) (S_step hS ((Below.refl _ _).alloc (Nat.le_refl _) _)) ?_
  replace hS := S_step hS ((Below.refl _ _).alloc (Nat.le_refl _) (.cells #[.int .i64 12, .string ⟨#[]⟩, .string ⟨#[]⟩, .int .i64 0, .int .i64 0, .int .i64 0, .string ⟨#[]⟩, (.slice (some ⟨w2.heap.size + 1, 0, none⟩) 2 2)] 26))
  simp only [Act.put, List.setIfInBounds_toArray, List.set_cons_zero, List.set_cons_succ]
  have A270 := Lib.hid (args_one (A := (nodE 12 [colE 0, colE 1])) (s := (.slice (some ⟨w2.heap.size + 1, 0, none⟩) 2 2)) (heap_alloc_new v9 (.cells #[.int .i64 12, .string ⟨#[]⟩, .string ⟨#[]⟩, .int .i64 0, .int .i64 0, .int .i64 0, .string ⟨#[]⟩, (.slice (some ⟨w2.heap.size + 1, 0, none⟩) 2 2)] 26)) ((G.out.keep hS)))
  refine ord_call aw_27 (by rfl) (by go_simp) (aw_node 20 (some ⟨v9.heap.size, 0, none⟩) 1 1 _) ?_
  rintro e v10 ⟨rfl, hb⟩
  have A27 := Lib.hid (A270.out.mono hb)
  clear A270
  replace hS := S_step hS hb
  clear hb
  refine ⟨_, rfl, hS, ?_⟩
  simp only [Act.put, List.setIfInBounds_toArray, List.set_cons_zero, List.set_cons_succ]
  refine ord_call aw_29 (by rfl) (by go_simp) (aw_c20 _ _ _ _ _ A27.out (R.out.keep hS) (Tb.out.mono hS.1)) ?_
  rintro e v11 ⟨rfl, hb⟩
  replace hS := S_step hS hb
  clear hb
  refine ⟨_, rfl, hS, ?_⟩
  simp only [Act.put, List.setIfInBounds_toArray, List.set_cons_zero, List.set_cons_succ]
  refine ord_yield (v := .bool true) aw_30 (by rfl) (fun w hSw => by go_simp) ?_
  simp only [Act.put, List.setIfInBounds_toArray, List.set_cons_zero, List.set_cons_succ]
  refine ord_yield (v := .bool true) aw_31 (by rfl) (fun w hSw => by go_simp) ?_
  simp only [Act.put, List.setIfInBounds_toArray, List.set_cons_zero, List.set_cons_succ]
  refine ord_yield (v := .bool true) aw_32 (by rfl) (fun w hSw => by go_simp) ?_
  simp only [Act.put, List.setIfInBounds_toArray, List.set_cons_zero, List.set_cons_succ]
  refine ord_yield (v := .agg #[.int .i64 2, .string ⟨#[]⟩, .string ⟨#[]⟩, .int .i64 0, .int .i64 0, .int .i64 0, .string ⟨#[]⟩, .slice none 0 0]) aw_33 (by rfl) (fun w hSw => by go_simp) ?_
  simp only [Act.put, List.setIfInBounds_toArray, List.set_cons_zero, List.set_cons_succ]
  refine ord_yield (v := .agg #[.int .i64 12, .string ⟨#[]⟩, .string ⟨#[]⟩, .int .i64 0, .int .i64 0, .int .i64 0, .string ⟨#[]⟩, (.slice (some ⟨w2.heap.size + 1, 0, none⟩) 2 2)]) aw_37 (by rfl) (fun w hSw => by go_simp) ?_
  simp only [Act.put, List.setIfInBounds_toArray, List.set_cons_zero, List.set_cons_succ]
  refine ord_yield (v := (.slice (some ⟨w2.heap.size, 0, none⟩) 2 2)) aw_40 (by rfl) (fun w hSw => by go_simp) ?_
  simp only [Act.put, List.setIfInBounds_toArray, List.set_cons_zero, List.set_cons_succ]
  refine ord_call aw_34 (by rfl) (by go_simp) (aw_num 0 _) ?_
  rintro e v12 ⟨rfl, hb⟩
  replace hS := S_step hS hb
  clear hb
  refine ⟨_, rfl, hS, ?_⟩
  simp only [Act.put, List.setIfInBounds_toArray, List.set_cons_zero, List.set_cons_succ]
  refine ord_value (v := .slice (some ⟨v12.heap.size, 0, none⟩) 2 2) (w' := v12.alloc (.cells #[.int .i64 2, .string ⟨#[]⟩, .string ⟨#[]⟩, .int .i64 0, .int .i64 0, .int .i64 0, .string ⟨#[]⟩, .slice none 0 0, .int .i64 1, .string ⟨#[]⟩, .string ⟨#[]⟩, .int .i64 0, .int .i64 1, .int .i64 0, .string ⟨#[]⟩, .slice none 0 0] 26)) aw_35 (by rfl) (by go_simp) (S_step hS ((Below.refl _ _).alloc (Nat.le_refl _) _)) ?_
  replace hS := S_step hS ((Below.refl _ _).alloc (Nat.le_refl _) (.cells #[.int .i64 2, .string ⟨#[]⟩, .string ⟨#[]⟩, .int .i64 0, .int .i64 0, .int .i64 0, .string ⟨#[]⟩, .slice none 0 0, .int .i64 1, .string ⟨#[]⟩, .string ⟨#[]⟩, .int .i64 0, .int .i64 1, .int .i64 0, .string ⟨#[]⟩, .slice none 0 0] 26))
  simp only [Act.put, List.setIfInBounds_toArray, List.set_cons_zero, List.set_cons_succ]
  have A360 := Lib.hid (args_two (A := colE 0) (B := numE 0) (s := nilS) (t := nilS) (heap_alloc_new v12 (.cells #[.int .i64 2, .string ⟨#[]⟩, .string ⟨#[]⟩, .int .i64 0, .int .i64 0, .int .i64 0, .string ⟨#[]⟩, .slice none 0 0, .int .i64 1, .string ⟨#[]⟩, .string ⟨#[]⟩, .int .i64 0, .int .i64 1, .int .i64 0, .string ⟨#[]⟩, .slice none 0 0] 26)) .mt .mt)
  refine ord_call aw_36 (by rfl) (by go_simp) (aw_node 12 (some ⟨v12.heap.size, 0, none⟩) 2 2 _) ?_
  rintro e v13 ⟨rfl, hb⟩
  have A36 := Lib.hid (A360.out.mono hb)
  clear A360
  replace hS := S_step hS hb
  clear hb
  refine ⟨_, rfl, hS, ?_⟩
  simp only [Act.put, List.setIfInBounds_toArray, List.set_cons_zero, List.set_cons_succ]
  refine ord_value (v := .slice (some ⟨v13.heap.size, 0, none⟩) 2 2) (w' := v13.alloc (.cells #[.int .i64 12, .string ⟨#[]⟩, .string ⟨#[]⟩, .int .i64 0, .int .i64 0, .int .i64 0, .string ⟨#[]⟩, .slice (some ⟨v12.heap.size, 0, none⟩) 2 2, .int .i64 12, .string ⟨#[]⟩, .string ⟨#[]⟩, .int .i64 0, .int .i64 0, .int .i64 0, .string ⟨#[]⟩, (.slice (some ⟨w2.heap.size + 1, 0, none⟩) 2 2)] 26)) aw_38 (by rfl) (by go_simp) (S_step hS ((Below.refl _ _).alloc (Nat.le_refl _) _)) ?_
  replace hS := S_step hS ((Below.refl _ _).alloc (Nat.le_refl _) (.cells #[.int .i64 12, .string ⟨#[]⟩, .string ⟨#[]⟩, .int .i64 0, .int .i64 0, .int .i64 0, .string ⟨#[]⟩, .slice (some ⟨v12.heap.size, 0, none⟩) 2 2, .int .i64 12, .string ⟨#[]⟩, .string ⟨#[]⟩, .int .i64 0, .int .i64 0, .int .i64 0, .string ⟨#[]⟩, (.slice (some ⟨w2.heap.size + 1, 0, none⟩) 2 2)] 26))
  simp only [Act.put, List.setIfInBounds_toArray, List.set_cons_zero, List.set_cons_succ]
  have A390 := Lib.hid (args_two (A := (nodE 12 [colE 0, numE 0])) (B := (nodE 12 [colE 0, colE 1])) (s := (.slice (some ⟨v12.heap.size, 0, none⟩) 2 2)) (t := (.slice (some ⟨w2.heap.size + 1, 0, none⟩) 2 2)) (heap_alloc_new v13 (.cells #[.int .i64 12, .string ⟨#[]⟩, .string ⟨#[]⟩, .int .i64 0, .int .i64 0, .int .i64 0, .string ⟨#[]⟩, .slice (some ⟨v12.heap.size, 0, none⟩) 2 2, .int .i64 12, .string ⟨#[]⟩, .string ⟨#[]⟩, .int .i64 0, .int .i64 0, .int .i64 0, .string ⟨#[]⟩, (.slice (some ⟨w2.heap.size + 1, 0, none⟩) 2 2)] 26)) (A36.out.mono ((Below.refl _ _).alloc (Nat.le_refl _) _)) ((G.out.keep hS)))
  refine ord_call aw_39 (by rfl) (by go_simp) (aw_node 19 (some ⟨v13.heap.size, 0, none⟩) 2 2 _) ?_
  rintro e v14 ⟨rfl, hb⟩
  have A39 := Lib.hid (A390.out.mono hb)
  clear A390
  replace hS := S_step hS hb
  clear hb
  refine ⟨_, rfl, hS, ?_⟩
  simp only [Act.put, List.setIfInBounds_toArray, List.set_cons_zero, List.set_cons_succ]
  refine ord_call aw_41 (by rfl) (by go_simp) (aw_c19 _ _ _ _ _ A39.out (R.out.keep hS) (Tb.out.mono hS.1)) ?_
  rintro e v15 ⟨rfl, hb⟩
  replace hS := S_step hS hb
  clear hb
  refine ⟨_, rfl, hS, ?_⟩
  simp only [Act.put, List.setIfInBounds_toArray, List.set_cons_zero, List.set_cons_succ]
  refine ord_yield (v := .bool true) aw_42 (by rfl) (fun w hSw => by go_simp) ?_
  simp only [Act.put, List.setIfInBounds_toArray, List.set_cons_zero, List.set_cons_succ]
  refine ord_yield (v := .bool true) aw_43 (by rfl) (fun w hSw => by go_simp) ?_
  simp only [Act.put, List.setIfInBounds_toArray, List.set_cons_zero, List.set_cons_succ]
  refine ord_yield (v := .bool true) aw_44 (by rfl) (fun w hSw => by go_simp) ?_
  simp only [Act.put, List.setIfInBounds_toArray, List.set_cons_zero, List.set_cons_succ]
  refine ord_yield (v := .agg #[.int .i64 2, .string ⟨#[]⟩, .string ⟨#[]⟩, .int .i64 1, .int .i64 0, .int .i64 0, .string ⟨#[]⟩, .slice none 0 0]) aw_45 (by rfl) (fun w hSw => by go_simp) ?_
  simp only [Act.put, List.setIfInBounds_toArray, List.set_cons_zero, List.set_cons_succ]
  refine ord_yield (v := (.slice (some ⟨w2.heap.size, 0, none⟩) 2 2)) aw_48 (by rfl) (fun w hSw => by go_simp) ?_
  simp only [Act.put, List.setIfInBounds_toArray, List.set_cons_zero, List.set_cons_succ]
  refine ord_value (v := .slice (some ⟨v15.heap.size, 0, none⟩) 1 1) (w' := v15.alloc (.cells #[.int .i64 2, .string ⟨#[]⟩, .string ⟨#[]⟩, .int .i64 1, .int .i64 0, .int .i64 0, .string ⟨#[]⟩, .slice none 0 0] 26)) aw_46 (by rfl) (by go_simp) (S_step hS ((Below.refl _ _).alloc (Nat.le_refl _) _)) ?_
  replace hS := S_step hS ((Below.refl _ _).alloc (Nat.le_refl _) (.cells #[.int .i64 2, .string ⟨#[]⟩, .string ⟨#[]⟩, .int .i64 1, .int .i64 0, .int .i64 0, .string ⟨#[]⟩, .slice none 0 0] 26))
  simp only [Act.put, List.setIfInBounds_toArray, List.set_cons_zero, List.set_cons_succ]
  have A470 := Lib.hid (args_one (A := colE 1) (s := nilS) (heap_alloc_new v15 (.cells #[.int .i64 2, .string ⟨#[]⟩, .string ⟨#[]⟩, .int .i64 1, .int .i64 0, .int .i64 0, .string ⟨#[]⟩, .slice none 0 0] 26)) .mt)
  refine ord_call aw_47 (by rfl) (by go_simp) (aw_node 17 (some ⟨v15.heap.size, 0, none⟩) 1 1 _) ?_
  rintro e v16 ⟨rfl, hb⟩
  have A47 := Lib.hid (A470.out.mono hb)
  clear A470
  replace hS := S_step hS hb
  clear hb
  refine ⟨_, rfl, hS, ?_⟩
  simp only [Act.put, List.setIfInBounds_toArray, List.set_cons_zero, List.set_cons_succ]
  refine ord_call aw_49 (by rfl) (by go_simp) (aw_c17 _ _ _ _ _ A47.out (R.out.keep hS) (Tb.out.mono hS.1)) ?_
  rintro e v17 ⟨rfl, hb⟩
  replace hS := S_step hS hb
  clear hb
  refine ⟨_, rfl, hS, ?_⟩
  simp only [Act.put, List.setIfInBounds_toArray, List.set_cons_zero, List.set_cons_succ]
  refine ord_yield (v := .bool true) aw_50 (by rfl) (fun w hSw => by go_simp) ?_
  simp only [Act.put, List.setIfInBounds_toArray, List.set_cons_zero, List.set_cons_succ]
  refine ord_yield (v := .bool true) aw_51 (by rfl) (fun w hSw => by go_simp) ?_
  simp only [Act.put, List.setIfInBounds_toArray, List.set_cons_zero, List.set_cons_succ]
  refine ord_yield (v := .bool true) aw_52 (by rfl) (fun w hSw => by go_simp) ?_
  simp only [Act.put, List.setIfInBounds_toArray, List.set_cons_zero, List.set_cons_succ]
  refine ord_yield (v := .agg #[.int .i64 12, .string ⟨#[]⟩, .string ⟨#[]⟩, .int .i64 0, .int .i64 0, .int .i64 0, .string ⟨#[]⟩, (.slice (some ⟨w2.heap.size + 1, 0, none⟩) 2 2)]) aw_53 (by rfl) (fun w hSw => by go_simp) ?_
  simp only [Act.put, List.setIfInBounds_toArray, List.set_cons_zero, List.set_cons_succ]
  refine ord_yield (v := (.slice (some ⟨w2.heap.size, 0, none⟩) 2 2)) aw_54 (by rfl) (fun w hSw => by go_simp) ?_
  simp only [Act.put, List.setIfInBounds_toArray, List.set_cons_zero, List.set_cons_succ]
  refine ord_call aw_55 (by rfl) (by go_simp) (aw_m12 _ _ _ _ _ (G.out.keep hS) (R.out.keep hS) (Tb.out.mono hS.1)) ?_
  rintro e v18 ⟨rfl, hb⟩
  replace hS := S_step hS hb
  clear hb
  refine ⟨_, rfl, hS, ?_⟩
  simp only [Act.put, List.setIfInBounds_toArray, List.set_cons_zero, List.set_cons_succ]
  refine ord_yield (v := .bool true) aw_56 (by rfl) (fun w hSw => by go_simp) ?_
  simp only [Act.put, List.setIfInBounds_toArray, List.set_cons_zero, List.set_cons_succ]
  refine ord_yield (v := .bool true) aw_57 (by rfl) (fun w hSw => by go_simp) ?_
  simp only [Act.put, List.setIfInBounds_toArray, List.set_cons_zero, List.set_cons_succ]
  refine ord_yield (v := .bool true) aw_58 (by rfl) (fun w hSw => by go_simp) ?_
  simp only [Act.put, List.setIfInBounds_toArray, List.set_cons_zero, List.set_cons_succ]
  refine ord_yield (v := .agg #[.int .i64 0, .string ⟨#[]⟩, .string ⟨#[]⟩, .int .i64 0, .int .i64 0, .int .i64 0, .string ⟨#[]⟩, .slice none 0 0]) aw_59 (by rfl) (fun w hSw => by go_simp) ?_
  simp only [Act.put, List.setIfInBounds_toArray, List.set_cons_zero, List.set_cons_succ]
  refine ord_yield (v := (.slice (some ⟨w2.heap.size, 0, none⟩) 2 2)) aw_60 (by rfl) (fun w hSw => by go_simp) ?_
  simp only [Act.put, List.setIfInBounds_toArray, List.set_cons_zero, List.set_cons_succ]
  refine ord_call aw_61 (by rfl) (by go_simp) (aw_m0 _ _ _ _ _ (.mt (a := none)) (R.out.keep hS) (Tb.out.mono hS.1)) ?_
  rintro e v19 ⟨rfl, hb⟩
  replace hS := S_step hS hb
  clear hb
  refine ⟨_, rfl, hS, ?_⟩
  simp only [Act.put, List.setIfInBounds_toArray, List.set_cons_zero, List.set_cons_succ]
  refine ord_yield (v := .bool true) aw_62 (by rfl) (fun w hSw => by go_simp) ?_
  simp only [Act.put, List.setIfInBounds_toArray, List.set_cons_zero, List.set_cons_succ]
  refine ord_yield (v := .bool true) aw_63 (by rfl) (fun w hSw => by go_simp) ?_
  simp only [Act.put, List.setIfInBounds_toArray, List.set_cons_zero, List.set_cons_succ]
  refine ord_call aw_64 (by rfl) (by go_simp) (like_lit ⟨#[97, 98, 99]⟩ ⟨#[97, 37]⟩ true _ (by decide) (by decide) (by kernel_rfl)) ?_
  rintro e v20 ⟨rfl, hb⟩
  replace hS := S_step hS hb
  clear hb
  refine ⟨_, rfl, hS, ?_⟩
  simp only [Act.put, List.setIfInBounds_toArray, List.set_cons_zero, List.set_cons_succ]
  refine ord_yield (v := .bool true) aw_65 (by rfl) (fun w hSw => by go_simp) ?_
  simp only [Act.put, List.setIfInBounds_toArray, List.set_cons_zero, List.set_cons_succ]
  refine ord_yield (v := .bool true) aw_66 (by rfl) (fun w hSw => by go_simp) ?_
  simp only [Act.put, List.setIfInBounds_toArray, List.set_cons_zero, List.set_cons_succ]
  refine ord_call aw_67 (by rfl) (by go_simp) (like_lit ⟨#[97, 98, 99]⟩ ⟨#[95, 98, 95]⟩ true _ (by decide) (by decide) (by kernel_rfl)) ?_
  rintro e v21 ⟨rfl, hb⟩
  replace hS := S_step hS hb
  clear hb
  refine ⟨_, rfl, hS, ?_⟩
  simp only [Act.put, List.setIfInBounds_toArray, List.set_cons_zero, List.set_cons_succ]
  refine ord_yield (v := .bool true) aw_68 (by rfl) (fun w hSw => by go_simp) ?_
  simp only [Act.put, List.setIfInBounds_toArray, List.set_cons_zero, List.set_cons_succ]
  refine ord_yield (v := .bool true) aw_69 (by rfl) (fun w hSw => by go_simp) ?_
  simp only [Act.put, List.setIfInBounds_toArray, List.set_cons_zero, List.set_cons_succ]
  refine ord_call aw_70 (by rfl) (by go_simp) (like_lit ⟨#[97, 98, 99]⟩ ⟨#[98, 37]⟩ false _ (by decide) (by decide) (by kernel_rfl)) ?_
  rintro e v22 ⟨rfl, hb⟩
  replace hS := S_step hS hb
  clear hb
  refine ⟨_, rfl, hS, ?_⟩
  simp only [Act.put, List.setIfInBounds_toArray, List.set_cons_zero, List.set_cons_succ]
  refine ord_yield (v := .bool true) aw_71 (by rfl) (fun w hSw => by go_simp) ?_
  simp only [Act.put, List.setIfInBounds_toArray, List.set_cons_zero, List.set_cons_succ]
  refine ord_yield (v := .bool true) aw_72 (by rfl) (fun w hSw => by go_simp) ?_
  simp only [Act.put, List.setIfInBounds_toArray, List.set_cons_zero, List.set_cons_succ]
  refine ord_yield (v := .bool true) aw_73 (by rfl) (fun w hSw => by go_simp) ?_
  simp only [Act.put, List.setIfInBounds_toArray, List.set_cons_zero, List.set_cons_succ]
  refine ord_call aw_74 (by rfl) (by go_simp) (like_lit ⟨#[97, 98, 99]⟩ ⟨#[97, 98]⟩ false _ (by decide) (by decide) (by kernel_rfl)) ?_
  rintro e v23 ⟨rfl, hb⟩
  replace hS := S_step hS hb
  clear hb
  refine ⟨_, rfl, hS, ?_⟩
  simp only [Act.put, List.setIfInBounds_toArray, List.set_cons_zero, List.set_cons_succ]
  refine ord_yield (v := .bool true) aw_75 (by rfl) (fun w hSw => by go_simp) ?_
  simp only [Act.put, List.setIfInBounds_toArray, List.set_cons_zero, List.set_cons_succ]
  refine ord_yield (v := .bool true) aw_76 (by rfl) (fun w hSw => by go_simp) ?_
  simp only [Act.put, List.setIfInBounds_toArray, List.set_cons_zero, List.set_cons_succ]
  refine ord_yield (v := .bool true) aw_77 (by rfl) (fun w hSw => by go_simp) ?_
  simp only [Act.put, List.setIfInBounds_toArray, List.set_cons_zero, List.set_cons_succ]
  refine ord_yield (v := .int .i64 0) aw_78 (by rfl) (fun w hSw => by go_simp) ?_
  simp only [Act.put, List.setIfInBounds_toArray, List.set_cons_zero, List.set_cons_succ]
  refine ord_yield (v := .bool true) aw_79 (by rfl) (fun w hSw => by go_simp) ?_
  simp only [Act.put, List.setIfInBounds_toArray, List.set_cons_zero, List.set_cons_succ]
  refine ord_yield (v := .bool true) aw_80 (by rfl) (fun w hSw => by go_simp) ?_
  simp only [Act.put, List.setIfInBounds_toArray, List.set_cons_zero, List.set_cons_succ]
  refine ord_yield (v := .bool true) aw_81 (by rfl) (fun w hSw => by go_simp) ?_
  simp only [Act.put, List.setIfInBounds_toArray, List.set_cons_zero, List.set_cons_succ]
  refine ord_yield (v := .agg #[.int .i64 1, .int .i64 (-4), .string ⟨#[]⟩]) aw_82 (by rfl) (fun w hSw => by go_simp) ?_
  simp only [Act.put, List.setIfInBounds_toArray, List.set_cons_zero, List.set_cons_succ]
  refine ord_call aw_83 (by rfl) (by go_simp) (aw_int (-4) _) ?_
  rintro e v24 ⟨rfl, hb⟩
  replace hS := S_step hS hb
  clear hb
  refine ⟨_, rfl, hS, ?_⟩
  simp only [Act.put, List.setIfInBounds_toArray, List.set_cons_zero, List.set_cons_succ]
  refine ord_yield (v := .bool true) aw_84 (by rfl) (fun w hSw => by go_simp) ?_
  simp only [Act.put, List.setIfInBounds_toArray, List.set_cons_zero, List.set_cons_succ]
  refine ord_yield (v := .bool true) aw_85 (by rfl) (fun w hSw => by go_simp) ?_
  simp only [Act.put, List.setIfInBounds_toArray, List.set_cons_zero, List.set_cons_succ]
  refine ord_yield (v := .bool true) aw_86 (by rfl) (fun w hSw => by go_simp) ?_
  simp only [Act.put, List.setIfInBounds_toArray, List.set_cons_zero, List.set_cons_succ]
  refine ord_yield (v := .int .i64 1) aw_87 (by rfl) (fun w hSw => by go_simp) ?_
  simp only [Act.put, List.setIfInBounds_toArray, List.set_cons_zero, List.set_cons_succ]
  refine ord_yield (v := .bool true) aw_88 (by rfl) (fun w hSw => by go_simp) ?_
  simp only [Act.put, List.setIfInBounds_toArray, List.set_cons_zero, List.set_cons_succ]
  refine ord_yield (v := .bool true) aw_89 (by rfl) (fun w hSw => by go_simp) ?_
  simp only [Act.put, List.setIfInBounds_toArray, List.set_cons_zero, List.set_cons_succ]
  refine ord_yield (v := .bool true) aw_90 (by rfl) (fun w hSw => by go_simp) ?_
  simp only [Act.put, List.setIfInBounds_toArray, List.set_cons_zero]
  refine NoPanic.normal ?_
  go_wp2
  go_ret
  exact ⟨rfl, Bw.out.mono hS.1⟩

end Go.Proofs.YtgaeabodofabmaaDoor
