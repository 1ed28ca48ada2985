/- Plain definitions: values, rows and expression trees as data, how they lie in memory, and that they lie there in every later world. -/
import Derived.Below
import Derived.WalkKit
namespace Go.Proofs.YtgaeabodofabmaaDoor
open Go.RowKit

structure Vl where
  kind : Int
  int : Int
  text : ByteArray

/-- The three cells of a value. -/
def Vl.cells (v : Vl) : List Value := [.int .i64 v.kind, .int .i64 v.int, .string v.text]
def Vl.val (v : Vl) : Value := .agg #[.int .i64 v.kind, .int .i64 v.int, .string v.text]
def Vl.null : Vl := ⟨0, 0, ⟨#[]⟩⟩

inductive Ex where
  | mk (op : Int) (table name : ByteArray) (index : Int) (v : Vl) (args : List Ex)

def Ex.op : Ex → Int | .mk o _ _ _ _ _ => o
def Ex.table : Ex → ByteArray | .mk _ t _ _ _ _ => t
def Ex.name : Ex → ByteArray | .mk _ _ n _ _ _ => n
def Ex.index : Ex → Int | .mk _ _ _ i _ _ => i
def Ex.v : Ex → Vl | .mk _ _ _ _ v _ => v
def Ex.args : Ex → List Ex | .mk _ _ _ _ _ a => a

/-- The eight cells of an expression whose operands lie at the slice s. -/
def Ex.cells (e : Ex) (s : Value) : List Value := [.int .i64 e.op, .string e.table, .string e.name, .int .i64 e.index, .int .i64 e.v.kind, .int .i64 e.v.int, .string e.v.text, s]
def Ex.val (e : Ex) (s : Value) : Value := .agg #[.int .i64 e.op, .string e.table, .string e.name, .int .i64 e.index, .int .i64 e.v.kind, .int .i64 e.v.int, .string e.v.text, s]

/-- The operands es lie at the slice. -/
inductive ArgsAt (w : World) : List Ex → Value → Prop where
  | mt {a : Option Addr} : ArgsAt w [] (.slice a 0 0)
  | lie (es : List Ex) (b o n cap : Nat) (ss : Nat → Value) (hn : n = es.length) (hlt : b < w.heap.size) (hm : n ≤ 2000000000000)
      (hc : ∀ i (h : i < es.length), ∀ j (_ : j < 8), w.cell? ⟨b, o + i * 8 + j, none⟩ = ((es[i].cells (ss i))[j]?))
      (hs : ∀ i (h : i < es.length), ArgsAt w es[i].args (ss i)) : ArgsAt w es (.slice (some ⟨b, o, none⟩) n cap)

/-- A row of values lies at the slice. -/
inductive ValsAt (w : World) : List Vl → Value → Prop where
  | mt {a : Option Addr} : ValsAt w [] (.slice a 0 0)
  | lie (vs : List Vl) (b o n cap : Nat) (hn : n = vs.length) (hlt : b < w.heap.size) (hm : n ≤ maxLen)
      (hc : ∀ i (h : i < vs.length), ∀ j (_ : j < 3), w.cell? ⟨b, o + i * 3 + j, none⟩ = (vs[i].cells[j]?)) : ValsAt w vs (.slice (some ⟨b, o, none⟩) n cap)

theorem ArgsAt.mono {w w' : World} {es : List Ex} {s : Value} (h : ArgsAt w es s) (hb : Below w.heap.size w w') : ArgsAt w' es s := by
  induction h with
  | mt => exact .mt
  | lie es b o n cap ss hn hlt hm hc _ ih => exact .lie es b o n cap ss hn (Nat.lt_of_lt_of_le hlt hb.size) hm (fun i h j hj => (hb.cell hlt).trans (hc i h j hj)) ih

theorem ValsAt.mono {w w' : World} {vs : List Vl} {s : Value} (h : ValsAt w vs s) (hb : Below w.heap.size w w') : ValsAt w' vs s := by
  cases h with
  | mt => exact .mt
  | lie _ b o n cap hn hlt hm hc => exact .lie _ b o n cap hn (Nat.lt_of_lt_of_le hlt hb.size) hm (fun i h j hj => (hb.cell hlt).trans (hc i h j hj))

theorem ArgsAt.shape {w : World} {es : List Ex} {s : Value} (h : ArgsAt w es s) : ∃ a n c, s = .slice a n c ∧ n = es.length ∧ n ≤ 2000000000000 := by
  cases h with
  | mt => exact ⟨_, _, _, rfl, rfl, by omega⟩
  | lie _ b o n cap ss hn hlt hm hc => exact ⟨_, _, _, rfl, hn, hm⟩
theorem ValsAt.shape {w : World} {vs : List Vl} {s : Value} (h : ValsAt w vs s) : ∃ a n c, s = .slice a n c ∧ n = vs.length ∧ n ≤ maxLen := by
  cases h with
  | mt => exact ⟨_, _, _, rfl, rfl, by simp⟩
  | lie _ b o n cap hn hlt hm hc => exact ⟨_, _, _, rfl, hn, hm⟩

theorem own_below {w w' : World} {base : Nat} {e : TypeId} {size : Nat} {v : Value} {n : Nat} {xs : List Value} (h : w.ownsRow base e size v n xs) (hb : Below w.heap.size w w') : w'.ownsRow base e size v n xs := by
  refine ⟨h.1, ?_⟩
  rcases h.2 with h2 | ⟨g, cap, cur, hv, hg, hh, r⟩
  · exact .inl h2
  · exact .inr ⟨g, cap, cur, hv, hg, (hb.block g (Array.getElem?_eq_some_iff.1 hh).1).trans hh, r⟩

/-- What a call that makes memory of its own leaves: it returns v, and nothing that was there has turned. -/
def Ret (v : Value) (w : World) (e : Ending) (w' : World) : Prop := e = .returned v ∧ Below w.heap.size w w'

/-- What a struct-returning ... -/
theorem bcell {W w1 : World} (hb : Below W.heap.size W w1) : (∀ b o, b < W.heap.size → w1.cell? ⟨b, o, none⟩ = W.cell? ⟨b, o, none⟩) ∧ (∀ b o, b < W.heap.size → w1.frozen? ⟨b, o, none⟩ = W.frozen? ⟨b, o, none⟩) :=
  ⟨fun b o h => hb.cell (p := ⟨b, o, none⟩) h, fun b o h => hb.frozen (p := ⟨b, o, none⟩) h⟩

/-- The table of the truth values in ascending order, the program's only package-level variable. -/
structure Tab (w : World) : Prop where
  c0 : w.cell? ⟨0, 0, none⟩ = some (.int .i64 0)
  c1 : w.cell? ⟨0, 1, none⟩ = some (.int .i64 2)
  c2 : w.cell? ⟨0, 2, none⟩ = some (.int .i64 1)
theorem Tab.mono {w w' : World} (h : Tab w) (hb : Below w.heap.size w w') : Tab w' := by
  have h0 : 0 < w.heap.size := World.block_lt_of_cell? w ⟨0, 0, none⟩ h.c0
  exact ⟨(hb.cell (p := ⟨0, 0, none⟩) h0).trans h.c0, (hb.cell (p := ⟨0, 1, none⟩) h0).trans h.c1, (hb.cell (p := ⟨0, 2, none⟩) h0).trans h.c2⟩

/-- A truth value as the program holds it: 0 False, 1 True, 2 Unknown. -/
inductive T3 where | f | t | u
  deriving DecidableEq
def T3.num : T3 → Int | .f => 0 | .t => 1 | .u => 2
def T3.val (x : T3) : Value := .int .i64 x.num
def T3.and : T3 → T3 → T3 | .f, _ => .f | _, .f => .f | .u, _ => .u | _, .u => .u | .t, .t => .t
def T3.or : T3 → T3 → T3 | .t, _ => .t | _, .t => .t | .u, _ => .u | _, .u => .u | .f, .f => .f
def T3.not : T3 → T3 | .f => .t | .t => .f | .u => .u
def T3.of : Bool → T3 | true => .t | false => .f

/-- The quotient rounded toward negative infinity, as the code computes it. -/
def floorS (a b : Int) : Int := if a.tmod b < 0 then wrap64 (wrap64 (a.tdiv b) - 1) else wrap64 (a.tdiv b)

/-- What compute returns; none: an index or a division would fail. -/
def computeS (op : Int) : List Vl → Option Int
  | [] => none
  | x :: l => if op = 3 then some (wrap64 (-x.int)) else if op = 9 then some x.text.size else
    match l with
    | [] => none
    | y :: _ =>
      if op = 4 then some (wrap64 (x.int + y.int)) else if op = 5 then some (wrap64 (x.int - y.int)) else if op = 6 then some (wrap64 (x.int * y.int)) else
      if y.int ≤ 0 then none else
      if op = 7 then some (floorS x.int y.int) else some (wrap64 (x.int - wrap64 (y.int * floorS x.int y.int)))

/-! What Value returns; none: an index or a division would fail. -/
mutual
def Ex.value (R : List Vl) : Ex → Option Vl
  | .mk op _ _ index v args => if op = 1 then some v else if op = 2 then (if 0 ≤ index then R[index.toNat]? else none) else
    (Ex.values R args).bind fun r => match r with
      | none => some Vl.null
      | some vs => (computeS op vs).map fun n => ⟨1, n, ⟨#[]⟩⟩
def Ex.values (R : List Vl) : List Ex → Option (Option (List Vl))
  | [] => some (some [])
  | e :: es => (Ex.value R e).bind fun v => if v.kind = 0 then some none else (Ex.values R es).map fun r => r.map (v :: ·)
end

/-! Whether an expression contains a column; IS NULL. -/
mutual
def Ex.cols : Ex → Bool
  | .mk op _ _ _ _ args => op == 2 || Ex.colsL args
def Ex.colsL : List Ex → Bool
  | [] => false
  | e :: es => Ex.cols e || Ex.colsL es
end
theorem colsL_append (a b : List Ex) : Ex.colsL (a ++ b) = (Ex.colsL a || Ex.colsL b) := by
  induction a with
  | nil => simp [Ex.colsL]
  | cons x l ih => simp [Ex.colsL, ih, Bool.or_assoc]
theorem take_succ_ex (es : List Ex) (k : Nat) (hk : k < es.length) : es.take (k + 1) = es.take k ++ [es[k]] := by
  rw [List.take_succ_eq_append_getElem hk]

/-- A variable of several cells lies at block b. -/
structure VarIs (w : World) (b : Nat) (c : Array Value) : Prop where
  lt : b < w.heap.size
  cell : ∀ j, w.cell? ⟨b, j, none⟩ = c[j]?
  free : ∀ j, w.frozen? ⟨b, j, none⟩ = false
theorem VarIs.below {w w' : World} {B b : Nat} {c : Array Value} (h : VarIs w b c) (hb : Below B w w') (hB : b < B) : VarIs w' b c :=
  ⟨Nat.lt_of_lt_of_le h.lt hb.size, fun j => (hb.cell (p := ⟨b, j, none⟩) hB).trans (h.cell j), fun j => (hb.frozen (p := ⟨b, j, none⟩) hB).trans (h.free j)⟩
theorem VarIs.new (w : World) (c : Array Value) (t : TypeId) : VarIs (w.alloc (.cells c t)) w.heap.size c :=
  ⟨by simp, fun j => World.cell?_alloc_new w c t j, fun j => World.frozen?_alloc_new w c t j⟩
theorem VarIs.alloc {w : World} {b : Nat} {c : Array Value} (h : VarIs w b c) (o : Obj) : VarIs (w.alloc o) b c :=
  ⟨by simp; have := h.lt; omega, fun j => (World.cell?_alloc_lt _ _ _ h.lt).trans (h.cell j), fun j => (World.frozen?_alloc_old _ _ _ (Nat.ne_of_lt h.lt)).trans (h.free j)⟩

/-- What a region that draws its order keeps: nothing that was there when it began has turned. -/
theorem S_of {W w : World} (h : Below W.heap.size W w) : Below W.heap.size W w ∧ ∀ b o, b < W.heap.size → w.cell? ⟨b, o, none⟩ = W.cell? ⟨b, o, none⟩ := ⟨h, fun b o hb => h.cell (p := ⟨b, o, none⟩) hb⟩
theorem S_step {W w w' : World} (h : Below W.heap.size W w ∧ ∀ b o, b < W.heap.size → w.cell? ⟨b, o, none⟩ = W.cell? ⟨b, o, none⟩) (hb : Below w.heap.size w w') : Below W.heap.size W w' ∧ ∀ b o, b < W.heap.size → w'.cell? ⟨b, o, none⟩ = W.cell? ⟨b, o, none⟩ :=
  S_of (h.1.trans (hb.mono h.1.size))
theorem ArgsAt.keep {W w : World} {es : List Ex} {s : Value} (h : ArgsAt W es s) (hS : Below W.heap.size W w ∧ ∀ b o, b < W.heap.size → w.cell? ⟨b, o, none⟩ = W.cell? ⟨b, o, none⟩) : ArgsAt w es s := h.mono hS.1
theorem ValsAt.keep {W w : World} {es : List Vl} {s : Value} (h : ValsAt W es s) (hS : Below W.heap.size W w ∧ ∀ b o, b < W.heap.size → w.cell? ⟨b, o, none⟩ = W.cell? ⟨b, o, none⟩) : ValsAt w es s := h.mono hS.1
end Go.Proofs.YtgaeabodofabmaaDoor
