/- How values, rows and lists of rows lie in memory; variables of several cells. -/
import Derived.Test.YtekoemcckdhhnaaRows
import Derived.Test.YtekoemcckdhhnaaRow
import Derived.Below
import Derived.WalkKit
import Derived.WalkSpells
import Derived.Outline
import Derived.RowKit3
import Derived.OwnWalk
import Derived.Laws.OwnMore
import Derived.LoopTactic
import Derived.Lib.Hide
import Derived.Deep.RegionHeld3
import Derived.IntWalk
namespace Go.Proofs.Ytekoemcckdhhnaa
open Go.RowKit

def Vl.cells (v : Vl) : List Value := [.int .i64 v.kind, .int .i64 v.int, .string v.text]
def Vl.val (v : Vl) : Value := .agg #[.int .i64 v.kind, .int .i64 v.int, .string v.text]

/-- A row of values lies at the slice. -/
inductive ValsAt (w : World) : Rw → Value → Prop where
  | mt {a : Option Addr} : ValsAt w [] (.slice a 0 0)
  | lie (vs : Rw) (b o n cap : Nat) (hn : n = vs.length) (hlt : b < w.heap.size) (hm : n ≤ maxLen)
      (hc : ∀ i (h : i < vs.length), ∀ j (_ : j < 3), w.cell? ⟨b, o + i * 3 + j, none⟩ = (vs[i].cells[j]?)) (ht : ∀ v ∈ vs, v.text.size ≤ maxLen) : ValsAt w vs (.slice (some ⟨b, o, none⟩) n cap)

theorem ValsAt.mono {w w' : World} {vs : Rw} {s : Value} (h : ValsAt w vs s) (hb : Below w.heap.size w w') : ValsAt w' vs s := by
  cases h with
  | mt => exact .mt
  | lie _ b o n cap hn hlt hm hc ht => exact .lie _ b o n cap hn (Nat.lt_of_lt_of_le hlt hb.size) hm (fun i h j hj => (hb.cell hlt).trans (hc i h j hj)) ht
theorem ValsAt.txt {w : World} {vs : Rw} {s : Value} (h : ValsAt w vs s) : ∀ v ∈ vs, v.text.size ≤ maxLen := by
  cases h with
  | mt => simp
  | lie _ b o n cap hn hlt hm hc ht => exact ht
theorem ValsAt.shape {w : World} {vs : Rw} {s : Value} (h : ValsAt w vs s) : ∃ a n c, s = .slice a n c ∧ n = vs.length ∧ n ≤ maxLen := by
  cases h with
  | mt => exact ⟨_, _, _, rfl, rfl, by simp⟩
  | lie _ b o n cap hn hlt hm hc => exact ⟨_, _, _, rfl, hn, hm⟩
theorem ValsAt.cell {w : World} {vs : Rw} {b o n cap : Nat} (h : ValsAt w vs (.slice (some ⟨b, o, none⟩) n cap)) (i : Nat) (hi : i < vs.length) :
    w.cell? ⟨b, o + i * 3, none⟩ = some (.int .i64 vs[i].kind) ∧ w.cell? ⟨b, o + i * 3 + 1, none⟩ = some (.int .i64 vs[i].int) ∧ w.cell? ⟨b, o + i * 3 + 2, none⟩ = some (.string vs[i].text) := by
  cases h with
  | mt => simp at hi
  | lie _ _ _ _ _ hn hlt hm hc => exact ⟨hc i hi 0 (by omega), hc i hi 1 (by omega), hc i hi 2 (by omega)⟩
theorem ValsAt.has {w : World} {L : Rw} {a : Option Addr} {n c : Nat} (h : ValsAt w L (.slice a n c)) (i : Nat) (hi : i < n) : ∃ b o, a = some ⟨b, o, none⟩ := by
  cases h with
  | mt => omega
  | lie _ b o => exact ⟨b, o, rfl⟩
theorem ValsAt.lt {w : World} {L : Rw} {b o n c : Nat} (h : ValsAt w L (.slice (some ⟨b, o, none⟩) n c)) {i : Nat} (hi : i < L.length) : b < w.heap.size :=
  World.block_lt_of_cell? w _ (h.cell i hi).1

theorem bcell {W w1 : World} (hb : Below W.heap.size W w1) : (∀ b o, b < W.heap.size → w1.cell? ⟨b, o, none⟩ = W.cell? ⟨b, o, none⟩) ∧ (∀ b o, b < W.heap.size → w1.frozen? ⟨b, o, none⟩ = W.frozen? ⟨b, o, none⟩) :=
  ⟨fun b o h => hb.cell (p := ⟨b, o, none⟩) h, fun b o h => hb.frozen (p := ⟨b, o, none⟩) h⟩

/-- A variable of several cells lies at block b. -/
structure VarIs (w : World) (b : Nat) (c : Array Value) : Prop where
  lt : b < w.heap.size
  cell : ∀ j, w.cell? ⟨b, j, none⟩ = c[j]?
  free : ∀ j, w.frozen? ⟨b, j, none⟩ = false
theorem VarIs.below {w w' : World} {B b : Nat} {c : Array Value} (h : VarIs w b c) (hb : Below B w w') (hB : b < B) : VarIs w' b c :=
  ⟨Nat.lt_of_lt_of_le h.lt hb.size, fun j => (hb.cell (p := ⟨b, j, none⟩) hB).trans (h.cell j), fun j => (hb.frozen (p := ⟨b, j, none⟩) hB).trans (h.free j)⟩
theorem VarIs.new (w : World) (c : Array Value) (t : TypeId) : VarIs (w.alloc (.cells c t)) w.heap.size c :=
  ⟨by simp, fun j => World.cell?_alloc_new w c t j, fun j => World.frozen?_alloc_new w c t j⟩
theorem VarIs.alloc {w : World} {b : Nat} {c : Array Value} (h : VarIs w b c) (o : Obj) : VarIs (w.alloc o) b c :=
  ⟨by simp; have := h.lt; omega, fun j => (World.cell?_alloc_lt _ _ _ h.lt).trans (h.cell j), fun j => (World.frozen?_alloc_old _ _ _ (Nat.ne_of_lt h.lt)).trans (h.free j)⟩
theorem VarIs.drew {w : World} {b : Nat} {c : Array Value} (h : VarIs w b c) : VarIs w.drew b c := ⟨h.lt, h.cell, h.free⟩
theorem VarIs.new1 (w : World) (o : Obj) (c : Array Value) (t : TypeId) : VarIs ((w.alloc o).alloc (.cells c t)) (w.heap.size + 1) c := by
  have := VarIs.new (w.alloc o) c t
  rwa [World.size_alloc] at this
theorem VarIs.setOther {w : World} {g g' : Nat} {c : Array Value} (h : VarIs w g' c) (hne : g ≠ g') (i : Nat) (v : Value) : VarIs (w.setCell ⟨g, i, none⟩ v) g' c := by
  have hb := Below.heap_setCell w ⟨g, i, none⟩ v g' (fun e => hne e.symm)
  exact ⟨by have := h.lt; simpa using this, fun j => (World.cell?_of_block (a := ⟨g', j, none⟩) hb).trans (h.cell j), fun j => (World.frozen?_of_block (a := ⟨g', j, none⟩) hb).trans (h.free j)⟩
theorem VarIs.set {w : World} {g : Nat} {c : Array Value} (h : VarIs w g c) (i : Nat) (hi : i < c.size) (v : Value) : VarIs (w.setCell ⟨g, i, none⟩ v) g (c.set i v) := by
  have h1 : w.cell? ⟨g, i, none⟩ = some c[i] := by rw [h.cell i, Array.getElem?_eq_getElem hi]
  refine ⟨by have := h.lt; simpa using this, fun j => ?_, fun j => ?_⟩
  · by_cases hj : i = j
    · subst hj
      rw [World.cell?_setCell_same _ _ _ h1]
      simp [hi]
    · rw [World.cell?_setCell_other _ _ _ _ (fun e => hj (by injection e)), h.cell j, Array.getElem?_set_ne _ hj]
  · rw [World.frozen?_setCell]
    exact h.free j

/-- What a region that draws its order keeps: nothing that was there when it began has turned. -/
theorem S_of {W w : World} (h : Below W.heap.size W w) : Below W.heap.size W w ∧ ∀ b o, b < W.heap.size → w.cell? ⟨b, o, none⟩ = W.cell? ⟨b, o, none⟩ := ⟨h, fun b o hb => h.cell (p := ⟨b, o, none⟩) hb⟩
theorem S_step {W w w' : World} (h : Below W.heap.size W w ∧ ∀ b o, b < W.heap.size → w.cell? ⟨b, o, none⟩ = W.cell? ⟨b, o, none⟩) (hb : Below w.heap.size w w') : Below W.heap.size W w' ∧ ∀ b o, b < W.heap.size → w'.cell? ⟨b, o, none⟩ = W.cell? ⟨b, o, none⟩ :=
  S_of (h.1.trans (hb.mono h.1.size))
theorem S_alloc {W w : World} (h : Below W.heap.size W w ∧ ∀ b o, b < W.heap.size → w.cell? ⟨b, o, none⟩ = W.cell? ⟨b, o, none⟩) (o : Obj) : Below W.heap.size W (w.alloc o) ∧ ∀ b o', b < W.heap.size → (w.alloc o).cell? ⟨b, o', none⟩ = W.cell? ⟨b, o', none⟩ :=
  S_of (h.1.alloc h.1.size o)
theorem ValsAt.keep {W w : World} {es : Rw} {s : Value} (h : ValsAt W es s) (hS : Below W.heap.size W w ∧ ∀ b o, b < W.heap.size → w.cell? ⟨b, o, none⟩ = W.cell? ⟨b, o, none⟩) : ValsAt w es s := h.mono hS.1
theorem own_below {w w' : World} {base : Nat} {e : TypeId} {size : Nat} {v : Value} {n : Nat} {xs : List Value} (h : w.ownsRow base e size v n xs) (hb : Below w.heap.size w w') : w'.ownsRow base e size v n xs := by
  refine ⟨h.1, ?_⟩
  rcases h.2 with h2 | ⟨g, cap, cur, hv, hg, hh, r⟩
  · exact .inl h2
  · exact .inr ⟨g, cap, cur, hv, hg, (hb.block g (Array.getElem?_eq_some_iff.1 hh).1).trans hh, r⟩

def flat (vs : Rw) : List Value := vs.flatMap Vl.cells
theorem flat_get (vs : Rw) (i : Nat) (hi : i < vs.length) (j : Nat) (hj : j < 3) : (flat vs)[i * 3 + j]? = vs[i].cells[j]? := by
  induction vs generalizing i with
  | nil => simp at hi
  | cons x l ih =>
    cases i with
    | zero =>
      simp only [flat, List.flatMap_cons, Nat.zero_mul, Nat.zero_add, List.getElem_cons_zero]
      rw [List.getElem?_append_left (by simpa [Vl.cells] using hj)]
    | succ i =>
      have := ih i (by simpa using hi)
      simp only [flat, List.flatMap_cons, List.getElem_cons_succ] at this ⊢
      rw [List.getElem?_append_right (by simp [Vl.cells]; omega), ← this]
      congr 1
      simp [Vl.cells]
      omega
theorem length_flat (l : Rw) : (flat l).length = l.length * 3 := by
  induction l with
  | nil => rfl
  | cons x l ih => simp only [flat, List.flatMap_cons, List.length_append, List.length_cons] at ih ⊢; rw [ih]; simp [Vl.cells]; omega
theorem one_flat (l : Rw) : ∀ u ∈ flat l, u.oneCell' = true := by
  intro u hu
  simp only [flat, List.mem_flatMap] at hu
  obtain ⟨v, _, hv⟩ := hu
  simp [Vl.cells] at hv
  rcases hv with rfl | rfl | rfl <;> rfl
theorem vals_of_own {w : World} {B : Nat} {v : Value} {n : Nat} {vs : Rw} {t : TypeId} (h : w.ownsRow B t 3 v n (flat vs)) (hl : vs.length = n) (htx : ∀ v ∈ vs, v.text.size ≤ maxLen) : ValsAt w vs v := by
  obtain ⟨_, ⟨rfl, rfl⟩ | ⟨g, cap, cur, rfl, hb, hg, hn, hc, hs, ht⟩⟩ := h
  · cases vs with
    | nil => exact .mt
    | cons => simp at hl
  · refine .lie vs g 0 n cap hl.symm (Array.getElem?_eq_some_iff.1 hg).1 (Nat.le_trans hn hc) (fun i hi j hj => ?_) htx
    rw [← flat_get vs i hi j hj, ← ht, Nat.zero_add, cell_of_row w g (i * 3 + j) cur t (0, 0) hg, List.getElem?_take, if_pos (by omega)]
    simp
end Go.Proofs.Ytekoemcckdhhnaa
