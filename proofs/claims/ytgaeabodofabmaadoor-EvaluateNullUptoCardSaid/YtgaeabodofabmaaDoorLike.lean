/- Plain: a text matches a pattern; the walk through the pattern's states. -/
import Derived.Below
import Derived.WalkKit
namespace Go.Proofs.YtgaeabodofabmaaDoor
open Go.RowKit

/-- One round of the closure skip, and k of them. -/
def skipTo (p : List UInt8) (l : List Bool) : Nat → List Bool
  | 0 => l
  | k + 1 => if p.getD k 0 = 37 ∧ (skipTo p l k).getD k false = true then (skipTo p l k).set (k + 1) true else skipTo p l k
def skipS (p : List UInt8) (l : List Bool) : List Bool := skipTo p l p.length
theorem length_skipTo (p : List UInt8) (l : List Bool) (k : Nat) : (skipTo p l k).length = l.length := by
  induction k with
  | zero => rfl
  | succ k ih => unfold skipTo; split <;> simp [ih]
/-- One round of the inner loop of Like at the byte c: from the states r to the next ones. -/
def nextTo (p : List UInt8) (c : UInt8) (r : List Bool) : Nat → List Bool
  | 0 => List.replicate (p.length + 1) false
  | k + 1 => if r.getD k false = true then (if p.getD k 0 = 37 then (nextTo p c r k).set k true else if p.getD k 0 = 95 ∨ p.getD k 0 = c then (nextTo p c r k).set (k + 1) true else nextTo p c r k) else nextTo p c r k
theorem length_nextTo (p : List UInt8) (c : UInt8) (r : List Bool) (k : Nat) : (nextTo p c r k).length = p.length + 1 := by
  induction k with
  | zero => simp [nextTo]
  | succ k ih => unfold nextTo; repeat' split
                 all_goals simp [ih]
/-- The states behind the first k bytes of the text. -/
def statesTo (p t : List UInt8) : Nat → List Bool
  | 0 => skipS p ((List.replicate (p.length + 1) false).set 0 true)
  | k + 1 => skipS p (nextTo p (t.getD k 0) (statesTo p t k) p.length)
theorem length_statesTo (p t : List UInt8) (k : Nat) : (statesTo p t k).length = p.length + 1 := by
  cases k <;> simp [statesTo, skipS, length_skipTo, length_nextTo]
/-- What Like returns. -/
def likeS (t p : List UInt8) : Bool := (statesTo p t t.length).getD p.length false

theorem byte_getD (s : ByteArray) (k : Nat) (hk : k < s.size) : s.data.toList.getD k 0 = s[k] := by
  rw [List.getD_eq_getElem?_getD, List.getElem?_eq_getElem (by simpa using hk)]
  rfl
theorem byte_eq (s : ByteArray) (k : Nat) (hk : k < s.size) (c : UInt8) : s.data.toList.getD k 0 = c ↔ (s[k].toNat : Int) = c.toNat := by
  rw [byte_getD s k hk]
  constructor
  · intro h; rw [h]
  · intro h; exact UInt8.toNat_inj.1 (by omega)
theorem getD_get (l : List Bool) (k : Nat) (hk : k < l.length) : l.getD k false = l[k] := by simp [List.getD, List.getElem?_eq_getElem hk]
theorem skip_hit {s : ByteArray} {l : List Bool} {k : Nat} (hk : k < s.size) (hl : k < (skipTo s.data.toList l k).length) (h1 : (s[k].toNat : Int) = 37) (h2 : (skipTo s.data.toList l k)[k] = true) :
    skipTo s.data.toList l (k + 1) = (skipTo s.data.toList l k).set (k + 1) true := by
  rw [skipTo, if_pos ⟨(byte_eq s k hk 37).2 h1, by rw [getD_get _ k hl]; exact h2⟩]
theorem skip_miss1 {s : ByteArray} {l : List Bool} {k : Nat} (hk : k < s.size) (h1 : ¬ (s[k].toNat : Int) = 37) : skipTo s.data.toList l (k + 1) = skipTo s.data.toList l k := by
  rw [skipTo, if_neg (fun h => h1 ((byte_eq s k hk 37).1 h.1))]
theorem skip_miss2 {s : ByteArray} {l : List Bool} {k : Nat} (hl : k < (skipTo s.data.toList l k).length) (h2 : (skipTo s.data.toList l k)[k] = false) : skipTo s.data.toList l (k + 1) = skipTo s.data.toList l k := by
  rw [skipTo, if_neg (fun h => by rw [getD_get _ k hl, h2] at h; simp at h)]

theorem beq_byte {s : ByteArray} {k : Nat} (hk : k < s.size) {c : Int} {b : UInt8} (hc : (b.toNat : Int) = c) (h : ((s[k].toNat : Int) == c) = true) : s.data.toList.getD k 0 = b := by
  rw [byte_eq s k hk]; rw [beq_iff_eq] at h; omega
theorem bne_byte {s : ByteArray} {k : Nat} (hk : k < s.size) {c : Int} {b : UInt8} (hc : (b.toNat : Int) = c) (h : ((s[k].toNat : Int) == c) = false) : ¬ s.data.toList.getD k 0 = b := by
  rw [byte_eq s k hk]; simp at h; omega
theorem getD_spell (l : List Bool) (j : Nat) : l.getD j false = l[j]?.getD false := rfl
section
variable {p : ByteArray} {c : UInt8} {r : List Bool} {j : Nat}
theorem next_off (h : (!(r[j]?.getD false)) = true) : nextTo p.data.toList c r (j + 1) = nextTo p.data.toList c r j := by
  rw [nextTo, if_neg (by rw [getD_spell]; simpa using h)]
theorem next_any (hj : j < p.size) (h : (!(r[j]?.getD false)) = false) (h1 : ((p[j].toNat : Int) == 37) = true) : nextTo p.data.toList c r (j + 1) = (nextTo p.data.toList c r j).set j true := by
  rw [nextTo, if_pos (by rw [getD_spell]; simpa using h), if_pos (beq_byte (b := 37) hj rfl h1)]
theorem next_one (hj : j < p.size) (h : (!(r[j]?.getD false)) = false) (h1 : ((p[j].toNat : Int) == 37) = false) (h2 : ((p[j].toNat : Int) == 95) = true) : nextTo p.data.toList c r (j + 1) = (nextTo p.data.toList c r j).set (j + 1) true := by
  rw [nextTo, if_pos (by rw [getD_spell]; simpa using h), if_neg (bne_byte (b := 37) hj rfl h1), if_pos (.inl (beq_byte (b := 95) hj rfl h2))]
theorem next_same (hj : j < p.size) (h : (!(r[j]?.getD false)) = false) (h1 : ((p[j].toNat : Int) == 37) = false) (h2 : ((p[j].toNat : Int) == (c.toNat : Int)) = true) : nextTo p.data.toList c r (j + 1) = (nextTo p.data.toList c r j).set (j + 1) true := by
  rw [nextTo, if_pos (by rw [getD_spell]; simpa using h), if_neg (bne_byte (b := 37) hj rfl h1), if_pos (.inr (beq_byte (b := c) hj rfl h2))]
theorem next_none (hj : j < p.size) (h1 : ((p[j].toNat : Int) == 37) = false) (h2 : ((p[j].toNat : Int) == 95) = false) (h3 : ((p[j].toNat : Int) == (c.toNat : Int)) = false) : nextTo p.data.toList c r (j + 1) = nextTo p.data.toList c r j := by
  have e1 : ¬ p.data.toList.getD j 0 = 37 := bne_byte (b := 37) hj rfl h1
  have e2 : ¬ (p.data.toList.getD j 0 = 95 ∨ p.data.toList.getD j 0 = c) := fun h => h.elim (bne_byte (b := 95) hj rfl h2) (bne_byte (b := c) hj rfl h3)
  rw [nextTo, if_neg e1, if_neg e2, ite_self]
end

/-- A row of bools as a block's cells. -/
def bl (l : List Bool) : Array Value := (l.map Value.bool).toArray
theorem bl_get (l : List Bool) (k : Nat) (hk : k < l.length) : (bl l)[k]? = some (.bool (l.getD k false)) := by
  simp [bl, List.getD, List.getElem?_eq_getElem hk]
theorem bl_set (l : List Bool) (k : Nat) (b : Bool) : (bl l).setIfInBounds k (.bool b) = bl (l.set k b) := by
  simp [bl, List.map_set]
theorem bl_made (n : Nat) : madeCells #[.bool false] n = bl (List.replicate n false) := by
  apply Array.ext
  · simp [size_madeCells, bl]
  · intro i h1 h2
    simp [madeCells, bl, Nat.mod_one]
/-- A row of bools fills block g. -/
def BoolsAt (w : World) (g : Nat) (l : List Bool) : Prop := w.heap[g]? = some (.cells (bl l) 4 (0, 0))
theorem BoolsAt.lt {w : World} {g : Nat} {l : List Bool} (h : BoolsAt w g l) : g < w.heap.size := (Array.getElem?_eq_some_iff.1 h).1
theorem BoolsAt.cell {w : World} {g : Nat} {l : List Bool} (h : BoolsAt w g l) (k : Nat) (hk : k < l.length) : w.cell? ⟨g, k, none⟩ = some (.bool (l.getD k false)) := by
  rw [cell_of_row w g k _ 4 (0, 0) h, bl_get l k hk]
theorem BoolsAt.frozen {w : World} {g : Nat} {l : List Bool} (h : BoolsAt w g l) (k : Nat) : w.frozen? ⟨g, k, none⟩ = false := frozen_of_row w g k _ 4 h
theorem BoolsAt.set {w : World} {g : Nat} {l : List Bool} (h : BoolsAt w g l) (k : Nat) (b : Bool) : BoolsAt (w.setCell ⟨g, k, none⟩ (.bool b)) g (l.set k b) := by
  have := heap_setCell_same w g k _ 4 (.bool b) h
  unfold BoolsAt
  rw [this, bl_set]
theorem BoolsAt.new (w : World) (l : List Bool) : BoolsAt (w.alloc (.cells (bl l) 4)) w.heap.size l := heap_alloc_new w _
theorem BoolsAt.kept {w w' : World} {g : Nat} {l : List Bool} {row : Option Nat} (h : BoolsAt w g l) (hg : w.grownBy w' row) (hne : some g ≠ row) : BoolsAt w' g l := (hg.block g h.lt hne).trans h
theorem grown_set {w w' : World} {g : Nat} (h : w.grownBy w' (some g)) (k : Nat) (u : Value) : w.grownBy (w'.setCell ⟨g, k, none⟩ u) (some g) :=
  ⟨h.os, h.tape, h.output, by simpa [World.setCell] using h.size, fun i hi hne => (Below.heap_setCell w' ⟨g, k, none⟩ u i (fun e => hne (by rw [e]))).trans (h.block i hi hne)⟩
theorem grown_refl (w : World) (row : Option Nat) : w.grownBy w row := ⟨rfl, rfl, rfl, Nat.le_refl _, fun _ _ _ => rfl⟩
theorem grown_alloc {a w : World} {row : Option Nat} (h : a.grownBy w row) (o : Obj) : a.grownBy (w.alloc o) row :=
  ⟨h.os, h.tape, h.output, Nat.le_trans h.size (by simp), fun i hi hne => (Below.heap_alloc w o i (Nat.lt_of_lt_of_le hi h.size)).trans (h.block i hi hne)⟩
end Go.Proofs.YtgaeabodofabmaaDoor
