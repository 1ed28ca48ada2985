/- Bags in memory. -/
import Derived.Test.YtekoemcckdhhnaaE0
import Derived.Test.YtekoemcckdhhnaaBag
namespace Go.Proofs.Ytekoemcckdhhnaa
open Go.RowKit

/-- A row lies in a block of its own. -/
def RowO (w : World) (B : Nat) (r : Rw) (x : Value) : Prop := w.ownsRow B 38 3 x r.length (flat r) ∧ ∀ v ∈ r, v.text.size ≤ maxLen
theorem RowO.vals {w : World} {B : Nat} {r : Rw} {x : Value} (h : RowO w B r x) : ValsAt w r x := vals_of_own h.1 rfl h.2
theorem RowO.far {w : World} {B C : Nat} {r : Rw} {x : Value} (h : RowO w B r x) : Far w C x := by
  intro ad n c hx hn
  obtain ⟨⟨_, ⟨h1, h2⟩ | ⟨g, cap, cur, rfl, hb, hg, _⟩⟩, _⟩ := h
  · rw [h1] at hx
    injection hx with hx
    cases hx
  · injection hx with hx
    injection hx with hx
    subst hx
    exact .inr ⟨cur, _, hg⟩

/-- Only the blocks pb and g (and new ones) may have changed. -/
structure Chg (w w' : World) (pb : Nat) (g : Option Nat) : Prop where
  os : w'.os = w.os
  tape : w'.tape = w.tape
  output : w'.output = w.output
  size : w.heap.size ≤ w'.heap.size
  block : ∀ k, k < w.heap.size → k ≠ pb → some k ≠ g → w'.heap[k]? = w.heap[k]?
theorem Chg.refl (w : World) (pb : Nat) (g : Option Nat) : Chg w w pb g := ⟨rfl, rfl, rfl, Nat.le_refl _, fun _ _ _ _ => rfl⟩
theorem Chg.of_below {w w' : World} (h : Below w.heap.size w w') (pb : Nat) (g : Option Nat) : Chg w w' pb g := ⟨h.os, h.tape, h.output, h.size, fun k hk _ _ => h.block k hk⟩
theorem Chg.of_grown {w w' : World} {g : Option Nat} (h : w.grownBy w' g) (pb : Nat) : Chg w w' pb g := ⟨h.os, h.tape, h.output, h.size, fun k hk _ hg => h.block k hk hg⟩
theorem Chg.trans {w w1 w2 : World} {pb : Nat} {g g1 : Option Nat} (h : Chg w w1 pb g) (h1 : Chg w1 w2 pb g1) (hg : ∀ k, g1 = some k → g = some k ∨ w.heap.size ≤ k) : Chg w w2 pb g := by
  refine ⟨h1.os.trans h.os, h1.tape.trans h.tape, h1.output.trans h.output, Nat.le_trans h.size h1.size, fun k hk hp hg' => ?_⟩
  refine (h1.block k (Nat.lt_of_lt_of_le hk h.size) hp fun e => ?_).trans (h.block k hk hp hg')
  rcases hg k e.symm with h2 | h2
  · exact hg' h2.symm
  · omega
theorem Chg.below {w w' : World} {pb B : Nat} {g : Option Nat} (h : Chg w w' pb g) (hB : B ≤ w.heap.size) (hp : B ≤ pb) (hg : ∀ k, g = some k → B ≤ k) : Below B w w' :=
  ⟨h.os, h.tape, h.output, h.size, fun k hk => h.block k (by omega) (by omega) fun e => by have := hg k e.symm; omega⟩

/-- A block of values (type 38) is not among the changed ones. -/
theorem RowO.chg {w w' : World} {B pb : Nat} {r : Rw} {x : Value} {g : Option Nat} (h : RowO w B r x) (hc : Chg w w' pb g)
    (hp : ∀ cur fr, w.heap[pb]? ≠ some (.cells cur 38 fr)) (hg : ∀ k, g = some k → ∀ cur fr, w.heap[k]? ≠ some (.cells cur 38 fr)) : RowO w' B r x := by
  obtain ⟨⟨hl, h1⟩, h2⟩ := h
  refine ⟨⟨hl, ?_⟩, h2⟩
  rcases h1 with h1 | ⟨g', cap, cur, hv, hb, hg', rest⟩
  · exact .inl h1
  · refine .inr ⟨g', cap, cur, hv, hb, ?_, rest⟩
    rw [hc.block g' (Array.getElem?_eq_some_iff.1 hg').1 (fun e => hp cur _ (e ▸ hg')) (fun e => hg g' e.symm cur _ hg')]
    exact hg'

/-- The entries' cells. -/
inductive EntVs (w : World) (B : Nat) : List Ent → List Value → Prop
  | nil : EntVs w B [] []
  | cons {r : Rw} {n : Nat} {x : Value} {b : List Ent} {cs : List Value} : RowO w B r x → EntVs w B b cs → EntVs w B ((r, n) :: b) (x :: .int .i64 n :: cs)
theorem EntVs.length {w : World} {B : Nat} {b : List Ent} {cs : List Value} (h : EntVs w B b cs) : cs.length = b.length * 2 := by
  induction h with
  | nil => rfl
  | cons _ _ ih => simp [ih]; omega
theorem EntVs.one {w : World} {B : Nat} {b : List Ent} {cs : List Value} (h : EntVs w B b cs) : ∀ u ∈ cs, u.oneCell' = true := by
  induction h with
  | nil => simp
  | cons h1 _ ih =>
    intro u hu
    rcases List.mem_cons.1 hu with rfl | hu
    · obtain ⟨a, n, c, rfl, _⟩ := h1.vals.shape
      rfl
    · rcases List.mem_cons.1 hu with rfl | hu
      · rfl
      · exact ih u hu
theorem EntVs.get {w : World} {B : Nat} {b : List Ent} {cs : List Value} (h : EntVs w B b cs) (i : Nat) (hi : i < b.length) : ∃ x, cs[i * 2]? = some x ∧ cs[i * 2 + 1]? = some (.int .i64 b[i].2) ∧ RowO w B b[i].1 x := by
  induction h generalizing i with
  | nil => simp at hi
  | cons h1 _ ih =>
    cases i with
    | zero => exact ⟨_, rfl, rfl, h1⟩
    | succ i =>
      obtain ⟨x, e1, e2, e3⟩ := ih i (by simpa using hi)
      refine ⟨x, ?_, ?_, e3⟩
      · rw [show (i + 1) * 2 = i * 2 + 1 + 1 by omega]; simpa using e1
      · rw [show (i + 1) * 2 + 1 = i * 2 + 1 + 1 + 1 by omega]; simpa using e2
theorem EntVs.chg {w w' : World} {B pb : Nat} {b : List Ent} {cs : List Value} {g : Option Nat} (h : EntVs w B b cs) (hc : Chg w w' pb g)
    (hp : ∀ cur fr, w.heap[pb]? ≠ some (.cells cur 38 fr)) (hg : ∀ k, g = some k → ∀ cur fr, w.heap[k]? ≠ some (.cells cur 38 fr)) : EntVs w' B b cs := by
  induction h with
  | nil => exact .nil
  | cons h1 _ ih => exact .cons (h1.chg hc hp hg) ih
theorem EntVs.mono {w w' : World} {B : Nat} {b : List Ent} {cs : List Value} (h : EntVs w B b cs) (hb : Below w.heap.size w w') : EntVs w' B b cs := by
  induction h with
  | nil => exact .nil
  | cons h1 _ ih => exact .cons ⟨own_below h1.1 hb, h1.2⟩ ih

/-- A bag lies at block pb; its entries at the slice s. -/
structure BagAt (w : World) (B pb : Nat) (s : Value) (b : List Ent) : Prop where
  ge : B ≤ pb
  ptr : w.heap[pb]? = some (.cells #[s, .int .i64 (lenB b)] 55 (0, 0))
  ent : ∃ cs, w.ownsRow B 57 2 s b.length cs ∧ EntVs w B b cs
  wf : Wf b
theorem BagAt.mono {w w' : World} {B pb : Nat} {s : Value} {b : List Ent} (h : BagAt w B pb s b) (hb : Below w.heap.size w w') : BagAt w' B pb s b := by
  obtain ⟨h1, h2, ⟨cs, h3, h4⟩, h5⟩ := h
  exact ⟨h1, (hb.block pb (Array.getElem?_eq_some_iff.1 h2).1).trans h2, ⟨cs, own_below h3 hb, h4.mono hb⟩, h5⟩
theorem BagAt.lt {w : World} {B pb : Nat} {s : Value} {b : List Ent} (h : BagAt w B pb s b) : pb < w.heap.size := (Array.getElem?_eq_some_iff.1 h.ptr).1
theorem BagAt.cell {w : World} {B pb : Nat} {s : Value} {b : List Ent} (h : BagAt w B pb s b) : w.cell? ⟨pb, 0, none⟩ = some s ∧ w.cell? ⟨pb, 1, none⟩ = some (.int .i64 (lenB b)) := by
  have e0 := cell_of_row w pb 0 _ 55 (0, 0) h.ptr
  have e1 := cell_of_row w pb 1 _ 55 (0, 0) h.ptr
  simpa using And.intro e0 e1
theorem BagAt.shape {w : World} {B pb : Nat} {s : Value} {b : List Ent} (h : BagAt w B pb s b) : ∃ a c, s = .slice a b.length c ∧ (0 < b.length → ∃ g, a = some ⟨g, 0, none⟩) ∧ b.length ≤ maxLen := by
  obtain ⟨cs, ⟨_, ⟨h1, h2⟩ | ⟨g, cap, cur, hv, hb, hg, hn, hc, _⟩⟩, _⟩ := h.ent
  · exact ⟨none, 0, by rw [h1, h2], by omega, by omega⟩
  · exact ⟨_, cap, hv, fun _ => ⟨g, rfl⟩, Nat.le_trans hn hc⟩
end Go.Proofs.Ytekoemcckdhhnaa
