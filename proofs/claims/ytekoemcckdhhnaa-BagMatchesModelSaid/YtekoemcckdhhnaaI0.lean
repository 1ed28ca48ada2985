/- BagIsolated: appends of one slice to another; bags and lists where blocks in a range stay; a number of a row is written. -/
import Derived.Test.YtekoemcckdhhnaaJ2
namespace Go.Proofs.Ytekoemcckdhhnaa
open Go.RowKit

/-- append of a list that lies in a block of its own. -/
theorem wpList_append22 {w : World} {ops : Array Oper} {rest : List Oper} {o : Oper} {a : Act} {Q : Exit → Act → World → Prop} (hgd : o.guard = none) (s x : Operand)
    (ho : o.op = .call { callee := .builtin .append, args := #[s, x], argTypes := #[22, 22] })
    (B : Nat) (n : Nat) (xs : List Value) (v : Value) (hs : a.eval s = v) (hown : w.ownsRow B 33 1 v n xs) (D m : Nat) (ys : List Value) (y : Value) (hx : a.eval x = y) (hy : w.ownsRow D 33 1 y m ys)
    (h1 : ∀ u ∈ ys, u.oneCell' = true) (hlen : n + m ≤ 1099511627776) (hB : B ≤ w.heap.size)
    (h : ∀ v' w', w'.ownsRow B 33 1 v' (n + m) (xs ++ ys) → w.grownBy w' v.ownBlock → wpList Try.prog ops Q rest (a.put o.dst v') w') : wpList Try.prog ops Q (o :: rest) a w := by
  obtain ⟨i0, ii, iz0, iz1, iz2⟩ := info_parts Try.info33'
  rcases hy.2 with ⟨rfl, rfl⟩ | ⟨g, cap, cur, rfl, _⟩
  · have hy0 : ys = [] := by have := hy.1; simpa using this
    subst hy0
    refine wpList_append_own_none hgd s x 22 ho B 33 i0 1 Try.underlying22 ii v n xs hs hown hx ?_
    refine h v w (by simpa using hown) ⟨rfl, rfl, rfl, Nat.le_refl _, fun _ _ _ => rfl⟩
  · exact wpList_append_own w hgd s x 22 ho B 33 i0 (.slice none 0 0) 1 24 Try.underlying22 ii iz0 iz1 iz2 rfl (by decide) v n xs hs hown ⟨g, 0, none⟩ m cap ys hx hy.1 (hy.cells rfl) h1 (by unfold maxLen; omega) (by omega) hB (fun v' w' h2 h3 _ => h v' w' h2 h3)

/-- append of a row to an owned row of values. -/
theorem wpList_append33 {w : World} {ops : Array Oper} {rest : List Oper} {o : Oper} {a : Act} {Q : Exit → Act → World → Prop} (hgd : o.guard = none) (s x : Operand)
    (ho : o.op = .call { callee := .builtin .append, args := #[s, x], argTypes := #[33, 33] })
    (B : Nat) (v : Value) (hs : a.eval s = v) (hown : w.ownsRow B 38 3 v 0 []) (R : Rw) (y : Value) (hx : a.eval x = y) (hy : ValsAt w R y) (hlen : R.length < 1099511627776) (hB : B ≤ w.heap.size)
    (h : ∀ v' w', RowO w' B R v' → w.grownBy w' v.ownBlock → wpList Try.prog ops Q rest (a.put o.dst v') w') : wpList Try.prog ops Q (o :: rest) a w := by
  obtain ⟨i0, ii, iz0, iz1, iz2⟩ := info_parts Try.info38'
  obtain ⟨ad0, n, c, rfl, hn, hm⟩ := hy.shape
  have htx := hy.txt
  rcases vals_src hy with ⟨rfl, rfl, rfl, rfl⟩ | ⟨ad, rfl, hsrc⟩
  · refine wpList_append_own_none hgd s x 33 ho B 38 i0 3 Try.underlying33 ii v 0 [] hs hown hx ?_
    exact h v w ⟨by simpa [flat] using hown, by simp⟩ ⟨rfl, rfl, rfl, Nat.le_refl _, fun _ _ _ => rfl⟩
  · refine wpList_append_own w hgd s x 33 ho B 38 i0 (.agg #[.int .i64 0, .int .i64 0, .string ⟨#[]⟩]) 3 32 Try.underlying33 ii iz0 iz1 iz2 rfl (by decide) v 0 [] hs hown ad n c (flat R) hx (by rw [length_flat, hn]) hsrc (one_flat R) (by unfold maxLen; omega) (by omega) hB (fun v' w' h2 h3 _ => h v' w' ⟨?_, htx⟩ h3)
    rw [← hn]
    simpa using h2

/-! Blocks in a range stay. -/
/-- The blocks from lo up to hi are the same. -/
def Agree (w w' : World) (lo hi : Nat) : Prop := ∀ k, lo ≤ k → k < hi → w'.heap[k]? = w.heap[k]?
theorem Agree.refl (w : World) (lo hi : Nat) : Agree w w lo hi := fun _ _ _ => rfl
theorem Agree.of_below {w w1 w2 : World} {lo hi : Nat} (h : Agree w w1 lo hi) (hb : Below w1.heap.size w1 w2) (hh : hi ≤ w1.heap.size) : Agree w w2 lo hi :=
  fun k h1 h2 => (hb.block k (by omega)).trans (h k h1 h2)
theorem own_agree {w w' : World} {lo base : Nat} {e : TypeId} {size : Nat} {v : Value} {n : Nat} {xs : List Value} (h : w.ownsRow base e size v n xs) (ha : Agree w w' lo w.heap.size) (hl : lo ≤ base) : w'.ownsRow base e size v n xs := by
  refine ⟨h.1, ?_⟩
  rcases h.2 with h2 | ⟨g, cap, cur, hv, hg, hh, r⟩
  · exact .inl h2
  · exact .inr ⟨g, cap, cur, hv, hg, (ha g (by omega) (Array.getElem?_eq_some_iff.1 hh).1).trans hh, r⟩
theorem EntVs.agree {w w' : World} {lo B : Nat} {b : List Ent} {cs : List Value} (h : EntVs w B b cs) (ha : Agree w w' lo w.heap.size) (hl : lo ≤ B) : EntVs w' B b cs := by
  induction h with
  | nil => exact .nil
  | cons h6 _ ih => exact .cons ⟨own_agree h6.1 ha hl, h6.2⟩ ih
theorem BagAt.agree {w w' : World} {lo B pb : Nat} {s : Value} {b : List Ent} (h : BagAt w B pb s b) (ha : Agree w w' lo w.heap.size) (hl : lo ≤ B) : BagAt w' B pb s b := by
  obtain ⟨h1, h2, ⟨cs, h3, h4⟩, h5⟩ := h
  refine ⟨h1, (ha pb (by omega) (Array.getElem?_eq_some_iff.1 h2).1).trans h2, ⟨cs, own_agree h3 ha hl, h4.agree ha hl⟩, h5⟩
theorem RowsOwn0.agree {w0 w w' : World} {lo B : Nat} {L : List Rw} {s : Value} (h : RowsOwn0 w0 w B L s) (ha : Agree w w' lo w.heap.size) (hl : lo ≤ B) : RowsOwn0 w0 w' B L s := by
  obtain ⟨xs, h1, h2⟩ := h
  exact ⟨xs, own_agree h1 ha hl, h2⟩

/-! A number of a row is written. -/
theorem flat_set_int (R : Rw) (j : Nat) (hj : j < R.length) (z : Int) : (flat R).set (j * 3 + 1) (.int .i64 z) = flat (R.set j { R[j] with int := z }) := by
  induction R generalizing j with
  | nil => simp at hj
  | cons v R ih =>
    cases j with
    | zero => rfl
    | succ j =>
      have := ih j (by simpa using hj)
      simp only [flat, List.flatMap_cons, List.set_cons_succ, List.getElem_cons_succ] at this ⊢
      rw [List.set_append_right _ _ (by simp [Vl.cells]; omega), ← this]
      congr 2
      simp [Vl.cells]
      omega
/-- A row of some values lies in a block of its own. -/
def RowX (w : World) (B : Nat) (x : Value) : Prop := ∃ R, RowO w B R x
theorem RowX.set {w : World} {B g j : Nat} {x : Value} (h : RowX w B x) (z : Int) : RowX (w.setCell ⟨g, j * 3 + 1, none⟩ (.int .i64 z)) B x := by
  obtain ⟨R, h1, h2⟩ := h
  by_cases hg : x.ownBlock = some g
  · obtain ⟨c, hc⟩ : ∃ c, x = .slice (some ⟨g, 0, none⟩) R.length c := by
      rcases h1.2 with ⟨rfl, _⟩ | ⟨g', cap, cur, rfl, _⟩
      · simp [Value.ownBlock] at hg
      · simp only [Value.ownBlock, Option.some.injEq] at hg
        subst hg
        exact ⟨_, rfl⟩
    subst hc
    have h3 := (h1.stored (j * 3 + 1) (.int .i64 z)).1
    by_cases hj : j < R.length
    · rw [flat_set_int R j hj z] at h3
      refine ⟨R.set j { R[j] with int := z }, by simpa using h3, fun v hv => ?_⟩
      rcases List.mem_or_eq_of_mem_set hv with hv | rfl
      · exact h2 v hv
      · exact h2 R[j] (List.getElem_mem hj)
    · rw [List.set_eq_of_length_le (by rw [length_flat]; omega)] at h3
      exact ⟨R, h3, h2⟩
  · refine ⟨R, ⟨h1.1, ?_⟩, h2⟩
    rcases h1.2 with e | ⟨g', cap, cur, hv, hb, hh, rest⟩
    · exact .inl e
    · refine .inr ⟨g', cap, cur, hv, hb, ?_, rest⟩
      rw [Below.heap_setCell w ⟨g, j * 3 + 1, none⟩ _ g' (fun e => hg (by rw [hv]; show some g' = some g; rw [e]))]
      exact hh
/-- What is known while numbers are written: the list of the slices; each a row; the blocks that stay. -/
structure Wr (w wb wc wr : World) (b0 c0 B : Nat) (m : Nat) (v : Value) (xs : List Value) : Prop where
  own : wr.ownsRow B 33 1 v m xs
  rows : ∀ x ∈ xs, RowX wr w.heap.size x ∧ ∀ k, x.ownBlock = some k → (k < b0 ∨ wb.heap.size ≤ k) ∧ (k < c0 ∨ wc.heap.size ≤ k)
  bb : Agree wb wr b0 wb.heap.size
  cc : Agree wc wr c0 wc.heap.size
  low : Below w.heap.size w wr
theorem Wr.set {w wb wc wr : World} {b0 c0 B m g j : Nat} {v x : Value} {xs : List Value} (h : Wr w wb wc wr b0 c0 B m v xs) (hx : x ∈ xs) (hg : x.ownBlock = some g) (z : Int) : Wr w wb wc (wr.setCell ⟨g, j * 3 + 1, none⟩ (.int .i64 z)) b0 c0 B m v xs := by
  obtain ⟨h1, h2, h3, h4, h5⟩ := h
  obtain ⟨⟨R, hR⟩, hk⟩ := h2 x hx
  obtain ⟨k1, k2⟩ := hk g hg
  have hgb : w.heap.size ≤ g := (hR.1.lt g hg).1
  have hne : ∀ k, k ≠ g → (wr.setCell ⟨g, j * 3 + 1, none⟩ (.int .i64 z)).heap[k]? = wr.heap[k]? := fun k hk => Below.heap_setCell wr ⟨g, j * 3 + 1, none⟩ _ k hk
  refine ⟨?_, fun y hy => ⟨(h2 y hy).1.set z, (h2 y hy).2⟩, fun k a1 a2 => (hne k (by omega)).trans (h3 k a1 a2), fun k a1 a2 => (hne k (by omega)).trans (h4 k a1 a2), h5.setCell hgb _⟩
  refine ⟨h1.1, ?_⟩
  rcases h1.2 with e | ⟨g', cap, cur, hv, hb, hh, rest⟩
  · exact .inl e
  · refine .inr ⟨g', cap, cur, hv, hb, ?_, rest⟩
    refine (hne g' fun e => ?_).trans hh
    rcases hR.1.2 with ⟨e2, _⟩ | ⟨g2, cap2, cur2, hv2, _, hh2, _⟩
    · rw [e2] at hg; simp [Value.ownBlock] at hg
    · rw [hv2] at hg
      simp only [Value.ownBlock, Option.some.injEq] at hg
      rw [hg, ← e, hh] at hh2
      injection hh2 with hh2
      injection hh2 with _ hh2
      exact absurd hh2 (by decide)
theorem RowVsO.mem {w : World} {B : Nat} {L : List Rw} {xs : List Value} (h : RowVsO w B L xs) : ∀ x ∈ xs, ∃ R, RowO w B R x := by
  induction h with
  | nil => simp
  | cons h1 _ ih =>
    intro x hx
    rcases List.mem_cons.1 hx with rfl | hx
    · exact ⟨_, h1⟩
    · exact ih x hx
theorem RowO.lt {w : World} {B : Nat} {R : Rw} {x : Value} (h : RowO w B R x) : ∀ k, x.ownBlock = some k → B ≤ k ∧ k < w.heap.size := fun k hk => h.1.lt k hk
/-- A list of fresh rows with its slices. -/
structure RowsNX (w : World) (B : Nat) (L : List Rw) (s : Value) (xs : List Value) : Prop where
  own : w.ownsRow B 33 1 s L.length xs
  rows : RowVsO w B L xs
theorem RowsNX.mono {w w' : World} {B : Nat} {L : List Rw} {s : Value} {xs : List Value} (h : RowsNX w B L s xs) (hb : Below w.heap.size w w') : RowsNX w' B L s xs := ⟨own_below h.own hb, h.rows.mono hb⟩
theorem RowsNX.new {w : World} {B : Nat} {L : List Rw} {s : Value} {xs : List Value} (h : RowsNX w B L s xs) : RowsNew w B L s := ⟨xs, h.own, h.rows⟩
end Go.Proofs.Ytekoemcckdhhnaa
