/- BagMatchesModel: operations in memory; a bag after operations. -/
import Derived.Test.YtekoemcckdhhnaaI0
namespace Go.Proofs.Ytekoemcckdhhnaa
open Go.RowKit

/-- Operations lie at the slice. -/
inductive OpsAt (w : World) : List (Bool × Rw) → Value → Prop where
  | mt {a : Option Addr} : OpsAt w [] (.slice a 0 0)
  | lie (Os : List (Bool × Rw)) (b o n cap : Nat) (hn : n = Os.length) (hlt : b < w.heap.size) (hm : n * 32 ≤ 140737488351232)
      (hc : ∀ i (h : i < Os.length), ∃ x, w.cell? ⟨b, o + i * 2, none⟩ = some (.bool Os[i].1) ∧ w.cell? ⟨b, o + i * 2 + 1, none⟩ = some x ∧ ValsAt w Os[i].2 x) : OpsAt w Os (.slice (some ⟨b, o, none⟩) n cap)
theorem OpsAt.shape {w : World} {Os : List (Bool × Rw)} {s : Value} (h : OpsAt w Os s) : ∃ a n c, s = .slice a n c ∧ n = Os.length ∧ n * 32 ≤ 140737488351232 := by
  cases h with
  | mt => exact ⟨_, _, _, rfl, rfl, by simp⟩
  | lie _ b o n cap hn hlt hm hc => exact ⟨_, _, _, rfl, hn, hm⟩
theorem OpsAt.has {w : World} {Os : List (Bool × Rw)} {a : Option Addr} {n c : Nat} (h : OpsAt w Os (.slice a n c)) (i : Nat) (hi : i < n) : ∃ b o, a = some ⟨b, o, none⟩ := by
  cases h with
  | mt => omega
  | lie _ b o => exact ⟨b, o, rfl⟩
theorem OpsAt.op {w : World} {Os : List (Bool × Rw)} {b o n c : Nat} (h : OpsAt w Os (.slice (some ⟨b, o, none⟩) n c)) (k : Nat) (hk : k < Os.length) :
    ∃ ax nx cx, RowKit.Hid (∀ w', Below w.heap.size w w' → w'.cell? ⟨b, o + k * 2, none⟩ = some (.bool Os[k].1) ∧ w'.cell? ⟨b, o + k * 2 + 1, none⟩ = some (.slice ax nx cx) ∧ b < w'.heap.size) ∧ RowKit.Hid (ValsAt w Os[k].2 (.slice ax nx cx)) := by
  cases h with
  | mt => simp at hk
  | lie _ _ _ _ _ hn hlt hm hc =>
    obtain ⟨x, h1, h2, h3⟩ := hc k hk
    obtain ⟨ax, nx, cx, rfl, _, _⟩ := h3.shape
    exact ⟨ax, nx, cx, fun w' hb => ⟨(hb.cell (p := ⟨b, o + k * 2, none⟩) hlt).trans h1, (hb.cell (p := ⟨b, o + k * 2 + 1, none⟩) hlt).trans h2, Nat.lt_of_lt_of_le hlt hb.size⟩, h3⟩

/-- append of one row, up to the greatest length. -/
theorem wpList_row1 {w0 w : World} {ops : Array Oper} {rest : List Oper} {o : Oper} {a : Act} {Q : Exit → Act → World → Prop} (hgd : o.guard = none) (s x : Operand)
    (ho : o.op = .call { callee := .builtin .append, args := #[s, x], argTypes := #[22, 22] })
    (B : Nat) (L : List Rw) (R : Rw) (v : Value) (hs : a.eval s = v) (hown : RowsOwn0 w0 w B L v) (g : Nat) (c : Nat) (y : Value) (hx : a.eval x = .slice (some ⟨g, 0, none⟩) 1 c)
    (hc : w.cell? ⟨g, 0, none⟩ = some y) (hy : ValsAt w0 R y)
    (hlen : (L.length + 1) * 24 ≤ 140737488355328) (hB : B ≤ w.heap.size)
    (h : ∀ v' w', RowsOwn0 w0 w' B (L ++ [R]) v' → Below B w w' → w.grownBy w' v.ownBlock → wpList Try.prog ops Q rest (a.put o.dst v') w') : wpList Try.prog ops Q (o :: rest) a w := by
  obtain ⟨i0, ii, iz0, iz1, iz2⟩ := info_parts Try.info33'
  obtain ⟨xs, h1, h2⟩ := hown
  refine wpList_append_own w hgd s x 22 ho B 33 i0 (.slice none 0 0) 1 24 Try.underlying22 ii iz0 iz1 iz2 rfl (by decide) v _ xs hs h1 ⟨g, 0, none⟩ 1 c [y] hx rfl (fun j u hj => ?_) (RowVs.one hy).one' (by unfold maxLen; omega) hlen hB ?_
  · match j, hj with
    | 0, hj => simp at hj; subst hj; simpa [Addr.add] using hc
  intro v' w' ho' hg _
  exact h v' w' ⟨xs ++ [y], by rw [List.length_append]; exact ho', h2.append (RowVs.one hy)⟩ ((Below.refl _ _).grown hg hB fun g hg' => (h1.lt g hg').1) hg

/-- A block that is no bag's stays. -/
theorem var_chg {w w' : World} {D px : Nat} {sx : Value} {b : List Ent} {k : Nat} {cur : Array Value} {t : TypeId} {fr : Nat × Nat} (hx : BagAt w D px sx b) (hc : Chg w w' px sx.ownBlock) (h : w.heap[k]? = some (.cells cur t fr)) (h1 : t ≠ 55) (h2 : t ≠ 57) : w'.heap[k]? = some (.cells cur t fr) := by
  obtain ⟨cs, ho, _⟩ := hx.ent
  refine (hc.block k (Array.getElem?_eq_some_iff.1 h).1 (fun e => ?_) (fun e => ?_)).trans h
  · rw [e, hx.ptr] at h
    injection h with h
    injection h with _ h
    exact h1 h.symm
  · obtain ⟨cur', fr, e2⟩ := ownBlock57 ho k e.symm
    rw [h] at e2
    injection e2 with e2
    injection e2 with _ e2
    exact h2 e2
theorem cnt_rows {b : List Ent} (hw : Wf b) (R : Rw) : cntB b R = (rowsB b).count R := (count_rowsB hw R).symm
/-- The state of the loop: the bag, the list, what is known. -/
structure Mm (w wr : World) (px : Nat) (N : Nat) (b : List Ent) (v : Value) : Prop where
  bag : ∃ sb, BagAt wr w.heap.size px sb b
  sm : SmB N b
  list : RowsOwn0 w wr w.heap.size (rowsB b) v
  low : Below w.heap.size w wr
theorem Mm.mono {w wr wr' : World} {px N : Nat} {b : List Ent} {v : Value} (h : Mm w wr px N b v) (hb : Below wr.heap.size wr wr') : Mm w wr' px N b v := by
  obtain ⟨⟨sb, h1⟩, h2, h3, h4⟩ := h
  exact ⟨⟨sb, h1.mono hb⟩, h2, h3.mono hb, h4.trans (hb.mono h4.size)⟩
theorem Mm.wf {w wr : World} {px N : Nat} {b : List Ent} {v : Value} (h : Mm w wr px N b v) : Wf b := by
  obtain ⟨⟨sb, h1⟩, _⟩ := h
  exact h1.wf
end Go.Proofs.Ytekoemcckdhhnaa
