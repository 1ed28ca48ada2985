/- Lists of rows whose rows lay there in an elder world. -/
import Derived.Test.YtekoemcckdhhnaaE0
namespace Go.Proofs.Ytekoemcckdhhnaa
open Go.RowKit

/-- A list of rows lies at the slice; its rows lie in the elder world w0. -/
inductive RowsAt0 (w0 w : World) : List Rw → Value → Prop where
  | mt {a : Option Addr} : RowsAt0 w0 w [] (.slice a 0 0)
  | lie (L : List Rw) (xs : List Value) (b o n cap : Nat) (hn : n = L.length) (hlt : b < w.heap.size) (hm : n ≤ maxLen)
      (hc : ∀ i x, xs[i]? = some x → w.cell? ⟨b, o + i, none⟩ = some x) (hx : RowVs w0 L xs) : RowsAt0 w0 w L (.slice (some ⟨b, o, none⟩) n cap)
theorem RowsAt0.at {w0 w : World} {L : List Rw} {s : Value} (h : RowsAt0 w0 w L s) (hb : Below w0.heap.size w0 w) : RowsAt w L s := by
  cases h with
  | mt => exact .mt
  | lie _ xs b o n cap hn hlt hm hc hx => exact .lie _ xs b o n cap hn hlt hm hc (hx.mono hb)
theorem RowsAt.at0 {w : World} {L : List Rw} {s : Value} (h : RowsAt w L s) : RowsAt0 w w L s := by
  cases h with
  | mt => exact .mt
  | lie _ xs b o n cap hn hlt hm hc hx => exact .lie _ xs b o n cap hn hlt hm hc hx
theorem RowsAt0.mono {w0 w w' : World} {L : List Rw} {s : Value} (h : RowsAt0 w0 w L s) (hb : Below w.heap.size w w') : RowsAt0 w0 w' L s := by
  cases h with
  | mt => exact .mt
  | lie _ xs b o n cap hn hlt hm hc hx => exact .lie _ xs b o n cap hn (Nat.lt_of_lt_of_le hlt hb.size) hm (fun i x hi => (hb.cell hlt).trans (hc i x hi)) hx
theorem RowsAt0.row {w0 w : World} {L : List Rw} {b o n c : Nat} (h : RowsAt0 w0 w L (.slice (some ⟨b, o, none⟩) n c)) (hb0 : Below w0.heap.size w0 w) (k : Nat) (hk : k < L.length) :
    ∃ ax nx cx, RowKit.Hid (∀ w', Below w.heap.size w w' → w'.cell? ⟨b, o + k, none⟩ = some (.slice ax nx cx) ∧ ValsAt w' L[k] (.slice ax nx cx) ∧ b < w'.heap.size) ∧ RowKit.Hid (ValsAt w0 L[k] (.slice ax nx cx)) := by
  cases h with
  | mt => simp at hk
  | lie _ xs _ _ _ _ hn hlt hm hc hx =>
    obtain ⟨x, h1, h2⟩ := hx.get k hk
    obtain ⟨ax, nx, cx, rfl, _, _⟩ := h2.shape
    exact ⟨ax, nx, cx, fun w' hb => ⟨(hb.cell (p := ⟨b, o + k, none⟩) hlt).trans (hc k _ h1), h2.mono (hb0.trans (hb.mono hb0.size)), Nat.lt_of_lt_of_le hlt hb.size⟩, h2⟩

/-- A list of rows lies in a block of its own, none older than B; its rows lie in the elder world w0. -/
def RowsOwn0 (w0 w : World) (B : Nat) (L : List Rw) (s : Value) : Prop := ∃ xs, w.ownsRow B 33 1 s L.length xs ∧ RowVs w0 L xs
theorem RowsOwn0.mono {w0 w w' : World} {B : Nat} {L : List Rw} {s : Value} (h : RowsOwn0 w0 w B L s) (hb : Below w.heap.size w w') : RowsOwn0 w0 w' B L s := by
  obtain ⟨xs, h1, h2⟩ := h
  exact ⟨xs, own_below h1 hb, h2⟩
theorem RowsOwn0.alloc {w0 w : World} {B : Nat} {L : List Rw} {s : Value} (h : RowsOwn0 w0 w B L s) (o : Obj) : RowsOwn0 w0 (w.alloc o) B L s := h.mono ((Below.refl _ _).alloc (Nat.le_refl _) o)
theorem RowsOwn0.at0 {w0 w : World} {B : Nat} {L : List Rw} {s : Value} (h : RowsOwn0 w0 w B L s) : RowsAt0 w0 w L s := by
  obtain ⟨xs, ⟨_, ⟨rfl, h0⟩ | ⟨g, cap, cur, rfl, hb, hg, hn, hc, hs, ht⟩⟩, hx⟩ := h
  · cases L with
    | nil => exact .mt
    | cons => simp at h0
  · refine .lie L xs g 0 _ cap rfl (Array.getElem?_eq_some_iff.1 hg).1 (Nat.le_trans hn hc) (fun i x hi => ?_) hx
    have hl : i < L.length := by
      have := (List.getElem?_eq_some_iff.1 hi).1
      rw [hx.length] at this
      exact this
    have h0 := cell_of_row w g (i * 1) cur 33 (0, 0) hg
    simp only [Nat.mul_one] at h0
    rw [Nat.zero_add, h0]
    rw [← ht, List.getElem?_take, if_pos (by omega)] at hi
    simpa using hi
theorem RowsOwn0.at {w0 w : World} {B : Nat} {L : List Rw} {s : Value} (h : RowsOwn0 w0 w B L s) (hb : Below w0.heap.size w0 w) : RowsAt w L s := h.at0.at hb
theorem RowsOwn0.nil (w0 w : World) (B : Nat) : RowsOwn0 w0 w B [] (.slice none 0 0) := ⟨[], World.ownsRow_nil _ _ _ _, .nil⟩
theorem RowsOwn0.base {w0 w : World} {B C : Nat} {L : List Rw} {s : Value} (h : RowsOwn0 w0 w B L s) (hb : C ≤ B) : RowsOwn0 w0 w C L s := by
  obtain ⟨xs, ⟨h1, h2 | ⟨g, cap, cur, hv, hg, rest⟩⟩, h3⟩ := h
  · exact ⟨xs, ⟨h1, .inl h2⟩, h3⟩
  · exact ⟨xs, ⟨h1, .inr ⟨g, cap, cur, hv, Nat.le_trans hb hg, rest⟩⟩, h3⟩
theorem RowsOwn0.shape {w0 w : World} {B : Nat} {L : List Rw} {s : Value} (h : RowsOwn0 w0 w B L s) : ∃ a c, s = .slice a L.length c := by
  obtain ⟨xs, ⟨_, ⟨rfl, h0⟩ | ⟨g, cap, cur, rfl, _⟩⟩, hx⟩ := h
  · exact ⟨_, _, by rw [h0]⟩
  · exact ⟨_, _, rfl⟩
/-- append of one row. -/
theorem wpList_row0 {w0 w : World} {ops : Array Oper} {rest : List Oper} {o : Oper} {a : Act} {Q : Exit → Act → World → Prop} (hgd : o.guard = none) (s x : Operand)
    (ho : o.op = .call { callee := .builtin .append, args := #[s, x], argTypes := #[22, 22] })
    (B : Nat) (L : List Rw) (R : Rw) (v : Value) (hs : a.eval s = v) (hown : RowsOwn0 w0 w B L v) (g : Nat) (c : Nat) (y : Value) (hx : a.eval x = .slice (some ⟨g, 0, none⟩) 1 c)
    (hc : w.cell? ⟨g, 0, none⟩ = some y) (hy : ValsAt w0 R y)
    (hlen : L.length + 1 ≤ 1099511627776) (hB : B ≤ w.heap.size)
    (h : ∀ v' w', RowsOwn0 w0 w' B (L ++ [R]) v' → Below B w w' → w.grownBy w' v.ownBlock → wpList Try.prog ops Q rest (a.put o.dst v') w') : wpList Try.prog ops Q (o :: rest) a w := by
  obtain ⟨i0, ii, iz0, iz1, iz2⟩ := info_parts Try.info33'
  obtain ⟨xs, h1, h2⟩ := hown
  refine wpList_append_own w hgd s x 22 ho B 33 i0 (.slice none 0 0) 1 24 Try.underlying22 ii iz0 iz1 iz2 rfl (by decide) v _ xs hs h1 ⟨g, 0, none⟩ 1 c [y] hx rfl (fun j u hj => ?_) (RowVs.one hy).one' (by unfold maxLen; omega) (by omega) hB ?_
  · match j, hj with
    | 0, hj => simp at hj; subst hj; simpa [Addr.add] using hc
  intro v' w' ho' hg _
  exact h v' w' ⟨xs ++ [y], by rw [List.length_append]; exact ho', h2.append (RowVs.one hy)⟩ ((Below.refl _ _).grown hg hB fun g hg' => (h1.lt g hg').1) hg
end Go.Proofs.Ytekoemcckdhhnaa
