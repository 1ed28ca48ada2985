/- Lists of fresh rows; the reference's Own. -/
import Derived.Test.YtekoemcckdhhnaaF5
namespace Go.Proofs.Ytekoemcckdhhnaa
open Go.RowKit

theorem RowO.mono {w w' : World} {B : Nat} {r : Rw} {x : Value} (h : RowO w B r x) (hb : Below w.heap.size w w') : RowO w' B r x := ⟨own_below h.1 hb, h.2⟩
theorem RowO.base {w : World} {B C : Nat} {r : Rw} {x : Value} (h : RowO w B r x) (hb : C ≤ B) : RowO w C r x := by
  obtain ⟨⟨h1, h2 | ⟨g, cap, cur, hv, hg, rest⟩⟩, h3⟩ := h
  · exact ⟨⟨h1, .inl h2⟩, h3⟩
  · exact ⟨⟨h1, .inr ⟨g, cap, cur, hv, Nat.le_trans hb hg, rest⟩⟩, h3⟩
theorem RowO.grown {w w' : World} {B C n : Nat} {r : Rw} {x v : Value} {xs : List Value} (h : RowO w B r x) (hv : w.ownsRow C 33 1 v n xs) (hg : w.grownBy w' v.ownBlock) : RowO w' B r x := by
  refine h.chg (pb := w.heap.size) (Chg.of_grown hg _) (fun cur fr => by simp) (fun k hk cur fr e => ?_)
  obtain ⟨_, ⟨rfl, _⟩ | ⟨g, cap, cur', rfl, _, hg', _⟩⟩ := hv
  · simp [Value.ownBlock] at hk
  · simp only [Value.ownBlock, Option.some.injEq] at hk
    subst hk
    rw [hg'] at e
    injection e with e
    injection e with e1 e2
    exact absurd e2 (by decide)
/-- Rows in blocks of their own. -/
inductive RowVsO (w : World) (B : Nat) : List Rw → List Value → Prop
  | nil : RowVsO w B [] []
  | cons {r : Rw} {x : Value} {L : List Rw} {xs : List Value} : RowO w B r x → RowVsO w B L xs → RowVsO w B (r :: L) (x :: xs)
theorem RowVsO.vals {w : World} {B : Nat} {L : List Rw} {xs : List Value} (h : RowVsO w B L xs) : RowVs w L xs := by
  induction h with
  | nil => exact .nil
  | cons h1 _ ih => exact .cons h1.vals ih
theorem RowVsO.far {w : World} {B C : Nat} {L : List Rw} {xs : List Value} (h : RowVsO w B L xs) : ∀ x ∈ xs, Far w C x := by
  induction h with
  | nil => simp
  | cons h1 _ ih =>
    intro x hx
    rcases List.mem_cons.1 hx with rfl | hx
    · exact h1.far
    · exact ih x hx
theorem RowVsO.mono {w w' : World} {B : Nat} {L : List Rw} {xs : List Value} (h : RowVsO w B L xs) (hb : Below w.heap.size w w') : RowVsO w' B L xs := by
  induction h with
  | nil => exact .nil
  | cons h1 _ ih => exact .cons (h1.mono hb) ih
theorem RowVsO.append {w : World} {B : Nat} {L M : List Rw} {xs ys : List Value} (h : RowVsO w B L xs) (h' : RowVsO w B M ys) : RowVsO w B (L ++ M) (xs ++ ys) := by
  induction h with
  | nil => exact h'
  | cons h1 _ ih => exact .cons h1 ih
theorem RowVsO.grown {w w' : World} {B C n : Nat} {L : List Rw} {ys : List Value} {v : Value} {xs : List Value} (h : RowVsO w B L ys) (hv : w.ownsRow C 33 1 v n xs) (hg : w.grownBy w' v.ownBlock) : RowVsO w' B L ys := by
  induction h with
  | nil => exact .nil
  | cons h1 _ ih => exact .cons (h1.grown hv hg) ih
/-- A list of rows, it and its rows in blocks of their own. -/
def RowsNew (w : World) (B : Nat) (L : List Rw) (s : Value) : Prop := ∃ xs, w.ownsRow B 33 1 s L.length xs ∧ RowVsO w B L xs
theorem RowsNew.own {w : World} {B : Nat} {L : List Rw} {s : Value} (h : RowsNew w B L s) : RowsOwn w B L s := by
  obtain ⟨xs, h1, h2⟩ := h
  exact ⟨xs, h1, h2.vals, h2.far⟩
theorem RowsNew.mono {w w' : World} {B : Nat} {L : List Rw} {s : Value} (h : RowsNew w B L s) (hb : Below w.heap.size w w') : RowsNew w' B L s := by
  obtain ⟨xs, h1, h2⟩ := h
  exact ⟨xs, own_below h1 hb, h2.mono hb⟩
theorem RowsNew.nil (w : World) (B : Nat) : RowsNew w B [] (.slice none 0 0) := ⟨[], World.ownsRow_nil _ _ _ _, .nil⟩
theorem RowsNew.alloc {w : World} {B : Nat} {L : List Rw} {s : Value} (h : RowsNew w B L s) (o : Obj) : RowsNew (w.alloc o) B L s := h.mono ((Below.refl _ _).alloc (Nat.le_refl _) o)
theorem RowO.alloc {w : World} {B : Nat} {r : Rw} {s : Value} (h : RowO w B r s) (o : Obj) : RowO (w.alloc o) B r s := h.mono ((Below.refl _ _).alloc (Nat.le_refl _) o)

/-- append of one fresh row. -/
theorem wpList_rowN {w : World} {ops : Array Oper} {rest : List Oper} {o : Oper} {a : Act} {Q : Exit → Act → World → Prop} (hgd : o.guard = none) (s x : Operand)
    (ho : o.op = .call { callee := .builtin .append, args := #[s, x], argTypes := #[22, 22] })
    (B : Nat) (L : List Rw) (R : Rw) (v : Value) (hs : a.eval s = v) (hown : RowsNew w B L v) (g : Nat) (c : Nat) (y : Value) (hx : a.eval x = .slice (some ⟨g, 0, none⟩) 1 c)
    (hc : w.cell? ⟨g, 0, none⟩ = some y) (hy : RowO w B R y)
    (hlen : L.length + 1 ≤ 1099511627776) (hB : B ≤ w.heap.size)
    (h : ∀ v' w', RowsNew w' B (L ++ [R]) v' → Below B w w' → w.grownBy w' v.ownBlock → wpList Try.prog ops Q rest (a.put o.dst v') w') : wpList Try.prog ops Q (o :: rest) a w := by
  obtain ⟨i0, ii, iz0, iz1, iz2⟩ := info_parts Try.info33'
  obtain ⟨xs, h1, h2⟩ := hown
  have hy1 : RowVsO w B [R] [y] := .cons hy .nil
  refine wpList_append_own w hgd s x 22 ho B 33 i0 (.slice none 0 0) 1 24 Try.underlying22 ii iz0 iz1 iz2 rfl (by decide) v _ xs hs h1 ⟨g, 0, none⟩ 1 c [y] hx rfl (fun j u hj => ?_) hy1.vals.one' (by unfold maxLen; omega) (by omega) hB ?_
  · match j, hj with
    | 0, hj => simp at hj; subst hj; simpa [Addr.add] using hc
  intro v' w' ho' hg _
  refine h v' w' ⟨xs ++ [y], by rw [List.length_append]; exact ho', (h2.grown h1 hg).append (hy1.grown h1 hg)⟩ ((Below.refl _ _).grown hg hB fun g hg' => (h1.lt g hg').1) hg

set_option maxHeartbeats 2000000 in
theorem own_calls (L : List Rw) (s : Value) (w : World) (hs : RowsAt w L s) (hlen : L.length < 1099511627776) (hR : ∀ r ∈ L, r.length < 1099511627776) :
    Calls Try.prog 18 #[s] w fun e w' => ∃ v, e = .returned v ∧ RowsNew w' w.heap.size L v ∧ Below w.heap.size w w' := by
  obtain ⟨a, n, c, rfl, hn, hm⟩ := hs.shape
  obtain ⟨i0, ii, iz0, iz1, iz2⟩ := info_parts Try.info38'
  have Hs := Lib.hid hs
  have Hn := Lib.hid hn
  have HR := Lib.hid hR
  clear hs hn hm hR
  have hn40 : n < 1099511627776 := by have := Hn.out; omega
  clear hlen
  go_enter Try.func18, Try.ntmps18
  go_wp2
  go_loopw [3, 4] (fun v i wr => ∃ (k : Nat), k ≤ n ∧ i = .int .i64 k ∧ RowKit.Hid (RowsNew wr w.heap.size (L.take k) v) ∧ RowKit.Hid (Below w.heap.size w wr)) (fun _ i _ => n - (intOf i).toNat)
  case atStart => exact ⟨0, Nat.zero_le _, rfl, RowsNew.nil _ _, Below.refl _ _⟩
  case round =>
    obtain ⟨k, hk, rfl, Ho, Hb⟩ := hrel
    obtain ⟨am, cm, rfl⟩ := Ho.out.own.shape
    generalize hnm : (L.take k).length = nm at *
    have Hnm := Lib.hid hnm
    clear hnm
    by_cases hlt : k < n
    · have hk1 : k < L.length := by have := Hn.out; omega
      obtain ⟨b, o, rfl⟩ := Hs.out.has k hlt
      obtain ⟨ax, nx, cx, Hcell, -⟩ := Hs.out.row k hk1
      have Htk : RowKit.Hid (L.take (k + 1) = L.take k ++ [L[k]]) := by show _ = _; rw [List.take_add_one, List.getElem?_eq_getElem hk1]; rfl
      obtain ⟨hc, hx, hbl⟩ := Hcell.out _ Hb.out
      have HXl := Lib.hid (HR.out L[k] (List.getElem_mem hk1))
      generalize L[k] = X at *
      have Htx := Lib.hid hx.txt
      have Hnx : RowKit.Hid (nx = X.length) := by
        obtain ⟨_, _, _, he, h, _⟩ := hx.shape
        injection he with _ he
        exact he.trans h
      have i1 : (0 : Int) ≤ k := by omega
      have i2 : (k : Int) < n := by omega
      have Hbs := Lib.hid Hb.out.size
      clear hk1 Hcell
      have hown0 := World.ownsRow_lit (e := 38) (size := 3) wr #[] 0 (Nat.le_refl _) (by simp) (by simp)
      have Hown0 := Lib.hid hown0
      have hone := one_flat X
      rcases vals_src hx with ⟨rfl, rfl, rfl, hX0⟩ | ⟨ad, rfl, hsrc⟩
      · subst hX0
        have H3 : RowKit.Hid (RowO (wr.alloc (.cells #[] 38)) w.heap.size [] (.slice (some ⟨wr.heap.size, 0, none⟩) 0 0)) := by
          refine RowO.base (B := wr.heap.size) ⟨?_, by simp⟩ Hbs.out
          exact hown0
        have Hb1 : RowKit.Hid (Below w.heap.size w (wr.alloc (.cells #[] 38))) := Hb.out.alloc Hbs.out _
        have Ho1 := Lib.hid (Ho.out.alloc (.cells #[] 38))
        have Hbs1 := Lib.hid Hb1.out.size
        clear hx hown0
        go_wp2_with (at_builtin; first
          | refine wpList_append_own_none rfl _ _ 33 rfl wr.heap.size 38 i0 3 Try.underlying33 ii _ 0 [] rfl Hown0.out rfl ?_
          | refine wpList_rowN rfl _ _ rfl w.heap.size (L.take k) [] _ rfl (Ho1.out.alloc _) _ _ (.slice (some ⟨wr.heap.size, 0, none⟩) 0 0) rfl (by simp) (H3.out.alloc _) ?e1 ?e2 ?_)
        case e1 => omega
        case e2 => have := Hbs1.out; simp at this ⊢; omega
        intro v2 w2 ho2 hb2 _
        have Ho2 : RowKit.Hid (RowsNew w2 w.heap.size (L.take (k + 1)) v2) := by show RowsNew _ _ _ _; rw [Htk.out]; exact ho2
        have Hb2 : RowKit.Hid (Below w.heap.size w w2) := (Hb1.out.alloc Hbs1.out _).trans hb2
        clear ho2 hb2 hc hbl
        go_wp2
        go_roundw
        case rel => exact ⟨k + 1, by omega, by go_num, Ho2, Hb2⟩
        case measure => simp [intOf]; omega
      · have hsrc' : ∀ j u, (flat X)[j]? = some u → (wr.alloc (.cells #[] 38)).cell? (ad.add j) = some u := by
          intro j u hu
          have h1 := hsrc j u hu
          rw [World.cell?_alloc_lt _ _ _ (World.block_lt_of_cell? wr _ h1)]
          exact h1
        have HSRC := Lib.hid hsrc'
        clear hx hsrc hsrc' hown0
        go_wp2_with (at_builtin; go_loud (refine wpList_append_own _ rfl _ _ 33 rfl wr.heap.size 38 i0 (.agg #[.int .i64 0, .int .i64 0, .string ⟨#[]⟩]) 3 32 Try.underlying33 ii iz0 iz1 iz2 rfl (by decide) _ 0 [] rfl Hown0.out ad nx cx (flat X) rfl ?c0 ?c1 ?c2 ?c3 ?c4 ?c5 ?_))
        case c0 => rw [length_flat]; have := Hnx.out; omega
        case c1 => exact HSRC.out
        case c2 => exact hone
        case c3 => unfold maxLen; have := Hnx.out; have := HXl.out; omega
        case c4 => have := Hnx.out; have := HXl.out; omega
        intro v' w' hown' hgrow _
        have H1 : RowKit.Hid (RowO w' wr.heap.size X v') := by
          refine ⟨?_, Htx.out⟩
          have e : X.length = 0 + nx := by have := Hnx.out; omega
          rw [e]
          simpa using hown'
        have H2 : RowKit.Hid (Below wr.heap.size wr w') := ((Below.refl _ _).alloc (Nat.le_refl _) _).grown hgrow (by simp) (fun k hk => (Hown0.out.lt k hk).1)
        clear hown' hgrow
        have Ho1 := Lib.hid (Ho.out.mono H2.out)
        have H3 := Lib.hid (H1.out.base Hbs.out)
        have Hb1 := Lib.hid (Hb.out.trans (H2.out.mono Hbs.out))
        have Hbs1 := Lib.hid Hb1.out.size
        obtain ⟨av, nv, cv, rfl, p1, p2⟩ := H1.out.vals.shape
        clear p1 p2 H1 H2
        go_wp2_with (at_builtin; go_loud (refine wpList_rowN rfl _ _ rfl w.heap.size (L.take k) X _ rfl (Ho1.out.alloc _) _ _ (.slice av nv cv) rfl (by simp) (H3.out.alloc _) ?d1 ?d2 ?_))
        case d1 => rw [List.length_take]; omega
        case d2 => have := Hbs1.out; simp; omega
        intro v2 w2 ho2 hb2 _
        have Ho2 : RowKit.Hid (RowsNew w2 w.heap.size (L.take (k + 1)) v2) := by show RowsNew _ _ _ _; rw [Htk.out]; exact ho2
        have Hb2 : RowKit.Hid (Below w.heap.size w w2) := (Hb1.out.alloc Hbs1.out _).trans hb2
        clear ho2 hb2 hc hbl
        go_wp2
        go_roundw
        case rel => exact ⟨k + 1, by omega, by go_num, Ho2, Hb2⟩
        case measure => simp [intOf]; omega
    · obtain rfl : k = n := by omega
      go_wp2
      go_ret
      have e : L.take k = L := List.take_of_length_le (by have := Hn.out; omega)
      rw [e] at Ho
      exact ⟨_, rfl, Ho.out, Hb.out⟩
end Go.Proofs.Ytekoemcckdhhnaa
