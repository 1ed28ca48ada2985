/- Lists of rows in memory. -/
import Derived.Test.YtekoemcckdhhnaaD1
import Derived.Laws.AppendOwn
import Derived.Laws.AppendOwnNone
namespace Go.Proofs.Ytekoemcckdhhnaa
open Go.RowKit

/-- The values are slices of the rows. -/
inductive RowVs (w : World) : List Rw → List Value → Prop
  | nil : RowVs w [] []
  | cons {r : Rw} {x : Value} {L : List Rw} {xs : List Value} : ValsAt w r x → RowVs w L xs → RowVs w (r :: L) (x :: xs)
theorem RowVs.mono {w w' : World} {L : List Rw} {xs : List Value} (h : RowVs w L xs) (hb : Below w.heap.size w w') : RowVs w' L xs := by
  induction h with
  | nil => exact .nil
  | cons h1 _ ih => exact .cons (h1.mono hb) ih
theorem RowVs.length {w : World} {L : List Rw} {xs : List Value} (h : RowVs w L xs) : xs.length = L.length := by
  induction h with
  | nil => rfl
  | cons _ _ ih => simp [ih]
theorem RowVs.append {w : World} {L M : List Rw} {xs ys : List Value} (h : RowVs w L xs) (h' : RowVs w M ys) : RowVs w (L ++ M) (xs ++ ys) := by
  induction h with
  | nil => exact h'
  | cons h1 _ ih => exact .cons h1 ih
theorem RowVs.one {w : World} {r : Rw} {x : Value} (h : ValsAt w r x) : RowVs w [r] [x] := .cons h .nil
theorem RowVs.get {w : World} {L : List Rw} {xs : List Value} (h : RowVs w L xs) (i : Nat) (hi : i < L.length) : ∃ x, xs[i]? = some x ∧ ValsAt w L[i] x := by
  induction h generalizing i with
  | nil => simp at hi
  | cons h1 _ ih =>
    cases i with
    | zero => exact ⟨_, rfl, h1⟩
    | succ i => exact ih i (by simpa using hi)
theorem RowVs.one' {w : World} {L : List Rw} {xs : List Value} (h : RowVs w L xs) : ∀ u ∈ xs, u.oneCell' = true := by
  induction h with
  | nil => simp
  | cons h1 _ ih =>
    intro u hu
    rcases List.mem_cons.1 hu with rfl | hu
    · obtain ⟨a, n, c, rfl, _⟩ := h1.shape
      rfl
    · exact ih u hu

/-- A list of rows lies at the slice. -/
inductive RowsAt (w : World) : List Rw → Value → Prop where
  | mt {a : Option Addr} : RowsAt w [] (.slice a 0 0)
  | lie (L : List Rw) (xs : List Value) (b o n cap : Nat) (hn : n = L.length) (hlt : b < w.heap.size) (hm : n ≤ maxLen)
      (hc : ∀ i x, xs[i]? = some x → w.cell? ⟨b, o + i, none⟩ = some x) (hx : RowVs w L xs) : RowsAt w L (.slice (some ⟨b, o, none⟩) n cap)
theorem RowsAt.mono {w w' : World} {L : List Rw} {s : Value} (h : RowsAt w L s) (hb : Below w.heap.size w w') : RowsAt w' L s := by
  cases h with
  | mt => exact .mt
  | lie _ xs b o n cap hn hlt hm hc hx => exact .lie _ xs b o n cap hn (Nat.lt_of_lt_of_le hlt hb.size) hm (fun i x hi => (hb.cell hlt).trans (hc i x hi)) (hx.mono hb)
theorem RowsAt.shape {w : World} {L : List Rw} {s : Value} (h : RowsAt w L s) : ∃ a n c, s = .slice a n c ∧ n = L.length ∧ n ≤ maxLen := by
  cases h with
  | mt => exact ⟨_, _, _, rfl, rfl, by simp⟩
  | lie _ xs b o n cap hn hlt hm hc => exact ⟨_, _, _, rfl, hn, hm⟩
theorem RowsAt.has {w : World} {L : List Rw} {a : Option Addr} {n c : Nat} (h : RowsAt w L (.slice a n c)) (i : Nat) (hi : i < n) : ∃ b o, a = some ⟨b, o, none⟩ := by
  cases h with
  | mt => omega
  | lie _ xs b o => exact ⟨b, o, rfl⟩
theorem RowsAt.cell {w : World} {L : List Rw} {b o n c : Nat} (h : RowsAt w L (.slice (some ⟨b, o, none⟩) n c)) (i : Nat) (hi : i < L.length) :
    ∃ x, w.cell? ⟨b, o + i, none⟩ = some x ∧ ValsAt w L[i] x := by
  cases h with
  | mt => simp at hi
  | lie _ xs _ _ _ _ hn hlt hm hc hx =>
    obtain ⟨x, h1, h2⟩ := hx.get i hi
    exact ⟨x, hc i x h1, h2⟩
theorem RowsAt.lt {w : World} {L : List Rw} {b o n c : Nat} (h : RowsAt w L (.slice (some ⟨b, o, none⟩) n c)) {i : Nat} (hi : i < L.length) : b < w.heap.size := by
  obtain ⟨x, hx, _⟩ := h.cell i hi
  exact World.block_lt_of_cell? w _ hx

/-- A row lies below B or in a block of values: no append to a list of rows that is not older than B turns it. -/
def Far (w : World) (B : Nat) (x : Value) : Prop := ∀ (ad : Addr) (n c : Nat), x = .slice (some ad) n c → 0 < n → ad.block < B ∨ ∃ cur fr, w.heap[ad.block]? = some (.cells cur 38 fr)
theorem Far.mono {w w' : World} {B : Nat} {x : Value} {r : Rw} (h : Far w B x) (_hv : ValsAt w r x) (hb : Below w.heap.size w w') : Far w' B x := by
  intro ad n c hx hn
  rcases h ad n c hx hn with h | ⟨cur, fr, h⟩
  · exact .inl h
  · exact .inr ⟨cur, fr, (hb.block _ (Array.getElem?_eq_some_iff.1 h).1).trans h⟩
theorem Far.low {w : World} {x : Value} {r : Rw} {B : Nat} (h : ValsAt w r x) (hB : w.heap.size ≤ B) (w' : World) : Far w' B x := by
  intro ad n c hx hn
  cases h with
  | mt => injection hx with h1 h2 h3; omega
  | lie _ b o n' cap hn' hlt => injection hx with h1 h2 h3; injection h1 with h1; subst h1; exact .inl (Nat.lt_of_lt_of_le hlt hB)
theorem ValsAt.grown {w w' : World} {B : Nat} {r : Rw} {x v : Value} {n : Nat} {xs : List Value} (h : ValsAt w r x) (hf : Far w B x) (hv : w.ownsRow B 33 1 v n xs) (hg : w.grownBy w' v.ownBlock) : ValsAt w' r x ∧ Far w' B x := by
  have hne : ∀ (ad : Addr) (n c : Nat), x = .slice (some ad) n c → 0 < n → some ad.block ≠ v.ownBlock := by
    intro ad n' c hx hn' e
    have h1 := hv.lt ad.block e.symm
    rcases hf ad n' c hx hn' with h2 | ⟨cur, fr, h2⟩
    · omega
    · rcases hv.2 with ⟨rfl, _⟩ | ⟨g, cap, cur', rfl, _, hg', _⟩
      · simp [Value.ownBlock] at e
      · simp only [Value.ownBlock, Option.some.injEq] at e
        rw [e, hg'] at h2
        injection h2 with h2
        injection h2 with h3 h4
        exact absurd h4 (by decide)
  cases h with
  | mt =>
    refine ⟨.mt, ?_⟩
    intro ad n' c hx hn'
    injection hx with _ h2
    omega
  | lie _ b o n' cap hn hlt hm hc ht =>
    by_cases h0 : 0 < n'
    · have hk := hne ⟨b, o, none⟩ n' cap rfl h0
      refine ⟨.lie _ b o n' cap hn (Nat.lt_of_lt_of_le hlt hg.size) hm (fun i hi j hj => ?_) ht, ?_⟩
      · exact (World.cell?_of_block (a := ⟨b, o + i * 3 + j, none⟩) (hg.block b hlt hk)).trans (hc i hi j hj)
      · intro ad n2 c2 hx hn2
        rcases hf ad n2 c2 hx hn2 with h2 | ⟨cur, fr, h2⟩
        · exact .inl h2
        · injection hx with hx1
          injection hx1 with hx1
          subst hx1
          exact .inr ⟨cur, fr, (hg.block b hlt hk).trans h2⟩
    · have h0' : r = [] := by
        cases r with
        | nil => rfl
        | cons => simp at hn; omega
      have h0n : n' = 0 := by omega
      subst h0' h0n
      refine ⟨.lie _ b o 0 cap rfl (Nat.lt_of_lt_of_le hlt hg.size) hm (fun i hi => by simp at hi) ht, ?_⟩
      intro ad n2 c2 hx hn2
      injection hx with _ h2
      omega
theorem RowVs.grown {w w' : World} {B : Nat} {L : List Rw} {ys : List Value} {v : Value} {n : Nat} {xs : List Value} (h : RowVs w L ys) (hf : ∀ x ∈ ys, Far w B x) (hv : w.ownsRow B 33 1 v n xs) (hg : w.grownBy w' v.ownBlock) : RowVs w' L ys ∧ ∀ x ∈ ys, Far w' B x := by
  induction h with
  | nil => exact ⟨.nil, by simp⟩
  | cons h1 _ ih =>
    have h2 := ih fun x hx => hf x (List.mem_cons_of_mem _ hx)
    have h3 := h1.grown (hf _ (by simp)) hv hg
    refine ⟨.cons h3.1 h2.1, fun x hx => ?_⟩
    rcases List.mem_cons.1 hx with rfl | hx
    · exact h3.2
    · exact h2.2 x hx
theorem RowVs.far {w w' : World} {B : Nat} {L : List Rw} {ys : List Value} (h : RowVs w L ys) (hf : ∀ x ∈ ys, Far w B x) (hb : Below w.heap.size w w') : ∀ x ∈ ys, Far w' B x := by
  induction h with
  | nil => simp
  | cons h1 _ ih =>
    intro x hx
    rcases List.mem_cons.1 hx with rfl | hx
    · exact (hf _ (by simp)).mono h1 hb
    · exact ih (fun x hx => hf x (List.mem_cons_of_mem _ hx)) x hx
theorem RowVs.low {w : World} {B : Nat} {L : List Rw} {ys : List Value} (h : RowVs w L ys) (hB : w.heap.size ≤ B) (w' : World) : ∀ x ∈ ys, Far w' B x := by
  induction h with
  | nil => simp
  | cons h1 _ ih =>
    intro x hx
    rcases List.mem_cons.1 hx with rfl | hx
    · exact Far.low h1 hB w'
    · exact ih x hx

theorem RowsAt.row {w : World} {L : List Rw} {b o n c : Nat} (h : RowsAt w L (.slice (some ⟨b, o, none⟩) n c)) (k : Nat) (hk : k < L.length) :
    ∃ ax nx cx, RowKit.Hid (∀ w', Below w.heap.size w w' → w'.cell? ⟨b, o + k, none⟩ = some (.slice ax nx cx) ∧ ValsAt w' L[k] (.slice ax nx cx) ∧ b < w'.heap.size) ∧ RowKit.Hid (∀ w', Far w' w.heap.size (.slice ax nx cx)) := by
  obtain ⟨x, hc, hx⟩ := h.cell k hk
  obtain ⟨ax, nx, cx, rfl, _, _⟩ := hx.shape
  exact ⟨ax, nx, cx, fun w' hb => ⟨(hb.cell (p := ⟨b, o + k, none⟩) (h.lt hk)).trans hc, hx.mono hb, Nat.lt_of_lt_of_le (h.lt hk) hb.size⟩, fun w' => Far.low hx (Nat.le_refl _) w'⟩
theorem ValsAt.far {w : World} {r : Rw} {x : Value} (h : ValsAt w r x) : RowKit.Hid (∀ w', Far w' w.heap.size x) := fun w' => Far.low h (Nat.le_refl _) w'

/-- A list of rows lies in a block of its own, none older than B. -/
def RowsOwn (w : World) (B : Nat) (L : List Rw) (s : Value) : Prop := ∃ xs, w.ownsRow B 33 1 s L.length xs ∧ RowVs w L xs ∧ ∀ x ∈ xs, Far w B x
theorem RowsOwn.mono {w w' : World} {B : Nat} {L : List Rw} {s : Value} (h : RowsOwn w B L s) (hb : Below w.heap.size w w') : RowsOwn w' B L s := by
  obtain ⟨xs, h1, h2, h3⟩ := h
  exact ⟨xs, own_below h1 hb, h2.mono hb, h2.far h3 hb⟩
theorem RowsOwn.alloc {w : World} {B : Nat} {L : List Rw} {s : Value} (h : RowsOwn w B L s) (o : Obj) : RowsOwn (w.alloc o) B L s := h.mono ((Below.refl _ _).alloc (Nat.le_refl _) o)
theorem ValsAt.alloc {w : World} {r : Rw} {s : Value} (h : ValsAt w r s) (o : Obj) : ValsAt (w.alloc o) r s := h.mono ((Below.refl _ _).alloc (Nat.le_refl _) o)
theorem RowsAt.alloc {w : World} {r : List Rw} {s : Value} (h : RowsAt w r s) (o : Obj) : RowsAt (w.alloc o) r s := h.mono ((Below.refl _ _).alloc (Nat.le_refl _) o)
theorem RowsOwn.at {w : World} {B : Nat} {L : List Rw} {s : Value} (h : RowsOwn w B L s) : RowsAt w L s := by
  obtain ⟨xs, ⟨_, ⟨rfl, h0⟩ | ⟨g, cap, cur, rfl, hb, hg, hn, hc, hs, ht⟩⟩, hx, _⟩ := h
  · cases L with
    | nil => exact .mt
    | cons => simp at h0
  · refine .lie L xs g 0 _ cap rfl (Array.getElem?_eq_some_iff.1 hg).1 (Nat.le_trans hn hc) (fun i x hi => ?_) hx
    have hl : i < L.length := by
      have := (List.getElem?_eq_some_iff.1 hi).1
      rw [hx.length] at this
      exact this
    have h0 := cell_of_row w g (i * 1) cur 33 (0, 0) hg
    simp only [Nat.mul_one] at h0
    rw [Nat.zero_add, h0]
    rw [← ht, List.getElem?_take, if_pos (by omega)] at hi
    simpa using hi
theorem RowsOwn.nil (w : World) (B : Nat) : RowsOwn w B [] (.slice none 0 0) := ⟨[], World.ownsRow_nil _ _ _ _, .nil, by simp⟩
theorem RowsOwn.shape {w : World} {B : Nat} {L : List Rw} {s : Value} (h : RowsOwn w B L s) : ∃ a c, s = .slice a L.length c := by
  obtain ⟨a, n, c, rfl, rfl, _⟩ := h.at.shape
  exact ⟨a, c, rfl⟩
theorem Try.info33' : (Try.prog.info? 33).map (fun i => (i.zero, i.size, i.bytes)) = some (some (.slice none 0 0), 1, 24) := by kernel_rfl

/-- append to a list of rows. -/
theorem wpList_rows {w : World} {ops : Array Oper} {rest : List Oper} {o : Oper} {a : Act} {Q : Exit → Act → World → Prop} (hgd : o.guard = none) (s x : Operand)
    (ho : o.op = .call { callee := .builtin .append, args := #[s, x], argTypes := #[22, 22] })
    (B : Nat) (L M : List Rw) (v : Value) (hs : a.eval s = v) (hown : RowsOwn w B L v) (ad : Addr) (c m : Nat) (ys : List Value) (hx : a.eval x = .slice (some ad) m c) (hm : m = M.length)
    (hc : ∀ j u, ys[j]? = some u → w.cell? (ad.add j) = some u) (hy : RowVs w M ys) (hf : ∀ y ∈ ys, Far w B y)
    (hlen : L.length + m ≤ 1099511627776) (hB : B ≤ w.heap.size)
    (h : ∀ v' w', RowsOwn w' B (L ++ M) v' → Below B w w' → w.grownBy w' v.ownBlock → wpList Try.prog ops Q rest (a.put o.dst v') w') : wpList Try.prog ops Q (o :: rest) a w := by
  obtain ⟨i0, ii, iz0, iz1, iz2⟩ := info_parts Try.info33'
  obtain ⟨xs, h1, h2, h3⟩ := hown
  subst hm
  refine wpList_append_own w hgd s x 22 ho B 33 i0 (.slice none 0 0) 1 24 Try.underlying22 ii iz0 iz1 iz2 rfl (by decide) v _ xs hs h1 ad _ c ys hx (by rw [hy.length]; omega) hc hy.one' (by unfold maxLen; omega) (by omega) hB ?_
  intro v' w' ho' hg _
  have a1 := h2.grown h3 h1 hg
  have a2 := hy.grown hf h1 hg
  refine h v' w' ⟨xs ++ ys, by rw [List.length_append]; exact ho', a1.1.append a2.1, fun x hx => ?_⟩ ((Below.refl _ _).grown hg hB fun g hg' => (h1.lt g hg').1) hg
  rcases List.mem_append.1 hx with hx | hx
  · exact a1.2 x hx
  · exact a2.2 x hx
/-- append of one row. -/
theorem wpList_row {w : World} {ops : Array Oper} {rest : List Oper} {o : Oper} {a : Act} {Q : Exit → Act → World → Prop} (hgd : o.guard = none) (s x : Operand)
    (ho : o.op = .call { callee := .builtin .append, args := #[s, x], argTypes := #[22, 22] })
    (B : Nat) (L : List Rw) (R : Rw) (v : Value) (hs : a.eval s = v) (hown : RowsOwn w B L v) (g : Nat) (c : Nat) (y : Value) (hx : a.eval x = .slice (some ⟨g, 0, none⟩) 1 c)
    (hc : w.cell? ⟨g, 0, none⟩ = some y) (hy : ValsAt w R y) (hf : Far w B y)
    (hlen : L.length + 1 ≤ 1099511627776) (hB : B ≤ w.heap.size)
    (h : ∀ v' w', RowsOwn w' B (L ++ [R]) v' → Below B w w' → w.grownBy w' v.ownBlock → wpList Try.prog ops Q rest (a.put o.dst v') w') : wpList Try.prog ops Q (o :: rest) a w := by
  refine wpList_rows hgd s x ho B L [R] v hs hown ⟨g, 0, none⟩ c 1 [y] hx rfl (fun j u hj => ?_) (.one hy) (by simpa using hf) hlen hB h
  match j, hj with
  | 0, hj => simp at hj; subst hj; simpa [Addr.add] using hc
end Go.Proofs.Ytekoemcckdhhnaa
