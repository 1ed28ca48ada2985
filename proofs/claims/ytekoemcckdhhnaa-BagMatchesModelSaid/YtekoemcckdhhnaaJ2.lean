/- What a write to one bag leaves of other bags and of lists of rows. -/
import Derived.Test.YtekoemcckdhhnaaJ1
namespace Go.Proofs.Ytekoemcckdhhnaa
open Go.RowKit

/-- Two bags share no block. -/
structure Sep (px : Nat) (sx : Value) (py : Nat) (sy : Value) : Prop where
  ne : px ≠ py
  own : ∀ k, sx.ownBlock = some k → sy.ownBlock ≠ some k
theorem Sep.symm {px py : Nat} {sx sy : Value} (h : Sep px sx py sy) : Sep py sy px sx := ⟨fun e => h.ne e.symm, fun k hk e => h.own k e hk⟩
theorem BagAt.ownlt {w : World} {B pb : Nat} {s : Value} {b : List Ent} (h : BagAt w B pb s b) : ∀ k, s.ownBlock = some k → k < w.heap.size := by
  obtain ⟨cs, h1, _⟩ := h.ent
  exact fun k hk => (h1.lt k hk).2
theorem Sep.of {w w' : World} {B px py : Nat} {sx sy : Value} {b c : List Ent} (hx : BagAt w B px sx b) (hy : BagAt w' w.heap.size py sy c) : Sep px sx py sy := by
  refine ⟨fun e => ?_, fun k hk e => ?_⟩
  · have := hx.lt; have := hy.ge; omega
  · have := hx.ownlt k hk; have := hy.own k e; omega
theorem BagAt.no38 {w : World} {B pb : Nat} {s : Value} {b : List Ent} (h : BagAt w B pb s b) : (∀ cur fr, w.heap[pb]? ≠ some (.cells cur 38 fr)) ∧ ∀ k, s.ownBlock = some k → ∀ cur fr, w.heap[k]? ≠ some (.cells cur 38 fr) := by
  obtain ⟨cs, h1, _⟩ := h.ent
  refine ⟨Go.Proofs.Ytekoemcckdhhnaa.no38 h.ptr (by decide), fun k hk => ?_⟩
  obtain ⟨cur, fr, e⟩ := ownBlock57 h1 k hk
  exact Go.Proofs.Ytekoemcckdhhnaa.no38 e (by decide)
/-- Another bag stays. -/
theorem BagAt.other {w w' : World} {B C px py : Nat} {sx sy : Value} {b c : List Ent} (hx : BagAt w B px sx b) (hc : Chg w w' px sx.ownBlock) (hy : BagAt w C py sy c) (hs : Sep px sx py sy) : BagAt w' C py sy c := by
  have h38 := hx.no38
  obtain ⟨cs, ho, _⟩ := hx.ent
  have hyl := hy.lt
  have hne1 : some py ≠ sx.ownBlock := by
    intro e
    obtain ⟨cur, fr, e2⟩ := ownBlock57 ho py e.symm
    rw [hy.ptr] at e2
    injection e2 with e2
    injection e2 with _ e2
    exact absurd e2 (by decide)
  obtain ⟨h1, h2, ⟨ys, h3, h4⟩, h5⟩ := hy
  refine ⟨h1, (hc.block py hyl (fun e => hs.ne e.symm) hne1).trans h2, ⟨ys, ⟨h3.1, ?_⟩, h4.chg hc h38.1 h38.2⟩, h5⟩
  rcases h3.2 with e | ⟨g, cap, cur, hv, hb, hg, rest⟩
  · exact .inl e
  · refine .inr ⟨g, cap, cur, hv, hb, ?_, rest⟩
    have hgl := (Array.getElem?_eq_some_iff.1 hg).1
    refine (hc.block g hgl (fun e => ?_) (fun e => hs.own g e.symm (by rw [hv]; rfl))).trans hg
    rw [e, hx.ptr] at hg
    injection hg with hg
    injection hg with _ hg
    exact absurd hg (by decide)
/-- The written bag's new block is no other bag's. -/
theorem Sep.new {w : World} {C px py : Nat} {sx sx' sy : Value} {c : List Ent} (hs : Sep px sx py sy) (hy : BagAt w C py sy c) (hn : ∀ k, sx'.ownBlock = some k → sx.ownBlock = some k ∨ w.heap.size ≤ k) : Sep px sx' py sy := by
  refine ⟨hs.ne, fun k hk e => ?_⟩
  rcases hn k hk with h | h
  · exact hs.own k h e
  · have := hy.ownlt k e; omega
/-- Lists of rows stay. -/
theorem own33_chg {w w' : World} {B D n px : Nat} {sx v : Value} {b : List Ent} {xs : List Value} (hx : BagAt w D px sx b) (hc : Chg w w' px sx.ownBlock) (h : w.ownsRow B 33 1 v n xs) : w'.ownsRow B 33 1 v n xs := by
  obtain ⟨cs, ho, _⟩ := hx.ent
  refine ⟨h.1, ?_⟩
  rcases h.2 with e | ⟨g, cap, cur, hv, hb, hg, rest⟩
  · exact .inl e
  · refine .inr ⟨g, cap, cur, hv, hb, ?_, rest⟩
    refine (hc.block g (Array.getElem?_eq_some_iff.1 hg).1 (fun e => ?_) (fun e => ?_)).trans hg
    · rw [e, hx.ptr] at hg
      injection hg with hg
      injection hg with _ hg
      exact absurd hg (by decide)
    · obtain ⟨cur', fr, e2⟩ := ownBlock57 ho g e.symm
      rw [hg] at e2
      injection e2 with e2
      injection e2 with _ e2
      exact absurd e2 (by decide)
theorem RowsNew.chg {w w' : World} {B D px : Nat} {sx v : Value} {b : List Ent} {L : List Rw} (hx : BagAt w D px sx b) (hc : Chg w w' px sx.ownBlock) (h : RowsNew w B L v) : RowsNew w' B L v := by
  obtain ⟨xs, h1, h2⟩ := h
  refine ⟨xs, own33_chg hx hc h1, ?_⟩
  have h38 := hx.no38
  clear h1
  induction h2 with
  | nil => exact .nil
  | cons h3 _ ih => exact .cons (h3.chg hc h38.1 h38.2) ih
theorem RowVsO.get {w : World} {B : Nat} {L : List Rw} {xs : List Value} (h : RowVsO w B L xs) (i : Nat) (hi : i < L.length) : ∃ x, xs[i]? = some x ∧ RowO w B L[i] x := by
  induction h generalizing i with
  | nil => simp at hi
  | cons h1 _ ih =>
    cases i with
    | zero => exact ⟨_, rfl, h1⟩
    | succ i => exact ih i (by simpa using hi)
theorem RowsNew.get {w : World} {B : Nat} {L : List Rw} {b o n c : Nat} (h : RowsNew w B L (.slice (some ⟨b, o, none⟩) n c)) (k : Nat) (hk : k < L.length) :
    ∃ ax nx cx, w.cell? ⟨b, o + k, none⟩ = some (.slice ax nx cx) ∧ RowKit.Hid (RowO w B L[k] (.slice ax nx cx)) ∧ b < w.heap.size := by
  obtain ⟨xs, ⟨_, ⟨e, _⟩ | ⟨g, cap, cur, hv, hb, hg, hn, hc, hs, ht⟩⟩, h2⟩ := h
  · cases e
  · injection hv with hv
    injection hv with hv
    injection hv with h3 h4
    subst h3 h4
    obtain ⟨x, e1, e2⟩ := h2.get k hk
    obtain ⟨ax, nx, cx, rfl, _⟩ := e2.vals.shape
    refine ⟨ax, nx, cx, ?_, e2, (Array.getElem?_eq_some_iff.1 hg).1⟩
    have h0 := cell_of_row w b (0 + k) cur 33 (0, 0) hg
    rw [h0, Nat.zero_add]
    rw [← ht, List.getElem?_take, if_pos (by omega)] at e1
    simpa using e1
theorem RowO.other {w w' : World} {B D px : Nat} {sx x : Value} {b : List Ent} {R : Rw} (hx : BagAt w D px sx b) (hc : Chg w w' px sx.ownBlock) (h : RowO w B R x) : RowO w' B R x := h.chg hc hx.no38.1 hx.no38.2
theorem RowsOwn0.chg {w0 w w' : World} {B D px : Nat} {sx v : Value} {b : List Ent} {L : List Rw} (hx : BagAt w D px sx b) (hc : Chg w w' px sx.ownBlock) (h : RowsOwn0 w0 w B L v) : RowsOwn0 w0 w' B L v := by
  obtain ⟨xs, h1, h2⟩ := h
  exact ⟨xs, own33_chg hx hc h1, h2⟩

/-- A bag without the rows of a list. -/
def remB (b : List Ent) (l : List Rw) : List Ent := l.foldl subB b
theorem wf_remB {b : List Ent} (h : Wf b) (l : List Rw) : Wf (remB b l) := by
  unfold remB
  induction l generalizing b with
  | nil => exact h
  | cons x l ih => exact ih (wf_subB h x)
theorem cnt_remB {b : List Ent} (h : Wf b) (l : List Rw) (q : Rw) : cntB (remB b l) q = cntB b q - l.count q := by
  unfold remB
  induction l generalizing b with
  | nil => simp
  | cons x l ih =>
    rw [List.foldl_cons, ih (wf_subB h x), cnt_subB h, List.count_cons]
    simp only [beq_iff_eq]
    omega
theorem remB_take (b : List Ent) (l : List Rw) (k : Nat) (hk : k < l.length) : remB b (l.take (k + 1)) = subB (remB b (l.take k)) l[k] := by
  unfold remB
  rw [List.take_succ_eq_append_getElem hk, List.foldl_append]
  rfl
theorem count_take_lt {l : List Rw} (k : Nat) (hk : k < l.length) : (l.take k).count l[k] + 1 ≤ l.count l[k] := by
  have h : ∀ x, l.count x = (l.take k).count x + (l.drop k).count x := fun x => by rw [← List.count_append, List.take_append_drop]
  rw [h, List.drop_eq_getElem_cons hk, List.count_cons]
  simp
theorem hasB_rem {b : List Ent} (h : Wf b) {l : List Rw} (hl : ∀ q, l.count q ≤ cntB b q) (k : Nat) (hk : k < l.length) : hasB (remB b (l.take k)) l[k] = true := by
  refine hasB_cnt (wf_remB h _) ?_
  rw [cnt_remB h]
  have := count_take_lt k hk
  have := hl l[k]
  omega
theorem SmB.rem {N : Nat} {b : List Ent} (h : SmB N b) (hw : Wf b) (l : List Rw) : SmB N (remB b l) := by
  unfold remB
  induction l generalizing b with
  | nil => exact h
  | cons x l ih => exact ih (h.sub hw x) (wf_subB hw x)
theorem count_diff {b c : List Ent} (hb : Wf b) (q : Rw) : (rowsB (diffB b c)).count q = cntB b q - cntB c q := by
  rw [count_rowsB (wf_diffB hb c), cnt_diffB hb]
theorem diff_other {b c : List Ent} (hb : Wf b) (hc : Wf c) {k : Nat} (hk : k < (rowsB (diffB b c)).length) : cntB (diffB c b) (rowsB (diffB b c))[k] = 0 := by
  have h := List.count_pos_iff.2 (List.getElem_mem hk)
  rw [count_diff hb] at h
  rw [cnt_diffB hc]
  omega
theorem rem_eq {b c : List Ent} (hb : Wf b) (hc : Wf c) : remB b (rowsB (diffB b c)) = remB c (rowsB (diffB c b)) := by
  refine wf_cnt (wf_remB hb _) (wf_remB hc _) fun q => ?_
  rw [cnt_remB hb, cnt_remB hc, count_diff hb, count_diff hc]
  omega
end Go.Proofs.Ytekoemcckdhhnaa
