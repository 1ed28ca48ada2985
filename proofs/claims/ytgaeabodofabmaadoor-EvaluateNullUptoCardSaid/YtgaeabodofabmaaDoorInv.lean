/- A region that draws its order, shown by an invariant: what holds when the operations of a set have been carried out; one obligation for each operation. (Over any program.) -/
import Derived.Test.YtgaeabodofabmaaDoorOrd
import Derived.Test.YtgaeabodofabmaaDoorBase
namespace Go.Proofs.YtgaeabodofabmaaDoor
open Go Go.RowKit

/-- Every operation waits only for earlier ones. -/
def forwardB (ops : Array Oper) : Bool := (List.range ops.size).all fun i => match ops[i]? with
  | none => true
  | some o => o.after.toList.all fun e => !Region.binds .any e || decide (e.on < i)
theorem forward_of {ops : Array Oper} (h : forwardB ops = true) {i : Nat} {o : Oper} (ho : ops[i]? = some o) : ∀ e ∈ o.after, Region.binds .any e = true → e.on < i := by
  intro e he hb
  have hi := (Array.getElem?_eq_some_iff.1 ho).1
  have h1 := List.all_eq_true.1 h i (by simpa using hi)
  simp only [ho] at h1
  have h2 := List.all_eq_true.1 h1 e (by simpa using he)
  simpa [hb] using h2
theorem ready_nil {ops : Array Oper} {listed : Array Bool} (hf : forwardB ops = true) (hs : listed.size = ops.size) (h : Region.ready .any ops listed = []) : ∀ i, i < ops.size → listed.getD i false = true := by
  intro i
  induction i using Nat.strongRecOn with
  | ind i ih =>
    intro hi
    apply Classical.byContradiction
    intro hn
    have hmem : i ∈ Region.ready .any ops listed := by
      refine mem_ready.2 ⟨?_, ops[i], Array.getElem?_eq_getElem hi, fun e he hb => ?_⟩
      · have : i < listed.size := by omega
        simp [Array.getD, this] at hn ⊢
        exact hn
      · have hlt := forward_of hf (Array.getElem?_eq_getElem hi) e he hb
        exact ih e.on hlt (by omega)
    rw [h] at hmem
    cases hmem

/-- How many operations are left. -/
def left (listed : Array Bool) : Nat := listed.toList.count false
theorem left_set {listed : Array Bool} {i : Nat} (hi : i < listed.size) (h : listed.getD i false = false) : left (listed.setIfInBounds i true) + 1 = left listed := by
  unfold left
  have hx : listed.toList[i]'(by simpa using hi) = false := by simpa [Array.getD, hi] using h
  have hpos : 0 < listed.toList.count false := List.count_pos_iff.2 (by rw [← hx]; exact List.getElem_mem _)
  rw [Array.toList_setIfInBounds, List.count_set (by simpa using hi)]
  rw [hx]
  have e1 : (false == false) = true := rfl
  have e2 : (true == false) = false := rfl
  rw [e1, e2]
  simp only [if_true, Bool.false_eq_true, if_false]
  omega

theorem wpAnyH_inv {P : Program} {ops : Array Oper} {Q : Exit → Act → World → Prop} {Inv : (Nat → Bool) → Act → World → Prop} (hf : forwardB ops = true)
    (hstep : ∀ (i : Nat) (o : Oper) (L : Nat → Bool) (a : Act) (w : World), ops[i]? = some o → L i = false → (∀ e ∈ o.after, Region.binds .any e = true → L e.on = true) → Inv L a w → wpOp P ops Q i (fun a' w' => Inv (fun j => L j || decide (j = i)) a' w') a w)
    (hend : ∀ (L : Nat → Bool) (a : Act) (w : World), (∀ i, i < ops.size → L i = true) → Inv L a w → Q .normal a w) :
    ∀ (fuel : Nat) (listed : Array Bool) (a : Act) (w : World), listed.size = ops.size → left listed ≤ fuel → Inv (fun j => listed.getD j false) a w → wpAnyH P .any ops Q (fun _ => True) fuel listed a w
  | 0, listed, a, w, hs, hl, hI => by
    have hr : Region.ready .any ops listed = [] := by
      rw [List.eq_nil_iff_forall_not_mem]
      intro j hj
      obtain ⟨hun, oj, hoj, _⟩ := mem_ready.1 hj
      have hlt : j < listed.size := by have := (Array.getElem?_eq_some_iff.1 hoj).1; omega
      have : 0 < listed.toList.count false := List.count_pos_iff.2 (by
        have hx : listed.toList[j]'(by simpa using hlt) = false := by simpa [Array.getD, hlt] using hun
        rw [← hx]; exact List.getElem_mem _)
      unfold left at hl
      omega
    exact wpAnyH_done hr (hend _ _ _ (ready_nil hf hs hr) hI) 0
  | fuel + 1, listed, a, w, hs, hl, hI => by
    refine ⟨fun hr => hend _ _ _ (ready_nil hf hs hr) hI, fun j hj => ?_⟩
    obtain ⟨hun, oj, hoj, hall⟩ := mem_ready.1 hj
    have hlt : j < listed.size := by have := (Array.getElem?_eq_some_iff.1 hoj).1; omega
    have hun' : listed.getD j false = false := by simpa [Array.getD, hlt] using hun
    refine wpOp_mono (fun a' w' h' => ⟨trivial, wpAnyH_inv hf hstep hend fuel (listed.setIfInBounds j true) a' w' (by simpa using hs) ?_ ?_⟩) (hstep j oj (fun j => listed.getD j false) a w hoj hun' hall hI)
    · have := left_set hlt hun'
      omega
    · have : (fun k => (listed.setIfInBounds j true).getD k false) = fun k => listed.getD k false || decide (k = j) := by
        funext k
        by_cases hk : k = j
        · subst hk
          simp [Array.getD, hlt]
        · rw [getD_set_ne false (fun h => hk h.symm)]
          simp [hk]
      rw [this]
      exact h'

/-- **A region by its invariant.** -/
theorem wp_region_inv {P : Program} {id : Nat} {ops ops' : Array Oper} {Q : Exit → Act → World → Prop} {a : Act} {w : World} (Inv : (Nat → Bool) → Act → World → Prop) (he : ops = ops') (hm : P.follows .mixedOrders = true) (hf : forwardB ops' = true)
    (h0 : Inv (fun _ => false) a w.drew)
    (hstep : ∀ (i : Nat) (o : Oper) (L : Nat → Bool) (a : Act) (w : World), ops'[i]? = some o → L i = false → (∀ e ∈ o.after, Region.binds .any e = true → L e.on = true) → Inv L a w → wpOp P ops' (NoPanic Q) i (fun a' w' => Inv (fun j => L j || decide (j = i)) a' w') a w)
    (hend : ∀ (L : Nat → Bool) (a : Act) (w : World), (∀ i, i < ops'.size → L i = true) → Inv L a w → NoPanic Q .normal a w) : (Code.region id ops true).wp P Q a w := by
  subst he
  refine wp_region_noPanic (wp_region_held (S := fun _ => True) hm (wpAnyH_inv hf hstep hend _ _ _ _ (by simp) ?_ ?_))
  · unfold left
    exact Nat.le_trans List.count_le_length (by simp)
  · have : (fun j => (Array.replicate ops.size false).getD j false) = fun _ => false := by
      funext j
      simp [Array.getD]
    rw [this]
    exact h0

/-! The obligations: an operation that yields a value, a call met by its contract, an operation that is carried out, one that is not wanted. -/
theorem inv_value {P : Program} {ops : Array Oper} {Q : Exit → Act → World → Prop} {K : Act → World → Prop} {i : Nat} {a : Act} {w w' : World} {o : Oper} {v : Value} (ho : ops[i]? = some o) (hw : Region.wanted o (yielded ops a.tmps) = true)
    (hc : (execOp a.eval o).run P w = .ok (.value v) w') (h : K (a.put o.dst v) w') : wpOp P ops Q i K a w := by
  unfold wpOp
  simp only [ho, hw, if_true, Oper.wp, hc, Oper.upon]
  exact .inl h
theorem inv_skip {P : Program} {ops : Array Oper} {Q : Exit → Act → World → Prop} {K : Act → World → Prop} {i : Nat} {a : Act} {w : World} {o : Oper} (ho : ops[i]? = some o) (hw : Region.wanted o (yielded ops a.tmps) = false)
    (h : K (a.put o.dst undef) w) : wpOp P ops Q i K a w := by
  unfold wpOp
  simp only [ho, hw, Bool.false_eq_true, if_false]
  exact h
theorem inv_call {P : Program} {ops : Array Oper} {Q : Exit → Act → World → Prop} {K : Act → World → Prop} {i : Nat} {a : Act} {w : World} {o : Oper} {f : FuncId} {args : Array Value} {R : Ending → World → Prop} (ho : ops[i]? = some o) (hw : Region.wanted o (yielded ops a.tmps) = true)
    (hc : (execOp a.eval o).run P w = .ok (.enter f args) w) (hR : Calls P f args w R) (h : ∀ e w', R e w' → ∃ v, e = .returned v ∧ K (a.put o.dst v) w') : wpOp P ops Q i K a w := by
  unfold wpOp
  simp only [ho, hw, if_true, Oper.wp, hc, Oper.upon]
  refine .inl (hR.mono fun e w' hr => ?_)
  obtain ⟨v, rfl, h'⟩ := h e w' hr
  exact h'
theorem inv_step {P : Program} {ops : Array Oper} {Q : Exit → Act → World → Prop} {K : Act → World → Prop} {i : Nat} {a : Act} {w : World} {o : Oper} (ho : ops[i]? = some o) (hw : Region.wanted o (yielded ops a.tmps) = true)
    (h : ∀ K' : Act → World → Prop, Shut (∀ a w, K a w → K' a w) → o.wp P a w K' Q) : wpOp P ops Q i K a w := by
  unfold wpOp
  simp only [ho, hw, if_true]
  exact .inl (h _ (fun a w h => h))

theorem val_set_ne {t : Array Value} {k j : Nat} {v : Value} (h : k ≠ j) : (t.setIfInBounds k v).getD j undef = t.getD j undef := by
  simp [Array.getD_eq_getD_getElem?, h]
/-- a is a0 but for the slots ks. -/
structure FrameLike (a0 a : Act) (ks : List Nat) : Prop where
  defers : a.defers = a0.defers
  size : a.tmps.size = a0.tmps.size
  same : ∀ k, k ∉ ks → a.tmps.getD k undef = a0.tmps.getD k undef
theorem FrameLike.refl (a : Act) (ks : List Nat) : FrameLike a a ks := ⟨rfl, rfl, fun _ _ => rfl⟩
theorem FrameLike.put {a0 a : Act} {ks : List Nat} (h : FrameLike a0 a ks) {k : Nat} (hk : k ∈ ks) (v : Value) : FrameLike a0 (a.put (some k) v) ks :=
  ⟨h.defers, by simpa [Act.put] using h.size, fun j hj => by
    have hne : k ≠ j := fun e => hj (e ▸ hk)
    show (a.tmps.setIfInBounds k v).getD j undef = _
    rw [val_set_ne hne]
    exact h.same j hj⟩
theorem eval_put_same {a : Act} {k : Nat} {v : Value} (h : k < a.tmps.size) : (a.put (some k) v).eval (.tmp k) = v := by
  show (a.tmps.setIfInBounds k v).getD k undef = v
  simp [Array.getD, h]
theorem eval_put_ne {a : Act} {k j : Nat} {v : Value} (h : j ≠ k) : (a.put (some j) v).eval (.tmp k) = a.eval (.tmp k) := by
  show (a.tmps.setIfInBounds j v).getD k undef = a.tmps.getD k undef
  exact val_set_ne h
/-- Several slots, written one after the other. -/
def putL (a : Act) (l : List (Nat × Value)) : Act := l.foldl (fun a p => a.put (some p.1) p.2) a
theorem FrameLike.eq {a : Act} : ∀ {ks : List Nat} {a0 : Act}, FrameLike a0 a ks → a = putL a0 (ks.map fun k => (k, a.eval (.tmp k)))
  | [], a0, h => by
    obtain ⟨t0, d0⟩ := a0
    obtain ⟨t, d⟩ := a
    have h1 : d = d0 := h.defers
    subst h1
    have h2 : t.size = t0.size := h.size
    have h3 : t = t0 := by
      apply Array.ext h2
      intro i h4 h5
      have := h.same i (by simp)
      simpa [Array.getD, h4, h5] using this
    rw [h3]
    rfl
  | k :: ks, a0, h => by
    have h1 : FrameLike (a0.put (some k) (a.eval (.tmp k))) a ks := by
      refine ⟨h.defers, by simpa [Act.put] using h.size, fun j hj => ?_⟩
      show _ = (a0.tmps.setIfInBounds k _).getD j undef
      by_cases hjk : k = j
      · subst hjk
        by_cases hlt : k < a0.tmps.size
        · have : (a0.tmps.setIfInBounds k (a.eval (.tmp k))).getD k undef = a.eval (.tmp k) := by simp [Array.getD, hlt]
          rw [this]
          rfl
        · have h1 : ¬ k < a.tmps.size := by rw [h.size]; exact hlt
          simp [Array.getD, hlt, h1]
      · rw [val_set_ne hjk]
        exact h.same j (by simp [hj, Ne.symm hjk])
    have h2 := FrameLike.eq (ks := ks) (a0 := a0.put (some k) (a.eval (.tmp k))) h1
    exact h2
theorem region_gen {P : Program} {c : Code} {Q : Exit → Act → World → Prop} {a : Act} {w : World} (h : ∀ a0, RowKit.Hid (a0 = a) → c.wp P Q a0 w) : c.wp P Q a w := h a rfl
theorem wp_region_inv0 {P : Program} {id : Nat} {ops ops' : Array Oper} {Q : Exit → Act → World → Prop} {a : Act} {w : World} (Inv : (Nat → Bool) → Act → World → Prop) (he : ops = ops') (hm : P.follows .mixedOrders = true) (hf : forwardB ops' = true)
    (h0 : Inv (fun _ => false) a w.drew)
    (hstep : ∀ (i : Nat) (o : Oper) (L : Nat → Bool) (a1 : Act) (w : World), ops'[i]? = some o → L i = false → (∀ e ∈ o.after, Region.binds .any e = true → L e.on = true) → Inv L a1 w → wpOp P ops' (NoPanic Q) i (fun a' w' => Inv (fun j => L j || decide (j = i)) a' w') a1 w)
    (hend : ∀ (L : Nat → Bool) (a1 : Act) (w : World), (∀ i, i < ops'.size → L i = true) → Inv L a1 w → NoPanic Q .normal a1 w) : (Code.region id ops true).wp P Q a w :=
  wp_region_inv Inv he hm hf h0 hstep hend
theorem eval_spell {a : Act} {k : Nat} {v : Value} (h : a.eval (.tmp k) = v) : a.tmps[k]?.getD undef = v := by
  rw [← h]
  show _ = a.tmps.getD k undef
  rw [Array.getD_eq_getD_getElem?]
theorem inv_or {x y : Bool} (h : x = true) : (x || y) = true := by rw [h]; rfl
theorem VarIs.setOther {w : World} {g g' : Nat} {c : Array Value} (h : VarIs w g' c) (hne : g ≠ g') (i : Nat) (v : Value) : VarIs (w.setCell ⟨g, i, none⟩ v) g' c := by
  have hb := Below.heap_setCell w ⟨g, i, none⟩ v g' (fun e => hne e.symm)
  exact ⟨by have := h.lt; simpa using this, fun j => (World.cell?_of_block (a := ⟨g', j, none⟩) hb).trans (h.cell j), fun j => (World.frozen?_of_block (a := ⟨g', j, none⟩) hb).trans (h.free j)⟩
theorem VarIs.set {w : World} {g : Nat} {c : Array Value} (h : VarIs w g c) (i : Nat) (hi : i < c.size) (v : Value) : VarIs (w.setCell ⟨g, i, none⟩ v) g (c.set i v) := by
  have h1 : w.cell? ⟨g, i, none⟩ = some c[i] := by rw [h.cell i, Array.getElem?_eq_getElem hi]
  refine ⟨by have := h.lt; simpa using this, fun j => ?_, fun j => ?_⟩
  · by_cases hj : i = j
    · subst hj
      rw [World.cell?_setCell_same _ _ _ h1]
      simp [hi]
    · rw [World.cell?_setCell_other _ _ _ _ (fun e => hj (by injection e)), h.cell j, Array.getElem?_set_ne _ hj]
  · rw [World.frozen?_setCell]
    exact h.free j
theorem VarIs.store3 {w : World} {g : Nat} {x y z x' y' z' : Value} (h : VarIs w g #[x, y, z]) : VarIs (((w.setCell ⟨g, 0, none⟩ x').setCell ⟨g, 1, none⟩ y').setCell ⟨g, 2, none⟩ z') g #[x', y', z'] :=
  ((h.set 0 (by simp) x').set 1 (by simp) y').set 2 (by simp) z'
theorem VarIs.store8 {w : World} {g : Nat} {a b c d e f i j a' b' c' d' e' f' i' j' : Value} (h : VarIs w g #[a, b, c, d, e, f, i, j]) : VarIs ((((((((w.setCell ⟨g, 0, none⟩ a').setCell ⟨g, 1, none⟩ b').setCell ⟨g, 2, none⟩ c').setCell ⟨g, 3, none⟩ d').setCell ⟨g, 4, none⟩ e').setCell ⟨g, 5, none⟩ f').setCell ⟨g, 6, none⟩ i').setCell ⟨g, 7, none⟩ j') g #[a', b', c', d', e', f', i', j'] :=
  (((((((h.set 0 (by simp) a').set 1 (by simp) b').set 2 (by simp) c').set 3 (by simp) d').set 4 (by simp) e').set 5 (by simp) f').set 6 (by simp) i').set 7 (by simp) j'
/-- The block that a pointer or a slice leads into. -/
def blkOf : Value → Option Nat
  | .pointer (some a) => some a.block
  | .slice (some a) _ _ => some a.block
  | _ => none
theorem inv_ne {x x' y y' : Value} (h1 : x' = x) (h2 : y' = y) (h : blkOf x ≠ blkOf y) : blkOf x' ≠ blkOf y' := by rw [h1, h2]; exact h
end Go.Proofs.YtgaeabodofabmaaDoor
