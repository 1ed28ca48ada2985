/- Part 3 of the proof: K2, V0, Ri, Oe, Of, F5, Sf, Oh, F8, F9, Gm, Rj, Ok, Vs, Al -/
import Derived.Test.YtodabeibdgancaaZ00
import Derived.Test.YtodabeibdgancaaZ02
import Derived.RegionTactic
import Derived.RangeFuncFrom
import Derived.RangeFuncBox
import Derived.RangeFuncLeaves
import Derived.RangeFuncCalls
import Derived.OwnWalkIn
import Derived.OrdersIn
import Derived.LoopIn
import Derived.Lib.SliceRun
import Derived.Deep.RegionLaw
import Derived.Deep.QuietTactic
import Derived.BigQuiet
import Derived.Laws.CopyOwn
import Derived.Laws.CopyRow
import Derived.Lib.AppendZerosOnto
import Derived.Lib.Overlaps
import Derived.Laws.AppendOwnNone
/- How rows, lists of rows and operations that came in are read. -/
namespace Go.Proofs.Ytodabeibdgancaa
open Go.ChangeShapes Go.ChangeAt Go.RowKit
set_option maxRecDepth 100000

theorem cV : Try.prog.cellsOf 26 = 3 := by kernel_rfl
theorem c9 : Try.prog.cellsOf 9 = 1 := by kernel_rfl
theorem cRW : Try.prog.cellsOf 61 = 1 := by kernel_rfl
theorem c2 : Try.prog.cellsOf 2 = 1 := by kernel_rfl
theorem c3 : Try.prog.cellsOf 3 = 1 := by kernel_rfl
instance : Inhabited Vl := ⟨⟨0, 0, ⟨#[]⟩⟩⟩
section
variable {H : Type} {enc : TypeId × Value → H} {w : World}

theorem read_vl {fuel : Nat} {cs : List Value} {x : DataW H × List MemPlace} (h : DataW.trod enc Try.prog w 0 (fun _ => true) true fuel 26 cs = some x) : ∃ v : Vl, cs = v.cells ∧ v.text.size ≤ maxLen := by
  obtain ⟨xs, n, -, rfl, hl, hxl, hx⟩ := DataW.trod_struct Try.underlying26 h
  rw [cV] at hl
  match cs, hl, hx with
  | [a, b, c], _, hx =>
    match xs, hxl, hx with
    | [x0, x1, x2], _, hx =>
      have h0 := hx 0 _ rfl
      have h1 := hx 1 _ rfl
      have h2 := hx 2 _ rfl
      simp only [List.getElem_toArray, List.getElem_cons_zero, List.getElem_cons_succ, c3, c2, c9] at h0 h1 h2
      obtain ⟨k, e0, -, -⟩ := DataW.trod_int Try.underlying3 (by simpa using h0)
      obtain ⟨i, e1, -, -⟩ := DataW.trod_int Try.underlying2 (by simpa using h1)
      obtain ⟨t, e2, -, hm⟩ := DataW.trod_string Try.underlying9 (by simpa using h2)
      cases e0
      cases e1
      cases e2
      exact ⟨⟨k, i, t⟩, rfl, hm⟩

/-- A row. -/
theorem read_row {fuel : Nat} {s : Value} {x : DataW H × List MemPlace} (h : DataW.trod enc Try.prog w 0 (fun _ => true) true fuel 61 [s] = some x) : ∃ R : Rw, ValsAt w R s := by
  rcases slice_read Try.underlying61 cV (by omega) h with ⟨a, e⟩ | ⟨b, o, len, cap, k, D, R, e, hb, hlc, hcm, rfl, hxD, hDl, hel⟩
  · cases e
    exact ⟨[], .mt⟩
  · cases e
    have hall : ∀ i, i < D.length → ∃ v : Vl, (∀ j, j < 3 → w.cell? ⟨b, o + i * 3 + j, none⟩ = v.cells[j]?) ∧ v.text.size ≤ maxLen := by
      intro i hi
      obtain ⟨cs', pl, -, hc, ht⟩ := hel i hi
      obtain ⟨v, rfl, hv⟩ := read_vl ht
      exact ⟨v, hc, hv⟩
    obtain ⟨f, hf⟩ := Deep.choose_lt hall
    refine ⟨(List.range D.length).map f, .lie _ b o len cap (by simp [hDl]) hb (by omega) ?_ ?_⟩
    · intro i h j hj
      simp only [List.length_map, List.length_range] at h
      have := (hf i h).1 j hj
      simpa using this
    · intro v hv
      obtain ⟨i, hi, rfl⟩ := List.mem_map.1 hv
      exact (hf i (by simpa using hi)).2

theorem rowVs_map {n : Nat} (f : Nat → Rw × Value) (h : ∀ i, i < n → ValsAt w (f i).1 (f i).2) : RowVs w ((List.range n).map fun i => (f i).1) ((List.range n).map fun i => (f i).2) := by
  induction n with
  | zero => exact .nil
  | succ n ih =>
    rw [List.range_succ, List.map_append, List.map_append]
    exact (ih fun i hi => h i (by omega)).append (.one (h n (by omega)))
/-- A list of rows. -/
theorem read_rows {fuel : Nat} {s : Value} {x : DataW H × List MemPlace} (h : DataW.trod enc Try.prog w 0 (fun _ => true) true fuel 29 [s] = some x) : ∃ L : List Rw, RowsAt w L s := by
  rcases slice_read Try.underlying29 cRW (by omega) h with ⟨a, e⟩ | ⟨b, o, len, cap, k, D, R, e, hb, hlc, hcm, rfl, hxD, hDl, hel⟩
  · cases e
    exact ⟨[], .mt⟩
  · cases e
    have hall : ∀ i, i < D.length → ∃ y : Rw × Value, w.cell? ⟨b, o + i, none⟩ = some y.2 ∧ ValsAt w y.1 y.2 := by
      intro i hi
      obtain ⟨cs', pl, hcl, hc, ht⟩ := hel i hi
      match cs', hcl, hc, ht with
      | [y], _, hc, ht =>
        obtain ⟨R, hR⟩ := read_row ht
        exact ⟨(R, y), by simpa using hc 0 (by omega), hR⟩
    obtain ⟨f, hf⟩ := Deep.choose_lt hall
    refine ⟨(List.range D.length).map fun i => (f i).1, .lie _ ((List.range D.length).map fun i => (f i).2) b o len cap (by simp [hDl]) hb (by omega) ?_ (rowVs_map f fun i hi => (hf i hi).2)⟩
    intro i x hx
    obtain ⟨h1, h2⟩ := List.getElem?_eq_some_iff.1 hx
    simp only [List.length_map, List.length_range] at h1
    rw [(hf i h1).1, ← h2]
    simp
/-- A list of values. -/
theorem read_vals {fuel : Nat} {s : Value} {x : DataW H × List MemPlace} (h : DataW.trod enc Try.prog w 0 (fun _ => true) true fuel 22 [s] = some x) : ∃ R : Rw, ValsAt w R s := by
  rcases slice_read Try.underlying22 cV (by omega) h with ⟨a, e⟩ | ⟨b, o, len, cap, k, D, R, e, hb, hlc, hcm, rfl, hxD, hDl, hel⟩
  · cases e
    exact ⟨[], .mt⟩
  · cases e
    have hall : ∀ i, i < D.length → ∃ v : Vl, (∀ j, j < 3 → w.cell? ⟨b, o + i * 3 + j, none⟩ = v.cells[j]?) ∧ v.text.size ≤ maxLen := by
      intro i hi
      obtain ⟨cs', pl, -, hc, ht⟩ := hel i hi
      obtain ⟨v, rfl, hv⟩ := read_vl ht
      exact ⟨v, hc, hv⟩
    obtain ⟨f, hf⟩ := Deep.choose_lt hall
    refine ⟨(List.range D.length).map f, .lie _ b o len cap (by simp [hDl]) hb (by omega) ?_ ?_⟩
    · intro i h j hj
      simp only [List.length_map, List.length_range] at h
      have := (hf i h).1 j hj
      simpa using this
    · intro v hv
      obtain ⟨i, hi, rfl⟩ := List.mem_map.1 hv
      exact (hf i (by simpa using hi)).2
theorem cORD : Try.prog.cellsOf 68 = 2 := by kernel_rfl
theorem c4 : Try.prog.cellsOf 4 = 1 := by kernel_rfl
instance : Inhabited Od := ⟨⟨0, false⟩⟩
theorem read_od {fuel : Nat} {cs : List Value} {x : DataW H × List MemPlace} (h : DataW.trod enc Try.prog w 0 (fun _ => true) true fuel 68 cs = some x) : ∃ v : Od, cs = [.int .i64 v.item, .bool v.desc] := by
  obtain ⟨xs, n, -, rfl, hl, hxl, hx⟩ := DataW.trod_struct Try.underlying68 h
  rw [cORD] at hl
  match cs, hl, hx with
  | [a, b], _, hx =>
    match xs, hxl, hx with
    | [x0, x1], _, hx =>
      have h0 := hx 0 _ rfl
      have h1 := hx 1 _ rfl
      simp only [List.getElem_toArray, List.getElem_cons_zero, List.getElem_cons_succ, c3, c4] at h0 h1
      obtain ⟨k, e0, -, -⟩ := DataW.trod_int Try.underlying3 (by simpa using h0)
      obtain ⟨t, e1, -⟩ := DataW.trod_bool Try.underlying4 (by simpa using h1)
      cases e0
      cases e1
      exact ⟨⟨k, t⟩, rfl⟩
/-- A list of orders. -/
theorem read_ods {fuel : Nat} {s : Value} {x : DataW H × List MemPlace} (h : DataW.trod enc Try.prog w 0 (fun _ => true) true fuel 30 [s] = some x) : ∃ R : List Od, OrdsAt w R s := by
  rcases slice_read Try.underlying30 cORD (by omega) h with ⟨a, e⟩ | ⟨b, o, len, cap, k, D, R, e, hb, hlc, hcm, rfl, hxD, hDl, hel⟩
  · cases e
    exact ⟨[], .mt⟩
  · cases e
    have hall : ∀ i, i < D.length → ∃ v : Od, w.cell? ⟨b, o + i * 2, none⟩ = some (.int .i64 v.item) ∧ w.cell? ⟨b, o + i * 2 + 1, none⟩ = some (.bool v.desc) := by
      intro i hi
      obtain ⟨cs', pl, -, hc, ht⟩ := hel i hi
      obtain ⟨v, rfl⟩ := read_od ht
      exact ⟨v, hc 0 (by omega), hc 1 (by omega)⟩
    obtain ⟨f, hf⟩ := Deep.choose_lt hall
    refine ⟨(List.range D.length).map f, .lie _ b o len cap (by simp [hDl]) hb (by omega) ?_⟩
    intro i h
    simp only [List.length_map, List.length_range] at h
    simpa using hf i h
theorem open_vals {W : World} {base : Nat} {v : Value} {d : DataW H} {p : List MemPlace} (hok : Value.okWide Try.prog W .any base 22 v) (h : DataW.Trod enc Try.prog W 0 (fun _ => true) true 22 v d p) : ∃ R, ValsAt W R v := by
  obtain ⟨fuel, h⟩ := h
  rw [cell_of_one_slice W Try.underlying22 hok] at h
  exact read_vals h
theorem open_ods {W : World} {base : Nat} {v : Value} {d : DataW H} {p : List MemPlace} (hok : Value.okWide Try.prog W .any base 30 v) (h : DataW.Trod enc Try.prog W 0 (fun _ => true) true 30 v d p) : ∃ R, OrdsAt W R v := by
  obtain ⟨fuel, h⟩ := h
  rw [cell_of_one_slice W Try.underlying30 hok] at h
  exact read_ods h
theorem open_row {W : World} {base : Nat} {v : Value} {d : DataW H} {p : List MemPlace} (hok : Value.okWide Try.prog W .any base 61 v) (h : DataW.Trod enc Try.prog W 0 (fun _ => true) true 61 v d p) : ∃ R, ValsAt W R v := by
  obtain ⟨fuel, h⟩ := h
  rw [cell_of_one_slice W Try.underlying61 hok] at h
  exact read_row h
theorem open_rows {W : World} {base : Nat} {v : Value} {d : DataW H} {p : List MemPlace} (hok : Value.okWide Try.prog W .any base 29 v) (h : DataW.Trod enc Try.prog W 0 (fun _ => true) true 29 v d p) : ∃ L, RowsAt W L v := by
  obtain ⟨fuel, h⟩ := h
  rw [cell_of_one_slice W Try.underlying29 hok] at h
  exact read_rows h
end
end Go.Proofs.Ytodabeibdgancaa
/- A region that draws its order, shown by an invariant: what holds when the operations of a set have been carried out; one obligation for each operation. (Over any program.) -/
namespace Go.Proofs.Ytodabeibdgancaa
open Go Go.RowKit

/-- Every operation waits only for earlier ones. -/
def forwardB (ops : Array Oper) : Bool := (List.range ops.size).all fun i => match ops[i]? with
  | none => true
  | some o => o.after.toList.all fun e => !Region.binds .any e || decide (e.on < i)
theorem forward_of {ops : Array Oper} (h : forwardB ops = true) {i : Nat} {o : Oper} (ho : ops[i]? = some o) : ∀ e ∈ o.after, Region.binds .any e = true → e.on < i := by
  intro e he hb
  have hi := (Array.getElem?_eq_some_iff.1 ho).1
  have h1 := List.all_eq_true.1 h i (by simpa using hi)
  simp only [ho] at h1
  have h2 := List.all_eq_true.1 h1 e (by simpa using he)
  simpa [hb] using h2
theorem ready_nil {ops : Array Oper} {listed : Array Bool} (hf : forwardB ops = true) (hs : listed.size = ops.size) (h : Region.ready .any ops listed = []) : ∀ i, i < ops.size → listed.getD i false = true := by
  intro i
  induction i using Nat.strongRecOn with
  | ind i ih =>
    intro hi
    apply Classical.byContradiction
    intro hn
    have hmem : i ∈ Region.ready .any ops listed := by
      refine mem_ready.2 ⟨?_, ops[i], Array.getElem?_eq_getElem hi, fun e he hb => ?_⟩
      · have : i < listed.size := by omega
        simp [Array.getD, this] at hn ⊢
        exact hn
      · have hlt := forward_of hf (Array.getElem?_eq_getElem hi) e he hb
        exact ih e.on hlt (by omega)
    rw [h] at hmem
    cases hmem

/-- How many operations are left. -/
def left (listed : Array Bool) : Nat := listed.toList.count false
theorem left_set {listed : Array Bool} {i : Nat} (hi : i < listed.size) (h : listed.getD i false = false) : left (listed.setIfInBounds i true) + 1 = left listed := by
  unfold left
  have hx : listed.toList[i]'(by simpa using hi) = false := by simpa [Array.getD, hi] using h
  have hpos : 0 < listed.toList.count false := List.count_pos_iff.2 (by rw [← hx]; exact List.getElem_mem _)
  rw [Array.toList_setIfInBounds, List.count_set (by simpa using hi)]
  rw [hx]
  have e1 : (false == false) = true := rfl
  have e2 : (true == false) = false := rfl
  rw [e1, e2]
  simp only [if_true, Bool.false_eq_true, if_false]
  omega

theorem wpAnyH_inv {P : Program} {ops : Array Oper} {Q : Exit → Act → World → Prop} {Inv : (Nat → Bool) → Act → World → Prop} (hf : forwardB ops = true)
    (hstep : ∀ (i : Nat) (o : Oper) (L : Nat → Bool) (a : Act) (w : World), ops[i]? = some o → L i = false → (∀ e ∈ o.after, Region.binds .any e = true → L e.on = true) → Inv L a w → wpOp P ops Q i (fun a' w' => Inv (fun j => L j || decide (j = i)) a' w') a w)
    (hend : ∀ (L : Nat → Bool) (a : Act) (w : World), (∀ i, i < ops.size → L i = true) → Inv L a w → Q .normal a w) :
    ∀ (fuel : Nat) (listed : Array Bool) (a : Act) (w : World), listed.size = ops.size → left listed ≤ fuel → Inv (fun j => listed.getD j false) a w → wpAnyH P .any ops Q (fun _ => True) fuel listed a w
  | 0, listed, a, w, hs, hl, hI => by
    have hr : Region.ready .any ops listed = [] := by
      rw [List.eq_nil_iff_forall_not_mem]
      intro j hj
      obtain ⟨hun, oj, hoj, _⟩ := mem_ready.1 hj
      have hlt : j < listed.size := by have := (Array.getElem?_eq_some_iff.1 hoj).1; omega
      have : 0 < listed.toList.count false := List.count_pos_iff.2 (by
        have hx : listed.toList[j]'(by simpa using hlt) = false := by simpa [Array.getD, hlt] using hun
        rw [← hx]; exact List.getElem_mem _)
      unfold left at hl
      omega
    exact wpAnyH_done hr (hend _ _ _ (ready_nil hf hs hr) hI) 0
  | fuel + 1, listed, a, w, hs, hl, hI => by
    refine ⟨fun hr => hend _ _ _ (ready_nil hf hs hr) hI, fun j hj => ?_⟩
    obtain ⟨hun, oj, hoj, hall⟩ := mem_ready.1 hj
    have hlt : j < listed.size := by have := (Array.getElem?_eq_some_iff.1 hoj).1; omega
    have hun' : listed.getD j false = false := by simpa [Array.getD, hlt] using hun
    refine wpOp_mono (fun a' w' h' => ⟨trivial, wpAnyH_inv hf hstep hend fuel (listed.setIfInBounds j true) a' w' (by simpa using hs) ?_ ?_⟩) (hstep j oj (fun j => listed.getD j false) a w hoj hun' hall hI)
    · have := left_set hlt hun'
      omega
    · have : (fun k => (listed.setIfInBounds j true).getD k false) = fun k => listed.getD k false || decide (k = j) := by
        funext k
        by_cases hk : k = j
        · subst hk
          simp [Array.getD, hlt]
        · rw [getD_set_ne false (fun h => hk h.symm)]
          simp [hk]
      rw [this]
      exact h'

/-- **A region by its invariant.** -/
theorem wp_region_inv {P : Program} {id : Nat} {ops ops' : Array Oper} {Q : Exit → Act → World → Prop} {a : Act} {w : World} (Inv : (Nat → Bool) → Act → World → Prop) (he : ops = ops') (hm : P.follows .mixedOrders = true) (hf : forwardB ops' = true)
    (h0 : Inv (fun _ => false) a w.drew)
    (hstep : ∀ (i : Nat) (o : Oper) (L : Nat → Bool) (a : Act) (w : World), ops'[i]? = some o → L i = false → (∀ e ∈ o.after, Region.binds .any e = true → L e.on = true) → Inv L a w → wpOp P ops' (NoPanic Q) i (fun a' w' => Inv (fun j => L j || decide (j = i)) a' w') a w)
    (hend : ∀ (L : Nat → Bool) (a : Act) (w : World), (∀ i, i < ops'.size → L i = true) → Inv L a w → NoPanic Q .normal a w) : (Code.region id ops true).wp P Q a w := by
  subst he
  refine wp_region_noPanic (wp_region_held (S := fun _ => True) hm (wpAnyH_inv hf hstep hend _ _ _ _ (by simp) ?_ ?_))
  · unfold left
    exact Nat.le_trans List.count_le_length (by simp)
  · have : (fun j => (Array.replicate ops.size false).getD j false) = fun _ => false := by
      funext j
      simp [Array.getD]
    rw [this]
    exact h0

/-! The obligations: an operation that yields a value, a call met by its contract, an operation that is carried out, one that is not wanted. -/
theorem inv_value {P : Program} {ops : Array Oper} {Q : Exit → Act → World → Prop} {K : Act → World → Prop} {i : Nat} {a : Act} {w w' : World} {o : Oper} {v : Value} (ho : ops[i]? = some o) (hw : Region.wanted o (yielded ops a.tmps) = true)
    (hc : (execOp a.eval o).run P w = .ok (.value v) w') (h : K (a.put o.dst v) w') : wpOp P ops Q i K a w := by
  unfold wpOp
  simp only [ho, hw, if_true, Oper.wp, hc, Oper.upon]
  exact .inl h
theorem inv_skip {P : Program} {ops : Array Oper} {Q : Exit → Act → World → Prop} {K : Act → World → Prop} {i : Nat} {a : Act} {w : World} {o : Oper} (ho : ops[i]? = some o) (hw : Region.wanted o (yielded ops a.tmps) = false)
    (h : K (a.put o.dst undef) w) : wpOp P ops Q i K a w := by
  unfold wpOp
  simp only [ho, hw, Bool.false_eq_true, if_false]
  exact h
theorem inv_call {P : Program} {ops : Array Oper} {Q : Exit → Act → World → Prop} {K : Act → World → Prop} {i : Nat} {a : Act} {w : World} {o : Oper} {f : FuncId} {args : Array Value} {R : Ending → World → Prop} (ho : ops[i]? = some o) (hw : Region.wanted o (yielded ops a.tmps) = true)
    (hc : (execOp a.eval o).run P w = .ok (.enter f args) w) (hR : Calls P f args w R) (h : ∀ e w', R e w' → ∃ v, e = .returned v ∧ K (a.put o.dst v) w') : wpOp P ops Q i K a w := by
  unfold wpOp
  simp only [ho, hw, if_true, Oper.wp, hc, Oper.upon]
  refine .inl (hR.mono fun e w' hr => ?_)
  obtain ⟨v, rfl, h'⟩ := h e w' hr
  exact h'
theorem inv_step {P : Program} {ops : Array Oper} {Q : Exit → Act → World → Prop} {K : Act → World → Prop} {i : Nat} {a : Act} {w : World} {o : Oper} (ho : ops[i]? = some o) (hw : Region.wanted o (yielded ops a.tmps) = true)
    (h : ∀ K' : Act → World → Prop, Shut (∀ a w, K a w → K' a w) → o.wp P a w K' Q) : wpOp P ops Q i K a w := by
  unfold wpOp
  simp only [ho, hw, if_true]
  exact .inl (h _ (fun a w h => h))

theorem val_set_ne {t : Array Value} {k j : Nat} {v : Value} (h : k ≠ j) : (t.setIfInBounds k v).getD j undef = t.getD j undef := by
  simp [Array.getD_eq_getD_getElem?, h]
/-- a is a0 but for the slots ks. -/
structure FrameLike (a0 a : Act) (ks : List Nat) : Prop where
  defers : a.defers = a0.defers
  size : a.tmps.size = a0.tmps.size
  same : ∀ k, k ∉ ks → a.tmps.getD k undef = a0.tmps.getD k undef
theorem FrameLike.refl (a : Act) (ks : List Nat) : FrameLike a a ks := ⟨rfl, rfl, fun _ _ => rfl⟩
theorem FrameLike.put {a0 a : Act} {ks : List Nat} (h : FrameLike a0 a ks) {k : Nat} (hk : k ∈ ks) (v : Value) : FrameLike a0 (a.put (some k) v) ks :=
  ⟨h.defers, by simpa [Act.put] using h.size, fun j hj => by
    have hne : k ≠ j := fun e => hj (e ▸ hk)
    show (a.tmps.setIfInBounds k v).getD j undef = _
    rw [val_set_ne hne]
    exact h.same j hj⟩
theorem eval_put_same {a : Act} {k : Nat} {v : Value} (h : k < a.tmps.size) : (a.put (some k) v).eval (.tmp k) = v := by
  show (a.tmps.setIfInBounds k v).getD k undef = v
  simp [Array.getD, h]
theorem eval_put_ne {a : Act} {k j : Nat} {v : Value} (h : j ≠ k) : (a.put (some j) v).eval (.tmp k) = a.eval (.tmp k) := by
  show (a.tmps.setIfInBounds j v).getD k undef = a.tmps.getD k undef
  exact val_set_ne h
/-- Several slots, written one after the other. -/
def putK (a : Act) (l : List (Nat × Value)) : Act := l.foldl (fun a p => a.put (some p.1) p.2) a
theorem FrameLike.eq {a : Act} : ∀ {ks : List Nat} {a0 : Act}, FrameLike a0 a ks → a = putK a0 (ks.map fun k => (k, a.eval (.tmp k)))
  | [], a0, h => by
    obtain ⟨t0, d0⟩ := a0
    obtain ⟨t, d⟩ := a
    have h1 : d = d0 := h.defers
    subst h1
    have h2 : t.size = t0.size := h.size
    have h3 : t = t0 := by
      apply Array.ext h2
      intro i h4 h5
      have := h.same i (by simp)
      simpa [Array.getD, h4, h5] using this
    rw [h3]
    rfl
  | k :: ks, a0, h => by
    have h1 : FrameLike (a0.put (some k) (a.eval (.tmp k))) a ks := by
      refine ⟨h.defers, by simpa [Act.put] using h.size, fun j hj => ?_⟩
      show _ = (a0.tmps.setIfInBounds k _).getD j undef
      by_cases hjk : k = j
      · subst hjk
        by_cases hlt : k < a0.tmps.size
        · have : (a0.tmps.setIfInBounds k (a.eval (.tmp k))).getD k undef = a.eval (.tmp k) := by simp [Array.getD, hlt]
          rw [this]
          rfl
        · have h1 : ¬ k < a.tmps.size := by rw [h.size]; exact hlt
          simp [Array.getD, hlt, h1]
      · rw [val_set_ne hjk]
        exact h.same j (by simp [hj, Ne.symm hjk])
    have h2 := FrameLike.eq (ks := ks) (a0 := a0.put (some k) (a.eval (.tmp k))) h1
    exact h2
theorem region_gen {P : Program} {c : Code} {Q : Exit → Act → World → Prop} {a : Act} {w : World} (h : ∀ a0, RowKit.Hid (a0 = a) → c.wp P Q a0 w) : c.wp P Q a w := h a rfl
theorem wp_region_inv0 {P : Program} {id : Nat} {ops ops' : Array Oper} {Q : Exit → Act → World → Prop} {a : Act} {w : World} (Inv : (Nat → Bool) → Act → World → Prop) (he : ops = ops') (hm : P.follows .mixedOrders = true) (hf : forwardB ops' = true)
    (h0 : Inv (fun _ => false) a w.drew)
    (hstep : ∀ (i : Nat) (o : Oper) (L : Nat → Bool) (a1 : Act) (w : World), ops'[i]? = some o → L i = false → (∀ e ∈ o.after, Region.binds .any e = true → L e.on = true) → Inv L a1 w → wpOp P ops' (NoPanic Q) i (fun a' w' => Inv (fun j => L j || decide (j = i)) a' w') a1 w)
    (hend : ∀ (L : Nat → Bool) (a1 : Act) (w : World), (∀ i, i < ops'.size → L i = true) → Inv L a1 w → NoPanic Q .normal a1 w) : (Code.region id ops true).wp P Q a w :=
  wp_region_inv Inv he hm hf h0 hstep hend
theorem eval_spell {a : Act} {k : Nat} {v : Value} (h : a.eval (.tmp k) = v) : a.tmps[k]?.getD undef = v := by
  rw [← h]
  show _ = a.tmps.getD k undef
  rw [Array.getD_eq_getD_getElem?]
theorem inv_or {x y : Bool} (h : x = true) : (x || y) = true := by rw [h]; rfl
/-- The block that a pointer or a slice leads into. -/
def blkOf : Value → Option Nat
  | .pointer (some a) => some a.block
  | .slice (some a) _ _ => some a.block
  | _ => none
theorem inv_ne {x x' y y' : Value} (h1 : x' = x) (h2 : y' = y) (h : blkOf x ≠ blkOf y) : blkOf x' ≠ blkOf y' := by rw [h1, h2]; exact h

/-! A region whose reads have values that are known from the beginning, and whose other operations (calls, allocations, stores) lead from state to state. -/
/-- What holds when the operations of L have been carried out. -/
structure RInv (ops : Array Oper) (a0 : Act) (ks : List Nat) (vals : List (Nat × Nat × Value)) (E : (Nat → Bool) → (Nat → Value) → World → Prop) (L : Nat → Bool) (a : Act) (w : World) : Prop where
  frame : FrameLike a0 a ks
  vals : ∀ t ∈ vals, L t.1 = true → a.eval (.tmp t.2.1) = t.2.2
  down : ∀ j o, ops[j]? = some o → L j = true → ∀ e ∈ o.after, Region.binds .any e = true → L e.on = true
  eff : E L (fun d => a.eval (.tmp d)) w

/-- E looks at the operations effs and at the slots ds alone. -/
def Looks (E : (Nat → Bool) → (Nat → Value) → World → Prop) (effs ds : List Nat) : Prop :=
  ∀ L L' g g' w, (∀ k ∈ effs, L k = L' k) → (∀ d ∈ ds, g d = g' d) → E L g w → E L' g' w

theorem down_step {ops : Array Oper} {L : Nat → Bool} {i : Nat} {o : Oper} (hd : ∀ j o, ops[j]? = some o → L j = true → ∀ e ∈ o.after, Region.binds .any e = true → L e.on = true) (ho : ops[i]? = some o)
    (h : ∀ e ∈ o.after, Region.binds .any e = true → L e.on = true) : ∀ j o, ops[j]? = some o → (L j || decide (j = i)) = true → ∀ e ∈ o.after, Region.binds .any e = true → (L e.on || decide (e.on = i)) = true := by
  intro j oj hoj hL e he hb
  by_cases hj : j = i
  · subst hj
    rw [ho] at hoj
    injection hoj with hoj
    subst hoj
    rw [h e he hb]; rfl
  · have hL' : L j = true := by simpa [hj] using hL
    rw [hd j oj hoj hL' e he hb]; rfl
/-- A read is carried out. -/
theorem RInv.read {P : Program} {ops : Array Oper} {Q : Exit → Act → World → Prop} {a0 a : Act} {ks : List Nat} {vals : List (Nat × Nat × Value)} {E : (Nat → Bool) → (Nat → Value) → World → Prop} {L : Nat → Bool} {w : World} {effs ds : List Nat}
    (hI : RInv ops a0 ks vals E L a w) (hE : Looks E effs ds) (i d : Nat) (v : Value) {o : Oper} (ho : ops[i]? = some o) (hdst : o.dst = some d) (hw : Region.wanted o (yielded ops a.tmps) = true)
    (hdep : ∀ e ∈ o.after, Region.binds .any e = true → L e.on = true) (hks : d ∈ ks) (hlt : d < a0.tmps.size) (hni : i ∉ effs) (hnd : d ∉ ds)
    (hv : ∀ t ∈ vals, (t.1 = i → t.2.1 = d ∧ t.2.2 = v) ∧ (t.1 ≠ i → t.2.1 ≠ d))
    (hc : (execOp a.eval o).run P w = .ok (.value v) w) : wpOp P ops (NoPanic Q) i (fun a' w' => RInv ops a0 ks vals E (fun j => L j || decide (j = i)) a' w') a w := by
  refine inv_value ho hw hc ?_
  rw [hdst]
  have hsz : d < a.tmps.size := by rw [hI.frame.size]; exact hlt
  refine ⟨hI.frame.put hks v, fun t ht hL => ?_, down_step hI.down ho hdep, hE _ _ _ _ _ (fun k hk => ?_) (fun e he => ?_) hI.eff⟩
  · obtain ⟨h1, h2⟩ := hv t ht
    by_cases hti : t.1 = i
    · obtain ⟨h3, h4⟩ := h1 hti
      rw [h3, h4]
      exact eval_put_same hsz
    · rw [eval_put_ne (fun e => h2 hti e.symm)]
      exact hI.vals t ht (by simpa [hti] using hL)
  · have : k ≠ i := fun e => hni (e ▸ hk)
    simp [this]
  · exact (eval_put_ne (fun e' => hnd (by rw [e']; exact he))).symm
/-- What remains to be shown of an operation that is no read, and yields a value. -/
theorem RInv.put {ops : Array Oper} {a0 a : Act} {ks : List Nat} {vals : List (Nat × Nat × Value)} {E : (Nat → Bool) → (Nat → Value) → World → Prop} {L : Nat → Bool} {w w' : World}
    (hI : RInv ops a0 ks vals E L a w) (i d : Nat) (v : Value) {o : Oper} (ho : ops[i]? = some o) (hdep : ∀ e ∈ o.after, Region.binds .any e = true → L e.on = true) (hks : d ∈ ks)
    (hv : ∀ t ∈ vals, t.1 ≠ i ∧ t.2.1 ≠ d)
    (h : E (fun j => L j || decide (j = i)) (fun e => (a.put (some d) v).eval (.tmp e)) w') : RInv ops a0 ks vals E (fun j => L j || decide (j = i)) (a.put (some d) v) w' := by
  refine ⟨hI.frame.put hks v, fun t ht hL => ?_, down_step hI.down ho hdep, h⟩
  obtain ⟨h1, h2⟩ := hv t ht
  rw [eval_put_ne (fun e => h2 e.symm)]
  exact hI.vals t ht (by simpa [h1] using hL)
/-- .. and of one that yields none. -/
theorem RInv.step {ops : Array Oper} {a0 a : Act} {ks : List Nat} {vals : List (Nat × Nat × Value)} {E : (Nat → Bool) → (Nat → Value) → World → Prop} {L : Nat → Bool} {w w' : World}
    (hI : RInv ops a0 ks vals E L a w) (i : Nat) {o : Oper} (ho : ops[i]? = some o) (hdep : ∀ e ∈ o.after, Region.binds .any e = true → L e.on = true)
    (hv : ∀ t ∈ vals, t.1 ≠ i) (h : E (fun j => L j || decide (j = i)) (fun e => a.eval (.tmp e)) w') : RInv ops a0 ks vals E (fun j => L j || decide (j = i)) a w' :=
  ⟨hI.frame, fun t ht hL => hI.vals t ht (by simpa [hv t ht] using hL), down_step hI.down ho hdep, h⟩
theorem RInv.val {ops : Array Oper} {a0 a : Act} {ks : List Nat} {vals : List (Nat × Nat × Value)} {E : (Nat → Bool) → (Nat → Value) → World → Prop} {L : Nat → Bool} {w : World}
    (hI : RInv ops a0 ks vals E L a w) (i d : Nat) (v : Value) (ht : (i, d, v) ∈ vals) (hL : L i = true) : a.tmps[d]?.getD undef = v := eval_spell (hI.vals (i, d, v) ht hL)
theorem RInv.old {ops : Array Oper} {a0 a : Act} {ks : List Nat} {vals : List (Nat × Nat × Value)} {E : (Nat → Bool) → (Nat → Value) → World → Prop} {L : Nat → Bool} {w : World}
    (hI : RInv ops a0 ks vals E L a w) (d : Nat) (v : Value) (hd : d ∉ ks) (h0 : a0.eval (.tmp d) = v) : a.tmps[d]?.getD undef = v := eval_spell ((hI.frame.same d hd).trans h0)
/-- **A region by its reads and its other operations.** -/
theorem wp_region_vals {P : Program} {id : Nat} {ops ops' : Array Oper} {Q : Exit → Act → World → Prop} {a : Act} {w : World} (ks : List Nat) (vals : List (Nat × Nat × Value)) (E : (Nat → Bool) → (Nat → Value) → World → Prop) (he : ops = ops') (hm : P.follows .mixedOrders = true) (hf : forwardB ops' = true)
    (h0 : E (fun _ => false) (fun d => a.eval (.tmp d)) w.drew)
    (hstep : ∀ (i : Nat) (o : Oper) (L : Nat → Bool) (a1 : Act) (w : World), ops'[i]? = some o → L i = false → (∀ e ∈ o.after, Region.binds .any e = true → L e.on = true) → RInv ops' a ks vals E L a1 w → wpOp P ops' (NoPanic Q) i (fun a' w' => RInv ops' a ks vals E (fun j => L j || decide (j = i)) a' w') a1 w)
    (hend : ∀ (L : Nat → Bool) (a1 : Act) (w : World), (∀ i, i < ops'.size → L i = true) → RInv ops' a ks vals E L a1 w → NoPanic Q .normal a1 w) : (Code.region id ops true).wp P Q a w :=
  wp_region_inv (fun L a1 w1 => RInv ops' a ks vals E L a1 w1) he hm hf ⟨FrameLike.refl _ _, fun _ _ h => (nomatch h), fun _ _ _ h => (nomatch h), h0⟩ hstep hend
def opsOf : Code → Nat → Option (Array Oper)
  | .region id ops _, n => if id = n then some ops else none
  | .seq a b, n => match opsOf a n with | some r => some r | none => opsOf b n
  | .cond _ a b, n => match opsOf a n with | some r => some r | none => opsOf b n
  | .block _ c, n => opsOf c n
  | .loop c, n => opsOf c n
  | .rangeFunc _ _ a b, n => match opsOf a n with | some r => some r | none => opsOf b n
  | .scope c, n => opsOf c n
  | _, _ => none
/-- i waits for j. -/
def waitsB (ops : Array Oper) (i j : Nat) : Bool := match ops[i]? with
  | some o => o.after.any fun e => Region.binds .any e && e.on == j
  | none => false
theorem waits_of {ops : Array Oper} {i j : Nat} (h : waitsB ops i j = true) : ∃ o e, ops[i]? = some o ∧ e ∈ o.after ∧ Region.binds .any e = true ∧ e.on = j := by
  unfold waitsB at h
  split at h
  · rename_i o ho
    obtain ⟨k, hk, he⟩ := Array.any_iff_exists.1 h
    obtain ⟨hk2, _, h3⟩ := he
    simp only [Bool.and_eq_true, beq_iff_eq] at h3
    exact ⟨o, _, ho, Array.getElem_mem _, h3.1, h3.2⟩
  · cases h
theorem RInv.no {ops : Array Oper} {a0 a : Act} {ks : List Nat} {vals : List (Nat × Nat × Value)} {E : (Nat → Bool) → (Nat → Value) → World → Prop} {L : Nat → Bool} {w : World}
    (hI : RInv ops a0 ks vals E L a w) {i j : Nat} (hL : L i = false) (h : waitsB ops j i = true) : L j = false := by
  obtain ⟨o, e, h1, h2, h3, h4⟩ := waits_of h
  cases hj : L j
  · rfl
  · rw [← h4, hI.down j o h1 hj e h2 h3] at hL
    cases hL
theorem RInv.yes {ops : Array Oper} {a0 a : Act} {ks : List Nat} {vals : List (Nat × Nat × Value)} {E : (Nat → Bool) → (Nat → Value) → World → Prop} {L : Nat → Bool} {w : World}
    (hI : RInv ops a0 ks vals E L a w) {i j : Nat} (hL : L i = true) (h : waitsB ops i j = true) : L j = true := by
  obtain ⟨o, e, h1, h2, h3, h4⟩ := waits_of h
  rw [← h4]
  exact hI.down i o h1 hL e h2 h3
theorem dep_of {ops : Array Oper} {L : Nat → Bool} {i j : Nat} {o : Oper} (ho : ops[i]? = some o) (hdep : ∀ e ∈ o.after, Region.binds .any e = true → L e.on = true) (h : waitsB ops i j = true) : L j = true := by
  obtain ⟨o', e, h1, h2, h3, h4⟩ := waits_of h
  rw [ho] at h1
  injection h1 with h1
  subst h1
  rw [← h4]
  exact hdep e h2 h3
theorem nodup_at {α : Type} {l : List α} (h : l.Nodup) {i j : Nat} {x : α} (hi : l[i]? = some x) (hj : l[j]? = some x) : i = j := by
  obtain ⟨h1, h2⟩ := List.getElem?_eq_some_iff.1 hi
  obtain ⟨h3, h4⟩ := List.getElem?_eq_some_iff.1 hj
  exact (List.getElem_inj (h := h) ).1 (h2.trans h4.symm)
theorem vals_at {vals : List (Nat × Nat × Value)} (h1 : (vals.map (·.1)).Nodup) (h2 : (vals.map (·.2.1)).Nodup) (m : Nat) {i d : Nat} {v : Value} (hm : vals[m]? = some (i, d, v)) : ∀ t ∈ vals, (t.1 = i → t.2.1 = d ∧ t.2.2 = v) ∧ (t.1 ≠ i → t.2.1 ≠ d) := by
  intro t ht
  obtain ⟨j, hj⟩ := List.getElem?_of_mem ht
  refine ⟨fun e => ?_, fun hne e => ?_⟩
  · have : m = j := nodup_at h1 (x := i) (by rw [List.getElem?_map, hm]; rfl) (by rw [List.getElem?_map, hj]; exact congrArg some e)
    subst this
    rw [hm] at hj
    injection hj with hj
    subst hj
    exact ⟨rfl, rfl⟩
  · have : m = j := nodup_at h2 (x := d) (by rw [List.getElem?_map, hm]; rfl) (by rw [List.getElem?_map, hj]; exact congrArg some e)
    subst this
    rw [hm] at hj
    injection hj with hj
    subst hj
    exact hne rfl
theorem vals_ne1 {vals : List (Nat × Nat × Value)} {l1 : List Nat} {i : Nat} (h1 : vals.map (·.1) = l1) (hi : i ∉ l1) {t : Nat × Nat × Value} (ht : t ∈ vals) : t.1 ≠ i := by
  intro e
  refine hi ?_
  rw [← h1, ← e]
  exact List.mem_map.2 ⟨t, ht, rfl⟩
theorem vals_ne2 {vals : List (Nat × Nat × Value)} {l1 l2 : List Nat} {i d : Nat} (h1 : vals.map (·.1) = l1) (h2 : vals.map (·.2.1) = l2) (hi : i ∉ l1) (hd : d ∉ l2) {t : Nat × Nat × Value} (ht : t ∈ vals) : t.1 ≠ i ∧ t.2.1 ≠ d := by
  refine ⟨vals_ne1 h1 hi ht, fun e => hd ?_⟩
  rw [← h2, ← e]
  exact List.mem_map.2 ⟨t, ht, rfl⟩
end Go.Proofs.Ytodabeibdgancaa
/- A drawn region in a round of a range over a function, by its reads and its other operations. -/
namespace Go.Proofs.Ytodabeibdgancaa
open Go Go.RowKit
theorem wpOpIn_of {P : Program} {l n : Nat} {ops : Array Oper} {Q : Exit → Act → World → Prop} {i : Nat} {K : Act → World → Prop} {a : Act} {w : World} {o : Oper} (ho : ops[i]? = some o) (hnd : ∀ c, o.op ≠ .defer c)
    (hq : ∀ a w, ¬ Q .outgrown a w) (h : wpOp P ops (NoPanic Q) i K a w) : wpOpIn (Fence.wide.inRound l) n P ops Q i K a w := by
  unfold wpOp at h
  unfold wpOpIn
  simp only [ho] at h ⊢
  by_cases hw : Region.wanted o (yielded ops a.tmps) = true
  · rw [if_pos hw] at h ⊢
    rcases h with h | ⟨_, a', w', h⟩
    · refine ⟨fun _ _ => trivial, ?_⟩
      rw [Oper.semAt_plain _ _ _ hnd]
      unfold Oper.wp at h
      revert h
      generalize (execOp a.eval o).run P w = r
      intro h
      cases r with
      | ok x w' =>
        cases x with
        | enter f args =>
          refine ⟨(fun hh => by cases hh), CallsIn.inRound l (callsIn_wide.2 (Calls.mono h (fun e w'' he => ?_)))⟩
          cases e with
          | returned v => exact he
          | panicked c => exact (he : False).elim
          | outgrown => exact he
        | row row args =>
          refine ⟨(fun hh => by cases hh), fun c cs _ => ?_⟩
          obtain ⟨v, w'', r, s⟩ := h c cs
          exact ⟨v, w'', r, stepsIn_wide.2 s⟩
        | value v => exact h
        | skip => exact h
        | defer d => exact h
        | _ => exact (h : False).elim
      | halt x w' => cases x <;> exact (h : False).elim
    · exact (hq _ _ h).elim
  · rw [if_neg hw] at h ⊢
    exact ⟨fun _ _ => trivial, h⟩
theorem wpAnyIn_inv {F : Fence} {n : Nat} {P : Program} {ops : Array Oper} {Q : Exit → Act → World → Prop} {Inv : (Nat → Bool) → Act → World → Prop} (hf : forwardB ops = true)
    (hstep : ∀ (i : Nat) (o : Oper) (L : Nat → Bool) (a : Act) (w : World), ops[i]? = some o → L i = false → (∀ e ∈ o.after, Region.binds .any e = true → L e.on = true) → Inv L a w → wpOpIn F n P ops Q i (fun a' w' => Inv (fun j => L j || decide (j = i)) a' w') a w)
    (hend : ∀ (L : Nat → Bool) (a : Act) (w : World), (∀ i, i < ops.size → L i = true) → Inv L a w → Q .normal a w) :
    ∀ (fuel : Nat) (listed : Array Bool) (a : Act) (w : World), listed.size = ops.size → left listed ≤ fuel → Inv (fun j => listed.getD j false) a w → wpAnyIn F n P .any ops Q fuel listed a w
  | 0, listed, a, w, hs, hl, hI => by
    have hr : Region.ready .any ops listed = [] := by
      rw [List.eq_nil_iff_forall_not_mem]
      intro j hj
      obtain ⟨hun, oj, hoj, _⟩ := mem_ready.1 hj
      have hlt : j < listed.size := by have := (Array.getElem?_eq_some_iff.1 hoj).1; omega
      have : 0 < listed.toList.count false := List.count_pos_iff.2 (by
        have hx : listed.toList[j]'(by simpa using hlt) = false := by simpa [Array.getD, hlt] using hun
        rw [← hx]; exact List.getElem_mem _)
      unfold left at hl
      omega
    exact wpAnyIn_done hr (hend _ _ _ (ready_nil hf hs hr) hI) 0
  | fuel + 1, listed, a, w, hs, hl, hI => by
    refine ⟨fun hr => hend _ _ _ (ready_nil hf hs hr) hI, fun j hj => ?_⟩
    obtain ⟨hun, oj, hoj, hall⟩ := mem_ready.1 hj
    have hlt : j < listed.size := by have := (Array.getElem?_eq_some_iff.1 hoj).1; omega
    have hun' : listed.getD j false = false := by simpa [Array.getD, hlt] using hun
    refine wpOpIn_mono (fun a' w' h' => wpAnyIn_inv hf hstep hend fuel (listed.setIfInBounds j true) a' w' (by simpa using hs) ?_ ?_) (hstep j oj (fun j => listed.getD j false) a w hoj hun' hall hI)
    · have := left_set hlt hun'
      omega
    · have : (fun k => (listed.setIfInBounds j true).getD k false) = fun k => listed.getD k false || decide (k = j) := by
        funext k
        by_cases hk : k = j
        · subst hk
          simp [Array.getD, hlt]
        · rw [getD_set_ne false (fun h => hk h.symm)]
          simp [hk]
      rw [this]
      exact h'
def noDeferB (ops : Array Oper) : Bool := ops.all fun o => match o.op with | .defer _ => false | _ => true
theorem noDefer_of {ops : Array Oper} (h : noDeferB ops = true) {i : Nat} {o : Oper} (ho : ops[i]? = some o) : ∀ c, o.op ≠ .defer c := by
  intro c hc
  unfold noDeferB at h
  obtain ⟨hi, rfl⟩ := Array.getElem?_eq_some_iff.1 ho
  have := Array.all_eq_true.1 h i hi
  rw [hc] at this
  cases this
theorem wpIn_region_vals {P : Program} {l n : Nat} {id : Nat} {ops ops' : Array Oper} {Q : Exit → Act → World → Prop} {a : Act} {w : World} (ks : List Nat) (vals : List (Nat × Nat × Value)) (E : (Nat → Bool) → (Nat → Value) → World → Prop) (he : ops = ops') (hm : P.follows .mixedOrders = true) (hf : forwardB ops' = true) (hnd : noDeferB ops' = true)
    (hq : ∀ a w, ¬ Q .outgrown a w)
    (h0 : E (fun _ => false) (fun d => a.eval (.tmp d)) w.drew)
    (hstep : ∀ (i : Nat) (o : Oper) (L : Nat → Bool) (a1 : Act) (w : World), ops'[i]? = some o → L i = false → (∀ e ∈ o.after, Region.binds .any e = true → L e.on = true) → RInv ops' a ks vals E L a1 w → wpOp P ops' (NoPanic Q) i (fun a' w' => RInv ops' a ks vals E (fun j => L j || decide (j = i)) a' w') a1 w)
    (hend : ∀ (L : Nat → Bool) (a1 : Act) (w : World), (∀ i, i < ops'.size → L i = true) → RInv ops' a ks vals E L a1 w → Q .normal a1 w) : (Code.region id ops true).wpIn (Fence.wide.inRound l) n P Q a w := by
  subst he
  refine wpIn_region_any hm (wpAnyIn_inv (Inv := fun L a1 w1 => RInv ops a ks vals E L a1 w1) hf (fun i o L a1 w1 ho hL hdep hI => wpOpIn_of ho (noDefer_of hnd ho) hq (hstep i o L a1 w1 ho hL hdep hI)) hend _ _ _ _ (by simp) ?_ ?_)
  · unfold left
    exact Nat.le_trans List.count_le_length (by simp)
  · have : (fun j => (Array.replicate ops.size false).getD j false) = fun _ => false := by
      funext j
      simp [Array.getD]
    rw [this]
    exact ⟨FrameLike.refl _ _, fun _ _ h => (nomatch h), fun _ _ _ h => (nomatch h), h0⟩
end Go.Proofs.Ytodabeibdgancaa
/- Sort's comparison. -/
namespace Go.Proofs.Ytodabeibdgancaa
open Go Go.RowKit
set_option maxHeartbeats 4000000 in
set_option maxRecDepth 20000 in
theorem sort1_calls (os : List Od) (X Y : Rw) (sx sy so : Value) (bo m : Nat) (w : World) (hx : ValsAt w X sx) (hy : ValsAt w Y sy) (ho : OrdsAt w os so) (hbo : w.cell? ⟨bo, 0, none⟩ = some so) (hlX : X.length = m) (hlY : Y.length = m) (hf : OrdsFit os m) :
    Calls Try.prog 24 #[sx, sy, .pointer (some ⟨bo, 0, none⟩)] w fun e w' => e = .returned (.int .i64 (ordC os X Y)) ∧ Below w.heap.size w w' := by
  obtain ⟨ax, nx, cx, rfl, hnx, hmx⟩ := hx.shape
  obtain ⟨ay, ny, cy, rfl, hny, hmy⟩ := hy.shape
  obtain ⟨ao, no, co, rfl, hno, hmo⟩ := ho.shape
  have HX := Lib.hid hx
  have HY := Lib.hid hy
  have HO := Lib.hid ho
  have HN := Lib.hid (show nx = m ∧ ny = m ∧ no = os.length ∧ X.length = m ∧ Y.length = m from ⟨by omega, by omega, hno, hlX, hlY⟩)
  have HF := Lib.hid hf
  unfold maxLen at hmx hmy hmo
  have hbl := World.block_lt_of_cell? w _ hbo
  clear hx hy ho hnx hny hno hlX hlY hf
  have HD := Lib.hid (fun w' (hb : Below w.heap.size w w') => compareRows_calls X Y _ _ w' (HX.out.mono hb) (HY.out.mono hb))
  have HP := Lib.hid (fun (a : Int) w' => compare2_calls a 0 w')
  go_enter Try.func24, Try.ntmps24
  go_wp2
  go_loopw [11] (fun z wr => ∃ k : Nat, k ≤ no ∧ z = .int .i64 k ∧ RowKit.Hid (ordC os X Y = ordC (os.drop k) X Y) ∧ RowKit.Hid (Below w.heap.size w wr)) (fun z _ => no - (intOf z).toNat)
  case atStart => exact ⟨0, Nat.zero_le _, rfl, rfl, Below.refl _ _⟩
  case round =>
    obtain ⟨k, hk, rfl, He, Hb⟩ := hrel
    by_cases hlt : k < no
    · have hkl : k < os.length := by have := HN.out; omega
      obtain ⟨b, o, rfl, hblt, c0, c1⟩ := (HO.out.mono Hb.out).at k hkl
      have hfk := HF.out os[k] (List.getElem_mem _)
      have hstep := ordC_drop hkl X Y
      obtain ⟨od, hod⟩ : ∃ od, os[k] = od := ⟨_, rfl⟩
      rw [hod] at hfk hstep c0 c1
      have hkm : od.k < m := by unfold Od.k; omega
      have hkX : od.k < X.length := by have := HN.out; omega
      have hkY : od.k < Y.length := by have := HN.out; omega
      obtain ⟨bx, ox, rfl⟩ := HX.out.has od.k (by have := HN.out; omega)
      obtain ⟨bY, oy, rfl⟩ := HY.out.has od.k (by have := HN.out; omega)
      obtain ⟨x0, x1, x2⟩ := (HX.out.mono Hb.out).cell od.k hkX
      obtain ⟨y0, y1, y2⟩ := (HY.out.mono Hb.out).cell od.k hkY
      have hltx := (HX.out.mono Hb.out).lt hkX
      have hlty := (HY.out.mono Hb.out).lt hkY
      have hcv : od.c X Y = if od.desc then - cmpV X[od.k] Y[od.k] else cmpV X[od.k] Y[od.k] := by
        unfold Od.c
        rw [List.getD_eq_getElem?_getD, List.getD_eq_getElem?_getD, List.getElem?_eq_getElem hkX, List.getElem?_eq_getElem hkY]
        rfl
      have HCv := Lib.hid hcv
      have HSt := Lib.hid hstep
      have HC := Lib.hid (fun w' => cmpV_calls X[od.k] Y[od.k] w')
      have hrg := cmpV_range X[od.k] Y[od.k]
      have Hrg := Lib.hid hrg
      generalize X[od.k] = x at *
      generalize Y[od.k] = y at *
      generalize cmpV x y = r at *
      obtain ⟨q, hq⟩ : ∃ q, od.k = q := ⟨_, rfl⟩
      have hqi : od.item - 1 = q := by rw [← hq]; unfold Od.k; omega
      rw [hq] at x0 x1 x2 y0 y1 y2 hkm
      obtain ⟨it, hit⟩ : ∃ it, od.item = it := ⟨_, rfl⟩
      obtain ⟨ds, hds⟩ : ∃ ds, od.desc = ds := ⟨_, rfl⟩
      rw [hit] at c0 hqi
      rw [hds] at c1 HCv
      have e1 : IntKind.i64.wrap (it - 1) = q := by rw [hqi]; exact IntWalk.i64_in _ (by have := HN.out; omega)
      have Hnx : RowKit.Hid (nx = m ∧ ny = m) := Lib.hid ⟨HN.out.1, HN.out.2.1⟩
      have i1 : (0 : Int) ≤ q := by omega
      have i2 : (q : Int) < nx := by have := Hnx.out; omega
      have i3 : (q : Int) < ny := by have := Hnx.out; omega
      have V := VarIs.new wr #[.int .i64 it, .bool ds] 68
      have hb1 : Below w.heap.size w (wr.alloc (.cells #[.int .i64 it, .bool ds] 68)) := Hb.out.alloc Hb.out.size _
      clear hcv hstep hod hfk hkX hkY hrg hq hqi hit hds hkl hkm
      go_upto_region 4 with (fail)
      obtain ⟨v1, v2, v3⟩ := V
      have d0 := v2 0
      have d1 := v2 1
      simp only [List.getElem?_toArray, List.getElem?_cons_zero, List.getElem?_cons_succ] at d0 d1
      have hsz : wr.heap.size < (wr.alloc (.cells #[.int .i64 it, .bool ds] 68)).heap.size := by simp
      have hbw := (Below.refl wr.heap.size wr).alloc (Nat.le_refl _) (.cells #[.int .i64 it, .bool ds] 68)
      replace x0 := (hbw.cell (p := ⟨bx, ox + q * 3, none⟩) hltx).trans x0
      replace x1 := (hbw.cell (p := ⟨bx, ox + q * 3 + 1, none⟩) hltx).trans x1
      replace x2 := (hbw.cell (p := ⟨bx, ox + q * 3 + 2, none⟩) hltx).trans x2
      replace y0 := (hbw.cell (p := ⟨bY, oy + q * 3, none⟩) hlty).trans y0
      replace y1 := (hbw.cell (p := ⟨bY, oy + q * 3 + 1, none⟩) hlty).trans y1
      replace y2 := (hbw.cell (p := ⟨bY, oy + q * 3 + 2, none⟩) hlty).trans y2
      replace hltx := Nat.lt_of_lt_of_le hltx hbw.size
      replace hlty := Nat.lt_of_lt_of_le hlty hbw.size
      have Hb1 := Lib.hid hb1
      obtain ⟨bw, hbw0⟩ : ∃ bw, wr.heap.size = bw := ⟨_, rfl⟩
      rw [hbw0] at d0 d1 hsz
      simp only [hbw0]
      clear v1 v2 v3 hbw c0 c1 hblt hb1 hbw0 hbl hbo
      generalize wr.alloc (.cells #[.int .i64 it, .bool ds] 68) = W0 at *
      go_cut [8] from 15 to 27 (fun z wx => z = .int .i64 r ∧ RowKit.Hid (Below W0.heap.size W0 wx))
      case first =>
        go_region_held3 (fun w' => Below W0.heap.size W0 w' ∧ ∀ b o, b < W0.heap.size → w'.cell? ⟨b, o, none⟩ = W0.cell? ⟨b, o, none⟩)
          (first | assumption | exact S_of (Below.drew (Below.refl _ _)) | exact S_step (by assumption) (by assumption))
          (first | (go_at_call 20; (with_reducible refine (HC.out _).mono ?_); rintro e w1 ⟨rfl, hb1⟩))
        all_goals
          rename_i hH
          have Hbb := Lib.hid hH.1
          clear hH
          go_step
          go_step
          go_meet
          exact ⟨rfl, Hbb⟩
      obtain ⟨rfl, Hbb⟩ := hcut
      have Hb2 := Lib.hid (Hb1.out.trans (Hbb.out.mono Hb1.out.size))
      have d1' := (Hbb.out.cell (p := ⟨bw, 1, none⟩) hsz).trans d1
      have hsz' := Nat.lt_of_lt_of_le hsz Hbb.out.size
      clear d0 d1 hsz x0 x1 x2 y0 y1 y2 hltx hlty Hbb HC e1 i1 i2 i3
      by_cases hr : r = 0
      · subst hr
        have HE : RowKit.Hid (ordC os X Y = ordC (os.drop (k + 1)) X Y) := Lib.hid (by rw [He.out, HSt.out, HCv.out]; cases ds <;> simp)
        clear He HSt HCv Hrg
        cases ds
        all_goals
          go_wp2
          go_roundw
          case rel => exact ⟨k + 1, by omega, by go_num, HE, Hb2⟩
          case measure => simp [intOf]; omega
      · have h1 : (r != 0) = true := by simpa using hr
        have h2 : (-r != 0) = true := by simp; omega
        have h3 : -9223372036854775808 ≤ -r := by have := Hrg.out; omega
        have h4 : -r ≤ 9223372036854775807 := by have := Hrg.out; omega
        have HE : RowKit.Hid (ordC os X Y = if ds then -r else r) := Lib.hid (by rw [He.out, HSt.out, HCv.out, if_neg]; cases ds <;> simp <;> omega)
        clear He HSt HCv Hrg hr
        cases ds
        all_goals
          go_wp2
          go_ret
          exact ⟨by rw [HE.out]; rfl, Hb2.out⟩
    · obtain rfl : k = no := by omega
      have HE : RowKit.Hid (ordC os X Y = cmpR X Y) := Lib.hid (by rw [He.out, List.drop_of_length_le (by have := HN.out; omega)]; rfl)
      have Hrg := Lib.hid (cmpR_range X Y)
      generalize cmpR X Y = r at *
      clear He hbo HO hmo hlt hk
      go_wp2_with fail
      (with_reducible refine (HD.out _ Hb.out).mono ?_)
      rintro e w1 ⟨rfl, hb1⟩
      have Hb1 := Lib.hid (Hb.out.trans (hb1.mono Hb.out.size))
      clear hb1
      go_wp2_with fail
      (with_reducible refine (HP.out r _).mono ?_)
      rintro e w2 ⟨rfl, rfl⟩
      go_wp2
      go_ret
      refine ⟨?_, Hb1.out⟩
      have hr : cmpS r 0 = r := by rcases Hrg.out with h | h | h <;> rw [h] <;> rfl
      show Ending.returned (.int .i64 (cmpS r 0)) = _
      rw [hr, HE.out]
end Go.Proofs.Ytodabeibdgancaa
/- The reference's comparison of rows. -/
namespace Go.Proofs.Ytodabeibdgancaa
open Go Go.RowKit
set_option maxHeartbeats 4000000 in
set_option maxRecDepth 20000 in
theorem before_calls (os : List Od) (X Y : Rw) (sx sy so : Value) (m : Nat) (w : World) (hx : ValsAt w X sx) (hy : ValsAt w Y sy) (ho : OrdsAt w os so) (hlX : X.length = m) (hlY : Y.length = m) (hf : OrdsFit os m) :
    Calls Try.prog 28 #[sx, sy, so] w fun e w' => e = .returned (.bool (decide (ordC os X Y < 0))) ∧ Below w.heap.size w w' := by
  obtain ⟨ax, nx, cx, rfl, hnx, hmx⟩ := hx.shape
  obtain ⟨ay, ny, cy, rfl, hny, hmy⟩ := hy.shape
  obtain ⟨ao, no, co, rfl, hno, hmo⟩ := ho.shape
  have HX := Lib.hid hx
  have HY := Lib.hid hy
  have HO := Lib.hid ho
  have HN := Lib.hid (show nx = m ∧ ny = m ∧ no = os.length ∧ X.length = m ∧ Y.length = m from ⟨by omega, by omega, hno, hlX, hlY⟩)
  have HF := Lib.hid hf
  unfold maxLen at hmx hmy hmo
  clear hx hy ho hnx hny hno hlX hlY hf
  have HD := Lib.hid (fun w' (hb : Below w.heap.size w w') => rrows_calls X Y _ _ w' (HX.out.mono hb) (HY.out.mono hb))
  go_enter Try.func28, Try.ntmps28
  go_wp2
  go_loopw [7] (fun z wr => ∃ k : Nat, k ≤ no ∧ z = .int .i64 k ∧ RowKit.Hid (ordC os X Y = ordC (os.drop k) X Y) ∧ RowKit.Hid (Below w.heap.size w wr)) (fun z _ => no - (intOf z).toNat)
  case atStart => exact ⟨0, Nat.zero_le _, rfl, rfl, Below.refl _ _⟩
  case round =>
    obtain ⟨k, hk, rfl, He, Hb⟩ := hrel
    by_cases hlt : k < no
    · have hkl : k < os.length := by have := HN.out; omega
      obtain ⟨b, o, rfl, hblt, c0, c1⟩ := (HO.out.mono Hb.out).at k hkl
      have hfk := HF.out os[k] (List.getElem_mem _)
      have hstep := ordC_drop hkl X Y
      obtain ⟨od, hod⟩ : ∃ od, os[k] = od := ⟨_, rfl⟩
      rw [hod] at hfk hstep c0 c1
      have hkm : od.k < m := by unfold Od.k; omega
      have hkX : od.k < X.length := by have := HN.out; omega
      have hkY : od.k < Y.length := by have := HN.out; omega
      obtain ⟨bx, ox, rfl⟩ := HX.out.has od.k (by have := HN.out; omega)
      obtain ⟨bY, oy, rfl⟩ := HY.out.has od.k (by have := HN.out; omega)
      obtain ⟨x0, x1, x2⟩ := (HX.out.mono Hb.out).cell od.k hkX
      obtain ⟨y0, y1, y2⟩ := (HY.out.mono Hb.out).cell od.k hkY
      have hltx := (HX.out.mono Hb.out).lt hkX
      have hlty := (HY.out.mono Hb.out).lt hkY
      have hcv : od.c X Y = if od.desc then - cmpV X[od.k] Y[od.k] else cmpV X[od.k] Y[od.k] := by
        unfold Od.c
        rw [List.getD_eq_getElem?_getD, List.getD_eq_getElem?_getD, List.getElem?_eq_getElem hkX, List.getElem?_eq_getElem hkY]
        rfl
      have HCv := Lib.hid hcv
      have HSt := Lib.hid hstep
      have HC := Lib.hid (fun w' => rcmp_calls X[od.k] Y[od.k] w' (HX.out.txt _ (List.getElem_mem _)))
      have hrg := cmpV_range X[od.k] Y[od.k]
      have Hrg := Lib.hid hrg
      generalize X[od.k] = x at *
      generalize Y[od.k] = y at *
      generalize cmpV x y = r at *
      obtain ⟨q, hq⟩ : ∃ q, od.k = q := ⟨_, rfl⟩
      have hqi : od.item - 1 = q := by rw [← hq]; unfold Od.k; omega
      rw [hq] at x0 x1 x2 y0 y1 y2 hkm
      obtain ⟨it, hit⟩ : ∃ it, od.item = it := ⟨_, rfl⟩
      obtain ⟨ds, hds⟩ : ∃ ds, od.desc = ds := ⟨_, rfl⟩
      rw [hit] at c0 hqi
      rw [hds] at c1 HCv
      have Hqi := Lib.hid hqi
      have Hnx : RowKit.Hid (nx = m ∧ ny = m) := Lib.hid ⟨HN.out.1, HN.out.2.1⟩
      have i1 : (0 : Int) ≤ q := by omega
      have i2 : (q : Int) < nx := by have := Hnx.out; omega
      have i3 : (q : Int) < ny := by have := Hnx.out; omega
      have i4 : (0 : Int) ≤ it - 1 := by omega
      have i5 : it - 1 ≤ 9223372036854775807 := by omega
      clear hcv hstep hod hfk hkX hkY hrg hqi hit hds hkl hkm
      have Hq := Lib.hid hq
      clear hq
      go_upto_region 4 with (fail)
      go_cut [8] from 16 to 21 (fun z wx => z = .int .i64 q ∧ wx = wr)
      case first =>
        go_wp2_with fail
        go_meet
        exact ⟨by rw [← Hqi.out], rfl⟩
      obtain ⟨rfl, rfl⟩ := hcut
      clear i4 i5
      go_upto_region 5 with (fail)
      go_cut [9] from 22 to 30 (fun z wx => z = .int .i64 r ∧ RowKit.Hid (Below wc.heap.size wc wx))
      case first =>
        go_region_held3 (fun w' => Below wc.heap.size wc w' ∧ ∀ b o, b < wc.heap.size → w'.cell? ⟨b, o, none⟩ = wc.cell? ⟨b, o, none⟩)
          (first | assumption | exact S_of (Below.drew (Below.refl _ _)) | exact S_step (by assumption) (by assumption))
          (first | (go_at_call 40; (with_reducible refine (HC.out _).mono ?_); rintro e w1 ⟨rfl, hb1⟩))
        all_goals
          rename_i hH
          have Hbb := Lib.hid hH.1
          clear hH
          go_step
          go_step
          go_meet
          exact ⟨rfl, Hbb⟩
      obtain ⟨rfl, Hbb⟩ := hcut
      have Hb2 := Lib.hid (Hb.out.trans (Hbb.out.mono Hb.out.size))
      have c1' := (Hbb.out.cell (p := ⟨b, o + k * 2 + 1, none⟩) hblt).trans c1
      have hsz' := Nat.lt_of_lt_of_le hblt Hbb.out.size
      clear c0 c1 x0 x1 x2 y0 y1 y2 hltx hlty hblt Hbb HC i1 i2 i3
      by_cases hr : r = 0
      · subst hr
        have HE : RowKit.Hid (ordC os X Y = ordC (os.drop (k + 1)) X Y) := Lib.hid (by rw [He.out, HSt.out, HCv.out]; cases ds <;> simp)
        clear He HSt HCv Hrg
        cases ds
        all_goals
          go_wp2
          go_roundw
          case rel => exact ⟨k + 1, by omega, by go_num, HE, Hb2⟩
          case measure => simp [intOf]; omega
      · have h1 : (r != 0) = true := by simpa using hr
        have h2 : (-r != 0) = true := by simp; omega
        have h3 : -9223372036854775808 ≤ -r := by have := Hrg.out; omega
        have h4 : -r ≤ 9223372036854775807 := by have := Hrg.out; omega
        have HE : RowKit.Hid (ordC os X Y = if ds then -r else r) := Lib.hid (by rw [He.out, HSt.out, HCv.out, if_neg]; cases ds <;> simp <;> omega)
        clear He HSt HCv Hrg hr
        cases ds
        all_goals
          go_wp2
          go_ret
          exact ⟨by rw [HE.out]; first | rfl | (simp), Hb2.out⟩
    · obtain rfl : k = no := by omega
      have HE : RowKit.Hid (ordC os X Y = cmpR X Y) := Lib.hid (by rw [He.out, List.drop_of_length_le (by have := HN.out; omega)]; rfl)
      have Hrg := Lib.hid (cmpR_range X Y)
      generalize cmpR X Y = r at *
      clear He HO hmo hlt hk
      go_wp2_with fail
      (with_reducible refine (HD.out _ Hb.out).mono ?_)
      rintro e w1 ⟨rfl, hb1⟩
      have Hb1 := Lib.hid (Hb.out.trans (hb1.mono Hb.out.size))
      clear hb1
      go_wp2
      go_ret
      exact ⟨by rw [HE.out]; rfl, Hb1.out⟩
end Go.Proofs.Ytodabeibdgancaa
/- slices.Clone at rows. -/
namespace Go.Proofs.Ytodabeibdgancaa
open Go.RowKit

theorem Try.info26' : (Try.prog.info? 26).map (fun i => (i.zero, i.size, i.bytes)) = some (some (.agg #[.int .i64 0, .int .i64 0, .string ⟨#[]⟩]), 3, 32) := by kernel_rfl
theorem ValsAt.flat {w : World} {R : Rw} {b o n c : Nat} (h : ValsAt w R (.slice (some ⟨b, o, none⟩) n c)) : ∀ j u, (Go.Proofs.Ytodabeibdgancaa.flat R)[j]? = some u → w.cell? ((⟨b, o, none⟩ : Addr).add j) = some u := by
  intro j u hu
  have hj := (List.getElem?_eq_some_iff.1 hu).1
  rw [length_flat] at hj
  have hi : j / 3 < R.length := by omega
  have e : (⟨b, o, none⟩ : Addr).add j = ⟨b, o + j, none⟩ := by unfold Addr.add; split <;> simp_all
  rw [e]
  cases h with
  | mt => simp at hi
  | lie _ b o n cap hn hlt hm hc =>
    have := hc (j / 3) hi (j % 3) (Nat.mod_lt _ (by omega))
    rw [show o + j = o + j / 3 * 3 + j % 3 by omega, this, ← flat_get R (j / 3) hi (j % 3) (Nat.mod_lt _ (by omega)), show j / 3 * 3 + j % 3 = j by omega]
    exact hu
theorem vals_src {w : World} {R : Rw} {a : Option Addr} {n c : Nat} (h : ValsAt w R (.slice a n c)) : (a = none ∧ n = 0 ∧ c = 0 ∧ R = []) ∨ ∃ ad, a = some ad ∧ ∀ j u, (Go.Proofs.Ytodabeibdgancaa.flat R)[j]? = some u → w.cell? (ad.add j) = some u := by
  cases a with
  | none =>
    cases h with
    | mt => exact .inl ⟨rfl, rfl, rfl, rfl⟩
  | some ad =>
    refine .inr ⟨ad, rfl, ?_⟩
    cases h with
    | mt => intro j u hu; simp [Go.Proofs.Ytodabeibdgancaa.flat] at hu
    | lie _ b o n cap hn hlt hm hc ht => exact ValsAt.flat (.lie _ b o n n hn hlt hm hc ht)

set_option maxHeartbeats 1000000 in
theorem clone_calls (R : Rw) (r : Value) (w : World) (hr : ValsAt w R r) (hlen : R.length < 1099511627776) :
    Calls Try.prog 22 #[r] w fun e w' => ∃ v, e = .returned v ∧ RowO w' w.heap.size R v ∧ Below w.heap.size w w' := by
  obtain ⟨a, n, c, rfl, hn, hm⟩ := hr.shape
  have Htx := Lib.hid hr.txt
  obtain ⟨i0, ii, iz0, iz1, iz2⟩ := info_parts Try.info26'
  rcases vals_src hr with ⟨rfl, rfl, rfl, rfl⟩ | ⟨ad, rfl, hsrc⟩
  · have hnil := fun w' => Lib.run_eql_slice_nil (P := Try.prog) w' 61 26 none 0 0 0 0 Try.underlying61
    simp only [Option.isNone_none] at hnil
    clear hr hn hm hlen
    go_enter Try.func22, Try.ntmps22
    go_wp2
    go_ret
    exact ⟨_, rfl, ⟨World.ownsRow_nil _ _ _ _, by simp⟩, Below.refl _ _⟩
  · have Hn := Lib.hid hn
    have hown0 := World.ownsRow_lit (e := 26) (size := 3) w #[] 0 (Nat.le_refl _) (by simp) (by simp)
    have hone := one_flat R
    have hsrc' : ∀ j u, (flat R)[j]? = some u → (w.alloc (.cells #[] 26)).cell? (ad.add j) = some u := by
      intro j u hu
      have h1 := hsrc j u hu
      rw [World.cell?_alloc_lt _ _ _ (World.block_lt_of_cell? w _ h1)]
      exact h1
    have HSRC := Lib.hid hsrc'
    have Hlen := Lib.hid hlen
    have hnil := fun w' => Lib.run_eql_slice_nil (P := Try.prog) w' 61 26 (some ad) n c 0 0 Try.underlying61
    simp only [Option.isNone_some] at hnil
    clear hr hn hm hsrc hsrc' hlen
    go_enter Try.func22, Try.ntmps22
    go_wp2_with (at_builtin; go_loud (refine wpList_append_own _ rfl _ _ 61 rfl w.heap.size 26 i0 (.agg #[.int .i64 0, .int .i64 0, .string ⟨#[]⟩]) 3 32 Try.underlying61 ii iz0 iz1 iz2 rfl (by decide) _ 0 [] rfl hown0 ad n c (flat R) rfl ?c0 ?c1 ?c2 ?c3 ?c4 ?c5 ?_))
    case c0 => rw [length_flat]; have := Hn.out; omega
    case c1 => exact HSRC.out
    case c2 => exact hone
    case c3 => unfold maxLen; have := Hn.out; have := Hlen.out; omega
    case c4 => have := Hn.out; have := Hlen.out; omega
    intro v' w' hown' hgrow _
    have H1 : RowKit.Hid (w'.ownsRow w.heap.size 26 3 v' R.length (flat R)) := by
      show World.ownsRow _ _ _ _ _ _ _
      have e : R.length = 0 + n := by have := Hn.out; omega
      rw [e]
      simpa using hown'
    have H2 : RowKit.Hid (Below w.heap.size w w') := ((Below.refl _ _).alloc (Nat.le_refl _) _).grown hgrow (by simp) (fun k hk => (hown0.lt k hk).1)
    clear hown' hgrow
    go_wp2
    go_ret
    exact ⟨_, rfl, ⟨H1.out, Htx.out⟩, H2.out⟩
end Go.Proofs.Ytodabeibdgancaa
/- Sort. -/
namespace Go.Proofs.Ytodabeibdgancaa
open Go Go.RowKit
/-- An element of a list of rows is written anew. -/
theorem RowsOwn.set {w : World} {B g n c : Nat} {L : List Rw} (h : RowsOwn w B L (.slice (some ⟨g, 0, none⟩) n c)) (k : Nat) {r : Rw} {y : Value} (hy : ValsAt w r y) (hf : Far w B y) :
    RowsOwn (w.setCell ⟨g, k, none⟩ y) B (L.set k r) (.slice (some ⟨g, 0, none⟩) n c) := by
  obtain ⟨xs, h1, h2, h3⟩ := h
  have hnn : L.length = n := by
    rcases h1.2 with ⟨e, _⟩ | ⟨_, _, _, e, _⟩
    · simp at e
    · injection e with _ e2; exact e2.symm
  rw [hnn] at h1
  obtain ⟨s1, s2⟩ := h1.stored k y
  have s2' : w.grownBy (w.setCell ⟨g, k, none⟩ y) (Value.slice (some ⟨g, 0, none⟩) n c).ownBlock := s2
  have g1 := h2.grown h3 h1 s2'
  have g2 := hy.grown hf h1 s2'
  refine ⟨xs.set k y, by rw [List.length_set, hnn]; exact s1, ?_, fun x hx => ?_⟩
  · generalize w.setCell ⟨g, k, none⟩ y = w' at *
    clear s1 s2 s2' h1 h2 h3 hnn
    obtain ⟨g1, -⟩ := g1
    induction g1 generalizing k with
    | nil => exact .nil
    | cons a b ih =>
      cases k with
      | zero => exact .cons g2.1 b
      | succ k => exact .cons a (ih k)
  · rcases List.mem_or_eq_of_mem_set hx with hx | rfl
    · exact g1.2 x hx
    · exact g2.2
theorem RowsOwn.cellAt {w : World} {B g n c : Nat} {L : List Rw} (h : RowsOwn w B L (.slice (some ⟨g, 0, none⟩) n c)) (k : Nat) (hk : k < n) : ∃ x, w.cell? ⟨g, k, none⟩ = some x ∧ w.frozen? ⟨g, k, none⟩ = false ∧ g < w.heap.size ∧ L.length = n := by
  obtain ⟨xs, h1, h2, h3⟩ := h
  have hnn : L.length = n := by
    rcases h1.2 with ⟨e, _⟩ | ⟨_, _, _, e, _⟩
    · simp at e
    · injection e with _ e2; exact e2.symm
  rw [hnn] at h1
  have hl := h1.1
  have h4 := h1.cellAt k (by omega)
  rw [List.getElem?_eq_getElem (by omega)] at h4
  exact ⟨_, h4, h1.frozenAt k, World.block_lt_of_cell? w _ h4, hnn⟩
/-- A new list of empty rows. -/
theorem rowsOwn_made {w : World} {B n : Nat} {v : Value} (h : w.ownsRow B 61 1 v n (madeCells (Value.slice none 0 0).cells (n * 1)).toList) : RowsOwn w B (List.replicate n []) v := by
  have e : (madeCells (Value.slice none 0 0).cells (n * 1)).toList = List.replicate n (Value.slice none 0 0) := by rw [Nat.mul_one]; exact toList_madeCells_one _ _
  rw [e] at h
  refine ⟨_, by rw [List.length_replicate]; exact h, ?_, fun x hx => ?_⟩
  · clear h e
    induction n with
    | zero => exact .nil
    | succ n ih => rw [List.replicate_succ, List.replicate_succ]; exact .cons .mt ih
  · rw [List.eq_of_mem_replicate hx]
    intro ad n' c' hx'
    injection hx' with h1
    cases h1
/-- The elements with their slices. -/
theorem rowVs_cels {w : World} {L : List Rw} {xs : List Value} (h : RowVs w L xs) : ∃ d : List Cel, d.map Cel.v = xs ∧ d.map Cel.r = L ∧ ∀ x ∈ d, ValsAt w x.r x.v := by
  induction h with
  | nil => exact ⟨[], rfl, rfl, by simp⟩
  | cons a _ ih =>
    obtain ⟨d, h1, h2, h3⟩ := ih
    obtain ⟨b, n, c, rfl, _, _⟩ := a.shape
    refine ⟨⟨_, b, n, c⟩ :: d, by rw [List.map_cons, h1]; rfl, by rw [List.map_cons, h2], fun x hx => ?_⟩
    rcases List.mem_cons.1 hx with rfl | hx
    · exact a
    · exact h3 x hx
theorem cels_rowVs {w : World} {d : List Cel} (h : ∀ x ∈ d, ValsAt w x.r x.v) : RowVs w (d.map Cel.r) (d.map Cel.v) := by
  induction d with
  | nil => exact .nil
  | cons x d ih => exact .cons (h x (by simp)) (ih fun y hy => h y (List.mem_cons_of_mem _ hy))
/-- The reference's insertion. -/
def insO (os : List Od) (x : Rw) : List Rw → List Rw
  | [] => [x]
  | y :: l => if ordC os x y < 0 then x :: y :: l else y :: insO os x l
def sortL (os : List Od) (L : List Rw) : List Rw := L.foldl (fun l x => insO os x l) []
theorem insO_perm (os : List Od) (x : Rw) : ∀ l, (insO os x l).Perm (x :: l)
  | [] => List.Perm.refl _
  | y :: l => by
    unfold insO
    split
    · exact List.Perm.refl _
    · exact ((insO_perm os x l).cons y).trans (List.Perm.swap _ _ _)
theorem insO_asc (os : List Od) (x : Rw) : ∀ {l : List Rw}, l.Pairwise (fun x y => ordC os x y ≤ 0) → (insO os x l).Pairwise (fun x y => ordC os x y ≤ 0)
  | [], _ => List.pairwise_singleton _ _
  | y :: l, h => by
    obtain ⟨h1, h2⟩ := List.pairwise_cons.1 h
    unfold insO
    split
    · rename_i hlt
      refine List.pairwise_cons.2 ⟨fun z hz => ?_, h⟩
      rcases List.mem_cons.1 hz with rfl | hz
      · omega
      · exact ordC_le os (by omega) (h1 z hz)
    · rename_i hlt
      refine List.pairwise_cons.2 ⟨fun z hz => ?_, insO_asc os x h2⟩
      rcases List.mem_cons.1 ((insO_perm os x l).mem_iff.1 hz) with rfl | hz
      · have := ordC_swap os z y; omega
      · exact h1 z hz
theorem sortL_spec (os : List Od) (L : List Rw) : (sortL os L).Pairwise (fun x y => ordC os x y ≤ 0) ∧ (sortL os L).Perm L := by
  have : ∀ (L l : List Rw), l.Pairwise (fun x y => ordC os x y ≤ 0) → (L.foldl (fun l x => insO os x l) l).Pairwise (fun x y => ordC os x y ≤ 0) ∧ (L.foldl (fun l x => insO os x l) l).Perm (l ++ L) := by
    intro L
    induction L with
    | nil => intro l h; exact ⟨h, by simp⟩
    | cons x L ih =>
      intro l h
      obtain ⟨h1, h2⟩ := ih _ (insO_asc os x h)
      refine ⟨h1, h2.trans ?_⟩
      have := (insO_perm os x l).append_right L
      exact this.trans List.perm_middle.symm
  have h := this L [] List.Pairwise.nil
  exact ⟨h.1, by have h2 := h.2; rw [List.nil_append] at h2; exact h2⟩
theorem sortL_eq (os : List Od) {X Z : List Cel} (ha : AscC (cc (ordC os)) Z) (he : StEq (cc (ordC os)) X Z) : Z.map Cel.r = sortL os (X.map Cel.r) := by
  obtain ⟨h1, h2⟩ := sortL_spec os (X.map Cel.r)
  refine ordC_uniq os ?_ h1 ?_
  · rw [List.pairwise_map]; exact ha
  · exact (((he.perm (ordC_ord3 os)).map Cel.r).symm).trans h2.symm
end Go.Proofs.Ytodabeibdgancaa
/- The reference's Sort: its steps. -/
namespace Go.Proofs.Ytodabeibdgancaa
open Go Go.RowKit
theorem RowsOwn.take {w : World} {B g n c k : Nat} {L : List Rw} (h : RowsOwn w B L (.slice (some ⟨g, 0, none⟩) n c)) (hk : k ≤ n) : RowsOwn w B (L.take k) (.slice (some ⟨g, 0, none⟩) k c) := by
  obtain ⟨xs, h1, h2, h3⟩ := h
  obtain ⟨hl, ⟨e, _⟩ | ⟨g', cap, cur, e, hb, hg, hn, hc, hs, ht⟩⟩ := h1
  · simp at e
  · simp only [Value.slice.injEq, Option.some.injEq, Addr.mk.injEq, and_true] at e
    obtain ⟨rfl, rfl, rfl⟩ := e
    have hkL : (L.take k).length = k := by rw [List.length_take, Nat.min_eq_left hk]
    refine ⟨xs.take k, ⟨by rw [List.length_take, hl, hkL]; omega, .inr ⟨g, c, cur, by rw [hkL], hb, hg, by rw [hkL]; omega, hc, hs, ?_⟩⟩, ?_, fun x hx => h3 x (List.mem_of_mem_take hx)⟩
    · rw [hkL, ← ht, List.take_take, Nat.min_eq_left (by omega), Nat.mul_one]
    · clear h3 hl ht hkL hk hn hs
      induction h2 generalizing k with
      | nil => simp; exact .nil
      | cons a b ih =>
        cases k with
        | zero => exact .nil
        | succ k => exact .cons a ih
/-- What lies behind k in a list of rows. -/
theorem RowsOwn.behind {w : World} {B g n c k : Nat} {L : List Rw} (h : RowsOwn w B L (.slice (some ⟨g, 0, none⟩) n c)) : ∃ ys, RowVs w (L.drop k) ys ∧ (∀ y ∈ ys, Far w B y) ∧ ∀ j u, ys[j]? = some u → w.cell? ⟨g, k + j, none⟩ = some u := by
  obtain ⟨xs, h1, h2, h3⟩ := h
  have hnn : L.length = n := by
    rcases h1.2 with ⟨e, _⟩ | ⟨_, _, _, e, _⟩
    · simp at e
    · injection e with _ e2; exact e2.symm
  rw [hnn] at h1
  refine ⟨xs.drop k, ?_, fun x hx => h3 x (List.mem_of_mem_drop hx), fun j u hj => ?_⟩
  · clear h1 h3 hnn
    induction h2 generalizing k with
    | nil => simp; exact .nil
    | cons a b ih =>
      cases k with
      | zero => exact .cons a b
      | succ k => exact ih
  · rw [List.getElem?_drop] at hj
    have hl := (List.getElem?_eq_some_iff.1 hj).1
    have h4 := h1.1
    rw [h1.cellAt (k + j) (by omega), hj]
/-- append to a list of rows, as a step of a region that draws. -/
theorem step_rows {w : World} {ops : Array Oper} {o : Oper} {a : Act} {K : Act → World → Prop} {Q : Exit → Act → World → Prop} {E : Prop} (hgd : o.guard = none) (s x : Operand)
    (ho : o.op = .call { callee := .builtin .append, args := #[s, x], argTypes := #[29, 29] })
    (B : Nat) (L M : List Rw) (v : Value) (hs : a.eval s = v) (hown : RowsOwn w B L v) (ad : Addr) (c m : Nat) (ys : List Value) (hx : a.eval x = .slice (some ad) m c) (hm : m = M.length)
    (hc : ∀ j u, ys[j]? = some u → w.cell? (ad.add j) = some u) (hy : RowVs w M ys) (hf : ∀ y ∈ ys, Far w B y)
    (hlen : L.length + m ≤ 1099511627776) (hB : B ≤ w.heap.size)
    (h : ∀ v' w', RowsOwn w' B (L ++ M) v' → Below B w w' → w.grownBy w' v.ownBlock → K (a.put o.dst v') w') : if Region.wanted o (yielded ops a.tmps) = true then Oper.wp Try.prog o a w K Q else E := by
  have hw : Region.wanted o (yielded ops a.tmps) = true := by simp [Region.wanted, hgd]
  rw [if_pos hw]
  obtain ⟨i0, ii, iz0, iz1, iz2⟩ := info_parts Try.info61'
  obtain ⟨xs, h1, h2, h3⟩ := hown
  subst hm
  refine wp_append_own w s x 29 ho B 61 i0 (.slice none 0 0) 1 24 Try.underlying29 ii iz0 iz1 iz2 rfl (by decide) v _ xs hs h1 ad _ c ys hx (by rw [hy.length]; omega) hc hy.one' (by unfold maxLen; omega) (by omega) hB ?_
  intro v' w' ho' hg _
  have a1 := h2.grown h3 h1 hg
  have a2 := hy.grown hf h1 hg
  refine h v' w' ⟨xs ++ ys, by rw [List.length_append]; exact ho', a1.1.append a2.1, fun x hx => ?_⟩ ((Below.refl _ _).grown hg hB fun g hg' => (h1.lt g hg').1) hg
  rcases List.mem_append.1 hx with hx | hx
  · exact a1.2 x hx
  · exact a2.2 x hx
theorem insO_drop (os : List Od) (x : Rw) : ∀ (l : List Rw) (k : Nat), (∀ y ∈ l.take k, ¬ ordC os x y < 0) → insO os x l = l.take k ++ insO os x (l.drop k)
  | l, 0, _ => by simp
  | [], k + 1, _ => by simp
  | y :: l, k + 1, h => by
    have h1 := h y (by simp)
    have h2 := insO_drop os x l k fun z hz => h z (by simp [hz])
    rw [List.take_succ_cons, List.drop_succ_cons, List.cons_append, ← h2]
    conv => lhs; unfold insO
    rw [if_neg h1]
theorem insO_at (os : List Od) (x : Rw) (l : List Rw) (k : Nat) (h : ∀ y ∈ l.take k, ¬ ordC os x y < 0) (hk : ∀ y, l[k]? = some y → ordC os x y < 0) : insO os x l = l.take k ++ [x] ++ l.drop k := by
  rw [insO_drop os x l k h, List.append_assoc]
  congr 1
  by_cases hl : k < l.length
  · rw [List.drop_eq_getElem_cons hl]
    unfold insO
    rw [if_pos (hk _ (List.getElem?_eq_getElem hl))]
    rfl
  · rw [List.drop_of_length_le (by omega)]; rfl
theorem insO_length (os : List Od) (x : Rw) (l : List Rw) : (insO os x l).length = l.length + 1 := (insO_perm os x l).length_eq
theorem sortL_length (os : List Od) (L : List Rw) : (sortL os L).length = L.length := (sortL_spec os L).2.length_eq
theorem sortL_snoc (os : List Od) (L : List Rw) (k : Nat) (hk : k < L.length) : sortL os (L.take (k + 1)) = insO os L[k] (sortL os (L.take k)) := by
  unfold sortL
  rw [List.take_succ_eq_append_getElem hk, List.foldl_append]
  rfl
end Go.Proofs.Ytodabeibdgancaa
/- copy at elements of several cells, into a row that is known whole. -/
namespace Go.Proofs.Ytodabeibdgancaa
open Go.RowKit
variable {P : Program}

theorem run_copy_row_k (w : World) (dT sT ty elem : TypeId) (k g o dLen dCap : Nat) (a : Addr) (sLen sCap : Nat) (cur : Array Value) (t : TypeId) (cs : List Value)
    (hu : P.underlying dT = some (.slice elem)) (hs : (P.info? elem).map (·.size) = some k)
    (hg : w.heap[g]? = some (.cells cur t (0, 0))) (hn : cs.length = Nat.min sLen dLen * k)
    (hsrc : ∀ j v, cs[j]? = some v → w.cell? (a.add j) = some v) (hfit : o + cs.length ≤ cur.size) (h1 : ∀ v ∈ cs, v.oneCell' = true) :
    (Builtin.copy_ #[dT, sT] ty #[.slice (some ⟨g, o, none⟩) dLen dCap, .slice (some a) sLen sCap]).run P w =
      .ok (goInt (Nat.min sLen dLen : Nat)) (w.setRow g (cur.toList.take o ++ cs ++ cur.toList.drop (o + cs.length)).toArray) := by
  have hl := run_loadCells_list (P := P) w a cs hsrc
  have hst := run_storeCells_at P g o t cs 0 cur w hg (by simpa using hfit) h1
  cases hq : P.info? elem with
  | none => simp [hq] at hs
  | some i =>
    have hi : i.size = k := by simpa [hq] using hs
    simp [Builtin.copy_, run_underlying hu, Builtin.lenOf, Builtin.firstCells, sizeOf, typeInfo, hq, hi, ← hn, hl, hst]

theorem grown_setRow (w : World) (g : Nat) (cs : Array Value) : w.grownBy (w.setRow g cs) (some g) :=
  ⟨rfl, rfl, rfl, by simp [World.setRow], fun k _ hk => setRow_other w g k cs (fun e => hk (by rw [e]))⟩

theorem wpList_copy2 {w : World} {ops : Array Oper} {rest : List Oper} {o : Oper} {a : Act} {Q : Exit → Act → World → Prop} (hgd : o.guard = none) (d s : Operand) (dT sT : TypeId)
    (ho : o.op = .call { callee := .builtin .copy, args := #[d, s], argTypes := #[dT, sT] }) (elem : TypeId) (k : Nat) (hu : P.underlying dT = some (.slice elem)) (hsz : (P.info? elem).map (·.size) = some k)
    (g off dLen dCap : Nat) (ad : Addr) (sLen sCap : Nat) (hd : a.eval d = .slice (some ⟨g, off, none⟩) dLen dCap) (hs : a.eval s = .slice (some ad) sLen sCap)
    (cur : List Value) (t : TypeId) (hg : w.heap[g]? = some (.cells cur.toArray t (0, 0))) (cs : List Value) (hn : cs.length = Nat.min sLen dLen * k)
    (hsrc : ∀ j v, cs[j]? = some v → w.cell? (ad.add j) = some v) (hfit : off + cs.length ≤ cur.length) (h1 : ∀ v ∈ cs, v.oneCell' = true)
    (h : ∀ w', RowKit.Hid (w'.heap[g]? = some (.cells (splice cur off cs).toArray t (0, 0))) → RowKit.Hid (w.grownBy w' (some g)) → wpList P ops Q rest (a.put o.dst (goInt (Nat.min sLen dLen : Nat))) w') : wpList P ops Q (o :: rest) a w := by
  refine wpList_plain hgd fun K hK => ?_
  have hrun := run_copy_row_k (P := P) w dT sT o.type elem k g off dLen dCap ad sLen sCap cur.toArray t cs hu hsz hg hn hsrc (by simpa using hfit) h1
  unfold Oper.wp
  simp only [execOp, ho, resolve, invoke, builtin, Sem.run_bind, Sem.run_pure, Result.andThen_ok, List.map_toArray, List.map_cons, List.map_nil, hd, hs, hrun]
  exact hK _ _ (h _ (show _ = _ by simpa [splice] using setRow_heap w g _ _ t _ hg) (grown_setRow _ _ _))

theorem step_copy2 {w : World} {ops : Array Oper} {o : Oper} {a : Act} {K : Act → World → Prop} {Q : Exit → Act → World → Prop} {E : Prop} (hgd : o.guard = none) (d s : Operand) (dT sT : TypeId)
    (ho : o.op = .call { callee := .builtin .copy, args := #[d, s], argTypes := #[dT, sT] }) (elem : TypeId) (k : Nat) (hu : P.underlying dT = some (.slice elem)) (hsz : (P.info? elem).map (·.size) = some k)
    (g off dLen dCap : Nat) (ad : Addr) (sLen sCap : Nat) (hd : a.eval d = .slice (some ⟨g, off, none⟩) dLen dCap) (hs : a.eval s = .slice (some ad) sLen sCap)
    (cur : List Value) (t : TypeId) (hg : w.heap[g]? = some (.cells cur.toArray t (0, 0))) (cs : List Value) (hn : cs.length = Nat.min sLen dLen * k)
    (hsrc : ∀ j v, cs[j]? = some v → w.cell? (ad.add j) = some v) (hfit : off + cs.length ≤ cur.length) (h1 : ∀ v ∈ cs, v.oneCell' = true)
    (h : ∀ w', RowKit.Hid (w'.heap[g]? = some (.cells (splice cur off cs).toArray t (0, 0))) → RowKit.Hid (w.grownBy w' (some g)) → K (a.put o.dst (goInt (Nat.min sLen dLen : Nat))) w') :
    if Region.wanted o (yielded ops a.tmps) = true then Oper.wp P o a w K Q else E := by
  have hw : Region.wanted o (yielded ops a.tmps) = true := by simp [Region.wanted, hgd]
  rw [if_pos hw]
  have hrun := run_copy_row_k (P := P) w dT sT o.type elem k g off dLen dCap ad sLen sCap cur.toArray t cs hu hsz hg hn hsrc (by simpa using hfit) h1
  unfold Oper.wp
  simp only [execOp, ho, resolve, invoke, builtin, Sem.run_bind, Sem.run_pure, Result.andThen_ok, List.map_toArray, List.map_cons, List.map_nil, hd, hs, hrun]
  exact h _ (show _ = _ by simpa [splice] using setRow_heap w g _ _ t _ hg) (grown_setRow _ _ _)
end Go.Proofs.Ytodabeibdgancaa
/- append to an owned row: the block of the result is the old one or a new one. -/
namespace Go.Proofs.Ytodabeibdgancaa
open Go.RowKit
variable {P : Program}

theorem run_append_block (w : World) (base : Nat) (t ty e : TypeId) (i : TypeInfo) (z : Value) (size bytes : Nat) (ht : P.underlying t = some (.slice e)) (hi : P.info? e = some i) (hz : i.zero = some z)
    (hsize : i.size = size) (hby : i.bytes = bytes) (hzs : z.cells.size = size) (hsz : 0 < size)
    (v : Value) (n : Nat) (xs : List Value) (hown : w.ownsRow base e size v n xs)
    (a : Addr) (m c : Nat) (news : List Value) (hl : news.length = m * size) (hnews : ∀ j u, news[j]? = some u → w.cell? (a.add j) = some u) (h1 : ∀ u ∈ news, u.oneCell' = true)
    (hm : 0 < m) (h63 : n + m ≤ maxLen) (hbytes : (n + m) * bytes ≤ 140737488355328) (hbase : base ≤ w.heap.size) :
    ∃ v' w', (Builtin.append_ #[t, t] ty #[v, .slice (some a) m c]).run P w = .ok v' w' ∧ w'.ownsRow base e size v' (n + m) (xs ++ news) ∧ w.grownBy w' v.ownBlock ∧
      (∀ k, v'.ownBlock = some k → v.ownBlock = some k ∨ w.heap.size ≤ k) := by
  obtain ⟨v', w', hr, h2, h3, _⟩ := run_append_own (P := P) w base t ty e i z size bytes ht hi hz hsize hby hzs hsz v n xs hown a m c news hl hnews h1 h63 hbytes hbase
  refine ⟨v', w', hr, h2, h3, ?_⟩
  subst hsize
  subst hby
  have h63' : n + m ≤ 9223372036854775807 := by unfold maxLen at h63; omega
  intro k hk
  rcases hown.2 with ⟨rfl, rfl⟩ | ⟨g, cap, cur, rfl, hbg, hg, hnc, hcm, hcs, htake⟩
  · have hr2 := run_append_nil (P := P) w t ty e i z ht hi hz a m c news hl hnews hm (by omega) (by simp only [Nat.zero_add] at hbytes; omega)
    rw [hr2] at hr
    injection hr with hr _
    subst hr
    simp only [Value.ownBlock, Option.some.injEq] at hk
    exact .inr (by omega)
  · by_cases hroom : n + m ≤ cap
    · have hfit : n * i.size + news.length ≤ cur.size := by rw [hl, hcs, ← Nat.add_mul]; exact Nat.mul_le_mul_right _ hroom
      have hr2 := run_append_room (P := P) w t ty e i ht hi g n cap cur hg a m c news hl hnews h1 hroom hfit
      rw [hr2] at hr
      injection hr with hr _
      subst hr
      exact .inl hk
    · have holds : ∀ j u, xs[j]? = some u → w.cell? ((⟨g, 0, none⟩ : Addr).add j) = some u := hown.cells (g := g) rfl
      have hr2 := run_append_grow (P := P) w t ty e i z ht hi hz ⟨g, 0, none⟩ n cap xs hown.1 holds a m c news hl hnews (by omega) (by omega) (growslice_fits (by omega) hbytes)
      rw [hr2] at hr
      injection hr with hr _
      subst hr
      simp only [Value.ownBlock, Option.some.injEq] at hk
      exact .inr (by omega)

theorem wpList_append_block (w : World) {ops : Array Oper} {rest : List Oper} {o : Oper} {a : Act} {Q : Exit → Act → World → Prop} (hgd : o.guard = none) (s x : Operand) (t : TypeId)
    (ho : o.op = .call { callee := .builtin .append, args := #[s, x], argTypes := #[t, t] })
    (base : Nat) (e : TypeId) (i : TypeInfo) (z : Value) (size bytes : Nat) (ht : P.underlying t = some (.slice e)) (hi : P.info? e = some i) (hz : i.zero = some z)
    (hsize : i.size = size) (hby : i.bytes = bytes) (hzs : z.cells.size = size) (hsz : 0 < size)
    (v : Value) (n : Nat) (xs : List Value) (hs : a.eval s = v) (hown : w.ownsRow base e size v n xs)
    (ad : Addr) (m c : Nat) (news : List Value) (hx : a.eval x = .slice (some ad) m c) (hl : news.length = m * size) (hnews : ∀ j u, news[j]? = some u → w.cell? (ad.add j) = some u) (h1 : ∀ u ∈ news, u.oneCell' = true)
    (hm : 0 < m) (h63 : n + m ≤ maxLen) (hbytes : (n + m) * bytes ≤ 140737488355328) (hbase : base ≤ w.heap.size)
    (h : ∀ v' w', w'.ownsRow base e size v' (n + m) (xs ++ news) → w.grownBy w' v.ownBlock → RowKit.Hid (∀ k, v'.ownBlock = some k → v.ownBlock = some k ∨ w.heap.size ≤ k) → wpList P ops Q rest (a.put o.dst v') w') : wpList P ops Q (o :: rest) a w := by
  refine wpList_plain hgd fun K hK => ?_
  obtain ⟨v', w', hr, h2, h3, h4⟩ := run_append_block (P := P) w base t o.type e i z size bytes ht hi hz hsize hby hzs hsz v n xs hown ad m c news hl hnews h1 hm h63 hbytes hbase
  unfold Oper.wp execOp
  simp only [ho, resolve, invoke, builtin, Sem.run_bind, Sem.run_pure, Result.andThen_ok, List.map_toArray, List.map_cons, List.map_nil, hs, hx, hr]
  exact hK _ _ (h v' w' h2 h3 h4)

end Go.Proofs.Ytodabeibdgancaa
/- Lists of groups in memory: rows of rows of rows, each group in a block of its own. -/
namespace Go.Proofs.Ytodabeibdgancaa
open Go Go.RowKit
theorem Try.info29' : (Try.prog.info? 29).map (fun i => (i.zero, i.size, i.bytes)) = some (some (.slice none 0 0), 1, 24) := by kernel_rfl
/-- The groups Gs lie at the slices xs, each in a block of its own. -/
inductive GVs (w : World) (B : Nat) : List (List Rw) → List Value → Prop
  | nil : GVs w B [] []
  | cons {G : List Rw} {x : Value} {Gs : List (List Rw)} {xs : List Value} (h : RowsOwn w B G x) (hne : ∀ y ∈ xs, ∀ k, x.ownBlock = some k → y.ownBlock ≠ some k) (t : GVs w B Gs xs) : GVs w B (G :: Gs) (x :: xs)
theorem GVs.length {w : World} {B : Nat} {Gs : List (List Rw)} {xs : List Value} (h : GVs w B Gs xs) : xs.length = Gs.length := by
  induction h with
  | nil => rfl
  | cons _ _ _ ih => simp [ih]
/-- A block of groups (type 29), or one that is new, may turn. -/
theorem RowsOwn.kept {w w' : World} {B : Nat} {G : List Rw} {x : Value} {row : Option Nat} (h : RowsOwn w B G x) (hg : w.grownBy w' row) (hr : ∀ k, row = some k → B ≤ k ∧ x.ownBlock ≠ some k ∧ ∀ cur fr, w.heap[k]? ≠ some (.cells cur 26 fr)) : RowsOwn w' B G x := by
  obtain ⟨xs, h1, h2, h3⟩ := h
  refine ⟨xs, h1.kept hg ?_, ?_⟩
  · cases hx : x.ownBlock with
    | none => exact .inl rfl
    | some k =>
      right
      intro e
      exact (hr k e.symm).2.1 hx
  · clear h1
    induction h2 with
    | nil => exact ⟨.nil, by simp⟩
    | @cons r y L ys a _ ih =>
      obtain ⟨i1, i2⟩ := ih fun z hz => h3 z (List.mem_cons_of_mem _ hz)
      have hf := h3 y (by simp)
      have hy : ValsAt w' r y ∧ Far w' B y := by
        cases a with
        | mt =>
          refine ⟨.mt, fun ad n' c hx hn' => ?_⟩
          injection hx with _ h2
          omega
        | lie _ b o n' cap hn hlt hm hc ht =>
          by_cases h0 : 0 < n'
          · have hk : some b ≠ row := by
              intro e
              obtain ⟨q1, -, q3⟩ := hr b e.symm
              rcases hf ⟨b, o, none⟩ n' cap rfl h0 with h4 | ⟨cur, fr, h4⟩
              · have : b < B := h4
                omega
              · exact q3 cur fr h4
            refine ⟨.lie _ b o n' cap hn (Nat.lt_of_lt_of_le hlt hg.size) hm (fun i hi j hj => ?_) ht, fun ad n2 c2 hx hn2 => ?_⟩
            · exact (World.cell?_of_block (a := ⟨b, o + i * 3 + j, none⟩) (hg.block b hlt hk)).trans (hc i hi j hj)
            · injection hx with hx1
              injection hx1 with hx1
              subst hx1
              rcases hf _ _ _ rfl h0 with h4 | ⟨cur, fr, h4⟩
              · exact .inl h4
              · exact .inr ⟨cur, fr, (hg.block b hlt hk).trans h4⟩
          · have h0' : r = [] := by
              cases r with
              | nil => rfl
              | cons => simp at hn; omega
            have h0n : n' = 0 := by omega
            subst h0' h0n
            refine ⟨.lie _ b o 0 cap rfl (Nat.lt_of_lt_of_le hlt hg.size) hm (fun i hi => by simp at hi) ht, fun ad n2 c2 hx hn2 => ?_⟩
            injection hx with _ h2
            omega
      refine ⟨.cons hy.1 i1, fun z hz => ?_⟩
      rcases List.mem_cons.1 hz with rfl | hz
      · exact hy.2
      · exact i2 z hz
theorem GVs.kept {w w' : World} {B : Nat} {Gs : List (List Rw)} {xs : List Value} {row : Option Nat} (h : GVs w B Gs xs) (hg : w.grownBy w' row) (hr : ∀ k, row = some k → B ≤ k ∧ (∀ x ∈ xs, x.ownBlock ≠ some k) ∧ ∀ cur fr, w.heap[k]? ≠ some (.cells cur 26 fr)) : GVs w' B Gs xs := by
  induction h with
  | nil => exact .nil
  | cons h hne t ih =>
    exact .cons (h.kept hg fun k hk => ⟨(hr k hk).1, (hr k hk).2.1 _ (by simp), (hr k hk).2.2⟩) hne (ih fun k hk => ⟨(hr k hk).1, fun x hx => (hr k hk).2.1 x (List.mem_cons_of_mem _ hx), (hr k hk).2.2⟩)
/-- A block of rows is no block of groups. -/
theorem RowsOwn.type {w : World} {B : Nat} {G : List Rw} {x : Value} (h : RowsOwn w B G x) {k : Nat} (hk : x.ownBlock = some k) : ∃ cur fr, w.heap[k]? = some (.cells cur 61 fr) := by
  obtain ⟨xs, ⟨_, ⟨rfl, _⟩ | ⟨g, cap, cur, rfl, _, hg, _⟩⟩, _⟩ := h
  · simp [Value.ownBlock] at hk
  · simp only [Value.ownBlock, Option.some.injEq] at hk
    subst hk
    exact ⟨_, _, hg⟩
theorem GVs.type {w : World} {B : Nat} {Gs : List (List Rw)} {xs : List Value} (h : GVs w B Gs xs) : ∀ x ∈ xs, ∀ k, x.ownBlock = some k → k < w.heap.size ∧ ∃ cur fr, w.heap[k]? = some (.cells cur 61 fr) := by
  induction h with
  | nil => intro x hx; cases hx
  | cons h _ _ ih =>
    intro x hx k hk
    rcases List.mem_cons.1 hx with rfl | hx
    · obtain ⟨cur, fr, e⟩ := h.type hk
      exact ⟨(Array.getElem?_eq_some_iff.1 e).1, cur, fr, e⟩
    · exact ih x hx k hk
theorem GVs.snoc {w : World} {B : Nat} {Gs : List (List Rw)} {xs : List Value} (h : GVs w B Gs xs) {G : List Rw} {x : Value} (hx : RowsOwn w B G x) (hne : ∀ y ∈ xs, ∀ k, x.ownBlock = some k → y.ownBlock ≠ some k) : GVs w B (Gs ++ [G]) (xs ++ [x]) := by
  induction h with
  | nil => exact .cons hx (by simp) .nil
  | cons h hne' t ih =>
    refine .cons h (fun y hy k hk => ?_) (ih fun y hy => hne y (List.mem_cons_of_mem _ hy))
    rcases List.mem_append.1 hy with hy | hy
    · exact hne' y hy k hk
    · rw [List.mem_singleton.1 hy]
      intro e
      exact hne _ (by simp) k e hk
theorem GVs.unsnoc {w : World} {B : Nat} {Gs : List (List Rw)} {G : List Rw} {zs : List Value} (h : GVs w B (Gs ++ [G]) zs) : ∃ xs x, zs = xs ++ [x] ∧ GVs w B Gs xs ∧ RowsOwn w B G x ∧ ∀ y ∈ xs, ∀ k, x.ownBlock = some k → y.ownBlock ≠ some k := by
  induction Gs generalizing zs with
  | nil =>
    cases h with
    | cons h hne t =>
      cases t
      exact ⟨[], _, rfl, .nil, h, by simp⟩
  | cons G' Gs ih =>
    cases h with
    | @cons _ x0 _ xs0 h hne t =>
      obtain ⟨xs, x, rfl, h1, h2, h3⟩ := ih t
      refine ⟨x0 :: xs, x, rfl, .cons h (fun y hy => hne y (by simp [hy])) h1, h2, fun y hy k hk => ?_⟩
      rcases List.mem_cons.1 hy with rfl | hy
      · intro e
        exact hne x (by simp) k e hk
      · exact h3 y hy k hk
theorem GVs.mono {w w' : World} {B : Nat} {Gs : List (List Rw)} {xs : List Value} (h : GVs w B Gs xs) (hb : Below w.heap.size w w') : GVs w' B Gs xs := by
  induction h with
  | nil => exact .nil
  | cons h hne t ih => exact .cons (h.mono hb) hne ih
/-- A list of groups in a block of its own. -/
def GOwn (w : World) (B : Nat) (Gs : List (List Rw)) (v : Value) : Prop := ∃ xs, w.ownsRow B 29 1 v Gs.length xs ∧ GVs w B Gs xs
theorem GOwn.mono {w w' : World} {B : Nat} {Gs : List (List Rw)} {v : Value} (h : GOwn w B Gs v) (hb : Below w.heap.size w w') : GOwn w' B Gs v := by
  obtain ⟨xs, h1, h2⟩ := h
  exact ⟨xs, own_below h1 hb, h2.mono hb⟩
theorem GOwn.nil (w : World) (B : Nat) : GOwn w B [] (.slice none 0 0) := ⟨[], World.ownsRow_nil _ _ _ _, .nil⟩
theorem GOwn.shape {w : World} {B : Nat} {Gs : List (List Rw)} {v : Value} (h : GOwn w B Gs v) : ∃ a c, v = .slice a Gs.length c := by
  obtain ⟨xs, ⟨hl, ⟨rfl, e⟩ | ⟨g, cap, cur, rfl, _⟩⟩, h2⟩ := h
  · exact ⟨none, 0, by rw [show Gs.length = 0 from by assumption]⟩
  · exact ⟨_, _, rfl⟩
/-- The last group, and what follows when it has grown by a row. -/
theorem GOwn.last {w : World} {B : Nat} {Gs : List (List Rw)} {G : List Rw} {v : Value} (h : GOwn w B (Gs ++ [G]) v) :
    ∃ g c x, v = .slice (some ⟨g, 0, none⟩) (Gs.length + 1) c ∧ B ≤ g ∧ g < w.heap.size ∧ w.cell? ⟨g, Gs.length, none⟩ = some x ∧ w.frozen? ⟨g, Gs.length, none⟩ = false ∧ RowsOwn w B G x ∧
      ∀ (w1 w' : World) (G' : List Rw) (v' : Value), Below w.heap.size w w1 → B ≤ w.heap.size → RowsOwn w' B G' v' → w1.grownBy w' x.ownBlock → (∀ k, v'.ownBlock = some k → x.ownBlock = some k ∨ w1.heap.size ≤ k) →
        g < w'.heap.size ∧ (∃ y, w'.cell? ⟨g, Gs.length, none⟩ = some y) ∧ w'.frozen? ⟨g, Gs.length, none⟩ = false ∧ GOwn (w'.setCell ⟨g, Gs.length, none⟩ v') B (Gs ++ [G']) v := by
  obtain ⟨zs, h1, h2⟩ := h
  obtain ⟨xs, x, rfl, h3, h4, h5⟩ := h2.unsnoc
  have hl := h3.length
  obtain ⟨hlen, ⟨rfl, e⟩ | ⟨g, cap, cur, rfl, hb, hg, hn, hc, hs, ht⟩⟩ := id h1
  · simp at e
  · have hlG : (Gs ++ [G]).length = Gs.length + 1 := by simp
    rw [hlG] at h1
    have hgl := (Array.getElem?_eq_some_iff.1 hg).1
    refine ⟨g, cap, x, by rw [hlG], hb, hgl, ?_, h1.frozenAt _, h4, fun w1 w' G' v' hb1 hB hr' hgr hown => ?_⟩
    · rw [h1.cellAt Gs.length (by omega), List.getElem?_append_right (by omega), hl, Nat.sub_self]; rfl
    · have h1' := own_below h1 hb1
      have h3' := h3.mono hb1
      have h4' := h4.mono hb1
      have hg1 : w1.heap[g]? = some (.cells cur 29 (0, 0)) := (hb1.block g hgl).trans hg
      have hne : x.ownBlock ≠ some g := by
        intro e
        obtain ⟨cu, fr, e2⟩ := h4'.type e
        rw [hg1] at e2
        injection e2 with e2
        injection e2 with _ e3
        exact absurd e3 (by decide)
      have hgl1 := Nat.lt_of_lt_of_le hgl hb1.size
      have h1'' := h1'.kept hgr (by right; intro e; exact hne e.symm)
      have h3'' := h3'.kept hgr fun k hk => by
        obtain ⟨cu, fr, e2⟩ := h4'.type hk
        refine ⟨?_, fun y hy => h5 y hy k hk, fun cur' fr' e3 => ?_⟩
        · obtain ⟨_, q1, _⟩ := h4'
          exact (q1.lt k hk).1
        · rw [e2] at e3
          injection e3 with e3
          injection e3 with _ e4
          exact absurd e4 (by decide)
      have hst := h1''.stored Gs.length v'
      have hg2 : w'.heap[g]? = some (.cells cur 29 (0, 0)) := (hgr.block g hgl1 (fun e => hne e.symm)).trans hg1
      have hkeep : ∀ k, some g = some k → B ≤ k ∧ (∀ cur fr, w'.heap[k]? ≠ some (.cells cur 26 fr)) ∧ ∀ cu fr, w'.heap[k]? ≠ some (.cells cu 61 fr) := by
        intro k hk
        injection hk with hk
        subst hk
        refine ⟨hb, fun cu fr e3 => ?_, fun cu fr e3 => ?_⟩ <;> (rw [hg2] at e3; injection e3 with e3; injection e3 with _ e4; exact absurd e4 (by decide))
      refine ⟨Nat.lt_of_lt_of_le hgl1 hgr.size, ⟨x, ?_⟩, h1''.frozenAt _, ⟨xs ++ [v'], ?_, ?_⟩⟩
      · rw [h1''.cellAt Gs.length (by omega), List.getElem?_append_right (by omega), hl, Nat.sub_self]; rfl
      · have hl2 : (Gs ++ [G']).length = Gs.length + 1 := by simp
        rw [hl2, hlG]
        have := hst.1
        rwa [List.set_append_right _ _ (by omega), hl, Nat.sub_self, List.set_cons_zero] at this
      · refine (h3''.kept hst.2 fun k hk => ⟨(hkeep k hk).1, fun y hy e => ?_, (hkeep k hk).2.1⟩).snoc (hr'.kept hst.2 fun k hk => ⟨(hkeep k hk).1, fun e => ?_, (hkeep k hk).2.1⟩) fun y hy k hk e => ?_
        · obtain ⟨_, cu, fr, e2⟩ := h3''.type y hy k e
          exact (hkeep k hk).2.2 cu fr e2
        · obtain ⟨cu, fr, e2⟩ := hr'.type e
          exact (hkeep k hk).2.2 cu fr e2
        · obtain ⟨q1, _⟩ := h3'.type y hy k e
          rcases hown k hk with h9 | h9
          · exact h5 y hy k h9 e
          · omega
/-- Groups as they are read. -/
def GsAt (w : World) (Gs : List (List Rw)) (v : Value) : Prop := ∃ a n c, v = .slice a n c ∧ n = Gs.length ∧ ∀ i (h : i < Gs.length), ∃ b o x, a = some ⟨b, o, none⟩ ∧ b < w.heap.size ∧ w.cell? ⟨b, o + i, none⟩ = some x ∧ RowsAt w Gs[i] x
theorem GVs.get {w : World} {B : Nat} {Gs : List (List Rw)} {xs : List Value} (h : GVs w B Gs xs) (i : Nat) (hi : i < Gs.length) : ∃ x, xs[i]? = some x ∧ RowsOwn w B Gs[i] x := by
  induction h generalizing i with
  | nil => simp at hi
  | cons h _ _ ih =>
    cases i with
    | zero => exact ⟨_, rfl, h⟩
    | succ i => exact ih i (by simpa using hi)
theorem GOwn.at {w : World} {B : Nat} {Gs : List (List Rw)} {v : Value} (h : GOwn w B Gs v) : GsAt w Gs v := by
  obtain ⟨xs, h1, h2⟩ := h
  obtain ⟨hl, ⟨rfl, e⟩ | ⟨g, cap, cur, rfl, hb, hg, hn, hc, hs, ht⟩⟩ := id h1
  · exact ⟨none, 0, 0, rfl, by omega, fun i hi => by omega⟩
  · refine ⟨_, _, _, rfl, rfl, fun i hi => ?_⟩
    obtain ⟨x, h3, h4⟩ := h2.get i hi
    refine ⟨g, 0, x, rfl, (Array.getElem?_eq_some_iff.1 hg).1, ?_, h4.at⟩
    rw [Nat.zero_add, h1.cellAt i (by omega), h3]
theorem GsAt.mono {w w' : World} {Gs : List (List Rw)} {v : Value} (h : GsAt w Gs v) (hb : Below w.heap.size w w') : GsAt w' Gs v := by
  obtain ⟨a, n, c, rfl, hn, hc⟩ := h
  refine ⟨a, n, c, rfl, hn, fun i hi => ?_⟩
  obtain ⟨b, o, x, h1, h2, h3, h4⟩ := hc i hi
  exact ⟨b, o, x, h1, Nat.lt_of_lt_of_le h2 hb.size, (hb.cell (p := ⟨b, o + i, none⟩) h2).trans h3, h4.mono hb⟩
/-- append of one row to a group, with the block it lies in then. -/
theorem wpList_rowB {w : World} {ops : Array Oper} {rest : List Oper} {o : Oper} {a : Act} {Q : Exit → Act → World → Prop} (hgd : o.guard = none) (s x : Operand)
    (ho : o.op = .call { callee := .builtin .append, args := #[s, x], argTypes := #[29, 29] })
    (B : Nat) (L : List Rw) (R : Rw) (v : Value) (hs : a.eval s = v) (hown : RowsOwn w B L v) (g : Nat) (c : Nat) (y : Value) (hx : a.eval x = .slice (some ⟨g, 0, none⟩) 1 c)
    (hc : w.cell? ⟨g, 0, none⟩ = some y) (hy : ValsAt w R y) (hf : Far w B y)
    (hlen : L.length + 1 ≤ 1099511627776) (hB : B ≤ w.heap.size)
    (h : ∀ v' w', RowsOwn w' B (L ++ [R]) v' → w.grownBy w' v.ownBlock → (∀ k, v'.ownBlock = some k → v.ownBlock = some k ∨ w.heap.size ≤ k) → wpList Try.prog ops Q rest (a.put o.dst v') w') : wpList Try.prog ops Q (o :: rest) a w := by
  obtain ⟨i0, ii, iz0, iz1, iz2⟩ := info_parts Try.info61'
  obtain ⟨xs, h1, h2, h3⟩ := hown
  have hyv : RowVs w [R] [y] := .one hy
  refine wpList_append_block w hgd s x 29 ho B 61 i0 (.slice none 0 0) 1 24 Try.underlying29 ii iz0 iz1 iz2 rfl (by decide) v _ xs hs h1 ⟨g, 0, none⟩ 1 c [y] hx rfl (fun j u hj => ?_) hyv.one' (by decide) (by unfold maxLen; omega) (by omega) hB ?_
  · match j, hj with
    | 0, hj => simp at hj; subst hj; simpa [Addr.add] using hc
  intro v' w' ho' hg hd
  have a1 := h2.grown h3 h1 hg
  have a2 := hyv.grown (by simpa using hf) h1 hg
  refine h v' w' ⟨xs ++ [y], by rw [List.length_append]; exact ho', a1.1.append a2.1, fun x hx => ?_⟩ hg hd.out
  rcases List.mem_append.1 hx with hx | hx
  · exact a1.2 x hx
  · exact a2.2 x hx
/-- append of an empty group. -/
theorem wpList_group {w : World} {ops : Array Oper} {rest : List Oper} {o : Oper} {a : Act} {Q : Exit → Act → World → Prop} (hgd : o.guard = none) (s x : Operand)
    (ho : o.op = .call { callee := .builtin .append, args := #[s, x], argTypes := #[75, 75] })
    (B : Nat) (Gs : List (List Rw)) (v : Value) (hs : a.eval s = v) (hown : GOwn w B Gs v) (g : Nat) (c : Nat) (hx : a.eval x = .slice (some ⟨g, 0, none⟩) 1 c)
    (hc : w.cell? ⟨g, 0, none⟩ = some (.slice none 0 0)) (hlen : Gs.length + 1 ≤ 1099511627776) (hB : B ≤ w.heap.size)
    (h : ∀ v' w', GOwn w' B (Gs ++ [[]]) v' → Below B w w' → wpList Try.prog ops Q rest (a.put o.dst v') w') : wpList Try.prog ops Q (o :: rest) a w := by
  obtain ⟨i0, ii, iz0, iz1, iz2⟩ := info_parts Try.info29'
  obtain ⟨xs, h1, h2⟩ := hown
  refine wpList_append_own w hgd s x 75 ho B 29 i0 (.slice none 0 0) 1 24 Try.underlying75 ii iz0 iz1 iz2 rfl (by decide) v _ xs hs h1 ⟨g, 0, none⟩ 1 c [.slice none 0 0] hx rfl (fun j u hj => ?_) (by intro u hu; rw [List.mem_singleton.1 hu]; rfl) (by unfold maxLen; omega) (by omega) hB ?_
  · match j, hj with
    | 0, hj => simp at hj; subst hj; simpa [Addr.add] using hc
  intro v' w' ho' hg _
  refine h v' w' ⟨xs ++ [.slice none 0 0], by rw [List.length_append]; exact ho', ?_⟩ ((Below.refl _ _).grown hg hB fun k hk => (h1.lt k hk).1)
  refine (h2.kept hg fun k hk => ⟨(h1.lt k hk).1, fun y hy e => ?_, fun cur fr e => ?_⟩).snoc (RowsOwn.nil w' B) fun y hy k hk => by simp [Value.ownBlock] at hk
  · obtain ⟨_, cu, fr, e2⟩ := h2.type y hy k e
    obtain ⟨_, ⟨rfl, _⟩ | ⟨g', cap, cur', rfl, _, hg', _⟩⟩ := h1
    · simp [Value.ownBlock] at hk
    · simp only [Value.ownBlock, Option.some.injEq] at hk
      subst hk
      rw [hg'] at e2
      injection e2 with e2
      injection e2 with _ e3
      exact absurd e3 (by decide)
  · obtain ⟨_, ⟨rfl, _⟩ | ⟨g', cap, cur', rfl, _, hg', _⟩⟩ := h1
    · simp [Value.ownBlock] at hk
    · simp only [Value.ownBlock, Option.some.injEq] at hk
      subst hk
      rw [hg'] at e
      injection e with e2
      injection e2 with _ e3
      exact absurd e3 (by decide)
end Go.Proofs.Ytodabeibdgancaa
/- Result: the round of the range over a function: its region. -/
namespace Go.Proofs.Ytodabeibdgancaa
open Go Go.RowKit
noncomputable def oRs : Array Oper := ((Try.f13.body).bind fun c => opsOf c 5).getD #[]
theorem keeps_below {w w' : World} (h : Below w.heap.size w w') : KeepsOthers w w' := ⟨h.size, fun k _ hk _ => (h.block k (Array.getElem?_eq_some_iff.1 hk).1).trans hk⟩
theorem inv_stored {P : Program} {ops : Array Oper} {Q : Exit → Act → World → Prop} {K : Act → World → Prop} {i : Nat} {a : Act} {w w' : World} {o : Oper} (ho : ops[i]? = some o) (hw : Region.wanted o (yielded ops a.tmps) = true) (hd : o.dst = none)
    (hc : (execOp a.eval o).run P w = .ok .skip w') (h : K a w') : wpOp P ops Q i K a w := by
  unfold wpOp
  simp only [ho, hw, if_true, Oper.wp, hc, Oper.upon, hd]
  exact .inl h
structure RsE (W : World) (B bt : Nat) (M : List Rw) (R : Rw) (v : Value) (L : Nat → Bool) (g : Nat → Value) (w : World) : Prop where
  keep : KeepsOthers W w
  below : Below B W w
  box : L 5 = false → Boxed w bt 29 v
  own : L 4 = false → RowsOwn w B M v
  src : L 4 = false → ∀ s, ValsAt W R s → ValsAt w R s
  x : L 2 = true → L 4 = false → ValsAt w R (g 17) ∧ Far w B (g 17)
  y : L 3 = true → L 4 = false → ∃ gb c y, g 18 = .slice (some ⟨gb, 0, none⟩) 1 c ∧ w.cell? ⟨gb, 0, none⟩ = some y ∧ ValsAt w R y ∧ Far w B y
  z : L 4 = true → L 5 = false → RowsOwn w B (M ++ [R]) (g 19)
  r : L 5 = true → ∃ v', Boxed w bt 29 v' ∧ RowsOwn w B (M ++ [R]) v'
set_option maxHeartbeats 4000000 in
set_option maxRecDepth 100000 in
theorem rRs {l n : Nat} {Q : Exit → Act → World → Prop} {a : Act} {w : World} (B bt : Nat) (M : List Rw) (R : Rw) (v s : Value) (hsz : a.tmps.size = 62) (h5 : a.eval (.tmp 5) = .pointer (some ⟨bt, 0, none⟩)) (h6 : a.eval (.tmp 6) = s)
    (hq : ∀ a w, ¬ Q .outgrown a w) (hbox : Boxed w bt 29 v) (hown : RowsOwn w B M v) (hs : ValsAt w R s) (hB : B ≤ bt) (hBw : B ≤ w.heap.size) (hR : R.length < 1099511627776) (hM : M.length + 1 ≤ 1099511627776)
    (ops : Array Oper) (hops : ops = oRs) (hQ : ∀ a1 w1, KeepsOthers w w1 → Below B w w1 → (∃ v', Boxed w1 bt 29 v' ∧ RowsOwn w1 B (M ++ [R]) v') → Q .normal a1 w1) : (Code.region 5 ops true).wpIn (Fence.wide.inRound l) n Try.prog Q a w := by
  subst hops
  have hsize : oRs.size = 6 := by kernel_rfl
  have hE : Looks (RsE w B bt M R v) [2, 3, 4, 5] [17, 18, 19] := by
    intro L L' g g' w1 hL hg h
    have l2 := hL 2 (by decide)
    have l3 := hL 3 (by decide)
    have l4 := hL 4 (by decide)
    have l5 := hL 5 (by decide)
    have g17 := hg 17 (by decide)
    have g18 := hg 18 (by decide)
    have g19 := hg 19 (by decide)
    obtain ⟨q1, q2, q3, q4, q5, q6, q7, q8, q9⟩ := h
    rw [l2, l4, g17] at q6
    rw [l3, l4, g18] at q7
    rw [l4, l5, g19] at q8
    rw [l5] at q3 q9
    rw [l4] at q4 q5
    exact ⟨q1, q2, q3, q4, q5, q6, q7, q8, q9⟩
  have hn1 : (([(0, 15, v), (1, 16, s)] : List (Nat × Nat × Value)).map (·.1)).Nodup := by
    show List.Nodup [0, 1]
    decide
  have hn2 : (([(0, 15, v), (1, 16, s)] : List (Nat × Nat × Value)).map (·.2.1)).Nodup := by
    show List.Nodup [15, 16]
    decide
  refine wpIn_region_vals (ops' := oRs) [15, 16, 17, 18, 19] [(0, 15, v), (1, 16, s)] (RsE w B bt M R v) rfl (by kernel_rfl) (by kernel_rfl) (by kernel_rfl) hq
    ⟨KeepsOthers.drew w, Below.drew (Below.refl _ _), fun _ => hbox, fun _ => hown.mono (Below.drew (Below.refl _ _)), fun _ s hs => hs.mono (Below.drew (Below.refl _ _)), fun h => (by cases h), fun h => (by cases h), fun h => (by cases h), fun h => (by cases h)⟩ ?_ ?_
  · intro oi o L a1 w1 ho hL hdep hI
    have hoi : oi < 6 := by have := (Array.getElem?_eq_some_iff.1 ho).1; omega
    have h1sz : a1.tmps.size = 62 := hI.frame.size.trans hsz
    have hS1 := hI.eff
    rcases (by omega : oi = 0 ∨ oi = 1 ∨ oi = 2 ∨ oi = 3 ∨ oi = 4 ∨ oi = 5) with rfl | rfl | rfl | rfl | rfl | rfl
    · have hl : oRs[0]? = some ⟨some 15, Op.load _ (Operand.tmp 5), _, _, _, none⟩ := rfl
      obtain rfl := Option.some.inj (ho.symm.trans hl)
      have x5 := hI.old 5 (.pointer (some ⟨bt, 0, none⟩)) (by decide) h5
      have e4 : L 4 = false := hI.no hL (by kernel_rfl : waitsB oRs 4 0 = true)
      have e5 : L 5 = false := hI.no e4 (by kernel_rfl : waitsB oRs 5 4 = true)
      have hc := (hS1.box e5).cell
      obtain ⟨sa, sn, sc, rfl⟩ : ∃ sa sn sc, v = .slice sa sn sc := by obtain ⟨a, n, c, h, -⟩ := (hS1.own e4).at.shape; exact ⟨a, n, c, h⟩
      exact hI.read hE 0 15 _ ho rfl rfl hdep (by decide) (by rw [hsz]; decide) (by decide) (by decide) (vals_at hn1 hn2 0 rfl) (by simp [go_sem, execOp, Act.eval, x5, hc])
    · have hl : oRs[1]? = some ⟨some 16, Op.move (Operand.tmp 6), _, _, _, none⟩ := rfl
      obtain rfl := Option.some.inj (ho.symm.trans hl)
      have x6 := hI.old 6 s (by decide) h6
      exact hI.read hE 1 16 s ho rfl rfl hdep (by decide) (by rw [hsz]; decide) (by decide) (by decide) (vals_at hn1 hn2 1 rfl) (by simp [go_sem, execOp, Act.eval, x6])
    · have hl : oRs[2]? = some ⟨some 17, Op.call ⟨Callee.value (Operand.func _), #[Operand.tmp 16], _⟩, _, _, _, none⟩ := rfl
      obtain rfl := Option.some.inj (ho.symm.trans hl)
      have x16 := hI.val 1 16 s (List.mem_of_getElem? (i := 1) rfl) (dep_of ho hdep (by kernel_rfl : waitsB oRs 2 1 = true))
      have e3 : L 3 = false := hI.no hL (by kernel_rfl : waitsB oRs 3 2 = true)
      have e4 : L 4 = false := hI.no e3 (by kernel_rfl : waitsB oRs 4 3 = true)
      have e5 : L 5 = false := hI.no e4 (by kernel_rfl : waitsB oRs 5 4 = true)
      have e2 : L 2 = false := hL
      refine inv_call ho rfl (f := 22) (by simp [go_sem, Act.eval, x16]) (clone_calls R s w1 (hS1.src e4 s hs) hR) ?_
      rintro e w2 ⟨v2, rfl, hv2, hb2⟩
      refine ⟨_, rfl, hI.put 2 17 _ ho hdep (by decide) (by intro t ht; exact vals_ne2 rfl rfl (by decide : 2 ∉ [0, 1]) (by decide : 17 ∉ [15, 16]) ht) ?_⟩
      exact ⟨hS1.keep.trans (keeps_below hb2), hS1.below.trans (hb2.mono (Nat.le_trans hBw hS1.below.size)), fun _ => (hb2.block bt (hS1.box e5).lt).trans (hS1.box e5), fun _ => (hS1.own e4).mono hb2, fun _ s hs => (hS1.src e4 s hs).mono hb2,
        fun _ _ => by rw [eval_put_same (by rw [h1sz]; decide : 17 < a1.tmps.size)]; exact ⟨hv2.vals, hv2.far⟩, fun h => by simp [e3] at h, fun h => by simp [e4] at h, fun h => by simp [e5] at h⟩
    · have hl : oRs[3]? = some ⟨some 18, Op.buildSlice _ 1 #[(0, Operand.tmp 17)], _, _, _, none⟩ := rfl
      obtain rfl := Option.some.inj (ho.symm.trans hl)
      have e2 : L 2 = true := dep_of ho hdep (by kernel_rfl : waitsB oRs 3 2 = true)
      have e4 : L 4 = false := hI.no hL (by kernel_rfl : waitsB oRs 4 3 = true)
      have e5 : L 5 = false := hI.no e4 (by kernel_rfl : waitsB oRs 5 4 = true)
      obtain ⟨hx1, hx2⟩ := hS1.x e2 e4
      obtain ⟨vx, hvx⟩ : ∃ v, a1.eval (.tmp 17) = v := ⟨_, rfl⟩
      have x17 := eval_spell hvx
      rw [hvx] at hx1 hx2
      obtain ⟨xa, xn, xc, rfl, -, -⟩ := hx1.shape
      have hb2 : Below w1.heap.size w1 (w1.alloc (.cells #[.slice xa xn xc] 61)) := (Below.refl _ _).alloc (Nat.le_refl _) _
      refine inv_value (v := .slice (some ⟨w1.heap.size, 0, none⟩) 1 1) (w' := w1.alloc (.cells #[.slice xa xn xc] 61)) ho rfl (by simp [go_sem, execOp, Act.eval, x17]) ?_
      refine hI.put 3 18 _ ho hdep (by decide) (by intro t ht; exact vals_ne2 rfl rfl (by decide : 3 ∉ [0, 1]) (by decide : 18 ∉ [15, 16]) ht) ?_
      exact ⟨hS1.keep.trans (keeps_below hb2), hS1.below.trans (hb2.mono (Nat.le_trans hBw hS1.below.size)), fun _ => (hS1.box e5).alloc _, fun _ => (hS1.own e4).mono hb2, fun _ s hs => (hS1.src e4 s hs).mono hb2,
        fun _ _ => by rw [eval_put_ne (by decide : 18 ≠ 17), hvx]; exact ⟨hx1.mono hb2, hx2.mono hx1 hb2⟩,
        fun _ _ => ⟨w1.heap.size, 1, .slice xa xn xc, eval_put_same (by rw [h1sz]; decide : 18 < a1.tmps.size), by simp, hx1.mono hb2, hx2.mono hx1 hb2⟩, fun h => by simp [e4] at h, fun h => by simp [e5] at h⟩
    · have hl : oRs[4]? = some ⟨some 19, Op.call ⟨Callee.builtin Builtin.append, #[Operand.tmp 15, Operand.tmp 18], #[29, 29]⟩, _, _, _, none⟩ := rfl
      have eo := Option.some.inj (ho.symm.trans hl)
      have hgd : o.guard = none := by rw [eo]
      have hop : o.op = Op.call ⟨Callee.builtin Builtin.append, #[Operand.tmp 15, Operand.tmp 18], #[29, 29]⟩ := by rw [eo]
      have hdst : o.dst = some 19 := by rw [eo]
      have hwt : Region.wanted o (yielded oRs a1.tmps) = true := by simp [Region.wanted, hgd]
      clear eo
      have e3 : L 3 = true := dep_of ho hdep (by kernel_rfl : waitsB oRs 4 3 = true)
      have e0 : L 0 = true := dep_of ho hdep (by kernel_rfl : waitsB oRs 4 0 = true)
      have e4 : L 4 = false := hL
      have e5 : L 5 = false := hI.no hL (by kernel_rfl : waitsB oRs 5 4 = true)
      have x15 : a1.eval (.tmp 15) = v := hI.vals (0, 15, v) (List.mem_of_getElem? (i := 0) rfl) e0
      obtain ⟨gb, c, y, y1, y2, y3, y4⟩ := hS1.y e3 e4
      have hBs := Nat.le_trans hBw hS1.below.size
      refine inv_step ho hwt fun K' hK' => ?_
      have hstep : ∀ (hh : ∀ v' w', RowsOwn w' B (M ++ [R]) v' → Below B w1 w' → w1.grownBy w' v.ownBlock → K' (a1.put o.dst v') w'), if Region.wanted o (yielded oRs a1.tmps) = true then Oper.wp Try.prog o a1 w1 K' (NoPanic Q) else True :=
        fun hh => step_rows hgd (.tmp 15) (.tmp 18) hop B M [R] v x15 (hS1.own e4) ⟨gb, 0, none⟩ c 1 [y] y1 rfl
          (fun j u hj => by match j, hj with | 0, hj => simp at hj; subst hj; simpa [Addr.add] using y2) (.one y3) (by simpa using y4) hM hBs hh
      simp only [hwt, if_true] at hstep
      refine hstep fun v' w' ho' hb' hg' => hK'.out _ _ ?_
      rw [hdst]
      refine hI.put 4 19 _ ho hdep (by decide) (by intro t ht; exact vals_ne2 rfl rfl (by decide : 4 ∉ [0, 1]) (by decide : 19 ∉ [15, 16]) ht) ?_
      have hnr : some bt ≠ v.ownBlock := by obtain ⟨xs, o1, -⟩ := hS1.own e4; exact (hS1.box e5).not_row (by decide) o1
      refine ⟨hS1.keep.trans (KeepsOthers.of_grownBy hg' fun j ob ej hj => ?_), hS1.below.trans hb', fun _ => (hS1.box e5).kept hg' hnr, fun h => by simp at h, fun h => by simp at h, fun _ h => by simp at h, fun _ h => by simp at h, fun _ _ => by rw [eval_put_same (by rw [h1sz]; decide : 19 < a1.tmps.size)]; exact ho', fun h => by simp [e5] at h⟩
      obtain ⟨cur, fr, e⟩ := (hS1.own e4).type ej
      rw [e] at hj; cases hj; rfl
    · have hl : oRs[5]? = some ⟨none, Op.store _ (Operand.tmp 5) (Operand.tmp 19), _, _, _, none⟩ := rfl
      obtain rfl := Option.some.inj (ho.symm.trans hl)
      have x5 := hI.old 5 (.pointer (some ⟨bt, 0, none⟩)) (by decide) h5
      have e4 : L 4 = true := dep_of ho hdep (by kernel_rfl : waitsB oRs 5 4 = true)
      have e5 : L 5 = false := hL
      have hz := hS1.z e4 e5
      obtain ⟨vx, hvx⟩ : ∃ v, a1.eval (.tmp 19) = v := ⟨_, rfl⟩
      have x19 := eval_spell hvx
      rw [hvx] at hz
      obtain ⟨xa, xn, xc, rfl, -⟩ := hz.at.shape
      have hc := (hS1.box e5).cell
      have hf := (hS1.box e5).frozen
      have hnr : some bt ≠ (Value.slice xa xn xc).ownBlock := by obtain ⟨xs, o1, -⟩ := hz; exact (hS1.box e5).not_row (by decide) o1
      refine inv_stored (w' := w1.setCell ⟨bt, 0, none⟩ (.slice xa xn xc)) ho rfl rfl (by simp [go_sem, execOp, Act.eval, x5, x19, hc, hf]) ?_
      refine hI.step 5 ho hdep (by intro t ht; exact vals_ne1 rfl (by decide : 5 ∉ [0, 1]) ht) ?_
      refine ⟨hS1.keep.trans (KeepsOthers.setCell _ _ _), hS1.below.trans ((Below.refl _ _).setCell (p := ⟨bt, 0, none⟩) hB _), fun h => by simp at h, fun h => by simp [e4] at h, fun h => by simp [e4] at h, fun _ h => by simp [e4] at h, fun _ h => by simp [e4] at h, fun _ h => by simp at h, fun _ => ⟨_, (hS1.box e5).set _, ?_⟩⟩
      refine hz.kept (grownBy_setCell' w1 bt _) fun k hk => ?_
      injection hk with hk
      subst hk
      refine ⟨hB, hnr.symm, fun cur fr e => ?_⟩
      have := (show w1.heap[bt]? = _ from hS1.box e5).symm.trans e
      simp at this
  · intro L a1 w1 hL hI
    exact hQ a1 w1 hI.eff.keep hI.eff.below (hI.eff.r (hL 5 (by rw [hsize]; decide)))
end Go.Proofs.Ytodabeibdgancaa
/- copied. -/
namespace Go.Proofs.Ytodabeibdgancaa
open Go Go.RowKit
set_option maxHeartbeats 4000000 in
set_option maxRecDepth 20000 in
theorem copied_calls (L : List Rw) (s : Value) (w : World) (hs : RowsAt w L s) (hm : ∀ r ∈ L, r.length < 1099511627776) (hlen : L.length < 1099511627776) :
    Calls Try.prog 9 #[s] w fun e w' => ∃ u, e = .returned u ∧ RowsOwn w' w.heap.size L u ∧ Below w.heap.size w w' := by
  obtain ⟨a, n, c, rfl, hn, hmx⟩ := hs.shape
  obtain ⟨i0, ii, iz0, iz1, iz2⟩ := info_parts Try.info61'
  obtain ⟨j0, jj, jz0, jz1, jz2⟩ := info_parts Try.info26'
  have HS := Lib.hid hs
  have Hm := Lib.hid hm
  have Hn := Lib.hid hn
  have hnb : n < 1099511627776 := by omega
  obtain ⟨B, hB⟩ : ∃ B, w.heap.size = B := ⟨_, rfl⟩
  have HB := Lib.hid hB
  clear hs hm hn hmx hlen
  rw [hB]
  go_enter Try.func9, Try.ntmps9
  go_wp2_with (refine wpList_make_full _ rfl _ _ 29 rfl B 61 i0 (.slice none 0 0) 1 Try.underlying29 ii iz0 iz1 _ _ _ _ n rfl rfl rfl rfl ?k2 ?k3 ?k4 ?_)
  case k2 => rw [iz2]; omega
  case k3 => unfold maxLen; omega
  case k4 => rw [hB]; exact Nat.le_refl _
  intro w1 ho1 hg1
  have hown := rowsOwn_made (by rw [Nat.mul_one]; exact ho1)
  have hb1 : Below B w w1 := (Below.refl _ _).grown hg1 (by omega) (by simp)
  have HW : RowKit.Hid (RowsOwn w1 B (L.take 0 ++ List.replicate (n - 0) []) (.slice (some ⟨B, 0, none⟩) n n) ∧ Below B w w1) := Lib.hid ⟨by simpa using hown, hb1⟩
  obtain ⟨g, hg⟩ : ∃ g, B = g := ⟨_, rfl⟩
  rw [show (Value.slice (some ⟨B, 0, none⟩) n n) = .slice (some ⟨g, 0, none⟩) n n by rw [hg]] at HW ⊢
  have Hg := Lib.hid hg
  clear hown hb1 ho1 hg1 hg hB
  go_wp2
  go_loopw [11] (fun z wr => ∃ k : Nat, k ≤ n ∧ z = .int .i64 k ∧ RowKit.Hid (RowsOwn wr B (L.take k ++ List.replicate (n - k) []) (.slice (some ⟨g, 0, none⟩) n n) ∧ Below B w wr)) (fun z _ => n - (intOf z).toNat)
  case atStart => exact ⟨0, Nat.zero_le _, rfl, HW⟩
  case round =>
    clear HW
    obtain ⟨k, hk, rfl, HW⟩ := hrel
    by_cases hlt : k < n
    · have hkl : k < L.length := by have := Hn.out; omega
      obtain ⟨b, o, rfl⟩ := HS.out.has k hlt
      obtain ⟨ax, nx, cx, Hcell, -⟩ := HS.out.row k hkl
      have hBw : Below w.heap.size w wr := by rw [HB.out]; exact HW.out.2
      obtain ⟨hc, hx, hbl⟩ := Hcell.out _ hBw
      have HN := Lib.hid (show (L.take k ++ List.replicate (n - k) []).set k L[k] = L.take (k + 1) ++ List.replicate (n - (k + 1)) [] by
        rw [List.set_append_right _ _ (by simp; omega), List.length_take, Nat.min_eq_left (by omega), Nat.sub_self, show n - k = n - (k + 1) + 1 by omega, List.replicate_succ, List.set_cons_zero, List.take_succ_eq_append_getElem hkl, List.append_assoc]; rfl)
      have hi2 : (k : Int) < n := by omega
      have Hlk := Lib.hid (Hm.out _ (List.getElem_mem hkl))
      have Htx := Lib.hid hx.txt
      have hsx : nx = L[k].length := by
        obtain ⟨_, _, _, e, h1, h2⟩ := hx.shape
        injection e with e1 e2 e3
        omega
      have Hsx := Lib.hid hsx
      have hown0 := World.ownsRow_lit (e := 26) (size := 3) wr #[] 0 (Nat.le_refl _) (by simp) (by simp)
      have hbl0 := (Below.refl wr.heap.size wr).alloc (Nat.le_refl _) (.cells #[] 26)
      have HFin : RowKit.Hid (∀ v w2, RowO w2 wr.heap.size L[k] v → Below wr.heap.size wr w2 → ∃ av nv cv, v = .slice av nv cv ∧ (∃ x, w2.cell? ⟨g, k, none⟩ = some x) ∧ g < w2.heap.size ∧ w2.frozen? ⟨g, k, none⟩ = false ∧ RowKit.Hid (RowsOwn (w2.setCell ⟨g, k, none⟩ (.slice av nv cv)) B (L.take (k + 1) ++ List.replicate (n - (k + 1)) []) (.slice (some ⟨g, 0, none⟩) n n) ∧ Below B w (w2.setCell ⟨g, k, none⟩ (.slice av nv cv)))) := by
        refine Lib.hid fun v w2 hv hb2 => ?_
        have hown2 := HW.out.1.mono hb2
        obtain ⟨x, c1, f1, hgl, -⟩ := hown2.cellAt k hlt
        obtain ⟨av, nv, cv, rfl, -, -⟩ := hv.vals.shape
        have hset := hown2.set k hv.vals hv.far
        rw [HN.out] at hset
        have hgB : B ≤ g := by have := Hg.out; omega
        have hBr : B ≤ wr.heap.size := by have := HW.out.2.size; have := HB.out; omega
        exact ⟨av, nv, cv, rfl, ⟨x, c1⟩, hgl, f1, Lib.hid ⟨hset, (HW.out.2.trans (hb2.mono hBr)).setCell hgB _⟩⟩
      clear hBw hsx
      rcases vals_src hx with ⟨rfl, rfl, rfl, hR⟩ | ⟨ad, rfl, hsrc⟩
      · obtain ⟨av, nv, cv, hav, ⟨x, c1⟩, hgl, f1, HW2⟩ := HFin.out (.slice (some ⟨wr.heap.size, 0, none⟩) 0 0) (wr.alloc (.cells #[] 26)) ⟨by rw [hR]; exact hown0, by rw [hR]; simp⟩ hbl0
        injection hav with e1 e2 e3
        subst e1 e2 e3
        clear hx HFin HN hR hbl0 Hsx Hlk Htx Hcell
        go_wp2_with (at_builtin; refine wpList_append_own_none rfl _ _ 61 rfl wr.heap.size 26 j0 3 Try.underlying61 jj _ 0 [] rfl hown0 rfl ?_)
        go_roundw
        case rel => exact ⟨k + 1, by omega, by go_num, HW2⟩
        case measure => simp [intOf]; omega
      · have hone := one_flat L[k]
        have hsrc' : ∀ j u, (flat L[k])[j]? = some u → (wr.alloc (.cells #[] 26)).cell? (ad.add j) = some u := by
          intro j u hu
          have h1 := hsrc j u hu
          rw [World.cell?_alloc_lt _ _ _ (World.block_lt_of_cell? wr _ h1)]
          exact h1
        have HSRC := Lib.hid hsrc'
        have Hone := Lib.hid hone
        have Hbl0 := Lib.hid hbl0
        clear hx hsrc hsrc' hone hbl0
        generalize L[k] = R at *
        clear hkl Hcell
        go_wp2_with (at_builtin; go_loud (refine wpList_append_own _ rfl _ _ 61 rfl wr.heap.size 26 j0 (.agg #[.int .i64 0, .int .i64 0, .string ⟨#[]⟩]) 3 32 Try.underlying61 jj jz0 jz1 jz2 rfl (by decide) _ 0 [] rfl hown0 ad nx cx (flat R) rfl (by rw [length_flat]; have := Hsx.out; omega) HSRC.out Hone.out (by unfold maxLen; have := Hlk.out; have := Hsx.out; omega) (by have := Hlk.out; have := Hsx.out; omega) (by simp) ?_))
        intro v' w' o1 o2 o3
        obtain ⟨av, nv, cv, rfl, ⟨x, c1⟩, hgl, f1, HW2⟩ := HFin.out v' w' ⟨by rw [← Hsx.out]; exact o1, Htx.out⟩ (Hbl0.out.grown o2 (by simp) (fun j hj => Nat.le_of_eq (by simpa [Value.ownBlock] using hj)))
        clear o1 o2 o3 HFin hc hbl HW HN
        go_wp2
        go_roundw
        case rel => exact ⟨k + 1, by omega, by go_num, HW2⟩
        case measure => simp [intOf]; omega
    · obtain rfl : k = n := by omega
      have hL : L.take k ++ List.replicate (k - k) [] = L := by rw [Nat.sub_self, List.take_of_length_le (by have := Hn.out; omega)]; simp
      have HW2 := HW.out
      rw [hL] at HW2
      have HW3 := Lib.hid HW2
      clear HW2 HW hL
      go_wp2
      go_ret
      exact ⟨_, rfl, HW3.out⟩
end Go.Proofs.Ytodabeibdgancaa
/- slices.Values over rows: what the iterator promises; all. -/
namespace Go.Proofs.Ytodabeibdgancaa
open Go Go.RowKit
attribute [local go_sem] Oper.semAt_some
theorem fins_succ {n k : Nat} (h : k < n) : (List.finRange n).take (k + 1) = (List.finRange n).take k ++ [⟨k, h⟩] := by
  rw [List.take_succ_eq_append_getElem (by simpa using h)]
  simp
set_option maxRecDepth 100000 in
set_option maxHeartbeats 2000000 in
theorem values1_in (m : Nat) (hm : 1 ≤ m) (l bx n b o c : Nat) (n₀ : Nat) (xa : Nat → Option Addr) (xn xc : Nat → Nat) (hb : b < n₀) (hn : n < 1099511627776) (J Jx : List (Fin n) → World → Prop)
    (hY : ∀ (pre : List (Fin n)) (x : Fin n) (W : World), J pre W → pre.length < n → YieldAt Fence.wide (m - 1) Try.prog l #[.slice (xa x) (xn x) (xc x)] W fun e W' =>
      (e = .returned (.bool true) ∧ J (pre ++ [x]) W' ∧ Below n₀ W W') ∨ (e = .returned (.bool false) ∧ Jx (pre ++ [x]) W'))
    (W : World) (hBs : W.cell? ⟨bx, 0, none⟩ = some (.slice (some ⟨b, o, none⟩) n c)) (hc : ∀ j, j < n → W.cell? ⟨b, o + j, none⟩ = some (.slice (xa j) (xn j) (xc j))) (h0 : J [] W) :
    CallsIn Fence.wide m Try.prog 45 #[.func (.yield l) #[] #[], .pointer (some ⟨bx, 0, none⟩)] W fun e W' => (∃ v, e = .returned v) ∧
      ((∃ ys, ys = List.finRange n ∧ J ys W') ∨ (∃ pre, True ∧ Jx pre W')) := by
  refine callsIn_of_wp Try.func45 rfl trivial ?_ rfl
  simp only [Try.ntmps45, List.size_toArray, List.length_cons, List.length_nil, Nat.reduceAdd, Nat.reduceSub, Array.replicate_succ, Array.replicate_zero, List.push_toArray, List.append_toArray, List.nil_append, List.cons_append]
  gi_wp2
  gi_loopw [7] (fun i wr => ∃ k : Nat, k ≤ n ∧ i = .int .i64 k ∧ J ((List.finRange n).take k) wr ∧ Below n₀ W wr)
    (fun i _ => n - (intOf i).toNat)
  case atStart => exact ⟨0, Nat.zero_le _, rfl, by simpa using h0, Below.refl _ _⟩
  case round =>
    obtain ⟨k, hk, rfl, hJs, hnx⟩ := hrel
    by_cases hlt : k < n
    · have hcx' : wr.cell? ⟨b, o + k, none⟩ = some (.slice (xa k) (xn k) (xc k)) := (hnx.cell (p := ⟨b, o + k, none⟩) hb).trans (hc k hlt)
      obtain ⟨fn, tmps, assign, body, hy, hR⟩ := hY _ ⟨k, hlt⟩ wr hJs (by rw [List.length_take]; omega)
      dsimp only at hy
      have hs := fins_succ hlt
      gi_wp2
      refine hR.mono ?_
      rintro e W3 (⟨rfl, hJ3, hk3⟩ | ⟨rfl, hJx3⟩)
      · gi_wp2
        go_roundw
        case rel => exact ⟨k + 1, by omega, by simp, by rw [hs]; exact hJ3, hnx.trans hk3⟩
        case measure => simp [intOf]; omega
      · gi_wp2
        refine bodyPost_ret (results_none rfl _ _ _) rfl ?_
        exact ⟨⟨_, rfl⟩, .inr ⟨_, trivial, hJx3⟩⟩
    · obtain rfl : k = n := by omega
      gi_wp2
      go_end0
      exact ⟨⟨_, rfl⟩, .inl ⟨_, rfl, by rwa [List.take_of_length_le (by simp)] at hJs⟩⟩
end Go.Proofs.Ytodabeibdgancaa
/- all: an iterator over a copy of the rows. number. -/
namespace Go.Proofs.Ytodabeibdgancaa
open Go Go.RowKit
def AllEnd (L : List Rw) (w : World) (e : Ending) (w' : World) : Prop := ∃ bx u, e = .returned (.func (.func 45) #[] #[.pointer (some ⟨bx, 0, none⟩)]) ∧ Boxed w' bx 29 u ∧ RowsOwn w' w.heap.size L u ∧ Below w.heap.size w w'
theorem values_calls (L : List Rw) (u : Value) (B : Nat) (w : World) (hu : RowsOwn w B L u) (_hB : B ≤ w.heap.size) :
    Calls Try.prog 31 #[u] w fun e w' => ∃ bx, e = .returned (.func (.func 45) #[] #[.pointer (some ⟨bx, 0, none⟩)]) ∧ Boxed w' bx 29 u ∧ RowsOwn w' B L u ∧ Below w.heap.size w w' := by
  obtain ⟨a, n, c, rfl, -⟩ := hu.at.shape
  have hb : Below w.heap.size w (w.alloc (.cells #[.slice a n c] 29)) := (Below.refl _ _).alloc (Nat.le_refl _) _
  have H := Lib.hid (show Boxed (w.alloc (.cells #[.slice a n c] 29)) w.heap.size 29 (.slice a n c) ∧ RowsOwn (w.alloc (.cells #[.slice a n c] 29)) B L (.slice a n c) ∧ Below w.heap.size w (w.alloc (.cells #[.slice a n c] 29)) from ⟨Boxed.new _ _ _, hu.mono hb, hb⟩)
  clear hu hb
  go_enter Try.func31, Try.ntmps31
  go_wp2
  go_ret
  exact ⟨_, rfl, H.out⟩
theorem all_calls (L : List Rw) (s : Value) (w : World) (hs : RowsAt w L s) (hm : ∀ r ∈ L, r.length < 1099511627776) (hlen : L.length < 1099511627776) :
    Calls Try.prog 14 #[s] w (AllEnd L w) := by
  have H1 := Lib.hid (copied_calls L s w hs hm hlen)
  obtain ⟨a, n, c, rfl, -⟩ := hs.shape
  clear hs hm hlen
  go_enter Try.func14, Try.ntmps14
  go_wp2_with fail
  (with_reducible refine H1.out.mono ?_)
  rintro e w1 ⟨u, rfl, hu, hb1⟩
  have H2 := Lib.hid (values_calls L u _ w1 hu hb1.size)
  have Hb1 := Lib.hid hb1
  obtain ⟨a1, n1, c1, rfl, -⟩ := hu.at.shape
  clear hu hb1
  go_wp2_with fail
  (with_reducible refine H2.out.mono ?_)
  rintro e w2 ⟨bx, rfl, h1, h2, hb2⟩
  have HF := Lib.hid (show Boxed w2 bx 29 (.slice a1 n1 c1) ∧ RowsOwn w2 w.heap.size L (.slice a1 n1 c1) ∧ Below w.heap.size w w2 from ⟨h1, h2, Hb1.out.trans (hb2.mono Hb1.out.size)⟩)
  clear h1 h2 hb2
  go_wp2
  go_ret
  exact ⟨_, _, rfl, HF.out⟩
theorem number_calls (n : Int) (w : World) : Calls Try.prog 12 #[.int .i64 n] w fun e w' => e = .returned (.agg #[.int .i64 1, .int .i64 n, .string ⟨#[]⟩]) ∧ Below w.heap.size w w' := by
  go_enter Try.func12, Try.ntmps12
  go_wp2
  refine bodyPost_ret (v := .agg #[.int .i64 1, .int .i64 n, .string ⟨#[]⟩]) (by simp [results, Try.results12, go_sem]) rfl ?_
  exact ⟨rfl, (Below.refl _ _).alloc (Nat.le_refl _) _⟩
end Go.Proofs.Ytodabeibdgancaa
