/- How expressions, variables and rows that came in are read: from the door's data to ArgsAt, VarsAt, ValsAt. -/
import Derived.Test.YtgaeabodofabmaaDoorFrame
import Derived.Test.YtgaeabodofabmaaDoorOpn
import Derived.Test.YtgaeabodofabmaaDoorR3
namespace Go.Proofs.YtgaeabodofabmaaDoor
open Go.ChangeShapes Go.ChangeAt Go.RowKit

theorem c26 : Tryd.prog.cellsOf 26 = 8 := by kernel_rfl
theorem b26 : Tryd.prog.bytesOf 26 = 104 := by kernel_rfl
theorem b72 : Tryd.prog.bytesOf 72 = 40 := by kernel_rfl
theorem c72 : Tryd.prog.cellsOf 72 = 5 := by kernel_rfl
theorem b23 : Tryd.prog.bytesOf 23 = 32 := by kernel_rfl
theorem c23 : Tryd.prog.cellsOf 23 = 3 := by kernel_rfl
theorem c31 : Tryd.prog.cellsOf 31 = 10 := by kernel_rfl
theorem c2 : Tryd.prog.cellsOf 2 = 1 := by kernel_rfl
theorem c3 : Tryd.prog.cellsOf 3 = 1 := by kernel_rfl
theorem c4 : Tryd.prog.cellsOf 4 = 1 := by kernel_rfl
theorem c9 : Tryd.prog.cellsOf 9 = 1 := by kernel_rfl
theorem c24 : Tryd.prog.cellsOf 24 = 1 := by kernel_rfl
theorem c27 : Tryd.prog.cellsOf 27 = 1 := by kernel_rfl
theorem c29 : Tryd.prog.cellsOf 29 = 1 := by kernel_rfl

instance : Inhabited Ex := ⟨.mk 0 ⟨#[]⟩ ⟨#[]⟩ 0 Vl.null []⟩
instance : Inhabited Vl := ⟨Vl.null⟩

section
variable {H : Type} {enc : TypeId × Value → H} {w : World}

/-- A value. -/
theorem read_vl {fuel : Nat} {cs : List Value} {x : DataW H × List MemPlace} (h : DataW.trod enc Tryd.prog w 0 (fun _ => true) true fuel 23 cs = some x) : ∃ v : Vl, cs = v.cells := by
  obtain ⟨xs, n, -, rfl, hl, hxl, hx⟩ := DataW.trod_struct Tryd.underlying23 h
  rw [c23] at hl
  match cs, hl, hx with
  | [a, b, c], _, hx =>
    match xs, hxl, hx with
    | [x0, x1, x2], _, hx =>
      have h0 := hx 0 _ rfl
      have h1 := hx 1 _ rfl
      have h2 := hx 2 _ rfl
      simp only [List.getElem_toArray, List.getElem_cons_zero, List.getElem_cons_succ, c3, c2, c9] at h0 h1 h2
      obtain ⟨k, e0, -, -⟩ := DataW.trod_int Tryd.underlying3 (by simpa using h0)
      obtain ⟨i, e1, -, -⟩ := DataW.trod_int Tryd.underlying2 (by simpa using h1)
      obtain ⟨t, e2, -, -⟩ := DataW.trod_string Tryd.underlying9 (by simpa using h2)
      cases e0
      cases e1
      cases e2
      exact ⟨⟨k, i, t⟩, rfl⟩

/-- **An expression, with all its operands.** -/
theorem read_ex (m : Nat) : ∀ (fuel : Nat), fuel ≤ m → ∀ (cs : List Value) (x : DataW H × List MemPlace), DataW.trod enc Tryd.prog w 0 (fun _ => true) true fuel 26 cs = some x → (∀ z ∈ x.1.weights Tryd.prog 26, z ≤ reachBytes) →
    ∃ (E : Ex) (s : Value), cs = E.cells s ∧ ArgsAt w E.args s := by
  induction m with
  | zero =>
    intro fuel hf cs x h
    obtain rfl : fuel = 0 := by omega
    simp [DataW.trod] at h
  | succ m ih =>
    intro fuel hf cs x h hz
    obtain ⟨xs, n, rfl, rfl, hl, hxl, hx⟩ := DataW.trod_struct Tryd.underlying26 h
    rw [c26] at hl
    match cs, hl, hx with
    | [a, b, c, d, v0, v1, v2, s], _, hx =>
      match xs, hxl, hx, hz with
      | [x0, x1, x2, x3, x4, x5], _, hx, hz =>
        have h0 := hx 0 _ rfl
        have h1 := hx 1 _ rfl
        have h2 := hx 2 _ rfl
        have h3 := hx 3 _ rfl
        have h4 := hx 4 _ rfl
        have h5 := hx 5 _ rfl
        simp only [List.getElem_toArray, List.getElem_cons_zero, List.getElem_cons_succ, c3, c23, c24, c9] at h0 h1 h2 h3 h4 h5
        obtain ⟨op, e0, -, -⟩ := DataW.trod_int Tryd.underlying3 (by simpa using h0)
        obtain ⟨tb, e1, -, -⟩ := DataW.trod_string Tryd.underlying9 (by simpa using h1)
        obtain ⟨nm, e2, -, -⟩ := DataW.trod_string Tryd.underlying9 (by simpa using h2)
        obtain ⟨ix, e3, -, -⟩ := DataW.trod_int Tryd.underlying3 (by simpa using h3)
        obtain ⟨v, e4⟩ := read_vl (x := x4) (cs := [v0, v1, v2]) (by simpa using h4)
        have h5' : DataW.trod enc Tryd.prog w 0 (fun _ => true) true n 24 [s] = some x5 := by simpa using h5
        cases e0
        cases e1
        cases e2
        cases e3
        simp only [Vl.cells, List.cons.injEq, and_true] at e4
        obtain ⟨rfl, rfl, rfl⟩ := e4
        have hz5 : ∀ z ∈ x5.1.weights Tryd.prog 24, z ≤ reachBytes := by
          intro z h
          refine hz z ?_
          simp only [List.map_cons, List.map_nil]
          rw [DataW.weights]
          simp only [Tryd.underlying26, List.map_cons, List.map_nil, DataW.weightsEach, List.mem_append]
          simp [h]
        rcases slice_read Tryd.underlying24 c26 (by omega) h5' with ⟨a, e⟩ | ⟨b, o, len, cap, k, D, R, e, hb, hlc, hcm, rfl, hxD, hDl, hel⟩
        · cases e
          exact ⟨.mk op tb nm ix v [], .slice a 0 0, rfl, .mt⟩
        · cases e
          rw [hxD] at hz5
          obtain ⟨hw1, hw2⟩ := weights_slice Tryd.underlying24 hz5
          rw [b26] at hw1
          have hall : ∀ i, i < D.length → ∃ y : Ex × Value, (∀ j, j < 8 → w.cell? ⟨b, o + i * 8 + j, none⟩ = (y.1.cells y.2)[j]?) ∧ ArgsAt w y.1.args y.2 := by
            intro i hi
            obtain ⟨cs', pl, -, hc, ht⟩ := hel i hi
            obtain ⟨E, s, rfl, hs⟩ := ih k (by omega) cs' _ ht (hw2 _ (List.getElem_mem hi))
            exact ⟨(E, s), hc, hs⟩
          obtain ⟨f, hf⟩ := Deep.choose_lt hall
          refine ⟨.mk op tb nm ix v ((List.range D.length).map fun i => (f i).1), .slice (some ⟨b, o, none⟩) len cap, rfl, ?_⟩
          refine .lie _ b o len cap (fun i => (f i).2) (by simp [Ex.args, hDl]) hb (by unfold reachBytes at hw1; omega) ?_ ?_
          · intro i h j hj
            have h' : i < D.length := by simpa [Ex.args] using h
            simpa [Ex.args] using (hf i h').1 j hj
          · intro i h
            have h' : i < D.length := by simpa [Ex.args] using h
            simpa [Ex.args] using (hf i h').2

/-- A row of values. -/
theorem read_row {fuel : Nat} {s : Value} {x : DataW H × List MemPlace} (h : DataW.trod enc Tryd.prog w 0 (fun _ => true) true fuel 29 [s] = some x) : ∃ R : List Vl, ValsAt w R s := by
  rcases slice_read Tryd.underlying29 c23 (by omega) h with ⟨a, e⟩ | ⟨b, o, len, cap, k, D, R, e, hb, hlc, hcm, rfl, hxD, hDl, hel⟩
  · cases e
    exact ⟨[], .mt⟩
  · cases e
    have hall : ∀ i, i < D.length → ∃ v : Vl, ∀ j, j < 3 → w.cell? ⟨b, o + i * 3 + j, none⟩ = v.cells[j]? := by
      intro i hi
      obtain ⟨cs', pl, -, hc, ht⟩ := hel i hi
      obtain ⟨v, rfl⟩ := read_vl ht
      exact ⟨v, hc⟩
    obtain ⟨f, hf⟩ := Deep.choose_lt hall
    refine ⟨(List.range D.length).map f, .lie _ b o len cap (by simp [hDl]) hb (by omega) ?_⟩
    intro i h j hj
    simp only [List.length_map, List.length_range] at h
    have := hf i h j hj
    simpa using this

/-- The types of a list of variables. -/
theorem read_vars {fuel : Nat} {s : Value} {x : DataW H × List MemPlace} (h : DataW.trod enc Tryd.prog w 0 (fun _ => true) true fuel 27 [s] = some x) (hz : ∀ z ∈ x.1.weights Tryd.prog 27, z ≤ reachBytes) : ∃ L : List Int, VarsAt w L s := by
  rcases slice_read Tryd.underlying27 c72 (by omega) h with ⟨a, e⟩ | ⟨b, o, len, cap, k, D, R, e, hb, hlc, hcm, rfl, hxD, hDl, hel⟩
  · cases e
    exact ⟨[], .mt⟩
  · cases e
    rw [hxD] at hz
    obtain ⟨hw1, -⟩ := weights_slice Tryd.underlying27 hz
    rw [b72] at hw1
    have hall : ∀ i, i < D.length → ∃ t : Int, w.cell? ⟨b, o + i * 5, none⟩ = some (.int .i64 t) := by
      intro i hi
      obtain ⟨cs', pl, hcl, hc, ht⟩ := hel i hi
      obtain ⟨xs, n, rfl, he, hl, hxl, hx⟩ := DataW.trod_struct Tryd.underlying72 ht
      match cs', hcl, hc, hx with
      | [a0, a1, a2, a3, a4], _, hc, hx =>
        have h0 := hx 0 _ rfl
        rw [List.getElem?_eq_getElem (by rw [hxl]; simp)] at h0
        simp only [List.getElem_toArray, List.getElem_cons_zero, c3] at h0
        obtain ⟨k, e0, -, -⟩ := DataW.trod_int Tryd.underlying3 (by simpa using h0)
        cases e0
        exact ⟨k, by simpa using hc 0 (by omega)⟩
    obtain ⟨f, hf⟩ := Deep.choose_lt hall
    refine ⟨(List.range D.length).map f, .lie _ b o len cap (by simp [hDl]) hb (by unfold reachBytes at hw1; omega) ?_⟩
    intro i h
    simp only [List.length_map, List.length_range] at h
    have := hf i h
    simpa using this

/-- **A case: an expression, its variables, and a row.** -/
theorem read_case {fuel : Nat} {cs : List Value} {x : DataW H × List MemPlace} (h : DataW.trod enc Tryd.prog w 0 (fun _ => true) true fuel 31 cs = some x) (hz : ∀ z ∈ x.1.weights Tryd.prog 31, z ≤ reachBytes) :
    ∃ (E : Ex) (L : List Int) (R : List Vl) (s l r : Value), cs = E.cells s ++ [l, r] ∧ ArgsAt w E.args s ∧ VarsAt w L l ∧ ValsAt w R r := by
  obtain ⟨xs, n, rfl, rfl, hl, hxl, hx⟩ := DataW.trod_struct Tryd.underlying31 h
  rw [c31] at hl
  match cs, hl, hx with
  | [a, b, c, d, v0, v1, v2, s, l, r], _, hx =>
    match xs, hxl, hx, hz with
    | [x0, x1, x2], _, hx, hz =>
      have h0 := hx 0 _ rfl
      have h1 := hx 1 _ rfl
      have h2 := hx 2 _ rfl
      simp only [List.getElem_toArray, List.getElem_cons_zero, List.getElem_cons_succ, c26, c27, c29] at h0 h1 h2
      have hz' : ∀ z, z ∈ x0.1.weights Tryd.prog 26 ∨ z ∈ x1.1.weights Tryd.prog 27 → z ≤ reachBytes := by
        intro z h
        refine hz z ?_
        simp only [List.map_cons, List.map_nil]
        rw [DataW.weights]
        simp only [Tryd.underlying31, List.map_cons, List.map_nil, DataW.weightsEach, List.mem_append]
        rcases h with h | h <;> simp [h]
      obtain ⟨E, s', e, hs⟩ := read_ex n n (Nat.le_refl _) [a, b, c, d, v0, v1, v2, s] x0 (by simpa using h0) fun z h => hz' z (.inl h)
      obtain ⟨L, hL⟩ := read_vars (s := l) (x := x1) (by simpa using h1) fun z h => hz' z (.inr h)
      obtain ⟨R, hR⟩ := read_row (s := r) (x := x2) (by simpa using h2)
      refine ⟨E, L, R, s', l, r, ?_, hs, hL, hR⟩
      rw [← e]
      rfl

theorem agg31 {W : World} {base : Nat} {v : Value} (h : Value.okWide Tryd.prog W .any base 31 v) : ∃ cs, v = .agg cs := by
  unfold Value.okWide at h
  rw [Tryd.underlying31] at h
  obtain ⟨cs, h1, _⟩ := h
  exact ⟨cs, h1⟩
theorem agg26 {W : World} {base : Nat} {v : Value} (h : Value.okWide Tryd.prog W .any base 26 v) : ∃ cs, v = .agg cs := by
  unfold Value.okWide at h
  rw [Tryd.underlying26] at h
  obtain ⟨cs, h1, _⟩ := h
  exact ⟨cs, h1⟩
theorem weights_all {P : Program} {ts : List TypeId} {ds : List (DataW H)} (h : (DataW.weightsEach P ts ds).all (· ≤ reachBytes) = true) : ∀ z ∈ DataW.weightsEach P ts ds, z ≤ reachBytes := by
  intro z hz
  simpa using List.all_eq_true.1 h z hz
theorem weights_first {P : Program} {t : TypeId} {ts : List TypeId} {d : DataW H} {ds : List (DataW H)} (h : ∀ z ∈ DataW.weightsEach P (t :: ts) (d :: ds), z ≤ reachBytes) : (∀ z ∈ d.weights P t, z ≤ reachBytes) ∧ ∀ z ∈ DataW.weightsEach P ts ds, z ≤ reachBytes := by
  rw [DataW.weightsEach] at h
  exact ⟨fun z hz => h z (List.mem_append.2 (.inl hz)), fun z hz => h z (List.mem_append.2 (.inr hz))⟩

/-- A case as it comes in. -/
theorem open_case {W : World} {base : Nat} {v : Value} {d : DataW H} {p : List MemPlace} (hok : Value.okWide Tryd.prog W .any base 31 v) (h : DataW.Trod enc Tryd.prog W 0 (fun _ => true) true 31 v d p) (hz : ∀ z ∈ d.weights Tryd.prog 31, z ≤ reachBytes) :
    ∃ (E : Ex) (L : List Int) (R : List Vl) (a : Option Addr) (n c : Nat) (l r : Value), v = .agg #[.int .i64 E.op, .string E.table, .string E.name, .int .i64 E.index, .int .i64 E.v.kind, .int .i64 E.v.int, .string E.v.text, .slice a n c, l, r] ∧ ArgsAt W E.args (.slice a n c) ∧ VarsAt W L l ∧ ValsAt W R r := by
  obtain ⟨cs, rfl⟩ := agg31 hok
  obtain ⟨fuel, h⟩ := h
  obtain ⟨E, L, R, s, l, r, hcs, hs, hl, hr⟩ := read_case h hz
  obtain ⟨a, n, c, rfl, -, -⟩ := hs.shape
  refine ⟨E, L, R, a, n, c, l, r, ?_, hs, hl, hr⟩
  have : cs.toList = E.cells (.slice a n c) ++ [l, r] := hcs
  rw [show cs = cs.toList.toArray by simp, this]
  rfl
/-- An expression as it comes in. -/
theorem open_expr {W : World} {base : Nat} {v : Value} {d : DataW H} {p : List MemPlace} (hok : Value.okWide Tryd.prog W .any base 26 v) (h : DataW.Trod enc Tryd.prog W 0 (fun _ => true) true 26 v d p) (hz : ∀ z ∈ d.weights Tryd.prog 26, z ≤ reachBytes) :
    ∃ (E : Ex) (a : Option Addr) (n c : Nat), v = .agg #[.int .i64 E.op, .string E.table, .string E.name, .int .i64 E.index, .int .i64 E.v.kind, .int .i64 E.v.int, .string E.v.text, .slice a n c] ∧ ArgsAt W E.args (.slice a n c) := by
  obtain ⟨cs, rfl⟩ := agg26 hok
  obtain ⟨fuel, h⟩ := h
  obtain ⟨E, s, hcs, hs⟩ := read_ex fuel fuel (Nat.le_refl _) _ _ h hz
  obtain ⟨a, n, c, rfl, -, -⟩ := hs.shape
  refine ⟨E, a, n, c, ?_, hs⟩
  have : cs.toList = E.cells (.slice a n c) := hcs
  rw [show cs = cs.toList.toArray by simp, this]
  rfl
/-- A slice of rows or variables comes in as itself. -/
theorem cell_of_one_slice {v : Value} {t e : TypeId} (W : World) (ht : Tryd.prog.underlying t = some (.slice e)) {base : Nat} (hok : Value.okWide Tryd.prog W .any base t v) : v.cells.toList = [v] := by
  unfold Value.okWide at hok
  rw [ht] at hok
  simp only at hok
  cases v <;> simp [Value.cells]
  all_goals (unfold Cell.okWide at hok; rw [ht] at hok; simp at hok)
  all_goals (unfold Cell.ok at hok; rw [ht] at hok; simp at hok)
end
end Go.Proofs.YtgaeabodofabmaaDoor
