/- How a case that came in is read, with a bound on the columns of its expression: the bulk of the data. -/
import Derived.Test.YtgaeabodofabmaaDoorRd
import Derived.Test.YtgaeabodofabmaaDoorNull
namespace Go.Proofs.YtgaeabodofabmaaDoor
open Go.ChangeShapes Go.ChangeAt Go.RowKit

section
variable {H : Type} {enc : TypeId × Value → H} {w : World}

theorem colListL_bulk : ∀ (l : List Ex) (D : List (DataW H)), l.length = D.length → (∀ i (h : i < l.length) (h' : i < D.length), l[i].colList.length ≤ Rows.uptoBulk D[i]) → (Ex.colListL l).length ≤ Rows.uptoBulkAll D
  | [], _, _, _ => by simp [Ex.colListL]
  | e :: l, [], h, _ => by simp at h
  | e :: l, d :: D, h, hb => by
    have h1 := hb 0 (by simp) (by simp)
    have h2 := colListL_bulk l D (by simpa using h) (fun i hi hi' => by have := hb (i + 1) (by simpa using hi) (by simpa using hi'); simpa using this)
    simp only [List.getElem_cons_zero] at h1
    rw [Ex.colListL, List.length_append, Rows.uptoBulkAll]
    omega

theorem read_ex_up (m : Nat) : ∀ (fuel : Nat), fuel ≤ m → ∀ (cs : List Value) (x : DataW H × List MemPlace), DataW.trod enc Tryd.prog w 0 (fun _ => true) true fuel 26 cs = some x → (∀ z ∈ x.1.weights Tryd.prog 26, z ≤ reachBytes) →
    ∃ (E : Ex) (s : Value), cs = E.cells s ∧ ArgsAt w E.args s ∧ E.colList.length ≤ Rows.uptoBulk x.1 := by
  induction m with
  | zero =>
    intro fuel hf cs x h
    obtain rfl : fuel = 0 := by omega
    simp [DataW.trod] at h
  | succ m ih =>
    intro fuel hf cs x h hz
    obtain ⟨xs, n, rfl, rfl, hl, hxl, hx⟩ := DataW.trod_struct Tryd.underlying26 h
    rw [c26] at hl
    match cs, hl, hx with
    | [a, b, c, d, v0, v1, v2, s], _, hx =>
      match xs, hxl, hx, hz with
      | [x0, x1, x2, x3, x4, x5], _, hx, hz =>
        have h0 := hx 0 _ rfl
        have h1 := hx 1 _ rfl
        have h2 := hx 2 _ rfl
        have h3 := hx 3 _ rfl
        have h4 := hx 4 _ rfl
        have h5 := hx 5 _ rfl
        simp only [List.getElem_toArray, List.getElem_cons_zero, List.getElem_cons_succ, c3, c23, c24, c9] at h0 h1 h2 h3 h4 h5
        obtain ⟨op, e0, -, -⟩ := DataW.trod_int Tryd.underlying3 (by simpa using h0)
        obtain ⟨tb, e1, -, -⟩ := DataW.trod_string Tryd.underlying9 (by simpa using h1)
        obtain ⟨nm, e2, -, -⟩ := DataW.trod_string Tryd.underlying9 (by simpa using h2)
        obtain ⟨ix, e3, -, -⟩ := DataW.trod_int Tryd.underlying3 (by simpa using h3)
        obtain ⟨v, e4⟩ := read_vl (x := x4) (cs := [v0, v1, v2]) (by simpa using h4)
        have h5' : DataW.trod enc Tryd.prog w 0 (fun _ => true) true n 24 [s] = some x5 := by simpa using h5
        cases e0
        cases e1
        cases e2
        cases e3
        simp only [Vl.cells, List.cons.injEq, and_true] at e4
        obtain ⟨rfl, rfl, rfl⟩ := e4
        have hz5 : ∀ z ∈ x5.1.weights Tryd.prog 24, z ≤ reachBytes := by
          intro z h
          refine hz z ?_
          simp only [List.map_cons, List.map_nil]
          rw [DataW.weights]
          simp only [Tryd.underlying26, List.map_cons, List.map_nil, DataW.weightsEach, List.mem_append]
          simp [h]
        have hbulk : Rows.uptoBulk x5.1 + 1 ≤ Rows.uptoBulk (DataW.agg (List.map (fun x => x.fst) [x0, x1, x2, x3, x4, x5])) := by
          simp only [List.map_cons, List.map_nil, Rows.uptoBulk, Rows.uptoBulkAll]
          omega
        have hself : ∀ args, (Ex.colListL args).length ≤ Rows.uptoBulk x5.1 → (Ex.colList (.mk op tb nm ix v args)).length ≤ Rows.uptoBulk (DataW.agg (List.map (fun x => x.fst) [x0, x1, x2, x3, x4, x5])) := by
          intro args ha
          rw [Ex.colList]
          split
          · simp only [List.length_cons, List.length_nil]; omega
          · omega
        rcases slice_read Tryd.underlying24 c26 (by omega) h5' with ⟨a, e⟩ | ⟨b, o, len, cap, k, D, R, e, hb, hlc, hcm, rfl, hxD, hDl, hel⟩
        · cases e
          exact ⟨.mk op tb nm ix v [], .slice a 0 0, rfl, .mt, hself [] (by simp [Ex.colListL])⟩
        · cases e
          rw [hxD] at hz5 hself
          obtain ⟨hw1, hw2⟩ := weights_slice Tryd.underlying24 hz5
          rw [b26] at hw1
          have hall : ∀ i, i < D.length → ∃ y : Ex × Value, (∀ j, j < 8 → w.cell? ⟨b, o + i * 8 + j, none⟩ = (y.1.cells y.2)[j]?) ∧ ArgsAt w y.1.args y.2 ∧ ∀ h : i < D.length, y.1.colList.length ≤ Rows.uptoBulk D[i] := by
            intro i hi
            obtain ⟨cs', pl, -, hc, ht⟩ := hel i hi
            obtain ⟨E, s, rfl, hs, hbk⟩ := ih k (by omega) cs' _ ht (hw2 _ (List.getElem_mem hi))
            exact ⟨(E, s), hc, hs, fun _ => hbk⟩
          obtain ⟨f, hf⟩ := Deep.choose_lt hall
          refine ⟨.mk op tb nm ix v ((List.range D.length).map fun i => (f i).1), .slice (some ⟨b, o, none⟩) len cap, rfl, ?_, hself _ ?_⟩
          · refine .lie _ b o len cap (fun i => (f i).2) (by simp [Ex.args, hDl]) hb (by unfold reachBytes at hw1; omega) ?_ ?_
            · intro i h j hj
              have h' : i < D.length := by simpa [Ex.args] using h
              simpa [Ex.args] using (hf i h').1 j hj
            · intro i h
              have h' : i < D.length := by simpa [Ex.args] using h
              simpa [Ex.args] using (hf i h').2.1
          · have h6 := colListL_bulk ((List.range D.length).map fun i => (f i).1) D (by simp) (fun i h h' => by simpa using (hf i h').2.2 h')
            simp only [Rows.uptoBulk]
            omega

/-- A case as it comes in, with the bound. -/
theorem open_case_up {W : World} {base : Nat} {v : Value} {d : DataW H} {p : List MemPlace} (hok : Value.okWide Tryd.prog W .any base 31 v) (h : DataW.Trod enc Tryd.prog W 0 (fun _ => true) true 31 v d p) (hz : ∀ z ∈ d.weights Tryd.prog 31, z ≤ reachBytes) :
    ∃ (E : Ex) (L : List Int) (R : List Vl) (a : Option Addr) (n c : Nat) (l r : Value), v = .agg #[.int .i64 E.op, .string E.table, .string E.name, .int .i64 E.index, .int .i64 E.v.kind, .int .i64 E.v.int, .string E.v.text, .slice a n c, l, r] ∧ ArgsAt W E.args (.slice a n c) ∧ VarsAt W L l ∧ ValsAt W R r ∧ E.colList.length ≤ Rows.uptoBulk d := by
  obtain ⟨cs, rfl⟩ := agg31 hok
  obtain ⟨fuel, h⟩ := h
  obtain ⟨xs, n, rfl, hd, hl, hxl, hx⟩ := DataW.trod_struct Tryd.underlying31 h
  obtain ⟨rfl, rfl⟩ := Prod.mk.inj hd
  rw [c31] at hl
  obtain ⟨l0, hcs⟩ : ∃ l0, l0 = cs.toList := ⟨_, rfl⟩
  have hcs' : cs = l0.toArray := by rw [hcs]
  subst hcs'
  simp only [Value.cells] at hl hx
  match l0, hl, hx with
  | [a, b, c, d, v0, v1, v2, s, l, r], _, hx =>
    match xs, hxl, hx, hz with
    | [x0, x1, x2], _, hx, hz =>
      have h0 := hx 0 _ rfl
      have h1 := hx 1 _ rfl
      have h2 := hx 2 _ rfl
      simp only [List.getElem_toArray, List.getElem_cons_zero, List.getElem_cons_succ, c26, c27, c29] at h0 h1 h2
      have hz' : ∀ z, z ∈ x0.1.weights Tryd.prog 26 ∨ z ∈ x1.1.weights Tryd.prog 27 → z ≤ reachBytes := by
        intro z h
        refine hz z ?_
        simp only [List.map_cons, List.map_nil]
        rw [DataW.weights]
        simp only [Tryd.underlying31, List.map_cons, List.map_nil, DataW.weightsEach, List.mem_append]
        rcases h with h | h <;> simp [h]
      obtain ⟨E, s', e, hs, hbk⟩ := read_ex_up n n (Nat.le_refl _) [a, b, c, d, v0, v1, v2, s] x0 (by simpa using h0) fun z h => hz' z (.inl h)
      obtain ⟨L, hL⟩ := read_vars (s := l) (x := x1) (by simpa using h1) fun z h => hz' z (.inr h)
      obtain ⟨R, hR⟩ := read_row (s := r) (x := x2) (by simpa using h2)
      obtain ⟨a', n', c', rfl, -, -⟩ := hs.shape
      refine ⟨E, L, R, a', n', c', l, r, ?_, hs, hL, hR, ?_⟩
      · simp only [Ex.cells, List.cons.injEq, and_true] at e
        obtain ⟨rfl, rfl, rfl, rfl, rfl, rfl, rfl, rfl⟩ := e
        rfl
      · simp only [List.map_cons, List.map_nil, Rows.uptoBulk, Rows.uptoBulkAll]
        omega
end
end Go.Proofs.YtgaeabodofabmaaDoor
