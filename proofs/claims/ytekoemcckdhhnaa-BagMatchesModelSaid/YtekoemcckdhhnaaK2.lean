/- How rows, lists of rows and operations that came in are read. -/
import Derived.Test.YtekoemcckdhhnaaK0
import Derived.Test.YtekoemcckdhhnaaK1
import Derived.Test.YtekoemcckdhhnaaE0
namespace Go.Proofs.Ytekoemcckdhhnaa
open Go.ChangeShapes Go.ChangeAt Go.RowKit

theorem c38 : Try.prog.cellsOf 38 = 3 := by kernel_rfl
theorem c9 : Try.prog.cellsOf 9 = 1 := by kernel_rfl
theorem c33 : Try.prog.cellsOf 33 = 1 := by kernel_rfl
theorem c2 : Try.prog.cellsOf 2 = 1 := by kernel_rfl
theorem c3 : Try.prog.cellsOf 3 = 1 := by kernel_rfl
instance : Inhabited Vl := ⟨⟨0, 0, ⟨#[]⟩⟩⟩
section
variable {H : Type} {enc : TypeId × Value → H} {w : World}

theorem read_vl {fuel : Nat} {cs : List Value} {x : DataW H × List MemPlace} (h : DataW.trod enc Try.prog w 0 (fun _ => true) true fuel 38 cs = some x) : ∃ v : Vl, cs = v.cells ∧ v.text.size ≤ maxLen := by
  obtain ⟨xs, n, -, rfl, hl, hxl, hx⟩ := DataW.trod_struct Try.underlying38 h
  rw [c38] at hl
  match cs, hl, hx with
  | [a, b, c], _, hx =>
    match xs, hxl, hx with
    | [x0, x1, x2], _, hx =>
      have h0 := hx 0 _ rfl
      have h1 := hx 1 _ rfl
      have h2 := hx 2 _ rfl
      simp only [List.getElem_toArray, List.getElem_cons_zero, List.getElem_cons_succ, c3, c2, c9] at h0 h1 h2
      obtain ⟨k, e0, -, -⟩ := DataW.trod_int Try.underlying3 (by simpa using h0)
      obtain ⟨i, e1, -, -⟩ := DataW.trod_int Try.underlying2 (by simpa using h1)
      obtain ⟨t, e2, -, hm⟩ := DataW.trod_string Try.underlying9 (by simpa using h2)
      cases e0
      cases e1
      cases e2
      exact ⟨⟨k, i, t⟩, rfl, hm⟩

/-- A row. -/
theorem read_row {fuel : Nat} {s : Value} {x : DataW H × List MemPlace} (h : DataW.trod enc Try.prog w 0 (fun _ => true) true fuel 33 [s] = some x) : ∃ R : Rw, ValsAt w R s := by
  rcases slice_read Try.underlying33 c38 (by omega) h with ⟨a, e⟩ | ⟨b, o, len, cap, k, D, R, e, hb, hlc, hcm, rfl, hxD, hDl, hel⟩
  · cases e
    exact ⟨[], .mt⟩
  · cases e
    have hall : ∀ i, i < D.length → ∃ v : Vl, (∀ j, j < 3 → w.cell? ⟨b, o + i * 3 + j, none⟩ = v.cells[j]?) ∧ v.text.size ≤ maxLen := by
      intro i hi
      obtain ⟨cs', pl, -, hc, ht⟩ := hel i hi
      obtain ⟨v, rfl, hv⟩ := read_vl ht
      exact ⟨v, hc, hv⟩
    obtain ⟨f, hf⟩ := Deep.choose_lt hall
    refine ⟨(List.range D.length).map f, .lie _ b o len cap (by simp [hDl]) hb (by omega) ?_ ?_⟩
    · intro i h j hj
      simp only [List.length_map, List.length_range] at h
      have := (hf i h).1 j hj
      simpa using this
    · intro v hv
      obtain ⟨i, hi, rfl⟩ := List.mem_map.1 hv
      exact (hf i (by simpa using hi)).2

theorem rowVs_map {n : Nat} (f : Nat → Rw × Value) (h : ∀ i, i < n → ValsAt w (f i).1 (f i).2) : RowVs w ((List.range n).map fun i => (f i).1) ((List.range n).map fun i => (f i).2) := by
  induction n with
  | zero => exact .nil
  | succ n ih =>
    rw [List.range_succ, List.map_append, List.map_append]
    exact (ih fun i hi => h i (by omega)).append (.one (h n (by omega)))
/-- A list of rows. -/
theorem read_rows {fuel : Nat} {s : Value} {x : DataW H × List MemPlace} (h : DataW.trod enc Try.prog w 0 (fun _ => true) true fuel 22 [s] = some x) : ∃ L : List Rw, RowsAt w L s := by
  rcases slice_read Try.underlying22 c33 (by omega) h with ⟨a, e⟩ | ⟨b, o, len, cap, k, D, R, e, hb, hlc, hcm, rfl, hxD, hDl, hel⟩
  · cases e
    exact ⟨[], .mt⟩
  · cases e
    have hall : ∀ i, i < D.length → ∃ y : Rw × Value, w.cell? ⟨b, o + i, none⟩ = some y.2 ∧ ValsAt w y.1 y.2 := by
      intro i hi
      obtain ⟨cs', pl, hcl, hc, ht⟩ := hel i hi
      match cs', hcl, hc, ht with
      | [y], _, hc, ht =>
        obtain ⟨R, hR⟩ := read_row ht
        exact ⟨(R, y), by simpa using hc 0 (by omega), hR⟩
    obtain ⟨f, hf⟩ := Deep.choose_lt hall
    refine ⟨(List.range D.length).map fun i => (f i).1, .lie _ ((List.range D.length).map fun i => (f i).2) b o len cap (by simp [hDl]) hb (by omega) ?_ (rowVs_map f fun i hi => (hf i hi).2)⟩
    intro i x hx
    obtain ⟨h1, h2⟩ := List.getElem?_eq_some_iff.1 hx
    simp only [List.length_map, List.length_range] at h1
    rw [(hf i h1).1, ← h2]
    simp
theorem open_row {W : World} {base : Nat} {v : Value} {d : DataW H} {p : List MemPlace} (hok : Value.okWide Try.prog W .any base 33 v) (h : DataW.Trod enc Try.prog W 0 (fun _ => true) true 33 v d p) : ∃ R, ValsAt W R v := by
  obtain ⟨fuel, h⟩ := h
  rw [cell_of_one_slice W Try.underlying33 hok] at h
  exact read_row h
theorem open_rows {W : World} {base : Nat} {v : Value} {d : DataW H} {p : List MemPlace} (hok : Value.okWide Try.prog W .any base 22 v) (h : DataW.Trod enc Try.prog W 0 (fun _ => true) true 22 v d p) : ∃ L, RowsAt W L v := by
  obtain ⟨fuel, h⟩ := h
  rw [cell_of_one_slice W Try.underlying22 hok] at h
  exact read_rows h
end
end Go.Proofs.Ytekoemcckdhhnaa
