/- How operations that came in are read. -/
import Derived.Test.YtekoemcckdhhnaaK2
import Derived.Test.YtekoemcckdhhnaaI1
namespace Go.Proofs.Ytekoemcckdhhnaa
open Go.ChangeShapes Go.ChangeAt Go.RowKit

theorem c44 : Try.prog.cellsOf 44 = 2 := by kernel_rfl
theorem c4 : Try.prog.cellsOf 4 = 1 := by kernel_rfl
theorem b44 : Try.prog.bytesOf 44 = 32 := by kernel_rfl
section
variable {H : Type} {enc : TypeId × Value → H} {w : World}
theorem read_op {fuel : Nat} {cs : List Value} {x : DataW H × List MemPlace} (h : DataW.trod enc Try.prog w 0 (fun _ => true) true fuel 44 cs = some x) : ∃ (q : Bool) (R : Rw) (y : Value), cs = [.bool q, y] ∧ ValsAt w R y := by
  obtain ⟨xs, n, -, rfl, hl, hxl, hx⟩ := DataW.trod_struct Try.underlying44 h
  rw [c44] at hl
  match cs, hl, hx with
  | [a, b], _, hx =>
    match xs, hxl, hx with
    | [x0, x1], _, hx =>
      have h0 := hx 0 _ rfl
      have h1 := hx 1 _ rfl
      simp only [List.getElem_toArray, List.getElem_cons_zero, List.getElem_cons_succ, c4, c33] at h0 h1
      obtain ⟨q, e0, -⟩ := DataW.trod_bool Try.underlying4 (by simpa using h0)
      have h1' : DataW.trod enc Try.prog w 0 (fun _ => true) true n 33 [b] = some x1 := by simpa using h1
      obtain ⟨R, hR⟩ := read_row h1'
      cases e0
      exact ⟨q, R, b, rfl, hR⟩
theorem read_ops {fuel : Nat} {s : Value} {x : DataW H × List MemPlace} (h : DataW.trod enc Try.prog w 0 (fun _ => true) true fuel 42 [s] = some x) (hz : ∀ z ∈ x.1.weights Try.prog 42, z ≤ reachBytes) : ∃ Os : List (Bool × Rw), OpsAt w Os s := by
  rcases slice_read Try.underlying42 c44 (by omega) h with ⟨a, e⟩ | ⟨b, o, len, cap, k, D, R, e, hb, hlc, hcm, rfl, hxD, hDl, hel⟩
  · cases e
    exact ⟨[], .mt⟩
  · cases e
    rw [hxD] at hz
    obtain ⟨hw1, -⟩ := weights_slice Try.underlying42 hz
    rw [b44] at hw1
    have hall : ∀ i, i < D.length → ∃ y : (Bool × Rw) × Value, w.cell? ⟨b, o + i * 2, none⟩ = some (.bool y.1.1) ∧ w.cell? ⟨b, o + i * 2 + 1, none⟩ = some y.2 ∧ ValsAt w y.1.2 y.2 := by
      intro i hi
      obtain ⟨cs', pl, -, hc, ht⟩ := hel i hi
      obtain ⟨q, R', y, rfl, hR⟩ := read_op ht
      exact ⟨((q, R'), y), by simpa using hc 0 (by omega), by simpa using hc 1 (by omega), hR⟩
    obtain ⟨f, hf⟩ := Deep.choose_lt hall
    refine ⟨(List.range D.length).map fun i => (f i).1, .lie _ b o len cap (by simp [hDl]) hb (by unfold reachBytes at hw1; omega) ?_⟩
    intro i hi
    have h' : i < D.length := by simpa using hi
    refine ⟨(f i).2, ?_⟩
    simpa using hf i h'
theorem open_ops {W : World} {base : Nat} {v : Value} {d : DataW H} {p : List MemPlace} (hok : Value.okWide Try.prog W .any base 42 v) (h : DataW.Trod enc Try.prog W 0 (fun _ => true) true 42 v d p) (hz : ∀ z ∈ d.weights Try.prog 42, z ≤ reachBytes) : ∃ Os, OpsAt W Os v := by
  obtain ⟨fuel, h⟩ := h
  rw [cell_of_one_slice W Try.underlying42 hok] at h
  exact read_ops h hz
end
end Go.Proofs.Ytekoemcckdhhnaa
