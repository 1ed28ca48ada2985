/- Part 17 of the proof: Kd -/
import Derived.Test.YtldofiankhimjaaZ12
import Derived.Test.YtldofiankhimjaaZ16
import Derived.WideKeyPair
/- How keys and pairs of numbers are read. -/
namespace Go.Proofs.Ytldofiankhimjaa
open Go.ChangeShapes Go.ChangeAt Go.RowKit Go.WideMaps
set_option maxRecDepth 100000
theorem arrTwo : ArrKey Try.prog 23 3 2 := ⟨Try.underlying23, by kernel_rfl, c3, by kernel_rfl⟩
theorem i64_wf {k : Int} (h : (Lit.int .i64 k).wf = true) : -9223372036854775808 ≤ k ∧ k ≤ 9223372036854775807 := by
  unfold Lit.wf at h
  simp only [Bool.and_eq_true, decide_eq_true_eq] at h
  have h1 : IntKind.min .i64 = -9223372036854775808 := by decide
  have h2 : IntKind.max .i64 = 9223372036854775807 := by decide
  omega
section
variable {H : Type} {enc : TypeId × Value → H} {w : World}
theorem read_keys {fuel : Nat} {s : Value} {x : DataW H × List MemPlace} (h : DataW.trod enc Try.prog w 0 (fun _ => true) true fuel 22 [s] = some x) : ∃ L, IntsAt w s L := by
  rcases slice_read Try.underlying22 c3 (by omega) h with ⟨a, e⟩ | ⟨b, o, len, cap, k, D, R, e, hb, hlc, hcm, rfl, hxD, hDl, hel⟩
  · cases e
    exact ⟨[], by simp, a, 0, rfl, Nat.le_refl _, fun i hi => absurd hi (by simp)⟩
  · cases e
    have hall : ∀ i, i < D.length → ∃ v : Int, w.cell? ⟨b, o + i, none⟩ = some (.int .i64 v) ∧ -9223372036854775808 ≤ v ∧ v ≤ 9223372036854775807 := by
      intro i hi
      obtain ⟨cs', pl, -, hc, ht⟩ := hel i hi
      obtain ⟨v, rfl, -, hw⟩ := DataW.trod_int Try.underlying3 ht
      have h0 := hc 0 (by omega)
      rw [Nat.mul_one, Nat.add_zero] at h0
      exact ⟨v, h0, i64_wf hw⟩
    obtain ⟨f, hf⟩ := Deep.choose_lt hall
    have hlen : ((List.range D.length).map f).length = len := by simp [hDl]
    refine ⟨(List.range D.length).map f, by omega, some ⟨b, o, none⟩, cap, by rw [hlen], by omega, fun i hi => ?_⟩
    have hi' : i < D.length := by simpa using hi
    have e : ((List.range D.length).map f)[i] = f i := by simp
    rw [e]
    obtain ⟨h0, h1, h2⟩ := hf i hi'
    exact ⟨b, o, rfl, hb, h0, h1, h2⟩
theorem open_keys {W : World} {base : Nat} {v : Value} {d : DataW H} {p : List MemPlace} (hok : Value.okWide Try.prog W .any base 22 v) (h : DataW.Trod enc Try.prog W 0 (fun _ => true) true 22 v d p) : ∃ L, IntsAt W v L := by
  obtain ⟨fuel, h⟩ := h
  rw [cell_of_one_slice W Try.underlying22 hok] at h
  exact read_keys h
theorem open_two {W : World} {base : Nat} {v : Value} {d : DataW H} {p : List MemPlace} (hok : Value.okWide Try.prog W .any base 23 v) (h : DataW.Trod enc Try.prog W 0 (fun _ => true) true 23 v d p) : ∃ a b : Int, v = .agg #[.int .i64 a, .int .i64 b] := by
  obtain ⟨a, b, e, -⟩ := open_pair arrTwo Try.underlying3 hok h
  exact ⟨a, b, e⟩
end
end Go.Proofs.Ytldofiankhimjaa
