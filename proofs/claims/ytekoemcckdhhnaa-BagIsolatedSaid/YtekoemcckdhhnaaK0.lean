/- Any slice of structs that is read as data: its address, its cells, its elements' data. (Over any program.) -/
import Derived.ChangeArms
import Derived.ChangeAt
import Derived.Deep.Slices
import Derived.Laws.World
import GoSem.ClaimJoined
namespace Go.Proofs.Ytekoemcckdhhnaa
open Go.ChangeShapes Go.ChangeAt

section
variable {H : Type} {enc : TypeId × Value → H} {P : Program} {w : World} {held : Bool}

theorem spotless {w : World} {a : Addr} {v : Value} (h : w.cell? a = some v) : a.spot = none ∧ a.block < w.heap.size := by
  refine ⟨?_, World.block_lt_of_cell? w a h⟩
  unfold World.cell? at h
  split at h
  · split at h
    · cases h
    · rename_i hs; simpa using hs
  · cases h

theorem cells_at {w : World} {b o i sz : Nat} {cs : List Value} (h : w.cells? 0 (Addr.add ⟨b, o, none⟩ (i * sz)) sz = some cs) : cs.length = sz ∧ ∀ j, j < sz → w.cell? ⟨b, o + i * sz + j, none⟩ = cs[j]? := by
  obtain ⟨_, hl, hc⟩ := World.cells?_some h
  refine ⟨hl, fun j hj => ?_⟩
  have := hc j hj
  rw [Deep.add_add] at this
  rw [← this]
  unfold Addr.add
  by_cases h0 : i * sz + j = 0
  · rw [if_pos h0]; simp [Nat.add_assoc, h0]
  · rw [if_neg h0]; simp [Nat.add_assoc]

/-- **A slice read as data.** -/
theorem slice_read {t e : TypeId} {fuel sz : Nat} {cs : List Value} {x : DataW H × List MemPlace} (ht : P.underlying t = some (.slice e)) (hsz : P.cellsOf e = sz) (h0 : 0 < sz) (h : DataW.trod enc P w 0 (fun _ => true) held fuel t cs = some x) :
    (∃ a, cs = [.slice a 0 0]) ∨
    ∃ (b o len cap n : Nat) (D : List (DataW H)) (R : List (DataW H)), cs = [.slice (some ⟨b, o, none⟩) len cap] ∧ b < w.heap.size ∧ len ≤ cap ∧ cap ≤ maxLen ∧ fuel = n + 1 ∧ x.1 = .slice D R ∧ D.length = len ∧
      ∀ i (hi : i < D.length), ∃ cs' pl, cs'.length = sz ∧ (∀ j, j < sz → w.cell? ⟨b, o + i * sz + j, none⟩ = cs'[j]?) ∧ DataW.trod enc P w 0 (fun _ => true) held n e cs' = some (D[i], pl) := by
  rcases DataW.trod_slice ht h with ⟨rfl, -⟩ | ⟨a, len, cap, elems, rest, n, rfl, rfl, rfl, -, hl, hm, hlen, hel, hsp, -⟩
  · exact .inl ⟨none, rfl⟩
  by_cases hc0 : cap = 0
  · subst hc0
    obtain rfl : len = 0 := by omega
    exact .inl ⟨some a, rfl⟩
  right
  -- the first element, or the first of the spare, is read: so the address has no spot
  have hcell : ∃ v, w.cell? a = some v := by
    have hread : ∃ cs', w.cells? 0 (a.add (0 * P.cellsOf e)) (P.cellsOf e) = some cs' := by
      by_cases hl0 : len = 0
      · subst hl0
        obtain ⟨hr, hj⟩ := hsp rfl
        have h1 := hj 0 (by omega)
        rw [List.getElem?_eq_getElem (by omega)] at h1
        obtain ⟨cs', h2, _⟩ := Option.bind_eq_some_iff.1 h1
        exact ⟨cs', by simpa using h2⟩
      · have h1 := hel 0 (by omega)
        rw [List.getElem?_eq_getElem (by omega)] at h1
        obtain ⟨cs', h2, _⟩ := Option.bind_eq_some_iff.1 h1
        exact ⟨cs', h2⟩
    obtain ⟨cs', h1⟩ := hread
    obtain ⟨_, hl', hc⟩ := World.cells?_some h1
    have h2 := hc 0 (by omega)
    rw [List.getElem?_eq_getElem (by omega)] at h2
    exact ⟨_, by simpa [Addr.add] using h2⟩
  obtain ⟨v, hv⟩ := hcell
  obtain ⟨hs, hb⟩ := spotless hv
  obtain ⟨b, o, sp⟩ := a
  simp only at hs hb
  subst hs
  refine ⟨b, o, len, cap, n, elems.map (·.1), rest.map (·.1), rfl, hb, hl, hm, rfl, rfl, by simpa using hlen, fun i hi => ?_⟩
  have hi' : i < elems.length := by simpa using hi
  have h1 := hel i (by omega)
  rw [List.getElem?_eq_getElem hi'] at h1
  obtain ⟨cs', h2, h3⟩ := Option.bind_eq_some_iff.1 h1
  rw [hsz] at h2
  obtain ⟨h4, h5⟩ := cells_at h2
  exact ⟨cs', (elems[i]).2, h4, h5, by rw [h3]; simp⟩

theorem mem_weightsAll {e : TypeId} {z : Nat} : ∀ {l : List (DataW H)} {d : DataW H}, d ∈ l → z ∈ d.weights P e → z ∈ DataW.weightsAll P e l
  | [], _, h, _ => by cases h
  | d' :: l, d, h, hz => by
    rw [DataW.weightsAll, List.mem_append]
    rcases List.mem_cons.1 h with rfl | h
    · exact .inl hz
    · exact .inr (mem_weightsAll h hz)
theorem weights_slice {t e : TypeId} (ht : P.underlying t = some (.slice e)) {D R : List (DataW H)} {B : Nat} (h : ∀ z ∈ (DataW.slice D R).weights P t, z ≤ B) :
    (D.length + R.length) * P.bytesOf e ≤ B ∧ ∀ d ∈ D, ∀ z ∈ d.weights P e, z ≤ B := by
  rw [DataW.weights] at h
  simp only [ht] at h
  exact ⟨h _ (by simp), fun d hd z hz => h z (by simp [mem_weightsAll hd hz])⟩
end
end Go.Proofs.Ytekoemcckdhhnaa
