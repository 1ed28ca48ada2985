/- Part 14 of the proof: Lo -/
import Derived.Test.YtldofiankhimjaaZ13
/- The laws: pieces of their regions that draw. -/
namespace Go.Proofs.Ytldofiankhimjaa
open Go Go.RowKit
/-- A new tree behind a pointer. -/
def freshA (v : Value) (O : Nat) : Asn := exA fun tb => starA [pureA (v = ptrI tb), objI O 0 [] tb]
/-- A tree of any height. -/
def hobjA (O tb : Nat) (l : MI) : Asn := exA fun h => starA [objI O h l tb]
theorem St.hobj {w0 w : World} {fp0 : List Nat} {L : List Asn} {O tb : Nat} {l : MI} : St w0 fp0 (hobjA O tb l :: L) w ↔ ∃ h, St w0 fp0 (objI O h l tb :: L) w := St.exo
theorem St.freshA_out {w0 w : World} {fp0 : List Nat} {L : List Asn} {v : Value} {O : Nat} (h : St w0 fp0 (freshA v O :: L) w) : ∃ tb, v = ptrI tb ∧ St w0 fp0 (objI O 0 [] tb :: L) w := by
  obtain ⟨tb, h1⟩ := St.exo.1 h
  obtain ⟨e, h2⟩ := St.pure.1 h1
  exact ⟨tb, e, h2⟩
theorem St.freshA_in {w0 w : World} {fp0 : List Nat} {L : List Asn} {tb O : Nat} (h : St w0 fp0 (objI O 0 [] tb :: L) w) : St w0 fp0 (freshA (ptrI tb) O :: L) w := St.exo.2 ⟨tb, St.pure.2 ⟨rfl, h⟩⟩
/-- A slice of three values in a block of its own. -/
def threeA (v a b c : Value) : Asn := exA fun k => starA [pureA (v = .slice (some ⟨k, 0, none⟩) 3 3), blkA k 31 #[a, b, c]]
theorem St.threeA_out {w0 w : World} {fp0 : List Nat} {L : List Asn} {v a b c : Value} (h : St w0 fp0 (threeA v a b c :: L) w) : ∃ k, v = .slice (some ⟨k, 0, none⟩) 3 3 ∧ St w0 fp0 (blkA k 31 #[a, b, c] :: L) w := by
  obtain ⟨k, h1⟩ := St.exo.1 h
  obtain ⟨e, h2⟩ := St.pure.1 h1
  exact ⟨k, e, h2⟩
theorem St.threeA_in {w0 w : World} {fp0 : List Nat} {L : List Asn} (h : St w0 fp0 L w) (a b c : Value) : St w0 fp0 (threeA (.slice (some ⟨w.heap.size, 0, none⟩) 3 3) a b c :: L) (w.alloc (.cells #[a, b, c] 31)) := St.exo.2 ⟨w.heap.size, St.pure.2 ⟨rfl, h.newblk 31 #[a, b, c]⟩⟩
theorem three_shape {w : World} {v a b c : Value} {f : List Nat} (h : (threeA v a b c).p w f) : ∃ k, v = .slice (some ⟨k, 0, none⟩) 3 3 := by
  obtain ⟨k, h1⟩ := h
  obtain ⟨_, ⟨h2, _⟩, _⟩ := Star.get 0 rfl h1
  exact ⟨k, h2⟩
theorem half_in {k : Int} (h1 : -9223372036854775808 ≤ k) (h2 : k ≤ 9223372036854775807) : IntKind.i64.wrap (k.tdiv 2) = k.tdiv 2 := by
  rw [IntKind.wrap_i64]
  have h3 : k.tdiv 2 * 2 + k.tmod 2 = k := Int.tdiv_mul_add_tmod k 2
  have h4 : k.tmod 2 < 2 := Int.tmod_lt_of_pos k (by omega)
  have h5 : -2 < k.tmod 2 := by
    have := Int.lt_tmod_of_pos k (by omega : (0 : Int) < 2)
    omega
  omega
theorem asc_ext : ∀ {l m : MI}, AscM l → AscM m → (∀ y, y ∈ l ↔ y ∈ m) → l = m
  | [], [], _, _, _ => rfl
  | [], x :: m, _, _, h => absurd ((h x).2 (by simp)) (by simp)
  | x :: l, [], _, _, h => absurd ((h x).1 (by simp)) (by simp)
  | x :: l, y :: m, ha, hb, h => by
    obtain ⟨h1, h2⟩ := AscM.cons.1 ha
    obtain ⟨h3, h4⟩ := AscM.cons.1 hb
    have e : x = y := by
      rcases List.mem_cons.1 ((h x).1 (by simp)) with e | hx
      · exact e
      · rcases List.mem_cons.1 ((h y).2 (by simp)) with e | hy
        · exact e.symm
        · exact absurd (h1 y hy) (ltK_asymm (h3 x hx))
    subst e
    congr 1
    refine asc_ext h2 h4 fun z => ⟨fun hz => ?_, fun hz => ?_⟩
    · rcases List.mem_cons.1 ((h z).1 (by simp [hz])) with e | hz'
      · subst e; exact absurd (h1 z hz) (ltK_irrefl _)
      · exact hz'
    · rcases List.mem_cons.1 ((h z).2 (by simp [hz])) with e | hz'
      · subst e; exact absurd (h3 z hz) (ltK_irrefl _)
      · exact hz'
end Go.Proofs.Ytldofiankhimjaa
