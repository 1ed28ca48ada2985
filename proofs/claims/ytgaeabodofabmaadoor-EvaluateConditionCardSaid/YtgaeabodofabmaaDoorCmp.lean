/- Plain: the reference's order of two values of one type is the program's. -/
import Derived.Test.YtgaeabodofabmaaDoorR16
import Derived.Test.YtgaeabodofabmaaDoorTyped
namespace Go.Proofs.YtgaeabodofabmaaDoor

theorem less_cmp : ∀ a b : List UInt8, Op.bytesLess a b = decide (Lib.compareBytes a b < 0)
  | [], [] => by simp [Op.bytesLess, Lib.compareBytes]
  | [], _ :: _ => by simp [Op.bytesLess, Lib.compareBytes]
  | _ :: _, [] => by simp [Op.bytesLess, Lib.compareBytes]
  | a :: x, b :: y => by
    rw [Op.bytesLess, Lib.compareBytes, less_cmp x y]
    by_cases h : a < b
    · simp [h]
    · by_cases h2 : b < a
      · have hne : ¬ a = b := fun e => by subst e; exact h h2
        simp [h, h2, hne]
      · have he : a = b := by
          rw [UInt8.lt_iff_toNat_lt] at h h2
          exact UInt8.toNat_inj.1 (by omega)
        subst he
        simp
theorem eq_cmp : ∀ a b : List UInt8, Lib.compareBytes a b = 0 ↔ a = b
  | [], [] => by simp [Lib.compareBytes]
  | [], _ :: _ => by simp [Lib.compareBytes]
  | _ :: _, [] => by simp [Lib.compareBytes]
  | a :: x, b :: y => by
    rw [Lib.compareBytes]
    by_cases h : a < b
    · have hne : ¬ a = b := fun e => by subst e; exact UInt8.lt_irrefl _ h
      simp [h, hne]
    · by_cases h2 : b < a
      · have hne : ¬ a = b := fun e => by subst e; exact h h2
        simp [h, h2, hne]
      · have he : a = b := by
          rw [UInt8.lt_iff_toNat_lt] at h h2
          exact UInt8.toNat_inj.1 (by omega)
        subst he
        simp [eq_cmp x y]
theorem cmp_range : ∀ a b : List UInt8, Lib.compareBytes a b = -1 ∨ Lib.compareBytes a b = 0 ∨ Lib.compareBytes a b = 1
  | [], [] => by simp [Lib.compareBytes]
  | [], _ :: _ => by simp [Lib.compareBytes]
  | _ :: _, [] => by simp [Lib.compareBytes]
  | a :: x, b :: y => by
    rw [Lib.compareBytes]
    split
    · exact .inl rfl
    · split
      · exact .inr (.inr rfl)
      · exact cmp_range x y

theorem order_eq {t : Int} {a b : Vl} (ha : a.Of t) (hb : b.Of t) (h1 : a.kind ≠ 0) (h2 : b.kind ≠ 0) : orderN a b = orS (cmpS a.int b.int) (Lib.compareBytes a.text.data.toList b.text.data.toList) := by
  obtain ⟨ak, ai, at'⟩ := a
  obtain ⟨bk, bi, bt⟩ := b
  rcases ha with ⟨h, _⟩ | ⟨_, ht, hx⟩ | ⟨_, ht, hi, _⟩
  · exact absurd h h1
  · rcases hb with ⟨h, _⟩ | ⟨_, _, hy⟩ | ⟨_, ht2, _⟩
    · exact absurd h h2
    · simp only at hx hy
      subst hx hy
      have e : Lib.compareBytes (⟨#[]⟩ : ByteArray).data.toList (⟨#[]⟩ : ByteArray).data.toList = 0 := rfl
      unfold orderN orS cmpS
      simp only [e, less_cmp, ByteArray.toList_eq]
      by_cases c1 : ai < bi
      · simp [c1]
      · by_cases c2 : bi < ai
        · simp [c1, c2]
        · simp [c1, c2]
    · omega
  · rcases hb with ⟨h, _⟩ | ⟨_, ht2, _⟩ | ⟨_, _, hj, _⟩
    · exact absurd h h2
    · omega
    · simp only at hi hj
      subst hi hj
      unfold orderN orS cmpS
      simp only [less_cmp, ByteArray.toList_eq]
      have hr := cmp_range at'.data.toList bt.data.toList
      have he := eq_cmp at'.data.toList bt.data.toList
      by_cases hq : at'.data.toList = bt.data.toList
      · have h0 := he.2 hq
        simp [hq] at h0 ⊢
        simp [h0]
      · have h0 : ¬ Lib.compareBytes at'.data.toList bt.data.toList = 0 := fun h => hq (he.1 h)
        rcases hr with h | h | h
        · simp [h]
        · exact absurd h h0
        · simp [h]
          exact fun e => hq (by rw [e])
end Go.Proofs.YtgaeabodofabmaaDoor
