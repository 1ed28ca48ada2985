/- The walks of the reference's of and order. -/
import Derived.Test.YtgaeabodofabmaaDoorA1
import Derived.Lib.Hide
import Derived.Laws.Cover1
namespace Go.Proofs.YtgaeabodofabmaaDoor
open Go.RowKit

theorem rof_calls (b : Bool) (w : World) : Calls Tryd.prog 41 #[.bool b] w fun e w' => e = .returned (.int .i64 (T3.of b).num) ∧ w = w' := by
  cases b
  · go_enter Tryd.func41, Tryd.ntmps41
    go_wp2
    go_ret
    exact ⟨rfl, rfl⟩
  · go_enter Tryd.func41, Tryd.ntmps41
    go_wp2
    go_ret
    exact ⟨rfl, rfl⟩

/-- What order returns. -/
def orderN (a b : Vl) : Int :=
  if a.int < b.int ∨ Op.bytesLess a.text.toList b.text.toList = true then -1 else
  if b.int < a.int ∨ (!(Op.bytesLess a.text.toList b.text.toList || a.text.toList == b.text.toList)) = true then 1 else 0

theorem rorder_calls (a b : Vl) (w : World) : Calls Tryd.prog 42 #[.agg #[.int .i64 a.kind, .int .i64 a.int, .string a.text], .agg #[.int .i64 b.kind, .int .i64 b.int, .string b.text]] w fun e w' => e = .returned (.int .i64 (orderN a b)) ∧ Below w.heap.size w w' := by
  have Hb0 : RowKit.Hid (∀ o o', Below w.heap.size w ((w.alloc o).alloc o')) := fun o o' => ((Below.refl _ _).alloc (Nat.le_refl _) o).alloc (by simp) o'
  obtain ⟨ak, ai, at'⟩ := a
  obtain ⟨bk, bi, bt⟩ := b
  have HN : RowKit.Hid (orderN ⟨ak, ai, at'⟩ ⟨bk, bi, bt⟩ = if ai < bi ∨ Op.bytesLess at'.toList bt.toList = true then -1 else if bi < ai ∨ (!(Op.bytesLess at'.toList bt.toList || at'.toList == bt.toList)) = true then 1 else 0) := rfl
  simp only
  by_cases h1 : ai < bi
  · have HR : RowKit.Hid (orderN ⟨ak, ai, at'⟩ ⟨bk, bi, bt⟩ = -1) := by show _ = _; rw [HN.out, if_pos (.inl h1)]
    clear HN
    go_enter Tryd.func42, Tryd.ntmps42
    go_wp2
    go_ret
    exact ⟨by rw [HR.out]; rfl, Hb0.out _ _⟩
  · have h1' : bi ≤ ai := by omega
    cases hx : Op.bytesLess at'.toList bt.toList
    · by_cases h2 : bi < ai
      · have HR : RowKit.Hid (orderN ⟨ak, ai, at'⟩ ⟨bk, bi, bt⟩ = 1) := by show _ = _; rw [HN.out, if_neg (by simp [h1, hx]), if_pos (.inl h2)]
        clear HN h1
        go_enter Tryd.func42, Tryd.ntmps42
        go_wp2
        go_ret
        exact ⟨by rw [HR.out]; rfl, Hb0.out _ _⟩
      · have h2' : ai ≤ bi := by omega
        cases hy : at'.toList == bt.toList
        · have HR : RowKit.Hid (orderN ⟨ak, ai, at'⟩ ⟨bk, bi, bt⟩ = 1) := by show _ = _; rw [HN.out, if_neg (by simp [h1, hx]), if_pos (.inr (by simp [hx, hy]))]
          clear HN h1 h2
          go_enter Tryd.func42, Tryd.ntmps42
          go_wp2
          go_ret
          exact ⟨by rw [HR.out]; rfl, Hb0.out _ _⟩
        · have HR : RowKit.Hid (orderN ⟨ak, ai, at'⟩ ⟨bk, bi, bt⟩ = 0) := by show _ = _; rw [HN.out, if_neg (by simp [h1, hx]), if_neg (by simp [h2, hx, hy])]
          clear HN h1 h2
          go_enter Tryd.func42, Tryd.ntmps42
          go_wp2
          go_ret
          exact ⟨by rw [HR.out]; rfl, Hb0.out _ _⟩
    · have HR : RowKit.Hid (orderN ⟨ak, ai, at'⟩ ⟨bk, bi, bt⟩ = -1) := by show _ = _; rw [HN.out, if_pos (.inr hx)]
      clear HN h1
      go_enter Tryd.func42, Tryd.ntmps42
      go_wp2
      go_ret
      exact ⟨by rw [HR.out]; rfl, Hb0.out _ _⟩
end Go.Proofs.YtgaeabodofabmaaDoor
