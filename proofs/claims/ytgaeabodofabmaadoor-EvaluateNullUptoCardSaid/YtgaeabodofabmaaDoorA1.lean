import Derived.Test.YtgaeabodofabmaaDoorRows
import Derived.Test.YtgaeabodofabmaaDoorBase
import Derived.WalkKit
import Derived.WalkSpells
import Derived.Outline
import Derived.RowKit3
import Derived.OwnWalk
namespace Go.Proofs.YtgaeabodofabmaaDoor
open Go.RowKit

/-- integer(n). -/
theorem integer_calls (n : Int) (w : World) : Calls Tryd.prog 28 #[.int .i64 n] w (Ret (Vl.val ⟨1, n, ⟨#[]⟩⟩) w) := by
  go_enter Tryd.func28, Tryd.ntmps28
  go_wp2
  exact bodyPost_ret (v := Vl.val ⟨1, n, ⟨#[]⟩⟩) (by simp [results, Tryd.results28, go_sem, Vl.val]) rfl ⟨rfl, (Below.refl _ _).alloc (Nat.le_refl _) _⟩
theorem rinteger_calls (n : Int) (w : World) : Calls Tryd.prog 31 #[.int .i64 n] w (Ret (Vl.val ⟨1, n, ⟨#[]⟩⟩) w) := by
  go_enter Tryd.func31, Tryd.ntmps31
  go_wp2
  exact bodyPost_ret (v := Vl.val ⟨1, n, ⟨#[]⟩⟩) (by simp [results, Tryd.results31, go_sem, Vl.val]) rfl ⟨rfl, (Below.refl _ _).alloc (Nat.le_refl _) _⟩
theorem number_calls (n : Int) (w : World) : Calls Tryd.prog 25 #[.int .i64 n] w (Ret (Ex.val (.mk 1 ⟨#[]⟩ ⟨#[]⟩ 0 ⟨1, n, ⟨#[]⟩⟩ []) (.slice none 0 0)) w) := by
  go_enter Tryd.func25, Tryd.ntmps25
  go_wp2
  exact bodyPost_ret (v := Ex.val (.mk 1 ⟨#[]⟩ ⟨#[]⟩ 0 ⟨1, n, ⟨#[]⟩⟩ []) (.slice none 0 0)) (by simp [results, Tryd.results25, go_sem, Ex.val, Ex.op, Ex.table, Ex.name, Ex.index, Ex.v]) rfl ⟨rfl, (Below.refl _ _).alloc (Nat.le_refl _) _⟩
theorem column_calls (n : Int) (w : World) : Calls Tryd.prog 29 #[.int .i64 n] w (Ret (Ex.val (.mk 2 ⟨#[]⟩ ⟨#[]⟩ n ⟨0, 0, ⟨#[]⟩⟩ []) (.slice none 0 0)) w) := by
  go_enter Tryd.func29, Tryd.ntmps29
  go_wp2
  exact bodyPost_ret (v := Ex.val (.mk 2 ⟨#[]⟩ ⟨#[]⟩ n ⟨0, 0, ⟨#[]⟩⟩ []) (.slice none 0 0)) (by simp [results, Tryd.results29, go_sem, Ex.val, Ex.op, Ex.table, Ex.name, Ex.index, Ex.v]) rfl ⟨rfl, (Below.refl _ _).alloc (Nat.le_refl _) _⟩
theorem node_calls (op : Int) (a : Option Addr) (n c : Nat) (es : List Ex) (w : World) : Calls Tryd.prog 24 #[.int .i64 op, .slice a n c] w (Ret (Ex.val (.mk op ⟨#[]⟩ ⟨#[]⟩ 0 ⟨0, 0, ⟨#[]⟩⟩ es) (.slice a n c)) w) := by
  go_enter Tryd.func24, Tryd.ntmps24
  go_wp2
  exact bodyPost_ret (v := Ex.val (.mk op ⟨#[]⟩ ⟨#[]⟩ 0 ⟨0, 0, ⟨#[]⟩⟩ es) (.slice a n c)) (by simp [results, Tryd.results24, go_sem, Ex.val, Ex.op, Ex.table, Ex.name, Ex.index, Ex.v]) rfl ⟨rfl, (Below.refl _ _).alloc (Nat.le_refl _) _⟩

/-! tribool -/
theorem rank_calls (a : Int) (w : World) : Calls Tryd.prog 52 #[.int .i64 a] w fun e w' => e = .returned (.int .i64 (if a = 0 then 0 else if a = 1 then 2 else 1)) ∧ w = w' := by
  by_cases h0 : a = 0
  · subst h0
    go_enter Tryd.func52, Tryd.ntmps52
    go_wp2
    go_ret
    exact ⟨rfl, rfl⟩
  · by_cases h1 : a = 1
    · subst h1
      go_enter Tryd.func52, Tryd.ntmps52
      go_wp2
      go_ret
      exact ⟨rfl, rfl⟩
    · rw [if_neg h0, if_neg h1]
      go_enter Tryd.func52, Tryd.ntmps52
      go_wp2
      go_ret
      exact ⟨rfl, rfl⟩
end Go.Proofs.YtgaeabodofabmaaDoor
