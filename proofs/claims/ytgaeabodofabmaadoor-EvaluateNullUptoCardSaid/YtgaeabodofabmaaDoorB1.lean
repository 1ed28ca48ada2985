import Derived.Test.YtgaeabodofabmaaDoorA1
import Derived.Test.YtgaeabodofabmaaDoorLike
import Derived.LoopTactic
import Derived.Lib.Hide
namespace Go.Proofs.YtgaeabodofabmaaDoor
open Go.RowKit

theorem skip_calls (pat : ByteArray) (pb rb g : Nat) (l : List Bool) (w : World) (hp : w.cell? ⟨pb, 0, none⟩ = some (.string pat)) (hr : w.cell? ⟨rb, 0, none⟩ = some (.slice (some ⟨g, 0, none⟩) (pat.size + 1) (pat.size + 1)))
    (hl : BoolsAt w g l) (hlen : l.length = pat.size + 1) (hpg : pb ≠ g) (hrg : rb ≠ g) (hsz : pat.size ≤ 2000000000000) :
    Calls Tryd.prog 49 #[.pointer (some ⟨pb, 0, none⟩), .pointer (some ⟨rb, 0, none⟩)] w fun e w' => e = .returned (.tuple #[]) ∧ BoolsAt w' g (skipS pat.data.toList l) ∧ w.grownBy w' (some g) := by
  have Hlen := Lib.hid hlen
  clear hlen
  go_enter Tryd.func49, Tryd.ntmps49
  go_wp2
  go_loopw [5] (fun i wr => ∃ k : Nat, k ≤ pat.size ∧ i = .int .i64 k ∧ BoolsAt wr g (skipTo pat.data.toList l k) ∧ w.grownBy wr (some g)) (fun i _ => pat.size - (intOf i).toNat)
  case atStart => exact ⟨0, Nat.zero_le _, rfl, hl, grown_refl _ _⟩
  case round =>
    obtain ⟨k, hk, rfl, hb, hg⟩ := hrel
    have hp' := hg.cell hp (fun e => hpg (by injection e))
    have hr' := hg.cell hr (fun e => hrg (by injection e))
    by_cases hlt : k < pat.size
    · have hlk : k < (skipTo pat.data.toList l k).length := by rw [length_skipTo, Hlen.out]; omega
      have hc := hb.cell k hlk
      have hcs := hb.cell (k + 1) (by rw [length_skipTo, Hlen.out]; omega)
      have hfz := hb.frozen (k + 1)
      go_wp2
      · go_round
        case rel => exact ⟨k + 1, by omega, by go_num, by rw [skip_hit hlt hlk ‹_› ‹_›]; exact hb.set _ _, grown_set hg _ _⟩
        case measure => simp [intOf]; omega
      · go_round
        case rel => exact ⟨k + 1, by omega, by go_num, by rw [skip_miss2 hlk ‹_›]; exact hb, hg⟩
        case measure => simp [intOf]; omega
      · go_round
        case rel => exact ⟨k + 1, by omega, by go_num, by rw [skip_miss1 hlt ‹_›]; exact hb, hg⟩
        case measure => simp [intOf]; omega
    · obtain rfl : k = pat.size := by omega
      go_wp2
      go_end0
      exact ⟨rfl, hb, hg⟩
end Go.Proofs.YtgaeabodofabmaaDoor
