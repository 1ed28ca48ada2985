/- The bag's Equal; slices.Clone at rows. -/
import Derived.Test.YtekoemcckdhhnaaF3
import Derived.Lib.SliceRun
namespace Go.Proofs.Ytekoemcckdhhnaa
open Go.RowKit

set_option maxHeartbeats 1000000 in
theorem bequal_calls (B pb C pc : Nat) (s t : Value) (b c : List Ent) (w : World) (hb : BagAt w B pb s b) (hc : BagAt w C pc t c) :
    Calls Try.prog 23 #[.pointer (some ⟨pb, 0, none⟩), .pointer (some ⟨pc, 0, none⟩)] w fun e w' => e = .returned (.bool (decide (b = c))) ∧ Below w.heap.size w w' := by
  obtain ⟨a, cp, rfl, q1, q2⟩ := hb.shape
  obtain ⟨a', cp', rfl, q3, q4⟩ := hc.shape
  obtain ⟨c0, c1⟩ := hb.cell
  obtain ⟨d0, d1⟩ := hc.cell
  have hlt := hb.lt
  have hlt' := hc.lt
  have HC := Lib.hid (fun w' (h : Below w.heap.size w w') => equalFunc_calls b c _ _ w' (hb.ents.mono h) (hc.ents.mono h))
  clear hb hc c1 d1 q1 q2 q3 q4
  generalize b.length = n at *
  generalize c.length = m at *
  go_enter Try.func23, Try.ntmps23
  go_wp2_with fail
  go_region_held3 (fun w' => Below w.heap.size w w' ∧ ∀ b o, b < w.heap.size → w'.cell? ⟨b, o, none⟩ = w.cell? ⟨b, o, none⟩)
    (first | assumption | exact S_of (Below.drew (Below.refl _ _)) | exact S_step (by assumption) (by assumption))
    (first | (go_at_call 34; (with_reducible refine (HC.out _ (by first | assumption | exact And.left (by assumption))).mono ?_); rintro e w1 ⟨rfl, hb1⟩))
  all_goals
    rename_i hH
    have Hb1 := Lib.hid hH.1
    clear hH
    go_wp2
    go_ret
    exact ⟨rfl, Hb1.out⟩
end Go.Proofs.Ytekoemcckdhhnaa
