/- The walk of the reference's Bound: at a well-typed integer expression it returns some number. -/
import Derived.Test.YtgaeabodofabmaaDoorR7
import Derived.Deep.RegionHeld3
import Derived.Laws.Cover1
namespace Go.Proofs.YtgaeabodofabmaaDoor
open Go.RowKit

theorem VarIs.keep {W w : World} {b : Nat} {c : Array Value} (h : VarIs W b c) (hS : Below W.heap.size W w ∧ ∀ b o, b < W.heap.size → w.cell? ⟨b, o, none⟩ = W.cell? ⟨b, o, none⟩) : VarIs w b c := h.below hS.1 h.lt

/-- The contract of Bound at E. -/
def BdAt (E : Ex) : Prop := ∀ (a : Option Addr) (n c : Nat) (s : Value) (w : World), ArgsAt w E.args (.slice a n c) →
    Calls Tryd.prog 56 #[.agg #[.int .i64 E.op, .string E.table, .string E.name, .int .i64 E.index, .int .i64 E.v.kind, .int .i64 E.v.int, .string E.v.text, .slice a n c], s] w (SomeInt w)

theorem bd_lit (tb nm : ByteArray) (ix : Int) (v : Vl) (args : List Ex) : BdAt (.mk 1 tb nm ix v args) := by
  intro a n c s w hs
  simp only [Ex.op, Ex.table, Ex.name, Ex.index, Ex.v]
  clear hs
  go_enter Tryd.func56, Tryd.ntmps56
  go_wp2
  go_ret
  exact ⟨_, rfl, (Below.refl _ _).alloc (Nat.le_refl _) _⟩
theorem bd_col (tb nm : ByteArray) (ix : Int) (v : Vl) (args : List Ex) : BdAt (.mk 2 tb nm ix v args) := by
  intro a n c s w hs
  simp only [Ex.op, Ex.table, Ex.name, Ex.index, Ex.v]
  clear hs
  go_enter Tryd.func56, Tryd.ntmps56
  go_wp2
  go_ret
  exact ⟨_, rfl, (Below.refl _ _).alloc (Nat.le_refl _) _⟩
theorem bd_len (tb nm : ByteArray) (ix : Int) (v : Vl) (args : List Ex) : BdAt (.mk 9 tb nm ix v args) := by
  intro a n c s w hs
  simp only [Ex.op, Ex.table, Ex.name, Ex.index, Ex.v]
  clear hs
  go_enter Tryd.func56, Tryd.ntmps56
  go_wp2
  go_ret
  exact ⟨_, rfl, (Below.refl _ _).alloc (Nat.le_refl _) _⟩
theorem bd_neg (tb nm : ByteArray) (ix : Int) (v0 : Vl) (A : Ex) (l : List Ex) (hA : BdAt A) : BdAt (.mk 3 tb nm ix v0 (A :: l)) := by
  intro a n c s w hs
  simp only [Ex.op, Ex.table, Ex.name, Ex.index, Ex.v]
  simp only [Ex.args] at hs
  obtain ⟨b, o, rfl, hlt, hn⟩ : ∃ b o, a = some ⟨b, o, none⟩ ∧ b < w.heap.size ∧ 1 ≤ n := by
    cases hs with
    | lie _ b o _ _ _ hn hlt => exact ⟨b, o, rfl, hlt, by simp at hn; omega⟩
  have k0 : (0 : Int) < (n : Int) := by omega
  have k2 : 0 < n := by omega
  obtain ⟨s0, hs0, c0, c1, c2, c3, c4, c5, c6, c7⟩ := hs.cell 0 (by simp)
  simp only [List.getElem_cons_zero, Nat.zero_mul, Nat.add_zero] at c0 c1 c2 c3 c4 c5 c6 c7 hs0
  obtain ⟨a0, n0, e0, rfl, -, -⟩ := hs0.shape
  have HA := Lib.hid (hA a0 n0 e0 s)
  have Hb0 : RowKit.Hid (∀ o, Below w.heap.size w (w.alloc o)) := fun o => (Below.refl _ _).alloc (Nat.le_refl _) o
  clear hs hA
  go_enter Tryd.func56, Tryd.ntmps56
  go_wp2_with fail
  refine (HA.out _ (hs0.mono (Hb0.out _))).mono ?_
  rintro e w1 ⟨t, rfl, hb1⟩
  have Hbw := Lib.hid ((Hb0.out _).trans (hb1.mono (Hb0.out _).size))
  clear hb1 c0 c1 c2 c3 c4 c5 c6 c7
  go_wp2
  go_ret
  exact ⟨_, rfl, Hbw.out⟩
set_option maxHeartbeats 4000000 in
theorem bd_bin (op : Int) (hop : op = 4 ∨ op = 5 ∨ op = 6 ∨ op = 7 ∨ op = 8) (tb nm : ByteArray) (ix : Int) (v0 : Vl) (A B : Ex) (l : List Ex) (hA : BdAt A) (hB : BdAt B) : BdAt (.mk op tb nm ix v0 (A :: B :: l)) := by
  intro a n c s w hs
  simp only [Ex.op, Ex.table, Ex.name, Ex.index, Ex.v]
  simp only [Ex.args] at hs
  obtain ⟨b, o, rfl, hlt, hn⟩ : ∃ b o, a = some ⟨b, o, none⟩ ∧ b < w.heap.size ∧ 2 ≤ n := by
    cases hs with
    | lie _ b o _ _ _ hn hlt => exact ⟨b, o, rfl, hlt, by simp at hn; omega⟩
  have hb0 : Below w.heap.size w (w.alloc (.cells #[.int .i64 op, .string tb, .string nm, .int .i64 ix, .int .i64 v0.kind, .int .i64 v0.int, .string v0.text, .slice (some ⟨b, o, none⟩) n c] 26)) := (Below.refl _ _).alloc (Nat.le_refl _) _
  have hv := VarIs.new w #[.int .i64 op, .string tb, .string nm, .int .i64 ix, .int .i64 v0.kind, .int .i64 v0.int, .string v0.text, .slice (some ⟨b, o, none⟩) n c] 26
  have b1 : (op == 1) = false := by rcases hop with rfl | rfl | rfl | rfl | rfl <;> rfl
  have b2 : (op == 2) = false := by rcases hop with rfl | rfl | rfl | rfl | rfl <;> rfl
  have b9 : (op == 9) = false := by rcases hop with rfl | rfl | rfl | rfl | rfl <;> rfl
  have b3 : (op == 3) = false := by rcases hop with rfl | rfl | rfl | rfl | rfl <;> rfl
  have Hop := Lib.hid hop
  clear hop
  go_enter Tryd.func56, Tryd.ntmps56
  go_wp2_with fail
  generalize w.alloc (.cells #[.int .i64 op, .string tb, .string nm, .int .i64 ix, .int .i64 v0.kind, .int .i64 v0.int, .string v0.text, .slice (some ⟨b, o, none⟩) n c] 26) = W at *
  have hs := hs.mono hb0
  have hlt : b < W.heap.size := Nat.lt_of_lt_of_le hlt hb0.size
  obtain ⟨s0, hs0, c0, c1, c2, c3, c4, c5, c6, c7⟩ := hs.cell 0 (by simp)
  obtain ⟨s1, hs1, d0, d1, d2, d3, d4, d5, d6, d7⟩ := hs.cell 1 (by simp)
  simp only [List.getElem_cons_zero, List.getElem_cons_succ, Nat.zero_mul, Nat.add_zero, Nat.one_mul] at c0 c1 c2 c3 c4 c5 c6 c7 d0 d1 d2 d3 d4 d5 d6 d7 hs0 hs1
  obtain ⟨a0, n0, e0, rfl, -, -⟩ := hs0.shape
  obtain ⟨a1, n1, e1, rfl, -, -⟩ := hs1.shape
  have HA := Lib.hid (fun w' h1 => hA a0 n0 e0 s w' h1)
  have HB := Lib.hid (fun w' h1 => hB a1 n1 e1 s w' h1)
  have Hb0 := Lib.hid hb0
  have Hv := Lib.hid hv
  clear hA hB hs hb0
  obtain ⟨v1, v2, -⟩ := hv
  have k0 : (0 : Int) < (n : Int) := by omega
  have k1 : (1 : Int) < (n : Int) := by omega
  have k2 : 0 < n := by omega
  have k3 : 1 < n := by omega
  go_region_held3 (fun w' => Below W.heap.size W w' ∧ ∀ b o, b < W.heap.size → w'.cell? ⟨b, o, none⟩ = W.cell? ⟨b, o, none⟩)
    (first | assumption | exact S_of (Below.drew (Below.refl _ _)) | exact S_step (by assumption) (by assumption))
    (first
      | (go_at_call 56; (with_reducible refine (HA.out _ (hs0.keep ‹_›)).mono ?_); rintro e w1 ⟨t1, rfl, hb1⟩)
      | (go_at_call 56; (with_reducible refine (HB.out _ (hs1.keep ‹_›)).mono ?_); rintro e w1 ⟨t2, rfl, hb1⟩))
  rename_i hH
  have V := Lib.hid (VarIs.keep Hv.out hH)
  have H := Lib.hid (Hb0.out.trans (hH.1.mono Hb0.out.size))
  clear hH hb1 c0 c1 c2 c3 c4 c5 c6 c7 d0 d1 d2 d3 d4 d5 d6 d7 v1 v2 Hv HA HB hs0 hs1
  obtain ⟨f1, f2, -⟩ := V.out
  rcases Hop.out with rfl | rfl | rfl | rfl | rfl
  all_goals go_wp2_with fail
  all_goals go_ways
  all_goals go_ret
  all_goals exact ⟨_, rfl, H.out⟩

theorem bd_all {L : List Int} {t : Int} {E : Ex} (h : VT L t E) : t = 1 → BdAt E := by
  induction h with
  | lit t tb nm ix v h => exact fun _ => bd_lit tb nm ix v []
  | col t tb nm i v h => exact fun _ => bd_col tb nm i v []
  | neg tb nm ix v A hA ih => exact fun _ => bd_neg tb nm ix v A [] (ih rfl)
  | len tb nm ix v A hA ih => exact fun _ => bd_len tb nm ix v [A]
  | bin op hop tb nm ix v A B hA hB ihA ihB => exact fun _ => bd_bin op (by omega) tb nm ix v A B [] (ihA rfl) (ihB rfl)
  | div op hop tb nm ix v A B d hA hB hc hd hk h1 h2 ihA ihB => exact fun _ => bd_bin op (by omega) tb nm ix v A B [] (ihA rfl) (ihB rfl)
end Go.Proofs.YtgaeabodofabmaaDoor
