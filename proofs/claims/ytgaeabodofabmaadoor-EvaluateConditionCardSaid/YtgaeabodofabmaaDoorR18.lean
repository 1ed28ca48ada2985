/- The walk of the reference's Condition at NULL, IS NULL, NOT, AND, OR. -/
import Derived.Test.YtgaeabodofabmaaDoorR8
import Derived.Test.YtgaeabodofabmaaDoorR16
namespace Go.Proofs.YtgaeabodofabmaaDoor
open Go.RowKit

/-- The contract of the reference's Condition at E. -/
def RcAt (R : List Vl) (E : Ex) (x : T3) : Prop := ∀ (a : Option Addr) (n c : Nat) (r : Value) (w : World), ArgsAt w E.args (.slice a n c) → ValsAt w R r →
    Calls Tryd.prog 16 #[.agg #[.int .i64 E.op, .string E.table, .string E.name, .int .i64 E.index, .int .i64 E.v.kind, .int .i64 E.v.int, .string E.v.text, .slice a n c], r] w fun e w' => e = .returned (.int .i64 x.num) ∧ Below w.heap.size w w'

theorem run_field23 (k i : Int) (t : ByteArray) (w : World) : (Instr.field 23 (.agg #[.int .i64 k, .int .i64 i, .string t]) 0).run Tryd.prog w = .ok (.int .i64 k) w := by kernel_rfl

theorem rc_null (tb nm : ByteArray) (ix : Int) (v : Vl) (args : List Ex) (R : List Vl) : RcAt R (.mk 1 tb nm ix v args) .u := by
  intro a n c r w hs hr
  simp only [Ex.op, Ex.table, Ex.name, Ex.index, Ex.v]
  clear hs hr
  go_enter Tryd.func16, Tryd.ntmps16
  go_wp2
  go_ret
  exact ⟨rfl, (Below.refl _ _).alloc (Nat.le_refl _) _⟩

theorem rc_isnull (tb nm : ByteArray) (ix : Int) (v0 : Vl) (A : Ex) (l : List Ex) (R : List Vl) (v : Vl) (hA : RvAt R A v) : RcAt R (.mk 17 tb nm ix v0 (A :: l)) (T3.of (v.kind == 0)) := by
  intro a n c r w hs hr
  simp only [Ex.op, Ex.table, Ex.name, Ex.index, Ex.v]
  simp only [Ex.args] at hs
  obtain ⟨b, o, rfl, hlt, hn⟩ : ∃ b o, a = some ⟨b, o, none⟩ ∧ b < w.heap.size ∧ 1 ≤ n := by
    cases hs with
    | lie _ b o _ _ _ hn hlt => exact ⟨b, o, rfl, hlt, by simp at hn; omega⟩
  have k0 : (0 : Int) < (n : Int) := by omega
  have k2 : 0 < n := by omega
  obtain ⟨s0, hs0, c0, c1, c2, c3, c4, c5, c6, c7⟩ := hs.cell 0 (by simp)
  simp only [List.getElem_cons_zero, Nat.zero_mul, Nat.add_zero] at c0 c1 c2 c3 c4 c5 c6 c7 hs0
  obtain ⟨a0, n0, e0, rfl, -, -⟩ := hs0.shape
  have HA := Lib.hid (hA a0 n0 e0 r)
  have Hb0 : RowKit.Hid (∀ o, Below w.heap.size w (w.alloc o)) := fun o => (Below.refl _ _).alloc (Nat.le_refl _) o
  clear hs hA
  go_enter Tryd.func16, Tryd.ntmps16
  go_wp2_with fail
  refine (HA.out _ (hs0.mono (Hb0.out _)) (hr.mono (Hb0.out _))).mono ?_
  rintro e w1 ⟨rfl, hb1⟩
  have Hbw := Lib.hid ((Hb0.out _).trans (hb1.mono (Hb0.out _).size))
  clear hb1 c0 c1 c2 c3 c4 c5 c6 c7
  simp only [Vl.val]
  have hfd := run_field23 v.kind v.int v.text
  go_wp2_with fail
  refine (rof_calls _ _).mono ?_
  rintro e w2 ⟨rfl, rfl⟩
  go_wp2
  go_ret
  exact ⟨rfl, Hbw.out⟩

theorem rc_not (tb nm : ByteArray) (ix : Int) (v0 : Vl) (A : Ex) (l : List Ex) (R : List Vl) (x : T3) (hA : RcAt R A x) : RcAt R (.mk 20 tb nm ix v0 (A :: l)) x.not := by
  intro a n c r w hs hr
  simp only [Ex.op, Ex.table, Ex.name, Ex.index, Ex.v]
  simp only [Ex.args] at hs
  obtain ⟨b, o, rfl, hlt, hn⟩ : ∃ b o, a = some ⟨b, o, none⟩ ∧ b < w.heap.size ∧ 1 ≤ n := by
    cases hs with
    | lie _ b o _ _ _ hn hlt => exact ⟨b, o, rfl, hlt, by simp at hn; omega⟩
  have k0 : (0 : Int) < (n : Int) := by omega
  have k2 : 0 < n := by omega
  obtain ⟨s0, hs0, c0, c1, c2, c3, c4, c5, c6, c7⟩ := hs.cell 0 (by simp)
  simp only [List.getElem_cons_zero, Nat.zero_mul, Nat.add_zero] at c0 c1 c2 c3 c4 c5 c6 c7 hs0
  obtain ⟨a0, n0, e0, rfl, -, -⟩ := hs0.shape
  have HA := Lib.hid (hA a0 n0 e0 r)
  have Hb0 : RowKit.Hid (∀ o, Below w.heap.size w (w.alloc o)) := fun o => (Below.refl _ _).alloc (Nat.le_refl _) o
  clear hs hA
  go_enter Tryd.func16, Tryd.ntmps16
  go_wp2_with fail
  refine (HA.out _ (hs0.mono (Hb0.out _)) (hr.mono (Hb0.out _))).mono ?_
  rintro e w1 ⟨rfl, hb1⟩
  have Hbw := Lib.hid ((Hb0.out _).trans (hb1.mono (Hb0.out _).size))
  clear hb1 c0 c1 c2 c3 c4 c5 c6 c7
  cases x
  all_goals simp only [T3.num]
  all_goals go_wp2
  all_goals go_ret
  all_goals exact ⟨rfl, Hbw.out⟩

/-- AND, OR. -/
def T3.join (op : Int) (x y : T3) : T3 := if op = 18 then x.and y else x.or y

set_option maxHeartbeats 4000000 in
theorem rc_join (op : Int) (hop : op = 18 ∨ op = 19) (tb nm : ByteArray) (ix : Int) (v0 : Vl) (A B : Ex) (l : List Ex) (R : List Vl) (x y : T3) (hA : RcAt R A x) (hB : RcAt R B y) : RcAt R (.mk op tb nm ix v0 (A :: B :: l)) (T3.join op x y) := by
  intro a n c r w hs hr
  simp only [Ex.op, Ex.table, Ex.name, Ex.index, Ex.v]
  simp only [Ex.args] at hs
  obtain ⟨b, o, rfl, hlt, hn⟩ : ∃ b o, a = some ⟨b, o, none⟩ ∧ b < w.heap.size ∧ 2 ≤ n := by
    cases hs with
    | lie _ b o _ _ _ hn hlt => exact ⟨b, o, rfl, hlt, by simp at hn; omega⟩
  have hb0 : Below w.heap.size w (w.alloc (.cells #[.int .i64 op, .string tb, .string nm, .int .i64 ix, .int .i64 v0.kind, .int .i64 v0.int, .string v0.text, .slice (some ⟨b, o, none⟩) n c] 26)) := (Below.refl _ _).alloc (Nat.le_refl _) _
  have hv := VarIs.new w #[.int .i64 op, .string tb, .string nm, .int .i64 ix, .int .i64 v0.kind, .int .i64 v0.int, .string v0.text, .slice (some ⟨b, o, none⟩) n c] 26
  have b1 : (op == 1) = false := by rcases hop with rfl | rfl <;> rfl
  have b17 : (op == 17) = false := by rcases hop with rfl | rfl <;> rfl
  have Hop := Lib.hid hop
  clear hop
  rcases Hop.out with rfl | rfl
  all_goals clear Hop
  all_goals
    go_enter Tryd.func16, Tryd.ntmps16
    go_wp2_with fail
    generalize w.alloc (.cells #[.int .i64 _, .string tb, .string nm, .int .i64 ix, .int .i64 v0.kind, .int .i64 v0.int, .string v0.text, .slice (some ⟨b, o, none⟩) n c] 26) = W at *
    have hs := hs.mono hb0
    have hr := hr.mono hb0
    have hlt : b < W.heap.size := Nat.lt_of_lt_of_le hlt hb0.size
    obtain ⟨s0, hs0, c0, c1, c2, c3, c4, c5, c6, c7⟩ := hs.cell 0 (by simp)
    obtain ⟨s1, hs1, d0, d1, d2, d3, d4, d5, d6, d7⟩ := hs.cell 1 (by simp)
    simp only [List.getElem_cons_zero, List.getElem_cons_succ, Nat.zero_mul, Nat.add_zero, Nat.one_mul] at c0 c1 c2 c3 c4 c5 c6 c7 d0 d1 d2 d3 d4 d5 d6 d7 hs0 hs1
    obtain ⟨a0, n0, e0, rfl, -, -⟩ := hs0.shape
    obtain ⟨a1, n1, e1, rfl, -, -⟩ := hs1.shape
    have HA := Lib.hid (fun w' h1 h2 => hA a0 n0 e0 r w' h1 h2)
    have HB := Lib.hid (fun w' h1 h2 => hB a1 n1 e1 r w' h1 h2)
    have HR := Lib.hid hr
    have Hb0 := Lib.hid hb0
    have Hv := Lib.hid hv
    clear hA hB hs hb0 hr
    obtain ⟨v1, v2, -⟩ := hv
    have k0 : (0 : Int) < (n : Int) := by omega
    have k1 : (1 : Int) < (n : Int) := by omega
    have k2 : 0 < n := by omega
    have k3 : 1 < n := by omega
    go_region_held3 (fun w' => Below W.heap.size W w' ∧ ∀ b o, b < W.heap.size → w'.cell? ⟨b, o, none⟩ = W.cell? ⟨b, o, none⟩)
      (first | assumption | exact S_of (Below.drew (Below.refl _ _)) | exact S_step (by assumption) (by assumption))
      (first
        | (go_at_call 16; (with_reducible refine (HA.out _ (hs0.keep ‹_›) (HR.out.keep ‹_›)).mono ?_); rintro e w1 ⟨rfl, hb1⟩)
        | (go_at_call 16; (with_reducible refine (HB.out _ (hs1.keep ‹_›) (HR.out.keep ‹_›)).mono ?_); rintro e w1 ⟨rfl, hb1⟩))
    rename_i hH
    have V := Lib.hid (VarIs.keep Hv.out hH)
    have H := Lib.hid (Hb0.out.trans (hH.1.mono Hb0.out.size))
    clear hH hb1 c0 c1 c2 c3 c4 c5 c6 c7 d0 d1 d2 d3 d4 d5 d6 d7 v1 v2 Hv HA HB hs0 hs1
    obtain ⟨f1, f2, -⟩ := V.out
    cases x
    all_goals cases y
    all_goals simp only [T3.num]
    all_goals go_wp2_with fail
    all_goals go_ret
    all_goals exact ⟨rfl, H.out⟩
end Go.Proofs.YtgaeabodofabmaaDoor
