/- The walk of the reference's unary. (Printed by unary.py.) -/
import Derived.Test.YtgaeabodofabmaaDoorR10
namespace Go.Proofs.YtgaeabodofabmaaDoor
open Go.RowKit

theorem good1 {L : List Int} {E : Ex} (h : VT L 1 E) : Good L 1 E := ⟨fun h => by omega, fun _ => h, fun h => by omega, fun h => by omega, fun _ _ => by omega⟩
theorem good3 {L : List Int} {E : Ex} (h : CT L E) (ho : E.op ≠ 1) : Good L 3 E := ⟨fun h => by omega, fun h => by omega, fun h => by omega, fun _ => h, fun _ h => absurd h ho⟩
def UnAt (L : List Int) (E : Ex) : Prop := ∀ (a : Option Addr) (n c : Nat) (s : Value) (w : World), ArgsAt w E.args (.slice a n c) → VarsAt w L s →
    Calls Tryd.prog 59 #[.agg #[.int .i64 E.op, .string E.table, .string E.name, .int .i64 E.index, .int .i64 E.v.kind, .int .i64 E.v.int, .string E.v.text, .slice a n c], s] w (TyPost L E w)

theorem un_len {L : List Int} (E : Ex) (h : E.args.length ≠ 1) : UnAt L E := by
  intro a n c s w hs hl
  obtain ⟨_, _, _, he, hn, -⟩ := hs.shape
  cases he
  have h1 : ((n : Int) == 1) = false := by simp; omega
  clear hs hn h
  go_enter Tryd.func59, Tryd.ntmps59
  go_wp2
  go_ret
  exact ⟨_, rfl, good_none _ _ _ (by decide), (Below.refl _ _).alloc (Nat.le_refl _) _⟩

theorem un_3 {L : List Int} (tb nm : ByteArray) (ix : Int) (v0 : Vl) (A : Ex) (hA : IsAt L A) : UnAt L (.mk 3 tb nm ix v0 [A]) := by
  intro a n c s w hs hl
  simp only [Ex.op, Ex.table, Ex.name, Ex.index, Ex.v]
  simp only [Ex.args] at hs
  obtain ⟨b, o, rfl, hlt, hn⟩ : ∃ b o, a = some ⟨b, o, none⟩ ∧ b < w.heap.size ∧ n = 1 := by
    cases hs with
    | lie _ b o _ _ _ hn hlt => exact ⟨b, o, rfl, hlt, by simpa using hn⟩
  subst hn
  obtain ⟨s0, hs0, c0, c1, c2, c3, c4, c5, c6, c7⟩ := hs.cell 0 (by simp)
  simp only [List.getElem_cons_zero, Nat.zero_mul, Nat.add_zero] at c0 c1 c2 c3 c4 c5 c6 c7 hs0
  obtain ⟨a0, n0, e0, rfl, -, -⟩ := hs0.shape
  have HA := Lib.hid (fun t => hA t a0 n0 e0 s)
  have V0 := Lib.hid ((VarIs.new w #[.int .i64 3, .string tb, .string nm, .int .i64 ix, .int .i64 v0.kind, .int .i64 v0.int, .string v0.text, .slice (some ⟨b, o, none⟩) 1 c] 26).alloc (.cells #[.int .i64 A.op, .string A.table, .string A.name, .int .i64 A.index, .int .i64 A.v.kind, .int .i64 A.v.int, .string A.v.text, .slice a0 n0 e0] 26))
  have V1 := Lib.hid (VarIs.new1 w (.cells #[.int .i64 3, .string tb, .string nm, .int .i64 ix, .int .i64 v0.kind, .int .i64 v0.int, .string v0.text, .slice (some ⟨b, o, none⟩) 1 c] 26) #[.int .i64 A.op, .string A.table, .string A.name, .int .i64 A.index, .int .i64 A.v.kind, .int .i64 A.v.int, .string A.v.text, .slice a0 n0 e0] 26)
  have Hb0 : RowKit.Hid (∀ o o', Below w.heap.size w ((w.alloc o).alloc o')) := fun o o' => ((Below.refl _ _).alloc (Nat.le_refl _) o).alloc (by simp) o'
  clear hs hA
  go_enter Tryd.func59, Tryd.ntmps59
  go_wp2_with fail
  refine (HA.out _ _ (hs0.mono (Hb0.out _ _)) (hl.mono (Hb0.out _ _))).mono ?_
  rintro e w1 ⟨y, rfl, hy, hb1⟩
  have V2 := Lib.hid (V0.out.below hb1 (by simp; omega))
  have V3 := Lib.hid (V1.out.below hb1 (by simp))
  have Hbw := Lib.hid ((Hb0.out _ _).trans (hb1.mono (Hb0.out _ _).size))
  have Hy := Lib.hid hy
  have hs1 := hs0.mono Hbw.out
  have hl1 := hl.mono Hbw.out
  obtain ⟨f1, f2, -⟩ := V2.out
  clear hb1 c0 c1 c2 c3 c4 c5 c6 c7 V1 V0 hy
  cases y
  · go_wp2
    go_ret
    exact ⟨_, rfl, good_none _ _ _ (by decide), Hbw.out⟩
  · go_wp2
    go_ret
    exact ⟨_, rfl, good1 (.neg tb nm ix v0 A ((Hy.out (by simp)).1 rfl)), Hbw.out⟩

theorem un_9 {L : List Int} (tb nm : ByteArray) (ix : Int) (v0 : Vl) (A : Ex) (hA : IsAt L A) : UnAt L (.mk 9 tb nm ix v0 [A]) := by
  intro a n c s w hs hl
  simp only [Ex.op, Ex.table, Ex.name, Ex.index, Ex.v]
  simp only [Ex.args] at hs
  obtain ⟨b, o, rfl, hlt, hn⟩ : ∃ b o, a = some ⟨b, o, none⟩ ∧ b < w.heap.size ∧ n = 1 := by
    cases hs with
    | lie _ b o _ _ _ hn hlt => exact ⟨b, o, rfl, hlt, by simpa using hn⟩
  subst hn
  obtain ⟨s0, hs0, c0, c1, c2, c3, c4, c5, c6, c7⟩ := hs.cell 0 (by simp)
  simp only [List.getElem_cons_zero, Nat.zero_mul, Nat.add_zero] at c0 c1 c2 c3 c4 c5 c6 c7 hs0
  obtain ⟨a0, n0, e0, rfl, -, -⟩ := hs0.shape
  have HA := Lib.hid (fun t => hA t a0 n0 e0 s)
  have V0 := Lib.hid ((VarIs.new w #[.int .i64 9, .string tb, .string nm, .int .i64 ix, .int .i64 v0.kind, .int .i64 v0.int, .string v0.text, .slice (some ⟨b, o, none⟩) 1 c] 26).alloc (.cells #[.int .i64 A.op, .string A.table, .string A.name, .int .i64 A.index, .int .i64 A.v.kind, .int .i64 A.v.int, .string A.v.text, .slice a0 n0 e0] 26))
  have V1 := Lib.hid (VarIs.new1 w (.cells #[.int .i64 9, .string tb, .string nm, .int .i64 ix, .int .i64 v0.kind, .int .i64 v0.int, .string v0.text, .slice (some ⟨b, o, none⟩) 1 c] 26) #[.int .i64 A.op, .string A.table, .string A.name, .int .i64 A.index, .int .i64 A.v.kind, .int .i64 A.v.int, .string A.v.text, .slice a0 n0 e0] 26)
  have Hb0 : RowKit.Hid (∀ o o', Below w.heap.size w ((w.alloc o).alloc o')) := fun o o' => ((Below.refl _ _).alloc (Nat.le_refl _) o).alloc (by simp) o'
  clear hs hA
  go_enter Tryd.func59, Tryd.ntmps59
  go_wp2_with fail
  refine (HA.out _ _ (hs0.mono (Hb0.out _ _)) (hl.mono (Hb0.out _ _))).mono ?_
  rintro e w1 ⟨y, rfl, hy, hb1⟩
  have V2 := Lib.hid (V0.out.below hb1 (by simp; omega))
  have V3 := Lib.hid (V1.out.below hb1 (by simp))
  have Hbw := Lib.hid ((Hb0.out _ _).trans (hb1.mono (Hb0.out _ _).size))
  have Hy := Lib.hid hy
  have hs1 := hs0.mono Hbw.out
  have hl1 := hl.mono Hbw.out
  obtain ⟨f1, f2, -⟩ := V2.out
  clear hb1 c0 c1 c2 c3 c4 c5 c6 c7 V1 V0 hy
  cases y
  · go_wp2
    go_ret
    exact ⟨_, rfl, good_none _ _ _ (by decide), Hbw.out⟩
  · go_wp2
    go_ret
    exact ⟨_, rfl, good1 (.len tb nm ix v0 A ((Hy.out (by simp)).2.1 rfl)), Hbw.out⟩

theorem un_20 {L : List Int} (tb nm : ByteArray) (ix : Int) (v0 : Vl) (A : Ex) (hA : IsAt L A) : UnAt L (.mk 20 tb nm ix v0 [A]) := by
  intro a n c s w hs hl
  simp only [Ex.op, Ex.table, Ex.name, Ex.index, Ex.v]
  simp only [Ex.args] at hs
  obtain ⟨b, o, rfl, hlt, hn⟩ : ∃ b o, a = some ⟨b, o, none⟩ ∧ b < w.heap.size ∧ n = 1 := by
    cases hs with
    | lie _ b o _ _ _ hn hlt => exact ⟨b, o, rfl, hlt, by simpa using hn⟩
  subst hn
  obtain ⟨s0, hs0, c0, c1, c2, c3, c4, c5, c6, c7⟩ := hs.cell 0 (by simp)
  simp only [List.getElem_cons_zero, Nat.zero_mul, Nat.add_zero] at c0 c1 c2 c3 c4 c5 c6 c7 hs0
  obtain ⟨a0, n0, e0, rfl, -, -⟩ := hs0.shape
  have HA := Lib.hid (fun t => hA t a0 n0 e0 s)
  have V0 := Lib.hid ((VarIs.new w #[.int .i64 20, .string tb, .string nm, .int .i64 ix, .int .i64 v0.kind, .int .i64 v0.int, .string v0.text, .slice (some ⟨b, o, none⟩) 1 c] 26).alloc (.cells #[.int .i64 A.op, .string A.table, .string A.name, .int .i64 A.index, .int .i64 A.v.kind, .int .i64 A.v.int, .string A.v.text, .slice a0 n0 e0] 26))
  have V1 := Lib.hid (VarIs.new1 w (.cells #[.int .i64 20, .string tb, .string nm, .int .i64 ix, .int .i64 v0.kind, .int .i64 v0.int, .string v0.text, .slice (some ⟨b, o, none⟩) 1 c] 26) #[.int .i64 A.op, .string A.table, .string A.name, .int .i64 A.index, .int .i64 A.v.kind, .int .i64 A.v.int, .string A.v.text, .slice a0 n0 e0] 26)
  have Hb0 : RowKit.Hid (∀ o o', Below w.heap.size w ((w.alloc o).alloc o')) := fun o o' => ((Below.refl _ _).alloc (Nat.le_refl _) o).alloc (by simp) o'
  clear hs hA
  go_enter Tryd.func59, Tryd.ntmps59
  go_wp2_with fail
  refine (HA.out _ _ (hs0.mono (Hb0.out _ _)) (hl.mono (Hb0.out _ _))).mono ?_
  rintro e w1 ⟨y, rfl, hy, hb1⟩
  have V2 := Lib.hid (V0.out.below hb1 (by simp; omega))
  have V3 := Lib.hid (V1.out.below hb1 (by simp))
  have Hbw := Lib.hid ((Hb0.out _ _).trans (hb1.mono (Hb0.out _ _).size))
  have Hy := Lib.hid hy
  have hs1 := hs0.mono Hbw.out
  have hl1 := hl.mono Hbw.out
  obtain ⟨f1, f2, -⟩ := V2.out
  clear hb1 c0 c1 c2 c3 c4 c5 c6 c7 V1 V0 hy
  cases y
  · go_wp2
    go_ret
    exact ⟨_, rfl, good_none _ _ _ (by decide), Hbw.out⟩
  · go_wp2
    go_ret
    exact ⟨_, rfl, good3 (.not tb nm ix v0 A ((Hy.out (by simp)).2.2 rfl)) (by simp [Ex.op]), Hbw.out⟩

theorem un_17 {L : List Int} (tb nm : ByteArray) (ix : Int) (v0 : Vl) (A : Ex) (hA : IsAt L A) : UnAt L (.mk 17 tb nm ix v0 [A]) := by
  intro a n c s w hs hl
  simp only [Ex.op, Ex.table, Ex.name, Ex.index, Ex.v]
  simp only [Ex.args] at hs
  obtain ⟨b, o, rfl, hlt, hn⟩ : ∃ b o, a = some ⟨b, o, none⟩ ∧ b < w.heap.size ∧ n = 1 := by
    cases hs with
    | lie _ b o _ _ _ hn hlt => exact ⟨b, o, rfl, hlt, by simpa using hn⟩
  subst hn
  obtain ⟨s0, hs0, c0, c1, c2, c3, c4, c5, c6, c7⟩ := hs.cell 0 (by simp)
  simp only [List.getElem_cons_zero, Nat.zero_mul, Nat.add_zero] at c0 c1 c2 c3 c4 c5 c6 c7 hs0
  obtain ⟨a0, n0, e0, rfl, -, -⟩ := hs0.shape
  have HA := Lib.hid (fun t => hA t a0 n0 e0 s)
  have V0 := Lib.hid ((VarIs.new w #[.int .i64 17, .string tb, .string nm, .int .i64 ix, .int .i64 v0.kind, .int .i64 v0.int, .string v0.text, .slice (some ⟨b, o, none⟩) 1 c] 26).alloc (.cells #[.int .i64 A.op, .string A.table, .string A.name, .int .i64 A.index, .int .i64 A.v.kind, .int .i64 A.v.int, .string A.v.text, .slice a0 n0 e0] 26))
  have V1 := Lib.hid (VarIs.new1 w (.cells #[.int .i64 17, .string tb, .string nm, .int .i64 ix, .int .i64 v0.kind, .int .i64 v0.int, .string v0.text, .slice (some ⟨b, o, none⟩) 1 c] 26) #[.int .i64 A.op, .string A.table, .string A.name, .int .i64 A.index, .int .i64 A.v.kind, .int .i64 A.v.int, .string A.v.text, .slice a0 n0 e0] 26)
  have Hb0 : RowKit.Hid (∀ o o', Below w.heap.size w ((w.alloc o).alloc o')) := fun o o' => ((Below.refl _ _).alloc (Nat.le_refl _) o).alloc (by simp) o'
  clear hs hA
  go_enter Tryd.func59, Tryd.ntmps59
  go_wp2_with fail
  refine (HA.out _ _ (hs0.mono (Hb0.out _ _)) (hl.mono (Hb0.out _ _))).mono ?_
  rintro e w1 ⟨y, rfl, hy, hb1⟩
  have V2 := Lib.hid (V0.out.below hb1 (by simp; omega))
  have V3 := Lib.hid (V1.out.below hb1 (by simp))
  have Hbw := Lib.hid ((Hb0.out _ _).trans (hb1.mono (Hb0.out _ _).size))
  have Hy := Lib.hid hy
  have hs1 := hs0.mono Hbw.out
  have hl1 := hl.mono Hbw.out
  obtain ⟨f1, f2, -⟩ := V2.out
  clear hb1 c0 c1 c2 c3 c4 c5 c6 c7 V1 V0 hy
  cases y
  · obtain ⟨g1, g2, -⟩ := V3.out
    go_wp2_with fail
    refine (HA.out _ _ hs1 hl1).mono ?_
    rintro e w2 ⟨z, rfl, hz, hb2⟩
    have V4 := Lib.hid (V2.out.below hb2 V2.out.lt)
    have Hbw2 := Lib.hid (Hbw.out.trans (hb2.mono Hbw.out.size))
    have Hz := Lib.hid hz
    clear f1 f2 g1 g2 hb2 hz
    obtain ⟨f1, f2, -⟩ := V4.out
    cases z
    · go_wp2
      go_ret
      exact ⟨_, rfl, good_none _ _ _ (by decide), Hbw2.out⟩
    · go_wp2
      go_ret
      exact ⟨_, rfl, good3 (.isnull 2 tb nm ix v0 A ((Hz.out (by simp)).2.1 rfl)) (by simp [Ex.op]), Hbw2.out⟩
  · go_wp2
    go_ret
    exact ⟨_, rfl, good3 (.isnull 1 tb nm ix v0 A ((Hy.out (by simp)).1 rfl)) (by simp [Ex.op]), Hbw.out⟩

theorem un_all {L : List Int} (op : Int) (hop : op = 3 ∨ op = 9 ∨ op = 17 ∨ op = 20) (tb nm : ByteArray) (ix : Int) (v0 : Vl) (args : List Ex) (hA : ∀ A ∈ args, IsAt L A) : UnAt L (.mk op tb nm ix v0 args) := by
  match args, hA with
  | [], _ => exact un_len _ (by simp [Ex.args])
  | [A], hA =>
    have h := hA A (by simp)
    rcases hop with rfl | rfl | rfl | rfl
    · exact un_3 tb nm ix v0 A h
    · exact un_9 tb nm ix v0 A h
    · exact un_17 tb nm ix v0 A h
    · exact un_20 tb nm ix v0 A h
  | _ :: _ :: _, _ => exact un_len _ (by simp [Ex.args])
end Go.Proofs.YtgaeabodofabmaaDoor
