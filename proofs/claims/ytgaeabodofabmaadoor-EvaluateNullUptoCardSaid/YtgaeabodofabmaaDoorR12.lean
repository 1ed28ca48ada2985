/- The walk of the reference's Type at two operands: sums, products, quotients. (Printed by type.py.) -/
import Derived.Test.YtgaeabodofabmaaDoorR11
import Derived.BigRegion
import Derived.Deep.DeepCutAuto
namespace Go.Proofs.YtgaeabodofabmaaDoor
open Go.RowKit

theorem fac_vt {L : List Int} {op : Int} (hop : op = 4 ∨ op = 5 ∨ op = 6 ∨ op = 7 ∨ op = 8) (tb nm : ByteArray) (ix : Int) (v : Vl) (A B : Ex) (hA : VT L 1 A) (hB : VT L 1 B) (h : op = 7 ∨ op = 8 → ConstB B) : VT L 1 (.mk op tb nm ix v [A, B]) := by
  by_cases h7 : op = 7 ∨ op = 8
  · obtain ⟨hc, d, hd, hk, h1, h2⟩ := h h7
    exact .div op h7 tb nm ix v A B d hA hB hc hd hk h1 h2
  · exact .bin op (by omega) tb nm ix v A B hA hB
set_option maxHeartbeats 8000000 in
set_option maxRecDepth 4000 in
theorem ty_sum {L : List Int} (op : Int) (hop : op = 4 ∨ op = 5 ∨ op = 6 ∨ op = 7 ∨ op = 8) (tb nm : ByteArray) (ix : Int) (v0 : Vl) (A B : Ex) (hA : TyAt L A) (hB : TyAt L B) : TyAt L (.mk op tb nm ix v0 [A, B]) := by
  have HOP := Lib.hid hop
  have o1 : (op == 1) = false := by simp; omega
  have o2 : (op == 2) = false := by simp; omega
  have o3 : (op == 3) = false := by simp; omega
  have o9 : (op == 9) = false := by simp; omega
  have o17 : (op == 17) = false := by simp; omega
  have o20 : (op == 20) = false := by simp; omega
  clear hop
  intro a n c s w hs hl
  simp only [Ex.op, Ex.table, Ex.name, Ex.index, Ex.v]
  simp only [Ex.args] at hs
  obtain ⟨b, o, rfl, hlt, hn⟩ : ∃ b o, a = some ⟨b, o, none⟩ ∧ b < w.heap.size ∧ n = 2 := by
    cases hs with
    | lie _ b o _ _ _ hn hlt => exact ⟨b, o, rfl, hlt, by simpa using hn⟩
  subst hn
  have hb0 : Below w.heap.size w (w.alloc (.cells #[.int .i64 op, .string tb, .string nm, .int .i64 ix, .int .i64 v0.kind, .int .i64 v0.int, .string v0.text, .slice (some ⟨b, o, none⟩) 2 c] 26)) := (Below.refl _ _).alloc (Nat.le_refl _) _
  have hv := VarIs.new w #[.int .i64 op, .string tb, .string nm, .int .i64 ix, .int .i64 v0.kind, .int .i64 v0.int, .string v0.text, .slice (some ⟨b, o, none⟩) 2 c] 26
  go_enter Tryd.func55, Tryd.ntmps55
  go_wp2_with fail
  generalize w.alloc (.cells #[.int .i64 op, .string tb, .string nm, .int .i64 ix, .int .i64 v0.kind, .int .i64 v0.int, .string v0.text, .slice (some ⟨b, o, none⟩) 2 c] 26) = W at *
  have hs := hs.mono hb0
  have hlt : b < W.heap.size := Nat.lt_of_lt_of_le hlt hb0.size
  obtain ⟨s0, hs0, c0, c1, c2, c3, c4, c5, c6, c7⟩ := hs.cell 0 (by simp)
  obtain ⟨s1, hs1, d0, d1, d2, d3, d4, d5, d6, d7⟩ := hs.cell 1 (by simp)
  simp only [List.getElem_cons_zero, List.getElem_cons_succ, Nat.zero_mul, Nat.add_zero, Nat.one_mul] at c0 c1 c2 c3 c4 c5 c6 c7 d0 d1 d2 d3 d4 d5 d6 d7 hs0 hs1
  obtain ⟨a0, n0, e0, rfl, -, -⟩ := hs0.shape
  obtain ⟨a1, n1, e1, rfl, -, -⟩ := hs1.shape
  have Hb0 := Lib.hid hb0
  have Hv := Lib.hid hv
  have HA := Lib.hid (fun t => is_calls hA t a0 n0 e0 s)
  have HB := Lib.hid (fun t => is_calls hB t a1 n1 e1 s)
  have HTB := Lib.hid (hB a1 n1 e1 s)
  have HS := Lib.hid hs
  have HL := Lib.hid (hl.mono hb0)
  clear hA hB hb0 hl
  obtain ⟨v1, v2, -⟩ := hv
  go_cut [5, 6] (fun x y wx => ∃ g h : Nat, x = .pointer (some ⟨g, 0, none⟩) ∧ y = .pointer (some ⟨h, 0, none⟩) ∧
    RowKit.Hid (VarIs wx g #[.int .i64 A.op, .string A.table, .string A.name, .int .i64 A.index, .int .i64 A.v.kind, .int .i64 A.v.int, .string A.v.text, .slice a0 n0 e0]) ∧
    RowKit.Hid (VarIs wx h #[.int .i64 B.op, .string B.table, .string B.name, .int .i64 B.index, .int .i64 B.v.kind, .int .i64 B.v.int, .string B.v.text, .slice a1 n1 e1]) ∧
    RowKit.Hid (Below W.heap.size W wx))
  case first =>
    clear HA HB HTB HS HL Hb0 Hv hs0 hs1 hs
    go_region
    all_goals (go_wp2_with fail; go_meet)
    all_goals first
      | exact ⟨W.heap.size + 1, W.heap.size, rfl, rfl, Lib.hid (VarIs.new1 _ _ _ _).drew, Lib.hid ((VarIs.new W _ _).alloc _).drew, below_two _ _ _⟩
      | exact ⟨W.heap.size, W.heap.size + 1, rfl, rfl, Lib.hid ((VarIs.new W _ _).alloc _).drew, Lib.hid (VarIs.new1 _ _ _ _).drew, below_two _ _ _⟩
  case rest =>
    obtain ⟨g, h, rfl, rfl, VA0, VB0, HB0⟩ := hcut
    have VE0 := Lib.hid (Hv.out.below HB0.out Hv.out.lt)
    have Ha0 := Lib.hid (hs0.mono HB0.out)
    have Hb0' := Lib.hid (hs1.mono HB0.out)
    have HS0 := Lib.hid (hs.mono HB0.out)
    have HL0 := Lib.hid (HL.out.mono HB0.out)
    have Hw0 := Lib.hid (Hb0.out.trans (HB0.out.mono Hb0.out.size))
    clear HB0 Hv c0 c1 c2 c3 c4 c5 c6 c7 d0 d1 d2 d3 d4 d5 d6 d7 v1 v2 Hb0 hlt hs0 hs1 hs HS HL
    have Hb0 := Hb0'
    clear Hb0'
    have hop := HOP.out
    rcases hop with hop | hop | hop | hop | hop
    all_goals subst hop
    · obtain ⟨p1, p2, -⟩ := VE0.out
      obtain ⟨q1, q2, -⟩ := VA0.out
      obtain ⟨u1, u2, -⟩ := VB0.out
      go_wp2_with fail
      refine (HA.out 1 _ Ha0.out HL0.out).mono ?_
      rintro e w1 ⟨y, rfl, hy, hb1⟩
      have VE1 := Lib.hid (VE0.out.below hb1 VE0.out.lt)
      have VA1 := Lib.hid (VA0.out.below hb1 VA0.out.lt)
      have VB1 := Lib.hid (VB0.out.below hb1 VB0.out.lt)
      have HS1 := Lib.hid (HS0.out.mono hb1)
      have Ha1 := Lib.hid (Ha0.out.mono hb1)
      have Hb1 := Lib.hid (Hb0.out.mono hb1)
      have HL1 := Lib.hid (HL0.out.mono hb1)
      have Hw1 := Lib.hid (Hw0.out.trans (hb1.mono Hw0.out.size))
      have Hy := Lib.hid hy
      clear hb1 hy p1 p2 q1 q2 u1 u2
      cases y
      · obtain ⟨p1, p2, -⟩ := VE1.out
        obtain ⟨q1, q2, -⟩ := VA1.out
        obtain ⟨u1, u2, -⟩ := VB1.out
        go_wp2
        go_ret
        exact ⟨_, rfl, good_none _ _ _ (by decide), Hw1.out⟩
      · obtain ⟨p1, p2, -⟩ := VE1.out
        obtain ⟨q1, q2, -⟩ := VA1.out
        obtain ⟨u1, u2, -⟩ := VB1.out
        go_wp2_with fail
        refine (HB.out 1 _ Hb1.out HL1.out).mono ?_
        rintro e w2 ⟨z, rfl, hz, hb2⟩
        have VE2 := Lib.hid (VE1.out.below hb2 VE1.out.lt)
        have VA2 := Lib.hid (VA1.out.below hb2 VA1.out.lt)
        have VB2 := Lib.hid (VB1.out.below hb2 VB1.out.lt)
        have HS2 := Lib.hid (HS1.out.mono hb2)
        have Ha2 := Lib.hid (Ha1.out.mono hb2)
        have Hb2 := Lib.hid (Hb1.out.mono hb2)
        have HL2 := Lib.hid (HL1.out.mono hb2)
        have Hw2 := Lib.hid (Hw1.out.trans (hb2.mono Hw1.out.size))
        have Hz := Lib.hid hz
        clear hb2 hz p1 p2 q1 q2 u1 u2
        cases z
        · obtain ⟨p1, p2, -⟩ := VE2.out
          obtain ⟨q1, q2, -⟩ := VA2.out
          obtain ⟨u1, u2, -⟩ := VB2.out
          go_wp2
          go_ret
          exact ⟨_, rfl, good_none _ _ _ (by decide), Hw2.out⟩
        · obtain ⟨p1, p2, -⟩ := VE2.out
          obtain ⟨q1, q2, -⟩ := VA2.out
          obtain ⟨u1, u2, -⟩ := VB2.out
          go_wp2_with fail
          refine (fac_calls (L := L) 4 (by omega) tb nm ix v0 A B [] ((Hy.out (by simp)).1 rfl) ((Hz.out (by simp)).1 rfl) _ _ _ _ _ HS2.out).mono ?_
          rintro e w3 ⟨x, rfl, hx, hb3⟩
          have VE3 := Lib.hid (VE2.out.below hb3 VE2.out.lt)
          have VA3 := Lib.hid (VA2.out.below hb3 VA2.out.lt)
          have VB3 := Lib.hid (VB2.out.below hb3 VB2.out.lt)
          have HS3 := Lib.hid (HS2.out.mono hb3)
          have Ha3 := Lib.hid (Ha2.out.mono hb3)
          have Hb3 := Lib.hid (Hb2.out.mono hb3)
          have HL3 := Lib.hid (HL2.out.mono hb3)
          have Hw3 := Lib.hid (Hw2.out.trans (hb3.mono Hw2.out.size))
          have Hx := Lib.hid hx
          clear hb3 hx p1 p2 q1 q2 u1 u2
          cases x
          · obtain ⟨p1, p2, -⟩ := VE3.out
            obtain ⟨q1, q2, -⟩ := VA3.out
            obtain ⟨u1, u2, -⟩ := VB3.out
            go_wp2
            go_ret
            exact ⟨_, rfl, good_none _ _ _ (by decide), Hw3.out⟩
          · obtain ⟨p1, p2, -⟩ := VE3.out
            obtain ⟨q1, q2, -⟩ := VA3.out
            obtain ⟨u1, u2, -⟩ := VB3.out
            go_wp2
            go_ret
            exact ⟨_, rfl, good1 (fac_vt (op := 4) (by omega) tb nm ix v0 A B ((Hy.out (by simp)).1 rfl) ((Hz.out (by simp)).1 rfl) (fun h => Hx.out (by simp) (by first | exact h | simp))), Hw3.out⟩
    · obtain ⟨p1, p2, -⟩ := VE0.out
      obtain ⟨q1, q2, -⟩ := VA0.out
      obtain ⟨u1, u2, -⟩ := VB0.out
      go_wp2_with fail
      refine (HA.out 1 _ Ha0.out HL0.out).mono ?_
      rintro e w1 ⟨y, rfl, hy, hb1⟩
      have VE1 := Lib.hid (VE0.out.below hb1 VE0.out.lt)
      have VA1 := Lib.hid (VA0.out.below hb1 VA0.out.lt)
      have VB1 := Lib.hid (VB0.out.below hb1 VB0.out.lt)
      have HS1 := Lib.hid (HS0.out.mono hb1)
      have Ha1 := Lib.hid (Ha0.out.mono hb1)
      have Hb1 := Lib.hid (Hb0.out.mono hb1)
      have HL1 := Lib.hid (HL0.out.mono hb1)
      have Hw1 := Lib.hid (Hw0.out.trans (hb1.mono Hw0.out.size))
      have Hy := Lib.hid hy
      clear hb1 hy p1 p2 q1 q2 u1 u2
      cases y
      · obtain ⟨p1, p2, -⟩ := VE1.out
        obtain ⟨q1, q2, -⟩ := VA1.out
        obtain ⟨u1, u2, -⟩ := VB1.out
        go_wp2
        go_ret
        exact ⟨_, rfl, good_none _ _ _ (by decide), Hw1.out⟩
      · obtain ⟨p1, p2, -⟩ := VE1.out
        obtain ⟨q1, q2, -⟩ := VA1.out
        obtain ⟨u1, u2, -⟩ := VB1.out
        go_wp2_with fail
        refine (HB.out 1 _ Hb1.out HL1.out).mono ?_
        rintro e w2 ⟨z, rfl, hz, hb2⟩
        have VE2 := Lib.hid (VE1.out.below hb2 VE1.out.lt)
        have VA2 := Lib.hid (VA1.out.below hb2 VA1.out.lt)
        have VB2 := Lib.hid (VB1.out.below hb2 VB1.out.lt)
        have HS2 := Lib.hid (HS1.out.mono hb2)
        have Ha2 := Lib.hid (Ha1.out.mono hb2)
        have Hb2 := Lib.hid (Hb1.out.mono hb2)
        have HL2 := Lib.hid (HL1.out.mono hb2)
        have Hw2 := Lib.hid (Hw1.out.trans (hb2.mono Hw1.out.size))
        have Hz := Lib.hid hz
        clear hb2 hz p1 p2 q1 q2 u1 u2
        cases z
        · obtain ⟨p1, p2, -⟩ := VE2.out
          obtain ⟨q1, q2, -⟩ := VA2.out
          obtain ⟨u1, u2, -⟩ := VB2.out
          go_wp2
          go_ret
          exact ⟨_, rfl, good_none _ _ _ (by decide), Hw2.out⟩
        · obtain ⟨p1, p2, -⟩ := VE2.out
          obtain ⟨q1, q2, -⟩ := VA2.out
          obtain ⟨u1, u2, -⟩ := VB2.out
          go_wp2_with fail
          refine (fac_calls (L := L) 5 (by omega) tb nm ix v0 A B [] ((Hy.out (by simp)).1 rfl) ((Hz.out (by simp)).1 rfl) _ _ _ _ _ HS2.out).mono ?_
          rintro e w3 ⟨x, rfl, hx, hb3⟩
          have VE3 := Lib.hid (VE2.out.below hb3 VE2.out.lt)
          have VA3 := Lib.hid (VA2.out.below hb3 VA2.out.lt)
          have VB3 := Lib.hid (VB2.out.below hb3 VB2.out.lt)
          have HS3 := Lib.hid (HS2.out.mono hb3)
          have Ha3 := Lib.hid (Ha2.out.mono hb3)
          have Hb3 := Lib.hid (Hb2.out.mono hb3)
          have HL3 := Lib.hid (HL2.out.mono hb3)
          have Hw3 := Lib.hid (Hw2.out.trans (hb3.mono Hw2.out.size))
          have Hx := Lib.hid hx
          clear hb3 hx p1 p2 q1 q2 u1 u2
          cases x
          · obtain ⟨p1, p2, -⟩ := VE3.out
            obtain ⟨q1, q2, -⟩ := VA3.out
            obtain ⟨u1, u2, -⟩ := VB3.out
            go_wp2
            go_ret
            exact ⟨_, rfl, good_none _ _ _ (by decide), Hw3.out⟩
          · obtain ⟨p1, p2, -⟩ := VE3.out
            obtain ⟨q1, q2, -⟩ := VA3.out
            obtain ⟨u1, u2, -⟩ := VB3.out
            go_wp2
            go_ret
            exact ⟨_, rfl, good1 (fac_vt (op := 5) (by omega) tb nm ix v0 A B ((Hy.out (by simp)).1 rfl) ((Hz.out (by simp)).1 rfl) (fun h => Hx.out (by simp) (by first | exact h | simp))), Hw3.out⟩
    · obtain ⟨p1, p2, -⟩ := VE0.out
      obtain ⟨q1, q2, -⟩ := VA0.out
      obtain ⟨u1, u2, -⟩ := VB0.out
      go_wp2_with fail
      refine (HA.out 1 _ Ha0.out HL0.out).mono ?_
      rintro e w1 ⟨y, rfl, hy, hb1⟩
      have VE1 := Lib.hid (VE0.out.below hb1 VE0.out.lt)
      have VA1 := Lib.hid (VA0.out.below hb1 VA0.out.lt)
      have VB1 := Lib.hid (VB0.out.below hb1 VB0.out.lt)
      have HS1 := Lib.hid (HS0.out.mono hb1)
      have Ha1 := Lib.hid (Ha0.out.mono hb1)
      have Hb1 := Lib.hid (Hb0.out.mono hb1)
      have HL1 := Lib.hid (HL0.out.mono hb1)
      have Hw1 := Lib.hid (Hw0.out.trans (hb1.mono Hw0.out.size))
      have Hy := Lib.hid hy
      clear hb1 hy p1 p2 q1 q2 u1 u2
      cases y
      · obtain ⟨p1, p2, -⟩ := VE1.out
        obtain ⟨q1, q2, -⟩ := VA1.out
        obtain ⟨u1, u2, -⟩ := VB1.out
        go_wp2
        go_ret
        exact ⟨_, rfl, good_none _ _ _ (by decide), Hw1.out⟩
      · obtain ⟨p1, p2, -⟩ := VE1.out
        obtain ⟨q1, q2, -⟩ := VA1.out
        obtain ⟨u1, u2, -⟩ := VB1.out
        go_wp2_with fail
        refine (HB.out 1 _ Hb1.out HL1.out).mono ?_
        rintro e w2 ⟨z, rfl, hz, hb2⟩
        have VE2 := Lib.hid (VE1.out.below hb2 VE1.out.lt)
        have VA2 := Lib.hid (VA1.out.below hb2 VA1.out.lt)
        have VB2 := Lib.hid (VB1.out.below hb2 VB1.out.lt)
        have HS2 := Lib.hid (HS1.out.mono hb2)
        have Ha2 := Lib.hid (Ha1.out.mono hb2)
        have Hb2 := Lib.hid (Hb1.out.mono hb2)
        have HL2 := Lib.hid (HL1.out.mono hb2)
        have Hw2 := Lib.hid (Hw1.out.trans (hb2.mono Hw1.out.size))
        have Hz := Lib.hid hz
        clear hb2 hz p1 p2 q1 q2 u1 u2
        cases z
        · obtain ⟨p1, p2, -⟩ := VE2.out
          obtain ⟨q1, q2, -⟩ := VA2.out
          obtain ⟨u1, u2, -⟩ := VB2.out
          go_wp2
          go_ret
          exact ⟨_, rfl, good_none _ _ _ (by decide), Hw2.out⟩
        · obtain ⟨p1, p2, -⟩ := VE2.out
          obtain ⟨q1, q2, -⟩ := VA2.out
          obtain ⟨u1, u2, -⟩ := VB2.out
          go_wp2_with fail
          refine (fac_calls (L := L) 6 (by omega) tb nm ix v0 A B [] ((Hy.out (by simp)).1 rfl) ((Hz.out (by simp)).1 rfl) _ _ _ _ _ HS2.out).mono ?_
          rintro e w3 ⟨x, rfl, hx, hb3⟩
          have VE3 := Lib.hid (VE2.out.below hb3 VE2.out.lt)
          have VA3 := Lib.hid (VA2.out.below hb3 VA2.out.lt)
          have VB3 := Lib.hid (VB2.out.below hb3 VB2.out.lt)
          have HS3 := Lib.hid (HS2.out.mono hb3)
          have Ha3 := Lib.hid (Ha2.out.mono hb3)
          have Hb3 := Lib.hid (Hb2.out.mono hb3)
          have HL3 := Lib.hid (HL2.out.mono hb3)
          have Hw3 := Lib.hid (Hw2.out.trans (hb3.mono Hw2.out.size))
          have Hx := Lib.hid hx
          clear hb3 hx p1 p2 q1 q2 u1 u2
          cases x
          · obtain ⟨p1, p2, -⟩ := VE3.out
            obtain ⟨q1, q2, -⟩ := VA3.out
            obtain ⟨u1, u2, -⟩ := VB3.out
            go_wp2
            go_ret
            exact ⟨_, rfl, good_none _ _ _ (by decide), Hw3.out⟩
          · obtain ⟨p1, p2, -⟩ := VE3.out
            obtain ⟨q1, q2, -⟩ := VA3.out
            obtain ⟨u1, u2, -⟩ := VB3.out
            go_wp2
            go_ret
            exact ⟨_, rfl, good1 (fac_vt (op := 6) (by omega) tb nm ix v0 A B ((Hy.out (by simp)).1 rfl) ((Hz.out (by simp)).1 rfl) (fun h => Hx.out (by simp) (by first | exact h | simp))), Hw3.out⟩
    · obtain ⟨p1, p2, -⟩ := VE0.out
      obtain ⟨q1, q2, -⟩ := VA0.out
      obtain ⟨u1, u2, -⟩ := VB0.out
      go_wp2_with fail
      refine (HA.out 1 _ Ha0.out HL0.out).mono ?_
      rintro e w1 ⟨y, rfl, hy, hb1⟩
      have VE1 := Lib.hid (VE0.out.below hb1 VE0.out.lt)
      have VA1 := Lib.hid (VA0.out.below hb1 VA0.out.lt)
      have VB1 := Lib.hid (VB0.out.below hb1 VB0.out.lt)
      have HS1 := Lib.hid (HS0.out.mono hb1)
      have Ha1 := Lib.hid (Ha0.out.mono hb1)
      have Hb1 := Lib.hid (Hb0.out.mono hb1)
      have HL1 := Lib.hid (HL0.out.mono hb1)
      have Hw1 := Lib.hid (Hw0.out.trans (hb1.mono Hw0.out.size))
      have Hy := Lib.hid hy
      clear hb1 hy p1 p2 q1 q2 u1 u2
      cases y
      · obtain ⟨p1, p2, -⟩ := VE1.out
        obtain ⟨q1, q2, -⟩ := VA1.out
        obtain ⟨u1, u2, -⟩ := VB1.out
        go_wp2
        go_ret
        exact ⟨_, rfl, good_none _ _ _ (by decide), Hw1.out⟩
      · obtain ⟨p1, p2, -⟩ := VE1.out
        obtain ⟨q1, q2, -⟩ := VA1.out
        obtain ⟨u1, u2, -⟩ := VB1.out
        go_wp2_with fail
        refine (HB.out 1 _ Hb1.out HL1.out).mono ?_
        rintro e w2 ⟨z, rfl, hz, hb2⟩
        have VE2 := Lib.hid (VE1.out.below hb2 VE1.out.lt)
        have VA2 := Lib.hid (VA1.out.below hb2 VA1.out.lt)
        have VB2 := Lib.hid (VB1.out.below hb2 VB1.out.lt)
        have HS2 := Lib.hid (HS1.out.mono hb2)
        have Ha2 := Lib.hid (Ha1.out.mono hb2)
        have Hb2 := Lib.hid (Hb1.out.mono hb2)
        have HL2 := Lib.hid (HL1.out.mono hb2)
        have Hw2 := Lib.hid (Hw1.out.trans (hb2.mono Hw1.out.size))
        have Hz := Lib.hid hz
        clear hb2 hz p1 p2 q1 q2 u1 u2
        cases z
        · obtain ⟨p1, p2, -⟩ := VE2.out
          obtain ⟨q1, q2, -⟩ := VA2.out
          obtain ⟨u1, u2, -⟩ := VB2.out
          go_wp2
          go_ret
          exact ⟨_, rfl, good_none _ _ _ (by decide), Hw2.out⟩
        · obtain ⟨p1, p2, -⟩ := VE2.out
          obtain ⟨q1, q2, -⟩ := VA2.out
          obtain ⟨u1, u2, -⟩ := VB2.out
          go_wp2_with fail
          refine (fac_calls (L := L) 7 (by omega) tb nm ix v0 A B [] ((Hy.out (by simp)).1 rfl) ((Hz.out (by simp)).1 rfl) _ _ _ _ _ HS2.out).mono ?_
          rintro e w3 ⟨x, rfl, hx, hb3⟩
          have VE3 := Lib.hid (VE2.out.below hb3 VE2.out.lt)
          have VA3 := Lib.hid (VA2.out.below hb3 VA2.out.lt)
          have VB3 := Lib.hid (VB2.out.below hb3 VB2.out.lt)
          have HS3 := Lib.hid (HS2.out.mono hb3)
          have Ha3 := Lib.hid (Ha2.out.mono hb3)
          have Hb3 := Lib.hid (Hb2.out.mono hb3)
          have HL3 := Lib.hid (HL2.out.mono hb3)
          have Hw3 := Lib.hid (Hw2.out.trans (hb3.mono Hw2.out.size))
          have Hx := Lib.hid hx
          clear hb3 hx p1 p2 q1 q2 u1 u2
          cases x
          · obtain ⟨p1, p2, -⟩ := VE3.out
            obtain ⟨q1, q2, -⟩ := VA3.out
            obtain ⟨u1, u2, -⟩ := VB3.out
            go_wp2
            go_ret
            exact ⟨_, rfl, good_none _ _ _ (by decide), Hw3.out⟩
          · obtain ⟨p1, p2, -⟩ := VE3.out
            obtain ⟨q1, q2, -⟩ := VA3.out
            obtain ⟨u1, u2, -⟩ := VB3.out
            go_wp2
            go_ret
            exact ⟨_, rfl, good1 (fac_vt (op := 7) (by omega) tb nm ix v0 A B ((Hy.out (by simp)).1 rfl) ((Hz.out (by simp)).1 rfl) (fun h => Hx.out (by simp) (by first | exact h | simp))), Hw3.out⟩
    · obtain ⟨p1, p2, -⟩ := VE0.out
      obtain ⟨q1, q2, -⟩ := VA0.out
      obtain ⟨u1, u2, -⟩ := VB0.out
      go_wp2_with fail
      refine (HA.out 1 _ Ha0.out HL0.out).mono ?_
      rintro e w1 ⟨y, rfl, hy, hb1⟩
      have VE1 := Lib.hid (VE0.out.below hb1 VE0.out.lt)
      have VA1 := Lib.hid (VA0.out.below hb1 VA0.out.lt)
      have VB1 := Lib.hid (VB0.out.below hb1 VB0.out.lt)
      have HS1 := Lib.hid (HS0.out.mono hb1)
      have Ha1 := Lib.hid (Ha0.out.mono hb1)
      have Hb1 := Lib.hid (Hb0.out.mono hb1)
      have HL1 := Lib.hid (HL0.out.mono hb1)
      have Hw1 := Lib.hid (Hw0.out.trans (hb1.mono Hw0.out.size))
      have Hy := Lib.hid hy
      clear hb1 hy p1 p2 q1 q2 u1 u2
      cases y
      · obtain ⟨p1, p2, -⟩ := VE1.out
        obtain ⟨q1, q2, -⟩ := VA1.out
        obtain ⟨u1, u2, -⟩ := VB1.out
        go_wp2
        go_ret
        exact ⟨_, rfl, good_none _ _ _ (by decide), Hw1.out⟩
      · obtain ⟨p1, p2, -⟩ := VE1.out
        obtain ⟨q1, q2, -⟩ := VA1.out
        obtain ⟨u1, u2, -⟩ := VB1.out
        go_wp2_with fail
        refine (HB.out 1 _ Hb1.out HL1.out).mono ?_
        rintro e w2 ⟨z, rfl, hz, hb2⟩
        have VE2 := Lib.hid (VE1.out.below hb2 VE1.out.lt)
        have VA2 := Lib.hid (VA1.out.below hb2 VA1.out.lt)
        have VB2 := Lib.hid (VB1.out.below hb2 VB1.out.lt)
        have HS2 := Lib.hid (HS1.out.mono hb2)
        have Ha2 := Lib.hid (Ha1.out.mono hb2)
        have Hb2 := Lib.hid (Hb1.out.mono hb2)
        have HL2 := Lib.hid (HL1.out.mono hb2)
        have Hw2 := Lib.hid (Hw1.out.trans (hb2.mono Hw1.out.size))
        have Hz := Lib.hid hz
        clear hb2 hz p1 p2 q1 q2 u1 u2
        cases z
        · obtain ⟨p1, p2, -⟩ := VE2.out
          obtain ⟨q1, q2, -⟩ := VA2.out
          obtain ⟨u1, u2, -⟩ := VB2.out
          go_wp2
          go_ret
          exact ⟨_, rfl, good_none _ _ _ (by decide), Hw2.out⟩
        · obtain ⟨p1, p2, -⟩ := VE2.out
          obtain ⟨q1, q2, -⟩ := VA2.out
          obtain ⟨u1, u2, -⟩ := VB2.out
          go_wp2_with fail
          refine (fac_calls (L := L) 8 (by omega) tb nm ix v0 A B [] ((Hy.out (by simp)).1 rfl) ((Hz.out (by simp)).1 rfl) _ _ _ _ _ HS2.out).mono ?_
          rintro e w3 ⟨x, rfl, hx, hb3⟩
          have VE3 := Lib.hid (VE2.out.below hb3 VE2.out.lt)
          have VA3 := Lib.hid (VA2.out.below hb3 VA2.out.lt)
          have VB3 := Lib.hid (VB2.out.below hb3 VB2.out.lt)
          have HS3 := Lib.hid (HS2.out.mono hb3)
          have Ha3 := Lib.hid (Ha2.out.mono hb3)
          have Hb3 := Lib.hid (Hb2.out.mono hb3)
          have HL3 := Lib.hid (HL2.out.mono hb3)
          have Hw3 := Lib.hid (Hw2.out.trans (hb3.mono Hw2.out.size))
          have Hx := Lib.hid hx
          clear hb3 hx p1 p2 q1 q2 u1 u2
          cases x
          · obtain ⟨p1, p2, -⟩ := VE3.out
            obtain ⟨q1, q2, -⟩ := VA3.out
            obtain ⟨u1, u2, -⟩ := VB3.out
            go_wp2
            go_ret
            exact ⟨_, rfl, good_none _ _ _ (by decide), Hw3.out⟩
          · obtain ⟨p1, p2, -⟩ := VE3.out
            obtain ⟨q1, q2, -⟩ := VA3.out
            obtain ⟨u1, u2, -⟩ := VB3.out
            go_wp2
            go_ret
            exact ⟨_, rfl, good1 (fac_vt (op := 8) (by omega) tb nm ix v0 A B ((Hy.out (by simp)).1 rfl) ((Hz.out (by simp)).1 rfl) (fun h => Hx.out (by simp) (by first | exact h | simp))), Hw3.out⟩

end Go.Proofs.YtgaeabodofabmaaDoor

