/- The walk of the reference's factors. -/
import Derived.Test.YtgaeabodofabmaaDoorR8
import Derived.BigRegion
import Derived.Deep.DeepCutAuto
namespace Go.Proofs.YtgaeabodofabmaaDoor
open Go.RowKit

theorem VarIs.drew {w : World} {b : Nat} {c : Array Value} (h : VarIs w b c) : VarIs w.drew b c := ⟨h.lt, h.cell, h.free⟩
theorem VarIs.new1 (w : World) (o : Obj) (c : Array Value) (t : TypeId) : VarIs ((w.alloc o).alloc (.cells c t)) (w.heap.size + 1) c := by
  have := VarIs.new (w.alloc o) c t
  rwa [World.size_alloc] at this
theorem below_two (W : World) (o o' : Obj) : Below W.heap.size W ((W.alloc o).alloc o').drew := (((Below.refl _ _).alloc (Nat.le_refl _) o).alloc (by simp) o').drew

/-- The divisor is a constant from 1 to 1000. -/
def ConstB (B : Ex) : Prop := B.cols = false ∧ ∃ d, Ex.value [] B = some d ∧ d.kind = 1 ∧ 1 ≤ d.int ∧ d.int ≤ 1000
/-- What factors' answer says. -/
def FacPost (op : Int) (B : Ex) (w : World) (e : Ending) (w' : World) : Prop := ∃ b : Bool, e = .returned (.bool b) ∧ (b = true → op = 7 ∨ op = 8 → ConstB B) ∧ Below w.heap.size w w'

set_option maxHeartbeats 4000000 in
theorem fac_calls {L : List Int} (op : Int) (hop : op = 4 ∨ op = 5 ∨ op = 6 ∨ op = 7 ∨ op = 8) (tb nm : ByteArray) (ix : Int) (v0 : Vl) (A B : Ex) (l : List Ex) (hA : VT L 1 A) (hB : VT L 1 B) (a : Option Addr) (n c : Nat) (s : Value) (w : World) (hs : ArgsAt w (A :: B :: l) (.slice a n c)) :
    Calls Tryd.prog 60 #[.agg #[.int .i64 op, .string tb, .string nm, .int .i64 ix, .int .i64 v0.kind, .int .i64 v0.int, .string v0.text, .slice a n c], s] w (FacPost op B w) := by
  obtain ⟨b, o, rfl, hlt, hn⟩ : ∃ b o, a = some ⟨b, o, none⟩ ∧ b < w.heap.size ∧ 2 ≤ n := by
    cases hs with
    | lie _ b o _ _ _ hn hlt => exact ⟨b, o, rfl, hlt, by simp at hn; omega⟩
  have hb0 : Below w.heap.size w (w.alloc (.cells #[.int .i64 op, .string tb, .string nm, .int .i64 ix, .int .i64 v0.kind, .int .i64 v0.int, .string v0.text, .slice (some ⟨b, o, none⟩) n c] 26)) := (Below.refl _ _).alloc (Nat.le_refl _) _
  have hv := VarIs.new w #[.int .i64 op, .string tb, .string nm, .int .i64 ix, .int .i64 v0.kind, .int .i64 v0.int, .string v0.text, .slice (some ⟨b, o, none⟩) n c] 26
  have Hop := Lib.hid hop
  clear hop
  go_enter Tryd.func60, Tryd.ntmps60
  go_wp2_with fail
  generalize w.alloc (.cells #[.int .i64 op, .string tb, .string nm, .int .i64 ix, .int .i64 v0.kind, .int .i64 v0.int, .string v0.text, .slice (some ⟨b, o, none⟩) n c] 26) = W at *
  have hs := hs.mono hb0
  have hlt : b < W.heap.size := Nat.lt_of_lt_of_le hlt hb0.size
  obtain ⟨s0, hs0, c0, c1, c2, c3, c4, c5, c6, c7⟩ := hs.cell 0 (by simp)
  obtain ⟨s1, hs1, d0, d1, d2, d3, d4, d5, d6, d7⟩ := hs.cell 1 (by simp)
  simp only [List.getElem_cons_zero, List.getElem_cons_succ, Nat.zero_mul, Nat.add_zero, Nat.one_mul] at c0 c1 c2 c3 c4 c5 c6 c7 d0 d1 d2 d3 d4 d5 d6 d7 hs0 hs1
  obtain ⟨a0, n0, e0, rfl, -, -⟩ := hs0.shape
  obtain ⟨a1, n1, e1, rfl, -, -⟩ := hs1.shape
  have Hb0 := Lib.hid hb0
  have Hv := Lib.hid hv
  have HvA := Lib.hid hA
  have HvB := Lib.hid hB
  clear hA hB hs hb0
  obtain ⟨v1, v2, -⟩ := hv
  have k0 : (0 : Int) < (n : Int) := by omega
  have k1 : (1 : Int) < (n : Int) := by omega
  have k2 : 0 < n := by omega
  have k3 : 1 < n := by omega
  go_cut [5, 6] (fun x y wx => ∃ g h : Nat, x = .pointer (some ⟨g, 0, none⟩) ∧ y = .pointer (some ⟨h, 0, none⟩) ∧
    RowKit.Hid (VarIs wx g #[.int .i64 A.op, .string A.table, .string A.name, .int .i64 A.index, .int .i64 A.v.kind, .int .i64 A.v.int, .string A.v.text, .slice a0 n0 e0]) ∧
    RowKit.Hid (VarIs wx h #[.int .i64 B.op, .string B.table, .string B.name, .int .i64 B.index, .int .i64 B.v.kind, .int .i64 B.v.int, .string B.v.text, .slice a1 n1 e1]) ∧
    RowKit.Hid (Below W.heap.size W wx))
  case first =>
    clear HvA HvB Hop Hb0 Hv
    go_region
    all_goals (go_wp2_with fail; go_meet)
    all_goals first
      | exact ⟨W.heap.size + 1, W.heap.size, rfl, rfl, Lib.hid (VarIs.new1 _ _ _ _).drew, Lib.hid ((VarIs.new W _ _).alloc _).drew, below_two _ _ _⟩
      | exact ⟨W.heap.size, W.heap.size + 1, rfl, rfl, Lib.hid ((VarIs.new W _ _).alloc _).drew, Lib.hid (VarIs.new1 _ _ _ _).drew, below_two _ _ _⟩
  case rest =>
    obtain ⟨g, h, rfl, rfl, VA, VB, HB⟩ := hcut
    have VE := Lib.hid (Hv.out.below HB.out Hv.out.lt)
    have hs0 := hs0.mono HB.out
    have hs1 := hs1.mono HB.out
    have Hbw := Lib.hid (Hb0.out.trans (HB.out.mono Hb0.out.size))
    clear HB Hv c0 c1 c2 c3 c4 c5 c6 c7 d0 d1 d2 d3 d4 d5 d6 d7 v1 v2 Hb0 hlt
    obtain ⟨p1, p2, -⟩ := VE.out
    obtain ⟨q1, q2, -⟩ := VA.out
    obtain ⟨u1, u2, -⟩ := VB.out
    by_cases h6 : op < 6
    · have b6 : (op == 6) = false := by simp; omega
      have b7 : op < 7 := by omega
      clear h6
      go_wp2
      go_ret
      exact ⟨_, rfl, fun _ h => by omega, Hbw.out⟩
    by_cases h6 : op = 6
    · subst h6
      go_wp2_with fail
      refine (rcolumns_calls _ A (Nat.le_refl _) _ _ _ _ hs0).mono ?_
      rintro e w1 ⟨rfl, hb1⟩
      have VB1 := Lib.hid (VB.out.below hb1 VB.out.lt)
      have hs1' := hs1.mono hb1
      have Hbw1 := Lib.hid (Hbw.out.trans (hb1.mono Hbw.out.size))
      clear p1 p2 q1 q2 u1 u2 hb1
      obtain ⟨u1, u2, -⟩ := VB1.out
      cases hca : Ex.cols A
      · go_wp2
        go_ret
        exact ⟨_, rfl, fun _ h => by omega, Hbw1.out⟩
      · go_wp2_with fail
        refine (rcolumns_calls _ B (Nat.le_refl _) _ _ _ _ hs1').mono ?_
        rintro e w2 ⟨rfl, hb2⟩
        have Hbw2 := Lib.hid (Hbw1.out.trans (hb2.mono Hbw1.out.size))
        clear hb2 u1 u2
        go_wp2
        go_ret
        exact ⟨_, rfl, fun _ h => by omega, Hbw2.out⟩
    · have b6 : (op == 6) = false := by simpa using h6
      have b7 : 7 ≤ op := by have := Hop.out; omega
      clear h6
      rename_i hlt6 _
      clear hlt6
      go_wp2_with fail
      refine (rcolumns_calls _ B (Nat.le_refl _) _ _ _ _ hs1).mono ?_
      rintro e w1 ⟨rfl, hb1⟩
      have VB1 := Lib.hid (VB.out.below hb1 VB.out.lt)
      have hs1' := hs1.mono hb1
      have Hbw1 := Lib.hid (Hbw.out.trans (hb1.mono Hbw.out.size))
      clear p1 p2 q1 q2 u1 u2 hb1
      obtain ⟨u1, u2, -⟩ := VB1.out
      cases hcb : Ex.cols B
      · have HC := Lib.hid hcb
        clear hcb
        go_wp2_with fail
        refine (bd_all HvB.out rfl _ _ _ _ _ hs1').mono ?_
        rintro e w2 ⟨t, rfl, hb2⟩
        have VB2 := Lib.hid (VB1.out.below hb2 VB1.out.lt)
        have hs2 := hs1'.mono hb2
        have Hbw2 := Lib.hid (Hbw1.out.trans (hb2.mono Hbw1.out.size))
        clear hb2 u1 u2
        obtain ⟨u1, u2, -⟩ := VB2.out
        by_cases ht : 1152921504606846976 < t
        · go_wp2
          go_ret
          exact ⟨false, rfl, (fun h => nomatch h), Hbw2.out⟩
        · have ht' : t ≤ 1152921504606846976 := by omega
          clear ht
          obtain ⟨v, hv, hof, hrv⟩ := rv_all (R := []) (.inr HC.out) HvB.out
          have Hval := Lib.hid hv
          have Hrv := Lib.hid hrv
          clear hv hrv
          go_wp2_with fail
          refine (Hrv.out _ _ _ _ _ hs2 .mt).mono ?_
          rintro e w3 ⟨rfl, hb3⟩
          have Hbw3 := Lib.hid (Hbw2.out.trans (hb3.mono Hbw2.out.size))
          clear hb3 u1 u2
          simp only [Vl.val]
          go_wp2
          · rename_i h1 h2
            go_ret
            exact ⟨_, rfl, fun hb _ => ⟨HC.out, v, Hval.out, by simpa using h1, by simpa using h2, by simpa using hb⟩, Hbw3.out.alloc Hbw3.out.size _⟩
          · go_ret
            exact ⟨false, rfl, (fun h => nomatch h), Hbw3.out.alloc Hbw3.out.size _⟩
          · go_ret
            exact ⟨false, rfl, (fun h => nomatch h), Hbw3.out.alloc Hbw3.out.size _⟩
      · go_wp2
        go_ret
        exact ⟨false, rfl, (fun h => nomatch h), Hbw1.out⟩
end Go.Proofs.YtgaeabodofabmaaDoor
