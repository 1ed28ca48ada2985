/- The walk of the reference's Value at a literal, a column, a sign and a length. -/
import Derived.Test.YtgaeabodofabmaaDoorR3
namespace Go.Proofs.YtgaeabodofabmaaDoor
open Go.RowKit

/-- The contract of the reference's Value at E. -/
def RvAt (R : List Vl) (E : Ex) (v : Vl) : Prop := ∀ (a : Option Addr) (n c : Nat) (r : Value) (w : World), ArgsAt w E.args (.slice a n c) → ValsAt w R r →
    Calls Tryd.prog 14 #[.agg #[.int .i64 E.op, .string E.table, .string E.name, .int .i64 E.index, .int .i64 E.v.kind, .int .i64 E.v.int, .string E.v.text, .slice a n c], r] w fun e w' => e = .returned v.val ∧ Below w.heap.size w w'

theorem rv_lit (tb nm : ByteArray) (ix : Int) (v : Vl) (args : List Ex) (R : List Vl) : RvAt R (.mk 1 tb nm ix v args) v := by
  intro a n c r w hs hr
  simp only [Ex.op, Ex.table, Ex.name, Ex.index, Ex.v]
  clear hs hr
  have Hb0 : RowKit.Hid (∀ o o', Below w.heap.size w ((w.alloc o).alloc o')) := fun o o' => ((Below.refl _ _).alloc (Nat.le_refl _) o).alloc (by simp) o'
  go_enter Tryd.func14, Tryd.ntmps14
  go_wp2
  exact bodyPost_ret (v := .agg #[.int .i64 v.kind, .int .i64 v.int, .string v.text]) (by simp [results, Tryd.results14, go_sem]) rfl ⟨rfl, Hb0.out _ _⟩

theorem rv_col (tb nm : ByteArray) (i : Nat) (v0 v : Vl) (args : List Ex) (R : List Vl) (h : R[i]? = some v) : RvAt R (.mk 2 tb nm i v0 args) v := by
  intro a n c r w hs hr
  simp only [Ex.op, Ex.table, Ex.name, Ex.index, Ex.v]
  clear hs
  have Hb0 : RowKit.Hid (∀ o o', Below w.heap.size w ((w.alloc o).alloc o')) := fun o o' => ((Below.refl _ _).alloc (Nat.le_refl _) o).alloc (by simp) o'
  obtain ⟨hi, rfl⟩ := List.getElem?_eq_some_iff.1 h
  cases hr with
  | mt => simp at hi
  | lie _ b o k cap hn hlt hml hc =>
    obtain ⟨h0, h1, h2⟩ := (ValsAt.lie _ b o k cap hn hlt hml hc).cell i hi
    have hk' : i < k := by omega
    unfold maxLen at hml
    clear hc hn h
    generalize R[i] = v at *
    go_enter Tryd.func14, Tryd.ntmps14
    go_wp2
    exact bodyPost_ret (v := .agg #[.int .i64 v.kind, .int .i64 v.int, .string v.text]) (by simp [results, Tryd.results14, go_sem]) rfl ⟨rfl, Hb0.out _ _⟩

/-- A sign. -/
theorem rv_neg (tb nm : ByteArray) (ix : Int) (v0 : Vl) (A : Ex) (l : List Ex) (R : List Vl) (x v : Vl) (hA : RvAt R A x) (hv : v = if x.kind = 0 then Vl.null else ⟨1, wrap64 (-x.int), ⟨#[]⟩⟩) : RvAt R (.mk 3 tb nm ix v0 (A :: l)) v := by
  intro a n c r w hs hr
  simp only [Ex.op, Ex.table, Ex.name, Ex.index, Ex.v]
  simp only [Ex.args] at hs
  obtain ⟨b, o, rfl, hlt, hn⟩ : ∃ b o, a = some ⟨b, o, none⟩ ∧ b < w.heap.size ∧ 1 ≤ n := by
    cases hs with
    | lie _ b o _ _ _ hn hlt => exact ⟨b, o, rfl, hlt, by simp at hn; omega⟩
  have k0 : (0 : Int) < (n : Int) := by omega
  have k2 : 0 < n := by omega
  obtain ⟨s0, hs0, c0, c1, c2, c3, c4, c5, c6, c7⟩ := hs.cell 0 (by simp)
  simp only [List.getElem_cons_zero, Nat.zero_mul, Nat.add_zero] at c0 c1 c2 c3 c4 c5 c6 c7 hs0
  obtain ⟨a0, n0, e0, rfl, -, -⟩ := hs0.shape
  have HA := Lib.hid (hA a0 n0 e0 r)
  have Hv := Lib.hid hv
  have Hb0 : RowKit.Hid (∀ o o', Below w.heap.size w ((w.alloc o).alloc o')) := fun o o' => ((Below.refl _ _).alloc (Nat.le_refl _) o).alloc (by simp) o'
  have V1 := Lib.hid ((VarIs.new w #[.int .i64 3, .string tb, .string nm, .int .i64 ix, .int .i64 v0.kind, .int .i64 v0.int, .string v0.text, .slice (some ⟨b, o, none⟩) n c] 26).alloc (.cells #[.int .i64 0, .int .i64 0, .string ⟨#[]⟩] 23))
  have V2 := Lib.hid (VarIs.new (w.alloc (.cells #[.int .i64 3, .string tb, .string nm, .int .i64 ix, .int .i64 v0.kind, .int .i64 v0.int, .string v0.text, .slice (some ⟨b, o, none⟩) n c] 26)) #[.int .i64 0, .int .i64 0, .string ⟨#[]⟩] 23)
  clear hs hA hv
  go_enter Tryd.func14, Tryd.ntmps14
  go_wp2_with fail
  refine (HA.out _ (hs0.mono (Hb0.out _ _)) (hr.mono (Hb0.out _ _))).mono ?_
  rintro e w1 ⟨rfl, hb1⟩
  have V3 := Lib.hid (V2.out.below hb1 (by simp))
  have V4 := Lib.hid (V1.out.below hb1 (by simp; omega))
  obtain ⟨f1, f2, f3⟩ := V3.out
  obtain ⟨g1, g2, g3⟩ := V4.out
  have Hbw := Lib.hid ((Hb0.out _ _).trans (hb1.mono (Hb0.out _ _).size))
  simp only [World.size_alloc] at f1 f2 f3
  clear hb1 c0 c1 c2 c3 c4 c5 c6 c7 V1 V2
  simp only [Vl.val]
  by_cases h0 : x.kind = 0
  · have h0' : (x.kind == 0) = true := by simp [h0]
    have Hres : RowKit.Hid (v = Vl.null) := by show _ = _; rw [Hv.out, if_pos h0]
    clear h0
    go_wp2
    exact bodyPost_ret (v := .agg #[.int .i64 0, .int .i64 0, .string ⟨#[]⟩]) (by simp [results, Tryd.results14, go_sem, f2, f1]) rfl ⟨by rw [Hres.out]; rfl, (((Hbw.out.setCell (Nat.le_succ _) _).setCell (Nat.le_succ _) _).setCell (Nat.le_succ _) _).alloc (by simp; omega) _⟩
  · have h0' : (x.kind == 0) = false := by simp [h0]
    have Hres : RowKit.Hid (v = ⟨1, wrap64 (-x.int), ⟨#[]⟩⟩) := by show _ = _; rw [Hv.out, if_neg h0]
    clear h0
    go_wp2_with fail
    refine (rinteger_calls _ _).mono ?_
    rintro e w2 ⟨rfl, hb2⟩
    obtain ⟨p1, p2, p3⟩ := (V3.out.alloc _).below hb2 (by simp at f1 ⊢; omega)
    have Hbw2 := Lib.hid ((Hbw.out.alloc (by omega) _).trans (hb2.mono (by simp; omega)))
    clear hb2 f1 f2 f3 g1 g2 g3 V3 V4
    simp only [World.size_alloc] at p1 p2 p3
    simp only [Vl.val]
    go_wp2
    exact bodyPost_ret (v := .agg #[.int .i64 1, .int .i64 (wrap64 (-x.int)), .string ⟨#[]⟩]) (by simp [results, Tryd.results14, go_sem, p2]) rfl ⟨by rw [Hres.out]; rfl, ((Hbw2.out.setCell (Nat.le_succ _) _).setCell (Nat.le_succ _) _).setCell (Nat.le_succ _) _⟩

/-- A length. -/
theorem rv_len (tb nm : ByteArray) (ix : Int) (v0 : Vl) (A : Ex) (l : List Ex) (R : List Vl) (x v : Vl) (hA : RvAt R A x) (hv : v = if x.kind = 0 then Vl.null else ⟨1, x.text.size, ⟨#[]⟩⟩) : RvAt R (.mk 9 tb nm ix v0 (A :: l)) v := by
  intro a n c r w hs hr
  simp only [Ex.op, Ex.table, Ex.name, Ex.index, Ex.v]
  simp only [Ex.args] at hs
  obtain ⟨b, o, rfl, hlt, hn⟩ : ∃ b o, a = some ⟨b, o, none⟩ ∧ b < w.heap.size ∧ 1 ≤ n := by
    cases hs with
    | lie _ b o _ _ _ hn hlt => exact ⟨b, o, rfl, hlt, by simp at hn; omega⟩
  have k0 : (0 : Int) < (n : Int) := by omega
  have k2 : 0 < n := by omega
  obtain ⟨s0, hs0, c0, c1, c2, c3, c4, c5, c6, c7⟩ := hs.cell 0 (by simp)
  simp only [List.getElem_cons_zero, Nat.zero_mul, Nat.add_zero] at c0 c1 c2 c3 c4 c5 c6 c7 hs0
  obtain ⟨a0, n0, e0, rfl, -, -⟩ := hs0.shape
  have HA := Lib.hid (hA a0 n0 e0 r)
  have Hv := Lib.hid hv
  have Hb0 : RowKit.Hid (∀ o o', Below w.heap.size w ((w.alloc o).alloc o')) := fun o o' => ((Below.refl _ _).alloc (Nat.le_refl _) o).alloc (by simp) o'
  have V1 := Lib.hid ((VarIs.new w #[.int .i64 9, .string tb, .string nm, .int .i64 ix, .int .i64 v0.kind, .int .i64 v0.int, .string v0.text, .slice (some ⟨b, o, none⟩) n c] 26).alloc (.cells #[.int .i64 0, .int .i64 0, .string ⟨#[]⟩] 23))
  have V2 := Lib.hid (VarIs.new (w.alloc (.cells #[.int .i64 9, .string tb, .string nm, .int .i64 ix, .int .i64 v0.kind, .int .i64 v0.int, .string v0.text, .slice (some ⟨b, o, none⟩) n c] 26)) #[.int .i64 0, .int .i64 0, .string ⟨#[]⟩] 23)
  clear hs hA hv
  go_enter Tryd.func14, Tryd.ntmps14
  go_wp2_with fail
  refine (HA.out _ (hs0.mono (Hb0.out _ _)) (hr.mono (Hb0.out _ _))).mono ?_
  rintro e w1 ⟨rfl, hb1⟩
  have V3 := Lib.hid (V2.out.below hb1 (by simp))
  have V4 := Lib.hid (V1.out.below hb1 (by simp; omega))
  obtain ⟨f1, f2, f3⟩ := V3.out
  obtain ⟨g1, g2, g3⟩ := V4.out
  have Hbw := Lib.hid ((Hb0.out _ _).trans (hb1.mono (Hb0.out _ _).size))
  simp only [World.size_alloc] at f1 f2 f3
  clear hb1 c0 c1 c2 c3 c4 c5 c6 c7 V1 V2
  simp only [Vl.val]
  by_cases h0 : x.kind = 0
  · have h0' : (x.kind == 0) = true := by simp [h0]
    have Hres : RowKit.Hid (v = Vl.null) := by show _ = _; rw [Hv.out, if_pos h0]
    clear h0
    go_wp2
    exact bodyPost_ret (v := .agg #[.int .i64 0, .int .i64 0, .string ⟨#[]⟩]) (by simp [results, Tryd.results14, go_sem, f2, f1]) rfl ⟨by rw [Hres.out]; rfl, (((Hbw.out.setCell (Nat.le_succ _) _).setCell (Nat.le_succ _) _).setCell (Nat.le_succ _) _).alloc (by simp; omega) _⟩
  · have h0' : (x.kind == 0) = false := by simp [h0]
    have Hres : RowKit.Hid (v = ⟨1, x.text.size, ⟨#[]⟩⟩) := by show _ = _; rw [Hv.out, if_neg h0]
    clear h0
    go_wp2_with fail
    refine (rinteger_calls _ _).mono ?_
    rintro e w2 ⟨rfl, hb2⟩
    obtain ⟨p1, p2, p3⟩ := (V3.out.alloc _).below hb2 (by simp at f1 ⊢; omega)
    have Hbw2 := Lib.hid ((Hbw.out.alloc (by omega) _).trans (hb2.mono (by simp; omega)))
    clear hb2 f1 f2 f3 g1 g2 g3 V3 V4
    simp only [World.size_alloc] at p1 p2 p3
    simp only [Vl.val]
    go_wp2
    exact bodyPost_ret (v := .agg #[.int .i64 1, .int .i64 (x.text.size), .string ⟨#[]⟩]) (by simp [results, Tryd.results14, go_sem, p2]) rfl ⟨by rw [Hres.out]; rfl, ((Hbw2.out.setCell (Nat.le_succ _) _).setCell (Nat.le_succ _) _).setCell (Nat.le_succ _) _⟩

end Go.Proofs.YtgaeabodofabmaaDoor
