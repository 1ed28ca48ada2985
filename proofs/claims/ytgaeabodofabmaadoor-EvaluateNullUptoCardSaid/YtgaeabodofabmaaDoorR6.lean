/- The walk of the reference's Value at two operands: sums, products, quotients. (Printed by rvbin.py.) -/
import Derived.Test.YtgaeabodofabmaaDoorR4
import Derived.StillTailTactics
namespace Go.Proofs.YtgaeabodofabmaaDoor
open Go.RowKit

theorem rv_mod (tb nm : ByteArray) (ix : Int) (v0 : Vl) (A B : Ex) (l : List Ex) (R : List Vl) (x y v : Vl) (hA : RvAt R A x) (hB : RvAt R B y) (Hy : RowKit.Hid (0 < y.int)) (hv : v = if x.kind = 0 then Vl.null else if y.kind = 0 then Vl.null else ⟨1, wrap64 (x.int - wrap64 (y.int * floorS x.int y.int)), ⟨#[]⟩⟩) : RvAt R (.mk 8 tb nm ix v0 (A :: B :: l)) v := by
  intro a n c r w hs hr
  simp only [Ex.op, Ex.table, Ex.name, Ex.index, Ex.v]
  simp only [Ex.args] at hs
  obtain ⟨b, o, rfl, hlt, hn⟩ : ∃ b o, a = some ⟨b, o, none⟩ ∧ b < w.heap.size ∧ 2 ≤ n := by
    cases hs with
    | lie _ b o _ _ _ hn hlt => exact ⟨b, o, rfl, hlt, by simp at hn; omega⟩
  have k0 : (0 : Int) < (n : Int) := by omega
  have k1 : (1 : Int) < (n : Int) := by omega
  have k2 : 0 < n := by omega
  have k3 : 1 < n := by omega
  obtain ⟨s0, hs0, c0, c1, c2, c3, c4, c5, c6, c7⟩ := hs.cell 0 (by simp)
  obtain ⟨s1, hs1, d0, d1, d2, d3, d4, d5, d6, d7⟩ := hs.cell 1 (by simp)
  simp only [List.getElem_cons_zero, List.getElem_cons_succ, Nat.zero_mul, Nat.add_zero, Nat.one_mul] at c0 c1 c2 c3 c4 c5 c6 c7 hs0 d0 d1 d2 d3 d4 d5 d6 d7 hs1
  obtain ⟨a0, n0, e0, rfl, -, -⟩ := hs0.shape
  obtain ⟨a1, n1, e1, rfl, -, -⟩ := hs1.shape
  have HA := Lib.hid (hA a0 n0 e0 r)
  have HB := Lib.hid (hB a1 n1 e1 r)
  have Hv := Lib.hid hv
  have Hb0 : RowKit.Hid (∀ o o', Below w.heap.size w ((w.alloc o).alloc o')) := fun o o' => ((Below.refl _ _).alloc (Nat.le_refl _) o).alloc (by simp) o'
  have V1 := Lib.hid ((VarIs.new w #[.int .i64 8, .string tb, .string nm, .int .i64 ix, .int .i64 v0.kind, .int .i64 v0.int, .string v0.text, .slice (some ⟨b, o, none⟩) n c] 26).alloc (.cells #[.int .i64 0, .int .i64 0, .string ⟨#[]⟩] 23))
  have V2 := Lib.hid (VarIs.new (w.alloc (.cells #[.int .i64 8, .string tb, .string nm, .int .i64 ix, .int .i64 v0.kind, .int .i64 v0.int, .string v0.text, .slice (some ⟨b, o, none⟩) n c] 26)) #[.int .i64 0, .int .i64 0, .string ⟨#[]⟩] 23)
  clear hs hA hB hv
  go_enter Tryd.func14, Tryd.ntmps14
  go_wp2_with fail
  refine (HA.out _ (hs0.mono (Hb0.out _ _)) (hr.mono (Hb0.out _ _))).mono ?_
  rintro e w1 ⟨rfl, hb1⟩
  have V3 := Lib.hid (V2.out.below hb1 (by simp))
  have V4 := Lib.hid (V1.out.below hb1 (by simp; omega))
  obtain ⟨f1, f2, f3⟩ := V3.out
  obtain ⟨g1, g2, g3⟩ := V4.out
  have Hbw := Lib.hid ((Hb0.out _ _).trans (hb1.mono (Hb0.out _ _).size))
  simp only [World.size_alloc] at f1 f2 f3
  have d0 := (Hbw.out.cell (p := ⟨b, o + 8, none⟩) hlt).trans d0
  have d1 := (Hbw.out.cell (p := ⟨b, o + 8 + 1, none⟩) hlt).trans d1
  have d2 := (Hbw.out.cell (p := ⟨b, o + 8 + 2, none⟩) hlt).trans d2
  have d3 := (Hbw.out.cell (p := ⟨b, o + 8 + 3, none⟩) hlt).trans d3
  have d4 := (Hbw.out.cell (p := ⟨b, o + 8 + 4, none⟩) hlt).trans d4
  have d5 := (Hbw.out.cell (p := ⟨b, o + 8 + 5, none⟩) hlt).trans d5
  have d6 := (Hbw.out.cell (p := ⟨b, o + 8 + 6, none⟩) hlt).trans d6
  have d7 := (Hbw.out.cell (p := ⟨b, o + 8 + 7, none⟩) hlt).trans d7
  clear hb1 c0 c1 c2 c3 c4 c5 c6 c7 V1 V2
  simp only [Vl.val]
  by_cases h0 : x.kind = 0
  · have h0' : (x.kind == 0) = true := by simp [h0]
    have Hres : RowKit.Hid (v = Vl.null) := by show _ = _; rw [Hv.out, if_pos h0]
    clear h0
    go_wp2
    exact bodyPost_ret (v := .agg #[.int .i64 0, .int .i64 0, .string ⟨#[]⟩]) (by simp [results, Tryd.results14, go_sem, f2, f1]) rfl ⟨by rw [Hres.out]; rfl, (((Hbw.out.setCell (Nat.le_succ _) _).setCell (Nat.le_succ _) _).setCell (Nat.le_succ _) _).alloc (by simp; omega) _⟩
  · have h0' : (x.kind == 0) = false := by simp [h0]
    have Hres : RowKit.Hid (v = if y.kind = 0 then Vl.null else ⟨1, wrap64 (x.int - wrap64 (y.int * floorS x.int y.int)), ⟨#[]⟩⟩) := by show _ = _; rw [Hv.out, if_neg h0]
    clear h0
    have hbl : b < w1.heap.size := by omega
    go_wp2_with fail
    refine (HB.out _ (hs1.mono (Hbw.out.alloc (by omega) _)) (hr.mono (Hbw.out.alloc (by omega) _))).mono ?_
    rintro e w2 ⟨rfl, hb2⟩
    have V5 := Lib.hid ((V3.out.alloc _).below hb2 (by simp at f1 ⊢; omega))
    have V6 := Lib.hid ((V4.out.alloc _).below hb2 (by simp; omega))
    have V7 := Lib.hid ((VarIs.new w1 #[.int .i64 x.kind, .int .i64 x.int, .string x.text] 23).below hb2 (by simp))
    have Hbw2 := Lib.hid ((Hbw.out.alloc (by omega) _).trans (hb2.mono (by simp; omega)))
    clear hb2 f1 f2 f3 g1 g2 g3 V3 V4 d0 d1 d2 d3 d4 d5 d6 d7
    obtain ⟨p1, p2, p3⟩ := V5.out
    obtain ⟨q1, q2, q3⟩ := V6.out
    obtain ⟨u1, u2, u3⟩ := V7.out
    simp only [World.size_alloc] at p1 p2 p3
    simp only [Vl.val]
    by_cases h0 : y.kind = 0
    · have h0' : (y.kind == 0) = true := by simp [h0]
      have Hres : RowKit.Hid (v = Vl.null) := by show _ = _; rw [Hres.out, if_pos h0]
      clear h0
      go_wp2
      exact bodyPost_ret (v := .agg #[.int .i64 0, .int .i64 0, .string ⟨#[]⟩]) (by simp [results, Tryd.results14, go_sem, p2, p1]) rfl ⟨by rw [Hres.out]; rfl, (((Hbw2.out.setCell (Nat.le_succ _) _).setCell (Nat.le_succ _) _).setCell (Nat.le_succ _) _).alloc (by simp; omega) _⟩
    · have h0' : (y.kind == 0) = false := by simp [h0]
      have Hres : RowKit.Hid (v = ⟨1, wrap64 (x.int - wrap64 (y.int * floorS x.int y.int)), ⟨#[]⟩⟩) := by show _ = _; rw [Hres.out, if_neg h0]
      clear h0
      have V8 := Lib.hid (V5.out.alloc (.cells #[.int .i64 y.kind, .int .i64 y.int, .string y.text] 23))
      have V9 := Lib.hid (V7.out.alloc (.cells #[.int .i64 y.kind, .int .i64 y.int, .string y.text] 23))
      have V10 := Lib.hid (VarIs.new w2 #[.int .i64 y.kind, .int .i64 y.int, .string y.text] 23)
      have Hbw3 := Lib.hid (Hbw2.out.alloc (by omega) (.cells #[.int .i64 y.kind, .int .i64 y.int, .string y.text] 23))
      go_wp2_with fail
      generalize w2.alloc (.cells #[.int .i64 y.kind, .int .i64 y.int, .string y.text] 23) = W at *
      clear p1 p2 p3 q1 q2 q3 u1 u2 u3
      refine wp_region_still_tail 11 (by kernel_rfl) (by kernel_rfl) ?_
      simp only [List.take_succ_cons, List.take_zero, List.drop_succ_cons, List.drop_zero]
      change wpStill _ _ W.drew _ _ _
      have V8' : VarIs W.drew _ _ := ⟨V8.out.lt, V8.out.cell, V8.out.free⟩
      have V9' : VarIs W.drew _ _ := ⟨V9.out.lt, V9.out.cell, V9.out.free⟩
      have V10' : VarIs W.drew _ _ := ⟨V10.out.lt, V10.out.cell, V10.out.free⟩
      have Hbw4 := Lib.hid (Hbw3.out.drew)
      show wpStill _ _ _ (fun a' => wpList _ _ _ _ a' W.drew) _ _
      generalize W.drew = wd at *
      obtain ⟨p1, p2, p3⟩ := V8'
      obtain ⟨q1, q2, q3⟩ := V9'
      obtain ⟨u1, u2, u3⟩ := V10'
      simp only [World.size_alloc] at p1 p2 p3
      iterate 8 still_step
      refine wpStill_step (fun K hK => ?_)
      go_simp
      refine ⟨_, (rfloor_calls _ _ Hy.out _).mono (fun e w' h => ⟨h.1, h.2.symm⟩), hK _ ?_⟩
      clear hK K
      iterate 2 still_step
      refine wpStill_nil ?_
      go_wp2_with fail
      refine (rinteger_calls _ _).mono ?_
      rintro e w3 ⟨rfl, hb3⟩
      have V11 := Lib.hid (VarIs.below (b := w.heap.size + 1) (c := #[.int .i64 0, .int .i64 0, .string ⟨#[]⟩]) ⟨p1, p2, p3⟩ hb3 p1)
      have Hbw5 := Lib.hid (Hbw4.out.trans (hb3.mono (by omega)))
      clear hb3 p1 p2 p3 q1 q2 q3 u1 u2 u3
      obtain ⟨p1, p2, p3⟩ := V11.out
      simp only [Vl.val]
      go_wp2
      exact bodyPost_ret (v := .agg #[.int .i64 1, .int .i64 (wrap64 (x.int - wrap64 (y.int * floorS x.int y.int))), .string ⟨#[]⟩]) (by simp [results, Tryd.results14, go_sem, p2]) rfl ⟨by rw [Hres.out]; rfl, ((Hbw5.out.setCell (Nat.le_succ _) _).setCell (Nat.le_succ _) _).setCell (Nat.le_succ _) _⟩

end Go.Proofs.YtgaeabodofabmaaDoor

