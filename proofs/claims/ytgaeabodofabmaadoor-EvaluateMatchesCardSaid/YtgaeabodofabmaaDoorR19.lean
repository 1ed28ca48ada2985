/- The walk of the reference's Condition at a comparison. -/
import Derived.Test.YtgaeabodofabmaaDoorR17
import Derived.Test.YtgaeabodofabmaaDoorR18
import Derived.Test.YtgaeabodofabmaaDoorInv
import Derived.Test.YtgaeabodofabmaaDoorR9
import Derived.Test.YtgaeabodofabmaaDoorSem
namespace Go.Proofs.YtgaeabodofabmaaDoor
open Go.RowKit

/-- What the reference's Condition says of a comparison. -/
def compN (op : Int) (a b : Vl) : T3 := if a.kind = 0 ∨ b.kind = 0 then .u else if op = 16 then T3.of (likeS a.text.data.toList b.text.data.toList) else T3.of (holdsS op (orderN a b))

set_option maxHeartbeats 16000000 in
set_option maxRecDepth 20000 in
theorem rc_comp (op : Int) (hop : 10 ≤ op ∧ op ≤ 16) (tb nm : ByteArray) (ix : Int) (v0 : Vl) (A B : Ex) (l : List Ex) (R : List Vl) (x y : Vl) (hA : RvAt R A x) (hB : RvAt R B y) (hx : x.text.size ≤ 2000000000000) (hy : y.text.size ≤ 2000000000000) : RcAt R (.mk op tb nm ix v0 (A :: B :: l)) (compN op x y) := by
  intro a n c r w hs hr
  simp only [Ex.op, Ex.table, Ex.name, Ex.index, Ex.v]
  simp only [Ex.args] at hs
  obtain ⟨b, o, rfl, hlt, hn⟩ : ∃ b o, a = some ⟨b, o, none⟩ ∧ b < w.heap.size ∧ 2 ≤ n := by
    cases hs with
    | lie _ b o _ _ _ hn hlt => exact ⟨b, o, rfl, hlt, by simp at hn; omega⟩
  have hb0 : Below w.heap.size w (w.alloc (.cells #[.int .i64 op, .string tb, .string nm, .int .i64 ix, .int .i64 v0.kind, .int .i64 v0.int, .string v0.text, .slice (some ⟨b, o, none⟩) n c] 26)) := (Below.refl _ _).alloc (Nat.le_refl _) _
  have hv := VarIs.new w #[.int .i64 op, .string tb, .string nm, .int .i64 ix, .int .i64 v0.kind, .int .i64 v0.int, .string v0.text, .slice (some ⟨b, o, none⟩) n c] 26
  have b1 : (op == 1) = false := by simp; omega
  have b17 : (op == 17) = false := by simp; omega
  have b18 : (op == 18) = false := by simp; omega
  have b19 : (op == 19) = false := by simp; omega
  have b20 : (op == 20) = false := by simp; omega
  have Hop := Lib.hid hop
  clear hop
  go_enter Tryd.func16, Tryd.ntmps16
  go_wp2_with fail
  generalize w.alloc (.cells #[.int .i64 _, .string tb, .string nm, .int .i64 ix, .int .i64 v0.kind, .int .i64 v0.int, .string v0.text, .slice (some ⟨b, o, none⟩) n c] 26) = W at *
  have hs := hs.mono hb0
  have hr := hr.mono hb0
  have hlt : b < W.heap.size := Nat.lt_of_lt_of_le hlt hb0.size
  obtain ⟨s0, hs0, c0, c1, c2, c3, c4, c5, c6, c7⟩ := hs.cell 0 (by simp)
  obtain ⟨s1, hs1, d0, d1, d2, d3, d4, d5, d6, d7⟩ := hs.cell 1 (by simp)
  simp only [List.getElem_cons_zero, List.getElem_cons_succ, Nat.zero_mul, Nat.add_zero, Nat.one_mul] at c0 c1 c2 c3 c4 c5 c6 c7 d0 d1 d2 d3 d4 d5 d6 d7 hs0 hs1
  obtain ⟨a0, n0, e0, rfl, -, -⟩ := hs0.shape
  obtain ⟨a1, n1, e1, rfl, -, -⟩ := hs1.shape
  have HA := Lib.hid (fun w' h1 h2 => hA a0 n0 e0 r w' h1 h2)
  have HB := Lib.hid (fun w' h1 h2 => hB a1 n1 e1 r w' h1 h2)
  have HR := Lib.hid hr
  have Hb0 := Lib.hid hb0
  have Hv := Lib.hid hv
  clear hA hB hs hb0 hr
  obtain ⟨v1, v2, -⟩ := hv
  have k0 : (0 : Int) < (n : Int) := by omega
  have k1 : (1 : Int) < (n : Int) := by omega
  have k2 : 0 < n := by omega
  have k3 : 1 < n := by omega
  go_cut [9, 10] (fun p q wx => ∃ g h : Nat, p = .pointer (some ⟨g, 0, none⟩) ∧ q = .pointer (some ⟨h, 0, none⟩) ∧ W.heap.size ≤ g ∧ W.heap.size ≤ h ∧
    RowKit.Hid (VarIs wx g #[.int .i64 x.kind, .int .i64 x.int, .string x.text]) ∧
    RowKit.Hid (VarIs wx h #[.int .i64 y.kind, .int .i64 y.int, .string y.text]) ∧
    RowKit.Hid (Below W.heap.size W wx))
  case first =>
    refine region_gen (fun act0 Hact => ?_)
    have Hsz : act0.tmps.size = 135 := by rw [Hact.out]; rfl
    have r2 : act0.eval (.tmp 2) = .pointer (some ⟨w.heap.size, 0, none⟩) := by rw [Hact.out]; rfl
    have r1 : act0.eval (.tmp 1) = r := by rw [Hact.out]; rfl
    refine wp_region_inv0 (fun L a' w' => FrameLike act0 a' [74, 75, 76, 77, 78, 79, 80, 81, 82, 83, 84, 85, 9, 10] ∧ RowKit.Hid (Below W.heap.size W w') ∧
      (L 0 = true → (a'.eval (.tmp 74)) = .pointer (some ⟨w.heap.size, 7, none⟩)) ∧
      (L 1 = true → (a'.eval (.tmp 75)) = .slice (some ⟨b, o, none⟩) n c) ∧
      (L 2 = true → (a'.eval (.tmp 76)) = .pointer (some ⟨b, o, none⟩)) ∧
      (L 3 = true → (a'.eval (.tmp 77)) = .agg #[.int .i64 A.op, .string A.table, .string A.name, .int .i64 A.index, .int .i64 A.v.kind, .int .i64 A.v.int, .string A.v.text, .slice a0 n0 e0]) ∧
      (L 4 = true → (a'.eval (.tmp 78)) = r) ∧
      (L 5 = true → (a'.eval (.tmp 79)) = .agg #[.int .i64 x.kind, .int .i64 x.int, .string x.text]) ∧
      (L 6 = true → (a'.eval (.tmp 80)) = .pointer (some ⟨w.heap.size, 7, none⟩)) ∧
      (L 7 = true → (a'.eval (.tmp 81)) = .slice (some ⟨b, o, none⟩) n c) ∧
      (L 8 = true → (a'.eval (.tmp 82)) = .pointer (some ⟨b, o + 8, none⟩)) ∧
      (L 9 = true → (a'.eval (.tmp 83)) = .agg #[.int .i64 B.op, .string B.table, .string B.name, .int .i64 B.index, .int .i64 B.v.kind, .int .i64 B.v.int, .string B.v.text, .slice a1 n1 e1]) ∧
      (L 10 = true → (a'.eval (.tmp 84)) = r) ∧
      (L 11 = true → (a'.eval (.tmp 85)) = .agg #[.int .i64 y.kind, .int .i64 y.int, .string y.text]) ∧
      (L 12 = true → ∃ (g : Nat) (p0 p1 p2 : Value), (a'.eval (.tmp 9)) = .pointer (some ⟨g, 0, none⟩) ∧ W.heap.size ≤ g ∧ RowKit.Hid (VarIs w' g #[p0, p1, p2]) ∧ (L 14 = true → p0 = .int .i64 x.kind ∧ p1 = .int .i64 x.int ∧ p2 = .string x.text)) ∧
      (L 13 = true → ∃ (g : Nat) (p0 p1 p2 : Value), (a'.eval (.tmp 10)) = .pointer (some ⟨g, 0, none⟩) ∧ W.heap.size ≤ g ∧ RowKit.Hid (VarIs w' g #[p0, p1, p2]) ∧ (L 15 = true → p0 = .int .i64 y.kind ∧ p1 = .int .i64 y.int ∧ p2 = .string y.text)) ∧
      (L 14 = true → L 12 = true) ∧
      (L 15 = true → L 13 = true) ∧
      (L 12 = true → L 13 = true → blkOf (a'.eval (.tmp 9)) ≠ blkOf (a'.eval (.tmp 10)))) rfl (by kernel_rfl) (by kernel_rfl) ?_ ?_ ?_
    · exact ⟨FrameLike.refl _ _, Lib.hid (Below.drew (Below.refl _ _)), (fun h => nomatch h), (fun h => nomatch h), (fun h => nomatch h), (fun h => nomatch h), (fun h => nomatch h), (fun h => nomatch h), (fun h => nomatch h), (fun h => nomatch h), (fun h => nomatch h), (fun h => nomatch h), (fun h => nomatch h), (fun h => nomatch h), (fun h => nomatch h), (fun h => nomatch h), (fun h => nomatch h), (fun h => nomatch h), (fun h => nomatch h)⟩
    · clear Hact
      intro i o L a' w' ho hun hd hI
      obtain ⟨HF, HS, f0, f1, f2, f3, f4, f5, f6, f7, f8, f9, f10, f11, f12, f13, f14, f15, g12_13⟩ := hI
      have Ha : 135 = a'.tmps.size := by rw [HF.size, Hsz]
      have R2 := eval_spell ((HF.same 2 (by decide)).trans r2)
      have R1 := eval_spell ((HF.same 1 (by decide)).trans r1)
      clear r2 r1 Hsz
      have Ff0 := Lib.hid f0; clear f0; have Ff1 := Lib.hid f1; clear f1; have Ff2 := Lib.hid f2; clear f2; have Ff3 := Lib.hid f3; clear f3; have Ff4 := Lib.hid f4; clear f4; have Ff5 := Lib.hid f5; clear f5; have Ff6 := Lib.hid f6; clear f6; have Ff7 := Lib.hid f7; clear f7; have Ff8 := Lib.hid f8; clear f8; have Ff9 := Lib.hid f9; clear f9; have Ff10 := Lib.hid f10; clear f10; have Ff11 := Lib.hid f11; clear f11; have Ff12 := Lib.hid f12; clear f12; have Ff13 := Lib.hid f13; clear f13; have Ff14 := Lib.hid f14; clear f14; have Ff15 := Lib.hid f15; clear f15; have Fg12_13 := Lib.hid g12_13; clear g12_13
      match i, ho, hun with
      | 0, ho, hun =>
        obtain rfl := Option.some.inj ho
        clear hd ho
        refine inv_value (v := .pointer (some ⟨w.heap.size, 7, none⟩)) (w' := w') rfl (by rfl) (by go_simp) ?_
        have A12 : ((L 12 || decide (12 = 0)) = true → ∃ (g : Nat) (p0 p1 p2 : Value), ((a'.put (some 74) (.pointer (some ⟨w.heap.size, 7, none⟩))).eval (.tmp 9)) = .pointer (some ⟨g, 0, none⟩) ∧ W.heap.size ≤ g ∧ RowKit.Hid (VarIs w' g #[p0, p1, p2]) ∧ ((L 14 || decide (14 = 0)) = true → p0 = .int .i64 x.kind ∧ p1 = .int .i64 x.int ∧ p2 = .string x.text)) := by
          intro h
          have h0 : L 12 = true := by simpa using h
          obtain ⟨g, p0, p1, p2, h1, h2, h3, h4⟩ := Ff12.out h0
          exact ⟨g, p0, p1, p2, (eval_put_ne (by decide)).trans h1, h2, h3, fun h => h4 (by simpa using h)⟩
        have A13 : ((L 13 || decide (13 = 0)) = true → ∃ (g : Nat) (p0 p1 p2 : Value), ((a'.put (some 74) (.pointer (some ⟨w.heap.size, 7, none⟩))).eval (.tmp 10)) = .pointer (some ⟨g, 0, none⟩) ∧ W.heap.size ≤ g ∧ RowKit.Hid (VarIs w' g #[p0, p1, p2]) ∧ ((L 15 || decide (15 = 0)) = true → p0 = .int .i64 y.kind ∧ p1 = .int .i64 y.int ∧ p2 = .string y.text)) := by
          intro h
          have h0 : L 13 = true := by simpa using h
          obtain ⟨g, p0, p1, p2, h1, h2, h3, h4⟩ := Ff13.out h0
          exact ⟨g, p0, p1, p2, (eval_put_ne (by decide)).trans h1, h2, h3, fun h => h4 (by simpa using h)⟩
        exact ⟨HF.put (by decide) _, HS, fun _ => eval_put_same (by rw [← Ha]; decide), fun h => (eval_put_ne (by decide)).trans (Ff1.out (by simpa using h)), fun h => (eval_put_ne (by decide)).trans (Ff2.out (by simpa using h)), fun h => (eval_put_ne (by decide)).trans (Ff3.out (by simpa using h)), fun h => (eval_put_ne (by decide)).trans (Ff4.out (by simpa using h)), fun h => (eval_put_ne (by decide)).trans (Ff5.out (by simpa using h)), fun h => (eval_put_ne (by decide)).trans (Ff6.out (by simpa using h)), fun h => (eval_put_ne (by decide)).trans (Ff7.out (by simpa using h)), fun h => (eval_put_ne (by decide)).trans (Ff8.out (by simpa using h)), fun h => (eval_put_ne (by decide)).trans (Ff9.out (by simpa using h)), fun h => (eval_put_ne (by decide)).trans (Ff10.out (by simpa using h)), fun h => (eval_put_ne (by decide)).trans (Ff11.out (by simpa using h)), A12, A13, fun h => inv_or (Ff14.out (by simpa using h)), fun h => inv_or (Ff15.out (by simpa using h)), fun h h' => inv_ne (eval_put_ne (by decide)) (eval_put_ne (by decide)) (Fg12_13.out (by simpa using h) (by simpa using h'))⟩
      | 1, ho, hun =>
        obtain rfl := Option.some.inj ho
        have t0 : L 0 = true := hd ⟨0, .data⟩ (by simp) rfl
        clear hd ho
        have e0 := eval_spell (Ff0.out t0)
        obtain ⟨q1, q2⟩ := bcell HS.out
        refine inv_value (v := .slice (some ⟨b, o, none⟩) n c) (w' := w') rfl (by rfl) (by go_simp) ?_
        clear q1 q2
        have A12 : ((L 12 || decide (12 = 1)) = true → ∃ (g : Nat) (p0 p1 p2 : Value), ((a'.put (some 75) (.slice (some ⟨b, o, none⟩) n c)).eval (.tmp 9)) = .pointer (some ⟨g, 0, none⟩) ∧ W.heap.size ≤ g ∧ RowKit.Hid (VarIs w' g #[p0, p1, p2]) ∧ ((L 14 || decide (14 = 1)) = true → p0 = .int .i64 x.kind ∧ p1 = .int .i64 x.int ∧ p2 = .string x.text)) := by
          intro h
          have h0 : L 12 = true := by simpa using h
          obtain ⟨g, p0, p1, p2, h1, h2, h3, h4⟩ := Ff12.out h0
          exact ⟨g, p0, p1, p2, (eval_put_ne (by decide)).trans h1, h2, h3, fun h => h4 (by simpa using h)⟩
        have A13 : ((L 13 || decide (13 = 1)) = true → ∃ (g : Nat) (p0 p1 p2 : Value), ((a'.put (some 75) (.slice (some ⟨b, o, none⟩) n c)).eval (.tmp 10)) = .pointer (some ⟨g, 0, none⟩) ∧ W.heap.size ≤ g ∧ RowKit.Hid (VarIs w' g #[p0, p1, p2]) ∧ ((L 15 || decide (15 = 1)) = true → p0 = .int .i64 y.kind ∧ p1 = .int .i64 y.int ∧ p2 = .string y.text)) := by
          intro h
          have h0 : L 13 = true := by simpa using h
          obtain ⟨g, p0, p1, p2, h1, h2, h3, h4⟩ := Ff13.out h0
          exact ⟨g, p0, p1, p2, (eval_put_ne (by decide)).trans h1, h2, h3, fun h => h4 (by simpa using h)⟩
        exact ⟨HF.put (by decide) _, HS, fun h => (eval_put_ne (by decide)).trans (Ff0.out (by simpa using h)), fun _ => eval_put_same (by rw [← Ha]; decide), fun h => (eval_put_ne (by decide)).trans (Ff2.out (by simpa using h)), fun h => (eval_put_ne (by decide)).trans (Ff3.out (by simpa using h)), fun h => (eval_put_ne (by decide)).trans (Ff4.out (by simpa using h)), fun h => (eval_put_ne (by decide)).trans (Ff5.out (by simpa using h)), fun h => (eval_put_ne (by decide)).trans (Ff6.out (by simpa using h)), fun h => (eval_put_ne (by decide)).trans (Ff7.out (by simpa using h)), fun h => (eval_put_ne (by decide)).trans (Ff8.out (by simpa using h)), fun h => (eval_put_ne (by decide)).trans (Ff9.out (by simpa using h)), fun h => (eval_put_ne (by decide)).trans (Ff10.out (by simpa using h)), fun h => (eval_put_ne (by decide)).trans (Ff11.out (by simpa using h)), A12, A13, fun h => inv_or (Ff14.out (by simpa using h)), fun h => inv_or (Ff15.out (by simpa using h)), fun h h' => inv_ne (eval_put_ne (by decide)) (eval_put_ne (by decide)) (Fg12_13.out (by simpa using h) (by simpa using h'))⟩
      | 2, ho, hun =>
        obtain rfl := Option.some.inj ho
        have t1 : L 1 = true := hd ⟨1, .data⟩ (by simp) rfl
        clear hd ho
        have e1 := eval_spell (Ff1.out t1)
        refine inv_value (v := .pointer (some ⟨b, o, none⟩)) (w' := w') rfl (by rfl) (by go_simp) ?_
        have A12 : ((L 12 || decide (12 = 2)) = true → ∃ (g : Nat) (p0 p1 p2 : Value), ((a'.put (some 76) (.pointer (some ⟨b, o, none⟩))).eval (.tmp 9)) = .pointer (some ⟨g, 0, none⟩) ∧ W.heap.size ≤ g ∧ RowKit.Hid (VarIs w' g #[p0, p1, p2]) ∧ ((L 14 || decide (14 = 2)) = true → p0 = .int .i64 x.kind ∧ p1 = .int .i64 x.int ∧ p2 = .string x.text)) := by
          intro h
          have h0 : L 12 = true := by simpa using h
          obtain ⟨g, p0, p1, p2, h1, h2, h3, h4⟩ := Ff12.out h0
          exact ⟨g, p0, p1, p2, (eval_put_ne (by decide)).trans h1, h2, h3, fun h => h4 (by simpa using h)⟩
        have A13 : ((L 13 || decide (13 = 2)) = true → ∃ (g : Nat) (p0 p1 p2 : Value), ((a'.put (some 76) (.pointer (some ⟨b, o, none⟩))).eval (.tmp 10)) = .pointer (some ⟨g, 0, none⟩) ∧ W.heap.size ≤ g ∧ RowKit.Hid (VarIs w' g #[p0, p1, p2]) ∧ ((L 15 || decide (15 = 2)) = true → p0 = .int .i64 y.kind ∧ p1 = .int .i64 y.int ∧ p2 = .string y.text)) := by
          intro h
          have h0 : L 13 = true := by simpa using h
          obtain ⟨g, p0, p1, p2, h1, h2, h3, h4⟩ := Ff13.out h0
          exact ⟨g, p0, p1, p2, (eval_put_ne (by decide)).trans h1, h2, h3, fun h => h4 (by simpa using h)⟩
        exact ⟨HF.put (by decide) _, HS, fun h => (eval_put_ne (by decide)).trans (Ff0.out (by simpa using h)), fun h => (eval_put_ne (by decide)).trans (Ff1.out (by simpa using h)), fun _ => eval_put_same (by rw [← Ha]; decide), fun h => (eval_put_ne (by decide)).trans (Ff3.out (by simpa using h)), fun h => (eval_put_ne (by decide)).trans (Ff4.out (by simpa using h)), fun h => (eval_put_ne (by decide)).trans (Ff5.out (by simpa using h)), fun h => (eval_put_ne (by decide)).trans (Ff6.out (by simpa using h)), fun h => (eval_put_ne (by decide)).trans (Ff7.out (by simpa using h)), fun h => (eval_put_ne (by decide)).trans (Ff8.out (by simpa using h)), fun h => (eval_put_ne (by decide)).trans (Ff9.out (by simpa using h)), fun h => (eval_put_ne (by decide)).trans (Ff10.out (by simpa using h)), fun h => (eval_put_ne (by decide)).trans (Ff11.out (by simpa using h)), A12, A13, fun h => inv_or (Ff14.out (by simpa using h)), fun h => inv_or (Ff15.out (by simpa using h)), fun h h' => inv_ne (eval_put_ne (by decide)) (eval_put_ne (by decide)) (Fg12_13.out (by simpa using h) (by simpa using h'))⟩
      | 3, ho, hun =>
        obtain rfl := Option.some.inj ho
        have t2 : L 2 = true := hd ⟨2, .data⟩ (by simp) rfl
        clear hd ho
        have e2 := eval_spell (Ff2.out t2)
        obtain ⟨q1, q2⟩ := bcell HS.out
        refine inv_value (v := .agg #[.int .i64 A.op, .string A.table, .string A.name, .int .i64 A.index, .int .i64 A.v.kind, .int .i64 A.v.int, .string A.v.text, .slice a0 n0 e0]) (w' := w') rfl (by rfl) (by go_simp) ?_
        clear q1 q2
        have A12 : ((L 12 || decide (12 = 3)) = true → ∃ (g : Nat) (p0 p1 p2 : Value), ((a'.put (some 77) (.agg #[.int .i64 A.op, .string A.table, .string A.name, .int .i64 A.index, .int .i64 A.v.kind, .int .i64 A.v.int, .string A.v.text, .slice a0 n0 e0])).eval (.tmp 9)) = .pointer (some ⟨g, 0, none⟩) ∧ W.heap.size ≤ g ∧ RowKit.Hid (VarIs w' g #[p0, p1, p2]) ∧ ((L 14 || decide (14 = 3)) = true → p0 = .int .i64 x.kind ∧ p1 = .int .i64 x.int ∧ p2 = .string x.text)) := by
          intro h
          have h0 : L 12 = true := by simpa using h
          obtain ⟨g, p0, p1, p2, h1, h2, h3, h4⟩ := Ff12.out h0
          exact ⟨g, p0, p1, p2, (eval_put_ne (by decide)).trans h1, h2, h3, fun h => h4 (by simpa using h)⟩
        have A13 : ((L 13 || decide (13 = 3)) = true → ∃ (g : Nat) (p0 p1 p2 : Value), ((a'.put (some 77) (.agg #[.int .i64 A.op, .string A.table, .string A.name, .int .i64 A.index, .int .i64 A.v.kind, .int .i64 A.v.int, .string A.v.text, .slice a0 n0 e0])).eval (.tmp 10)) = .pointer (some ⟨g, 0, none⟩) ∧ W.heap.size ≤ g ∧ RowKit.Hid (VarIs w' g #[p0, p1, p2]) ∧ ((L 15 || decide (15 = 3)) = true → p0 = .int .i64 y.kind ∧ p1 = .int .i64 y.int ∧ p2 = .string y.text)) := by
          intro h
          have h0 : L 13 = true := by simpa using h
          obtain ⟨g, p0, p1, p2, h1, h2, h3, h4⟩ := Ff13.out h0
          exact ⟨g, p0, p1, p2, (eval_put_ne (by decide)).trans h1, h2, h3, fun h => h4 (by simpa using h)⟩
        exact ⟨HF.put (by decide) _, HS, fun h => (eval_put_ne (by decide)).trans (Ff0.out (by simpa using h)), fun h => (eval_put_ne (by decide)).trans (Ff1.out (by simpa using h)), fun h => (eval_put_ne (by decide)).trans (Ff2.out (by simpa using h)), fun _ => eval_put_same (by rw [← Ha]; decide), fun h => (eval_put_ne (by decide)).trans (Ff4.out (by simpa using h)), fun h => (eval_put_ne (by decide)).trans (Ff5.out (by simpa using h)), fun h => (eval_put_ne (by decide)).trans (Ff6.out (by simpa using h)), fun h => (eval_put_ne (by decide)).trans (Ff7.out (by simpa using h)), fun h => (eval_put_ne (by decide)).trans (Ff8.out (by simpa using h)), fun h => (eval_put_ne (by decide)).trans (Ff9.out (by simpa using h)), fun h => (eval_put_ne (by decide)).trans (Ff10.out (by simpa using h)), fun h => (eval_put_ne (by decide)).trans (Ff11.out (by simpa using h)), A12, A13, fun h => inv_or (Ff14.out (by simpa using h)), fun h => inv_or (Ff15.out (by simpa using h)), fun h h' => inv_ne (eval_put_ne (by decide)) (eval_put_ne (by decide)) (Fg12_13.out (by simpa using h) (by simpa using h'))⟩
      | 4, ho, hun =>
        obtain rfl := Option.some.inj ho
        clear hd ho
        refine inv_value (v := r) (w' := w') rfl (by rfl) (by go_simp) ?_
        have A12 : ((L 12 || decide (12 = 4)) = true → ∃ (g : Nat) (p0 p1 p2 : Value), ((a'.put (some 78) (r)).eval (.tmp 9)) = .pointer (some ⟨g, 0, none⟩) ∧ W.heap.size ≤ g ∧ RowKit.Hid (VarIs w' g #[p0, p1, p2]) ∧ ((L 14 || decide (14 = 4)) = true → p0 = .int .i64 x.kind ∧ p1 = .int .i64 x.int ∧ p2 = .string x.text)) := by
          intro h
          have h0 : L 12 = true := by simpa using h
          obtain ⟨g, p0, p1, p2, h1, h2, h3, h4⟩ := Ff12.out h0
          exact ⟨g, p0, p1, p2, (eval_put_ne (by decide)).trans h1, h2, h3, fun h => h4 (by simpa using h)⟩
        have A13 : ((L 13 || decide (13 = 4)) = true → ∃ (g : Nat) (p0 p1 p2 : Value), ((a'.put (some 78) (r)).eval (.tmp 10)) = .pointer (some ⟨g, 0, none⟩) ∧ W.heap.size ≤ g ∧ RowKit.Hid (VarIs w' g #[p0, p1, p2]) ∧ ((L 15 || decide (15 = 4)) = true → p0 = .int .i64 y.kind ∧ p1 = .int .i64 y.int ∧ p2 = .string y.text)) := by
          intro h
          have h0 : L 13 = true := by simpa using h
          obtain ⟨g, p0, p1, p2, h1, h2, h3, h4⟩ := Ff13.out h0
          exact ⟨g, p0, p1, p2, (eval_put_ne (by decide)).trans h1, h2, h3, fun h => h4 (by simpa using h)⟩
        exact ⟨HF.put (by decide) _, HS, fun h => (eval_put_ne (by decide)).trans (Ff0.out (by simpa using h)), fun h => (eval_put_ne (by decide)).trans (Ff1.out (by simpa using h)), fun h => (eval_put_ne (by decide)).trans (Ff2.out (by simpa using h)), fun h => (eval_put_ne (by decide)).trans (Ff3.out (by simpa using h)), fun _ => eval_put_same (by rw [← Ha]; decide), fun h => (eval_put_ne (by decide)).trans (Ff5.out (by simpa using h)), fun h => (eval_put_ne (by decide)).trans (Ff6.out (by simpa using h)), fun h => (eval_put_ne (by decide)).trans (Ff7.out (by simpa using h)), fun h => (eval_put_ne (by decide)).trans (Ff8.out (by simpa using h)), fun h => (eval_put_ne (by decide)).trans (Ff9.out (by simpa using h)), fun h => (eval_put_ne (by decide)).trans (Ff10.out (by simpa using h)), fun h => (eval_put_ne (by decide)).trans (Ff11.out (by simpa using h)), A12, A13, fun h => inv_or (Ff14.out (by simpa using h)), fun h => inv_or (Ff15.out (by simpa using h)), fun h h' => inv_ne (eval_put_ne (by decide)) (eval_put_ne (by decide)) (Fg12_13.out (by simpa using h) (by simpa using h'))⟩
      | 5, ho, hun =>
        obtain rfl := Option.some.inj ho
        have t3 : L 3 = true := hd ⟨3, .data⟩ (by simp) rfl
        have t4 : L 4 = true := hd ⟨4, .data⟩ (by simp) rfl
        clear hd ho
        have e3 := eval_spell (Ff3.out t3)
        have e4 := eval_spell (Ff4.out t4)
        refine inv_call rfl (by rfl) (by go_simp) (HA.out _ (hs0.mono HS.out) (HR.out.mono HS.out)) ?_
        rintro e w2 ⟨rfl, hb⟩
        have HS2 := Lib.hid (HS.out.trans (hb.mono HS.out.size))
        have A12 : ((L 12 || decide (12 = 5)) = true → ∃ (g : Nat) (p0 p1 p2 : Value), ((a'.put (some 79) (.agg #[.int .i64 x.kind, .int .i64 x.int, .string x.text])).eval (.tmp 9)) = .pointer (some ⟨g, 0, none⟩) ∧ W.heap.size ≤ g ∧ RowKit.Hid (VarIs w2 g #[p0, p1, p2]) ∧ ((L 14 || decide (14 = 5)) = true → p0 = .int .i64 x.kind ∧ p1 = .int .i64 x.int ∧ p2 = .string x.text)) := by
          intro h
          have h0 : L 12 = true := by simpa using h
          obtain ⟨g, p0, p1, p2, h1, h2, h3, h4⟩ := Ff12.out h0
          exact ⟨g, p0, p1, p2, (eval_put_ne (by decide)).trans h1, h2, Lib.hid (h3.out.below hb h3.out.lt), fun h => h4 (by simpa using h)⟩
        have A13 : ((L 13 || decide (13 = 5)) = true → ∃ (g : Nat) (p0 p1 p2 : Value), ((a'.put (some 79) (.agg #[.int .i64 x.kind, .int .i64 x.int, .string x.text])).eval (.tmp 10)) = .pointer (some ⟨g, 0, none⟩) ∧ W.heap.size ≤ g ∧ RowKit.Hid (VarIs w2 g #[p0, p1, p2]) ∧ ((L 15 || decide (15 = 5)) = true → p0 = .int .i64 y.kind ∧ p1 = .int .i64 y.int ∧ p2 = .string y.text)) := by
          intro h
          have h0 : L 13 = true := by simpa using h
          obtain ⟨g, p0, p1, p2, h1, h2, h3, h4⟩ := Ff13.out h0
          exact ⟨g, p0, p1, p2, (eval_put_ne (by decide)).trans h1, h2, Lib.hid (h3.out.below hb h3.out.lt), fun h => h4 (by simpa using h)⟩
        exact ⟨_, rfl, HF.put (by decide) _, HS2, fun h => (eval_put_ne (by decide)).trans (Ff0.out (by simpa using h)), fun h => (eval_put_ne (by decide)).trans (Ff1.out (by simpa using h)), fun h => (eval_put_ne (by decide)).trans (Ff2.out (by simpa using h)), fun h => (eval_put_ne (by decide)).trans (Ff3.out (by simpa using h)), fun h => (eval_put_ne (by decide)).trans (Ff4.out (by simpa using h)), fun _ => eval_put_same (by rw [← Ha]; decide), fun h => (eval_put_ne (by decide)).trans (Ff6.out (by simpa using h)), fun h => (eval_put_ne (by decide)).trans (Ff7.out (by simpa using h)), fun h => (eval_put_ne (by decide)).trans (Ff8.out (by simpa using h)), fun h => (eval_put_ne (by decide)).trans (Ff9.out (by simpa using h)), fun h => (eval_put_ne (by decide)).trans (Ff10.out (by simpa using h)), fun h => (eval_put_ne (by decide)).trans (Ff11.out (by simpa using h)), A12, A13, fun h => inv_or (Ff14.out (by simpa using h)), fun h => inv_or (Ff15.out (by simpa using h)), fun h h' => inv_ne (eval_put_ne (by decide)) (eval_put_ne (by decide)) (Fg12_13.out (by simpa using h) (by simpa using h'))⟩
      | 6, ho, hun =>
        obtain rfl := Option.some.inj ho
        clear hd ho
        refine inv_value (v := .pointer (some ⟨w.heap.size, 7, none⟩)) (w' := w') rfl (by rfl) (by go_simp) ?_
        have A12 : ((L 12 || decide (12 = 6)) = true → ∃ (g : Nat) (p0 p1 p2 : Value), ((a'.put (some 80) (.pointer (some ⟨w.heap.size, 7, none⟩))).eval (.tmp 9)) = .pointer (some ⟨g, 0, none⟩) ∧ W.heap.size ≤ g ∧ RowKit.Hid (VarIs w' g #[p0, p1, p2]) ∧ ((L 14 || decide (14 = 6)) = true → p0 = .int .i64 x.kind ∧ p1 = .int .i64 x.int ∧ p2 = .string x.text)) := by
          intro h
          have h0 : L 12 = true := by simpa using h
          obtain ⟨g, p0, p1, p2, h1, h2, h3, h4⟩ := Ff12.out h0
          exact ⟨g, p0, p1, p2, (eval_put_ne (by decide)).trans h1, h2, h3, fun h => h4 (by simpa using h)⟩
        have A13 : ((L 13 || decide (13 = 6)) = true → ∃ (g : Nat) (p0 p1 p2 : Value), ((a'.put (some 80) (.pointer (some ⟨w.heap.size, 7, none⟩))).eval (.tmp 10)) = .pointer (some ⟨g, 0, none⟩) ∧ W.heap.size ≤ g ∧ RowKit.Hid (VarIs w' g #[p0, p1, p2]) ∧ ((L 15 || decide (15 = 6)) = true → p0 = .int .i64 y.kind ∧ p1 = .int .i64 y.int ∧ p2 = .string y.text)) := by
          intro h
          have h0 : L 13 = true := by simpa using h
          obtain ⟨g, p0, p1, p2, h1, h2, h3, h4⟩ := Ff13.out h0
          exact ⟨g, p0, p1, p2, (eval_put_ne (by decide)).trans h1, h2, h3, fun h => h4 (by simpa using h)⟩
        exact ⟨HF.put (by decide) _, HS, fun h => (eval_put_ne (by decide)).trans (Ff0.out (by simpa using h)), fun h => (eval_put_ne (by decide)).trans (Ff1.out (by simpa using h)), fun h => (eval_put_ne (by decide)).trans (Ff2.out (by simpa using h)), fun h => (eval_put_ne (by decide)).trans (Ff3.out (by simpa using h)), fun h => (eval_put_ne (by decide)).trans (Ff4.out (by simpa using h)), fun h => (eval_put_ne (by decide)).trans (Ff5.out (by simpa using h)), fun _ => eval_put_same (by rw [← Ha]; decide), fun h => (eval_put_ne (by decide)).trans (Ff7.out (by simpa using h)), fun h => (eval_put_ne (by decide)).trans (Ff8.out (by simpa using h)), fun h => (eval_put_ne (by decide)).trans (Ff9.out (by simpa using h)), fun h => (eval_put_ne (by decide)).trans (Ff10.out (by simpa using h)), fun h => (eval_put_ne (by decide)).trans (Ff11.out (by simpa using h)), A12, A13, fun h => inv_or (Ff14.out (by simpa using h)), fun h => inv_or (Ff15.out (by simpa using h)), fun h h' => inv_ne (eval_put_ne (by decide)) (eval_put_ne (by decide)) (Fg12_13.out (by simpa using h) (by simpa using h'))⟩
      | 7, ho, hun =>
        obtain rfl := Option.some.inj ho
        have t6 : L 6 = true := hd ⟨6, .data⟩ (by simp) rfl
        clear hd ho
        have e6 := eval_spell (Ff6.out t6)
        obtain ⟨q1, q2⟩ := bcell HS.out
        refine inv_value (v := .slice (some ⟨b, o, none⟩) n c) (w' := w') rfl (by rfl) (by go_simp) ?_
        clear q1 q2
        have A12 : ((L 12 || decide (12 = 7)) = true → ∃ (g : Nat) (p0 p1 p2 : Value), ((a'.put (some 81) (.slice (some ⟨b, o, none⟩) n c)).eval (.tmp 9)) = .pointer (some ⟨g, 0, none⟩) ∧ W.heap.size ≤ g ∧ RowKit.Hid (VarIs w' g #[p0, p1, p2]) ∧ ((L 14 || decide (14 = 7)) = true → p0 = .int .i64 x.kind ∧ p1 = .int .i64 x.int ∧ p2 = .string x.text)) := by
          intro h
          have h0 : L 12 = true := by simpa using h
          obtain ⟨g, p0, p1, p2, h1, h2, h3, h4⟩ := Ff12.out h0
          exact ⟨g, p0, p1, p2, (eval_put_ne (by decide)).trans h1, h2, h3, fun h => h4 (by simpa using h)⟩
        have A13 : ((L 13 || decide (13 = 7)) = true → ∃ (g : Nat) (p0 p1 p2 : Value), ((a'.put (some 81) (.slice (some ⟨b, o, none⟩) n c)).eval (.tmp 10)) = .pointer (some ⟨g, 0, none⟩) ∧ W.heap.size ≤ g ∧ RowKit.Hid (VarIs w' g #[p0, p1, p2]) ∧ ((L 15 || decide (15 = 7)) = true → p0 = .int .i64 y.kind ∧ p1 = .int .i64 y.int ∧ p2 = .string y.text)) := by
          intro h
          have h0 : L 13 = true := by simpa using h
          obtain ⟨g, p0, p1, p2, h1, h2, h3, h4⟩ := Ff13.out h0
          exact ⟨g, p0, p1, p2, (eval_put_ne (by decide)).trans h1, h2, h3, fun h => h4 (by simpa using h)⟩
        exact ⟨HF.put (by decide) _, HS, fun h => (eval_put_ne (by decide)).trans (Ff0.out (by simpa using h)), fun h => (eval_put_ne (by decide)).trans (Ff1.out (by simpa using h)), fun h => (eval_put_ne (by decide)).trans (Ff2.out (by simpa using h)), fun h => (eval_put_ne (by decide)).trans (Ff3.out (by simpa using h)), fun h => (eval_put_ne (by decide)).trans (Ff4.out (by simpa using h)), fun h => (eval_put_ne (by decide)).trans (Ff5.out (by simpa using h)), fun h => (eval_put_ne (by decide)).trans (Ff6.out (by simpa using h)), fun _ => eval_put_same (by rw [← Ha]; decide), fun h => (eval_put_ne (by decide)).trans (Ff8.out (by simpa using h)), fun h => (eval_put_ne (by decide)).trans (Ff9.out (by simpa using h)), fun h => (eval_put_ne (by decide)).trans (Ff10.out (by simpa using h)), fun h => (eval_put_ne (by decide)).trans (Ff11.out (by simpa using h)), A12, A13, fun h => inv_or (Ff14.out (by simpa using h)), fun h => inv_or (Ff15.out (by simpa using h)), fun h h' => inv_ne (eval_put_ne (by decide)) (eval_put_ne (by decide)) (Fg12_13.out (by simpa using h) (by simpa using h'))⟩
      | 8, ho, hun =>
        obtain rfl := Option.some.inj ho
        have t7 : L 7 = true := hd ⟨7, .data⟩ (by simp) rfl
        clear hd ho
        have e7 := eval_spell (Ff7.out t7)
        refine inv_value (v := .pointer (some ⟨b, o + 8, none⟩)) (w' := w') rfl (by rfl) (by go_simp) ?_
        have A12 : ((L 12 || decide (12 = 8)) = true → ∃ (g : Nat) (p0 p1 p2 : Value), ((a'.put (some 82) (.pointer (some ⟨b, o + 8, none⟩))).eval (.tmp 9)) = .pointer (some ⟨g, 0, none⟩) ∧ W.heap.size ≤ g ∧ RowKit.Hid (VarIs w' g #[p0, p1, p2]) ∧ ((L 14 || decide (14 = 8)) = true → p0 = .int .i64 x.kind ∧ p1 = .int .i64 x.int ∧ p2 = .string x.text)) := by
          intro h
          have h0 : L 12 = true := by simpa using h
          obtain ⟨g, p0, p1, p2, h1, h2, h3, h4⟩ := Ff12.out h0
          exact ⟨g, p0, p1, p2, (eval_put_ne (by decide)).trans h1, h2, h3, fun h => h4 (by simpa using h)⟩
        have A13 : ((L 13 || decide (13 = 8)) = true → ∃ (g : Nat) (p0 p1 p2 : Value), ((a'.put (some 82) (.pointer (some ⟨b, o + 8, none⟩))).eval (.tmp 10)) = .pointer (some ⟨g, 0, none⟩) ∧ W.heap.size ≤ g ∧ RowKit.Hid (VarIs w' g #[p0, p1, p2]) ∧ ((L 15 || decide (15 = 8)) = true → p0 = .int .i64 y.kind ∧ p1 = .int .i64 y.int ∧ p2 = .string y.text)) := by
          intro h
          have h0 : L 13 = true := by simpa using h
          obtain ⟨g, p0, p1, p2, h1, h2, h3, h4⟩ := Ff13.out h0
          exact ⟨g, p0, p1, p2, (eval_put_ne (by decide)).trans h1, h2, h3, fun h => h4 (by simpa using h)⟩
        exact ⟨HF.put (by decide) _, HS, fun h => (eval_put_ne (by decide)).trans (Ff0.out (by simpa using h)), fun h => (eval_put_ne (by decide)).trans (Ff1.out (by simpa using h)), fun h => (eval_put_ne (by decide)).trans (Ff2.out (by simpa using h)), fun h => (eval_put_ne (by decide)).trans (Ff3.out (by simpa using h)), fun h => (eval_put_ne (by decide)).trans (Ff4.out (by simpa using h)), fun h => (eval_put_ne (by decide)).trans (Ff5.out (by simpa using h)), fun h => (eval_put_ne (by decide)).trans (Ff6.out (by simpa using h)), fun h => (eval_put_ne (by decide)).trans (Ff7.out (by simpa using h)), fun _ => eval_put_same (by rw [← Ha]; decide), fun h => (eval_put_ne (by decide)).trans (Ff9.out (by simpa using h)), fun h => (eval_put_ne (by decide)).trans (Ff10.out (by simpa using h)), fun h => (eval_put_ne (by decide)).trans (Ff11.out (by simpa using h)), A12, A13, fun h => inv_or (Ff14.out (by simpa using h)), fun h => inv_or (Ff15.out (by simpa using h)), fun h h' => inv_ne (eval_put_ne (by decide)) (eval_put_ne (by decide)) (Fg12_13.out (by simpa using h) (by simpa using h'))⟩
      | 9, ho, hun =>
        obtain rfl := Option.some.inj ho
        have t8 : L 8 = true := hd ⟨8, .data⟩ (by simp) rfl
        clear hd ho
        have e8 := eval_spell (Ff8.out t8)
        obtain ⟨q1, q2⟩ := bcell HS.out
        refine inv_value (v := .agg #[.int .i64 B.op, .string B.table, .string B.name, .int .i64 B.index, .int .i64 B.v.kind, .int .i64 B.v.int, .string B.v.text, .slice a1 n1 e1]) (w' := w') rfl (by rfl) (by go_simp) ?_
        clear q1 q2
        have A12 : ((L 12 || decide (12 = 9)) = true → ∃ (g : Nat) (p0 p1 p2 : Value), ((a'.put (some 83) (.agg #[.int .i64 B.op, .string B.table, .string B.name, .int .i64 B.index, .int .i64 B.v.kind, .int .i64 B.v.int, .string B.v.text, .slice a1 n1 e1])).eval (.tmp 9)) = .pointer (some ⟨g, 0, none⟩) ∧ W.heap.size ≤ g ∧ RowKit.Hid (VarIs w' g #[p0, p1, p2]) ∧ ((L 14 || decide (14 = 9)) = true → p0 = .int .i64 x.kind ∧ p1 = .int .i64 x.int ∧ p2 = .string x.text)) := by
          intro h
          have h0 : L 12 = true := by simpa using h
          obtain ⟨g, p0, p1, p2, h1, h2, h3, h4⟩ := Ff12.out h0
          exact ⟨g, p0, p1, p2, (eval_put_ne (by decide)).trans h1, h2, h3, fun h => h4 (by simpa using h)⟩
        have A13 : ((L 13 || decide (13 = 9)) = true → ∃ (g : Nat) (p0 p1 p2 : Value), ((a'.put (some 83) (.agg #[.int .i64 B.op, .string B.table, .string B.name, .int .i64 B.index, .int .i64 B.v.kind, .int .i64 B.v.int, .string B.v.text, .slice a1 n1 e1])).eval (.tmp 10)) = .pointer (some ⟨g, 0, none⟩) ∧ W.heap.size ≤ g ∧ RowKit.Hid (VarIs w' g #[p0, p1, p2]) ∧ ((L 15 || decide (15 = 9)) = true → p0 = .int .i64 y.kind ∧ p1 = .int .i64 y.int ∧ p2 = .string y.text)) := by
          intro h
          have h0 : L 13 = true := by simpa using h
          obtain ⟨g, p0, p1, p2, h1, h2, h3, h4⟩ := Ff13.out h0
          exact ⟨g, p0, p1, p2, (eval_put_ne (by decide)).trans h1, h2, h3, fun h => h4 (by simpa using h)⟩
        exact ⟨HF.put (by decide) _, HS, fun h => (eval_put_ne (by decide)).trans (Ff0.out (by simpa using h)), fun h => (eval_put_ne (by decide)).trans (Ff1.out (by simpa using h)), fun h => (eval_put_ne (by decide)).trans (Ff2.out (by simpa using h)), fun h => (eval_put_ne (by decide)).trans (Ff3.out (by simpa using h)), fun h => (eval_put_ne (by decide)).trans (Ff4.out (by simpa using h)), fun h => (eval_put_ne (by decide)).trans (Ff5.out (by simpa using h)), fun h => (eval_put_ne (by decide)).trans (Ff6.out (by simpa using h)), fun h => (eval_put_ne (by decide)).trans (Ff7.out (by simpa using h)), fun h => (eval_put_ne (by decide)).trans (Ff8.out (by simpa using h)), fun _ => eval_put_same (by rw [← Ha]; decide), fun h => (eval_put_ne (by decide)).trans (Ff10.out (by simpa using h)), fun h => (eval_put_ne (by decide)).trans (Ff11.out (by simpa using h)), A12, A13, fun h => inv_or (Ff14.out (by simpa using h)), fun h => inv_or (Ff15.out (by simpa using h)), fun h h' => inv_ne (eval_put_ne (by decide)) (eval_put_ne (by decide)) (Fg12_13.out (by simpa using h) (by simpa using h'))⟩
      | 10, ho, hun =>
        obtain rfl := Option.some.inj ho
        clear hd ho
        refine inv_value (v := r) (w' := w') rfl (by rfl) (by go_simp) ?_
        have A12 : ((L 12 || decide (12 = 10)) = true → ∃ (g : Nat) (p0 p1 p2 : Value), ((a'.put (some 84) (r)).eval (.tmp 9)) = .pointer (some ⟨g, 0, none⟩) ∧ W.heap.size ≤ g ∧ RowKit.Hid (VarIs w' g #[p0, p1, p2]) ∧ ((L 14 || decide (14 = 10)) = true → p0 = .int .i64 x.kind ∧ p1 = .int .i64 x.int ∧ p2 = .string x.text)) := by
          intro h
          have h0 : L 12 = true := by simpa using h
          obtain ⟨g, p0, p1, p2, h1, h2, h3, h4⟩ := Ff12.out h0
          exact ⟨g, p0, p1, p2, (eval_put_ne (by decide)).trans h1, h2, h3, fun h => h4 (by simpa using h)⟩
        have A13 : ((L 13 || decide (13 = 10)) = true → ∃ (g : Nat) (p0 p1 p2 : Value), ((a'.put (some 84) (r)).eval (.tmp 10)) = .pointer (some ⟨g, 0, none⟩) ∧ W.heap.size ≤ g ∧ RowKit.Hid (VarIs w' g #[p0, p1, p2]) ∧ ((L 15 || decide (15 = 10)) = true → p0 = .int .i64 y.kind ∧ p1 = .int .i64 y.int ∧ p2 = .string y.text)) := by
          intro h
          have h0 : L 13 = true := by simpa using h
          obtain ⟨g, p0, p1, p2, h1, h2, h3, h4⟩ := Ff13.out h0
          exact ⟨g, p0, p1, p2, (eval_put_ne (by decide)).trans h1, h2, h3, fun h => h4 (by simpa using h)⟩
        exact ⟨HF.put (by decide) _, HS, fun h => (eval_put_ne (by decide)).trans (Ff0.out (by simpa using h)), fun h => (eval_put_ne (by decide)).trans (Ff1.out (by simpa using h)), fun h => (eval_put_ne (by decide)).trans (Ff2.out (by simpa using h)), fun h => (eval_put_ne (by decide)).trans (Ff3.out (by simpa using h)), fun h => (eval_put_ne (by decide)).trans (Ff4.out (by simpa using h)), fun h => (eval_put_ne (by decide)).trans (Ff5.out (by simpa using h)), fun h => (eval_put_ne (by decide)).trans (Ff6.out (by simpa using h)), fun h => (eval_put_ne (by decide)).trans (Ff7.out (by simpa using h)), fun h => (eval_put_ne (by decide)).trans (Ff8.out (by simpa using h)), fun h => (eval_put_ne (by decide)).trans (Ff9.out (by simpa using h)), fun _ => eval_put_same (by rw [← Ha]; decide), fun h => (eval_put_ne (by decide)).trans (Ff11.out (by simpa using h)), A12, A13, fun h => inv_or (Ff14.out (by simpa using h)), fun h => inv_or (Ff15.out (by simpa using h)), fun h h' => inv_ne (eval_put_ne (by decide)) (eval_put_ne (by decide)) (Fg12_13.out (by simpa using h) (by simpa using h'))⟩
      | 11, ho, hun =>
        obtain rfl := Option.some.inj ho
        have t9 : L 9 = true := hd ⟨9, .data⟩ (by simp) rfl
        have t10 : L 10 = true := hd ⟨10, .data⟩ (by simp) rfl
        clear hd ho
        have e9 := eval_spell (Ff9.out t9)
        have e10 := eval_spell (Ff10.out t10)
        refine inv_call rfl (by rfl) (by go_simp) (HB.out _ (hs1.mono HS.out) (HR.out.mono HS.out)) ?_
        rintro e w2 ⟨rfl, hb⟩
        have HS2 := Lib.hid (HS.out.trans (hb.mono HS.out.size))
        have A12 : ((L 12 || decide (12 = 11)) = true → ∃ (g : Nat) (p0 p1 p2 : Value), ((a'.put (some 85) (.agg #[.int .i64 y.kind, .int .i64 y.int, .string y.text])).eval (.tmp 9)) = .pointer (some ⟨g, 0, none⟩) ∧ W.heap.size ≤ g ∧ RowKit.Hid (VarIs w2 g #[p0, p1, p2]) ∧ ((L 14 || decide (14 = 11)) = true → p0 = .int .i64 x.kind ∧ p1 = .int .i64 x.int ∧ p2 = .string x.text)) := by
          intro h
          have h0 : L 12 = true := by simpa using h
          obtain ⟨g, p0, p1, p2, h1, h2, h3, h4⟩ := Ff12.out h0
          exact ⟨g, p0, p1, p2, (eval_put_ne (by decide)).trans h1, h2, Lib.hid (h3.out.below hb h3.out.lt), fun h => h4 (by simpa using h)⟩
        have A13 : ((L 13 || decide (13 = 11)) = true → ∃ (g : Nat) (p0 p1 p2 : Value), ((a'.put (some 85) (.agg #[.int .i64 y.kind, .int .i64 y.int, .string y.text])).eval (.tmp 10)) = .pointer (some ⟨g, 0, none⟩) ∧ W.heap.size ≤ g ∧ RowKit.Hid (VarIs w2 g #[p0, p1, p2]) ∧ ((L 15 || decide (15 = 11)) = true → p0 = .int .i64 y.kind ∧ p1 = .int .i64 y.int ∧ p2 = .string y.text)) := by
          intro h
          have h0 : L 13 = true := by simpa using h
          obtain ⟨g, p0, p1, p2, h1, h2, h3, h4⟩ := Ff13.out h0
          exact ⟨g, p0, p1, p2, (eval_put_ne (by decide)).trans h1, h2, Lib.hid (h3.out.below hb h3.out.lt), fun h => h4 (by simpa using h)⟩
        exact ⟨_, rfl, HF.put (by decide) _, HS2, fun h => (eval_put_ne (by decide)).trans (Ff0.out (by simpa using h)), fun h => (eval_put_ne (by decide)).trans (Ff1.out (by simpa using h)), fun h => (eval_put_ne (by decide)).trans (Ff2.out (by simpa using h)), fun h => (eval_put_ne (by decide)).trans (Ff3.out (by simpa using h)), fun h => (eval_put_ne (by decide)).trans (Ff4.out (by simpa using h)), fun h => (eval_put_ne (by decide)).trans (Ff5.out (by simpa using h)), fun h => (eval_put_ne (by decide)).trans (Ff6.out (by simpa using h)), fun h => (eval_put_ne (by decide)).trans (Ff7.out (by simpa using h)), fun h => (eval_put_ne (by decide)).trans (Ff8.out (by simpa using h)), fun h => (eval_put_ne (by decide)).trans (Ff9.out (by simpa using h)), fun h => (eval_put_ne (by decide)).trans (Ff10.out (by simpa using h)), fun _ => eval_put_same (by rw [← Ha]; decide), A12, A13, fun h => inv_or (Ff14.out (by simpa using h)), fun h => inv_or (Ff15.out (by simpa using h)), fun h h' => inv_ne (eval_put_ne (by decide)) (eval_put_ne (by decide)) (Fg12_13.out (by simpa using h) (by simpa using h'))⟩
      | 12, ho, hun =>
        obtain rfl := Option.some.inj ho
        clear hd ho
        refine inv_value (v := .pointer (some ⟨w'.heap.size, 0, none⟩)) (w' := w'.alloc (.cells #[.int .i64 0, .int .i64 0, .string ⟨#[]⟩] 23)) rfl (by rfl) (by go_simp) ?_
        have A13 : ((L 13 || decide (13 = 12)) = true → ∃ (g : Nat) (p0 p1 p2 : Value), ((a'.put (some 9) (.pointer (some ⟨w'.heap.size, 0, none⟩))).eval (.tmp 10)) = .pointer (some ⟨g, 0, none⟩) ∧ W.heap.size ≤ g ∧ RowKit.Hid (VarIs (w'.alloc (.cells #[.int .i64 0, .int .i64 0, .string ⟨#[]⟩] 23)) g #[p0, p1, p2]) ∧ ((L 15 || decide (15 = 12)) = true → p0 = .int .i64 y.kind ∧ p1 = .int .i64 y.int ∧ p2 = .string y.text)) := by
          intro h
          have h0 : L 13 = true := by simpa using h
          obtain ⟨g, p0, p1, p2, h1, h2, h3, h4⟩ := Ff13.out h0
          exact ⟨g, p0, p1, p2, (eval_put_ne (by decide)).trans h1, h2, Lib.hid (h3.out.alloc _), fun h => h4 (by simpa using h)⟩
        refine ⟨HF.put (by decide) _, Lib.hid (HS.out.alloc HS.out.size _), ?_, ?_, ?_, ?_, ?_, ?_, ?_, ?_, ?_, ?_, ?_, ?_, ?_, ?_, ?_, ?_, ?_⟩
        · exact fun h => (eval_put_ne (by decide)).trans (Ff0.out (by simpa using h))
        · exact fun h => (eval_put_ne (by decide)).trans (Ff1.out (by simpa using h))
        · exact fun h => (eval_put_ne (by decide)).trans (Ff2.out (by simpa using h))
        · exact fun h => (eval_put_ne (by decide)).trans (Ff3.out (by simpa using h))
        · exact fun h => (eval_put_ne (by decide)).trans (Ff4.out (by simpa using h))
        · exact fun h => (eval_put_ne (by decide)).trans (Ff5.out (by simpa using h))
        · exact fun h => (eval_put_ne (by decide)).trans (Ff6.out (by simpa using h))
        · exact fun h => (eval_put_ne (by decide)).trans (Ff7.out (by simpa using h))
        · exact fun h => (eval_put_ne (by decide)).trans (Ff8.out (by simpa using h))
        · exact fun h => (eval_put_ne (by decide)).trans (Ff9.out (by simpa using h))
        · exact fun h => (eval_put_ne (by decide)).trans (Ff10.out (by simpa using h))
        · exact fun h => (eval_put_ne (by decide)).trans (Ff11.out (by simpa using h))
        · exact fun _ => ⟨w'.heap.size, _, _, _, eval_put_same (by rw [← Ha]; decide), HS.out.size, Lib.hid (VarIs.new _ _ _), fun h => absurd (Ff14.out (by simpa using h)) (by rw [hun]; decide)⟩
        · exact A13
        · exact fun h => inv_or (Ff14.out (by simpa using h))
        · exact fun h => inv_or (Ff15.out (by simpa using h))
        · exact fun h h' => by
            have h0 : L 13 = true := by simpa using h'
            obtain ⟨g, _, _, _, h1, _, h3, _⟩ := Ff13.out h0
            refine inv_ne (eval_put_same (by rw [← Ha]; decide)) ((eval_put_ne (by decide)).trans h1) ?_
            have := h3.out.lt
            simp [blkOf]
            all_goals omega
      | 13, ho, hun =>
        obtain rfl := Option.some.inj ho
        clear hd ho
        refine inv_value (v := .pointer (some ⟨w'.heap.size, 0, none⟩)) (w' := w'.alloc (.cells #[.int .i64 0, .int .i64 0, .string ⟨#[]⟩] 23)) rfl (by rfl) (by go_simp) ?_
        have A12 : ((L 12 || decide (12 = 13)) = true → ∃ (g : Nat) (p0 p1 p2 : Value), ((a'.put (some 10) (.pointer (some ⟨w'.heap.size, 0, none⟩))).eval (.tmp 9)) = .pointer (some ⟨g, 0, none⟩) ∧ W.heap.size ≤ g ∧ RowKit.Hid (VarIs (w'.alloc (.cells #[.int .i64 0, .int .i64 0, .string ⟨#[]⟩] 23)) g #[p0, p1, p2]) ∧ ((L 14 || decide (14 = 13)) = true → p0 = .int .i64 x.kind ∧ p1 = .int .i64 x.int ∧ p2 = .string x.text)) := by
          intro h
          have h0 : L 12 = true := by simpa using h
          obtain ⟨g, p0, p1, p2, h1, h2, h3, h4⟩ := Ff12.out h0
          exact ⟨g, p0, p1, p2, (eval_put_ne (by decide)).trans h1, h2, Lib.hid (h3.out.alloc _), fun h => h4 (by simpa using h)⟩
        refine ⟨HF.put (by decide) _, Lib.hid (HS.out.alloc HS.out.size _), ?_, ?_, ?_, ?_, ?_, ?_, ?_, ?_, ?_, ?_, ?_, ?_, ?_, ?_, ?_, ?_, ?_⟩
        · exact fun h => (eval_put_ne (by decide)).trans (Ff0.out (by simpa using h))
        · exact fun h => (eval_put_ne (by decide)).trans (Ff1.out (by simpa using h))
        · exact fun h => (eval_put_ne (by decide)).trans (Ff2.out (by simpa using h))
        · exact fun h => (eval_put_ne (by decide)).trans (Ff3.out (by simpa using h))
        · exact fun h => (eval_put_ne (by decide)).trans (Ff4.out (by simpa using h))
        · exact fun h => (eval_put_ne (by decide)).trans (Ff5.out (by simpa using h))
        · exact fun h => (eval_put_ne (by decide)).trans (Ff6.out (by simpa using h))
        · exact fun h => (eval_put_ne (by decide)).trans (Ff7.out (by simpa using h))
        · exact fun h => (eval_put_ne (by decide)).trans (Ff8.out (by simpa using h))
        · exact fun h => (eval_put_ne (by decide)).trans (Ff9.out (by simpa using h))
        · exact fun h => (eval_put_ne (by decide)).trans (Ff10.out (by simpa using h))
        · exact fun h => (eval_put_ne (by decide)).trans (Ff11.out (by simpa using h))
        · exact A12
        · exact fun _ => ⟨w'.heap.size, _, _, _, eval_put_same (by rw [← Ha]; decide), HS.out.size, Lib.hid (VarIs.new _ _ _), fun h => absurd (Ff15.out (by simpa using h)) (by rw [hun]; decide)⟩
        · exact fun h => inv_or (Ff14.out (by simpa using h))
        · exact fun h => inv_or (Ff15.out (by simpa using h))
        · exact fun h h' => by
            have h0 : L 12 = true := by simpa using h
            obtain ⟨g, _, _, _, h1, _, h3, _⟩ := Ff12.out h0
            refine inv_ne ((eval_put_ne (by decide)).trans h1) (eval_put_same (by rw [← Ha]; decide)) ?_
            have := h3.out.lt
            simp [blkOf]
            all_goals omega
      | 14, ho, hun =>
        obtain rfl := Option.some.inj ho
        have t12 : L 12 = true := hd ⟨12, .data⟩ (by simp) rfl
        have t5 : L 5 = true := hd ⟨5, .data⟩ (by simp) rfl
        clear hd ho
        have e5 := eval_spell (Ff5.out t5)
        obtain ⟨g, p0, p1, p2, e12, hg, HV, -⟩ := Ff12.out t12
        have E12 := Lib.hid e12; replace e12 := eval_spell e12
        obtain ⟨v1, v2, v3⟩ := HV.out
        refine inv_step rfl (by rfl) (fun K hK => ?_)
        go_simp
        refine hK _ _ ?_
        clear hK K v1 v2 v3
        have A13 : ((L 13 || decide (13 = 14)) = true → ∃ (g' : Nat) (p0 p1 p2 : Value), (a'.eval (.tmp 10)) = .pointer (some ⟨g', 0, none⟩) ∧ W.heap.size ≤ g' ∧ RowKit.Hid (VarIs (((w'.setCell ⟨g, 0, none⟩ (.int .i64 x.kind)).setCell ⟨g, 1, none⟩ (.int .i64 x.int)).setCell ⟨g, 2, none⟩ (.string x.text)) g' #[p0, p1, p2]) ∧ ((L 15 || decide (15 = 14)) = true → p0 = .int .i64 y.kind ∧ p1 = .int .i64 y.int ∧ p2 = .string y.text)) := by
          intro h
          have h0 : L 13 = true := by simpa using h
          have hne := Fg12_13.out t12 h0
          obtain ⟨g', p0, p1, p2, h1, h2, h3, h4⟩ := Ff13.out h0
          rw [h1, E12.out] at hne
          have hne' : g ≠ g' := fun e => hne (by subst e; rfl)
          exact ⟨g', p0, p1, p2, h1, h2, Lib.hid (((h3.out.setOther hne' 0 _).setOther hne' 1 _).setOther hne' 2 _), fun h => h4 (by simpa using h)⟩
        exact ⟨HF, Lib.hid (((HS.out.setCell hg _).setCell hg _).setCell hg _), fun h => Ff0.out (by simpa using h), fun h => Ff1.out (by simpa using h), fun h => Ff2.out (by simpa using h), fun h => Ff3.out (by simpa using h), fun h => Ff4.out (by simpa using h), fun h => Ff5.out (by simpa using h), fun h => Ff6.out (by simpa using h), fun h => Ff7.out (by simpa using h), fun h => Ff8.out (by simpa using h), fun h => Ff9.out (by simpa using h), fun h => Ff10.out (by simpa using h), fun h => Ff11.out (by simpa using h), fun _ => ⟨g, _, _, _, E12.out, hg, Lib.hid (VarIs.store3 HV.out), fun _ => ⟨rfl, rfl, rfl⟩⟩, A13, fun _ => inv_or t12, fun h => inv_or (Ff15.out (by simpa using h)), fun h h' => Fg12_13.out (by simpa using h) (by simpa using h')⟩
      | 15, ho, hun =>
        obtain rfl := Option.some.inj ho
        have t13 : L 13 = true := hd ⟨13, .data⟩ (by simp) rfl
        have t11 : L 11 = true := hd ⟨11, .data⟩ (by simp) rfl
        clear hd ho
        have e11 := eval_spell (Ff11.out t11)
        obtain ⟨g, p0, p1, p2, e13, hg, HV, -⟩ := Ff13.out t13
        have E13 := Lib.hid e13; replace e13 := eval_spell e13
        obtain ⟨v1, v2, v3⟩ := HV.out
        refine inv_step rfl (by rfl) (fun K hK => ?_)
        go_simp
        refine hK _ _ ?_
        clear hK K v1 v2 v3
        have A12 : ((L 12 || decide (12 = 15)) = true → ∃ (g' : Nat) (p0 p1 p2 : Value), (a'.eval (.tmp 9)) = .pointer (some ⟨g', 0, none⟩) ∧ W.heap.size ≤ g' ∧ RowKit.Hid (VarIs (((w'.setCell ⟨g, 0, none⟩ (.int .i64 y.kind)).setCell ⟨g, 1, none⟩ (.int .i64 y.int)).setCell ⟨g, 2, none⟩ (.string y.text)) g' #[p0, p1, p2]) ∧ ((L 14 || decide (14 = 15)) = true → p0 = .int .i64 x.kind ∧ p1 = .int .i64 x.int ∧ p2 = .string x.text)) := by
          intro h
          have h0 : L 12 = true := by simpa using h
          have hne := (Fg12_13.out h0 t13).symm
          obtain ⟨g', p0, p1, p2, h1, h2, h3, h4⟩ := Ff12.out h0
          rw [h1, E13.out] at hne
          have hne' : g ≠ g' := fun e => hne (by subst e; rfl)
          exact ⟨g', p0, p1, p2, h1, h2, Lib.hid (((h3.out.setOther hne' 0 _).setOther hne' 1 _).setOther hne' 2 _), fun h => h4 (by simpa using h)⟩
        exact ⟨HF, Lib.hid (((HS.out.setCell hg _).setCell hg _).setCell hg _), fun h => Ff0.out (by simpa using h), fun h => Ff1.out (by simpa using h), fun h => Ff2.out (by simpa using h), fun h => Ff3.out (by simpa using h), fun h => Ff4.out (by simpa using h), fun h => Ff5.out (by simpa using h), fun h => Ff6.out (by simpa using h), fun h => Ff7.out (by simpa using h), fun h => Ff8.out (by simpa using h), fun h => Ff9.out (by simpa using h), fun h => Ff10.out (by simpa using h), fun h => Ff11.out (by simpa using h), A12, fun _ => ⟨g, _, _, _, E13.out, hg, Lib.hid (VarIs.store3 HV.out), fun _ => ⟨rfl, rfl, rfl⟩⟩, fun h => inv_or (Ff14.out (by simpa using h)), fun _ => inv_or t13, fun h h' => Fg12_13.out (by simpa using h) (by simpa using h')⟩
      | x + 16, ho, hun => simp at ho
    · intro L a' w' hall hI
      obtain ⟨HF, HS, f0, f1, f2, f3, f4, f5, f6, f7, f8, f9, f10, f11, f12, f13, f14, f15, g12_13⟩ := hI
      have hall : ∀ i, i < 16 → L i = true := hall
      have E0 := f0 (hall 0 (by omega))
      have E1 := f1 (hall 1 (by omega))
      have E2 := f2 (hall 2 (by omega))
      have E3 := f3 (hall 3 (by omega))
      have E4 := f4 (hall 4 (by omega))
      have E5 := f5 (hall 5 (by omega))
      have E6 := f6 (hall 6 (by omega))
      have E7 := f7 (hall 7 (by omega))
      have E8 := f8 (hall 8 (by omega))
      have E9 := f9 (hall 9 (by omega))
      have E10 := f10 (hall 10 (by omega))
      have E11 := f11 (hall 11 (by omega))
      obtain ⟨b12, x12_0, x12_1, x12_2, E12, hg12, HV12, he12⟩ := f12 (hall 12 (by omega))
      obtain ⟨rfl, rfl, rfl⟩ := he12 (hall 14 (by omega))
      obtain ⟨b13, x13_0, x13_1, x13_2, E13, hg13, HV13, he13⟩ := f13 (hall 13 (by omega))
      obtain ⟨rfl, rfl, rfl⟩ := he13 (hall 15 (by omega))
      have HA := HF.eq
      simp only [List.map_cons, List.map_nil, E0, E1, E2, E3, E4, E5, E6, E7, E8, E9, E10, E11, E12, E13] at HA
      have HH := Lib.hid HA
      have N12_13 := Lib.hid (inv_ne E12.symm E13.symm (g12_13 (hall 12 (by omega)) (hall 13 (by omega))))
      clear HA HF f0 f1 f2 f3 f4 f5 f6 f7 f8 f9 f10 f11 f12 f13 f14 f15 g12_13 E0 E1 E2 E3 E4 E5 E6 E7 E8 E9 E10 E11 E12 E13 he12 he13 hall
      obtain rfl := HH.out
      clear HH
      rw [Hact.out]
      simp only [putL, List.foldl_cons, List.foldl_nil, Act.put, List.setIfInBounds_toArray, List.set_cons_zero, List.set_cons_succ]
      clear Hact r2 r1 Hsz act0
      refine NoPanic.normal ?_
      go_wp2
      go_meet
      exact ⟨b12, b13, rfl, rfl, hg12, hg13, HV12, HV13, HS⟩
  case rest =>
    obtain ⟨g, h, rfl, rfl, hg, hh, VX, VY, HB⟩ := hcut
    have VE := Lib.hid (Hv.out.below HB.out Hv.out.lt)
    have Hbw := Lib.hid (Hb0.out.trans (HB.out.mono Hb0.out.size))
    clear HB Hv c0 c1 c2 c3 c4 c5 c6 c7 d0 d1 d2 d3 d4 d5 d6 d7 v1 v2 HA hs0 hs1 HR Hb0
    obtain ⟨p1, p2, -⟩ := VE.out
    obtain ⟨q1, q2, -⟩ := VX.out
    obtain ⟨u1, u2, -⟩ := VY.out
    by_cases h0 : x.kind = 0
    · have h0' : (x.kind == 0) = true := by simp [h0]
      have Hres : RowKit.Hid (compN op x y = .u) := by show _ = _; rw [compN, if_pos (.inl h0)]
      clear h0
      go_wp2
      go_ret
      exact ⟨by rw [Hres.out]; rfl, Hbw.out⟩
    · have h0' : (x.kind == 0) = false := by simp [h0]
      by_cases h1 : y.kind = 0
      · have h1' : (y.kind == 0) = true := by simp [h1]
        have Hres : RowKit.Hid (compN op x y = .u) := by show _ = _; rw [compN, if_pos (.inr h1)]
        clear h0 h1
        go_wp2
        go_ret
        exact ⟨by rw [Hres.out]; rfl, Hbw.out⟩
      · have h1' : (y.kind == 0) = false := by simp [h1]
        have Hres : RowKit.Hid (compN op x y = if op = 16 then T3.of (likeS x.text.data.toList y.text.data.toList) else T3.of (holdsS op (orderN x y))) := by show _ = _; rw [compN, if_neg (by simp [h0, h1])]
        clear h0 h1
        go_wp2_with fail
        refine (rorder_calls x y _).mono ?_
        rintro e w1 ⟨rfl, hb1⟩
        have VE1 := Lib.hid (VE.out.below hb1 VE.out.lt)
        have VX1 := Lib.hid (VX.out.below hb1 VX.out.lt)
        have VY1 := Lib.hid (VY.out.below hb1 VY.out.lt)
        have Hbw1 := Lib.hid (Hbw.out.trans (hb1.mono Hbw.out.size))
        clear hb1 p1 p2 q1 q2 u1 u2 VE VX VY
        obtain ⟨p1, p2, -⟩ := VE1.out
        obtain ⟨q1, q2, -⟩ := VX1.out
        obtain ⟨u1, u2, -⟩ := VY1.out
        have h7 : op = 10 ∨ op = 11 ∨ op = 12 ∨ op = 13 ∨ op = 14 ∨ op = 15 ∨ op = 16 := by have := Hop.out; omega
        have H7 := Lib.hid h7
        clear h7
        by_cases h16 : op = 16
        · have HR16 : RowKit.Hid (compN op x y = T3.of (likeS x.text.data.toList y.text.data.toList)) := by show _ = _; rw [Hres.out, if_pos h16]
          have o10 : (op == 10) = false := by simp [h16]
          have o11 : (op == 11) = false := by simp [h16]
          have o12 : (op == 12) = false := by simp [h16]
          have o13 : (op == 13) = false := by simp [h16]
          have o14 : (op == 14) = false := by simp [h16]
          have o15 : (op == 15) = false := by simp [h16]
          clear h16 Hres
          go_wp2_with fail
          refine (rlike_calls _ _ _ hx hy).mono ?_
          rintro e w2 ⟨rfl, hb2⟩
          have Hbw2 := Lib.hid (Hbw1.out.trans (hb2.mono Hbw1.out.size))
          clear hb2 p1 p2 q1 q2 u1 u2
          go_wp2_with fail
          refine (rof_calls _ _).mono ?_
          rintro e w3 ⟨rfl, rfl⟩
          go_wp2
          go_ret
          exact ⟨by rw [HR16.out]; rfl, Hbw2.out⟩
        · have HR7 : RowKit.Hid (compN op x y = T3.of (holdsS op (orderN x y))) := by show _ = _; rw [Hres.out, if_neg h16]
          have Hlast := Lib.hid (show op = 10 ∨ op = 11 ∨ op = 12 ∨ op = 13 ∨ op = 14 ∨ op = 15 from by have := H7.out; omega)
          clear H7 h16 Hres
          generalize orderN x y = n at *
          by_cases c10 : op = 10
          · have o10 : (op == 10) = true := by simp [c10]
            have HRk : RowKit.Hid (compN op x y = T3.of ((n == 0))) := by show _ = _; rw [HR7.out, c10]; simp [holdsS]
            clear HR7 c10
            go_wp2_with fail
            refine (rof_calls _ _).mono ?_
            rintro e w3 ⟨rfl, rfl⟩
            go_wp2
            go_ret
            exact ⟨by rw [HRk.out]; rfl, Hbw1.out⟩
          by_cases c11 : op = 11
          · have o11 : (op == 11) = true := by simp [c11]
            have o10 : (op == 10) = false := by simp [c11]
            have HRk : RowKit.Hid (compN op x y = T3.of ((n != 0))) := by show _ = _; rw [HR7.out, c11]; simp [holdsS]
            clear HR7 c11
            clear c10
            go_wp2_with fail
            refine (rof_calls _ _).mono ?_
            rintro e w3 ⟨rfl, rfl⟩
            go_wp2
            go_ret
            exact ⟨by rw [HRk.out]; rfl, Hbw1.out⟩
          by_cases c12 : op = 12
          · have o12 : (op == 12) = true := by simp [c12]
            have o10 : (op == 10) = false := by simp [c12]
            have o11 : (op == 11) = false := by simp [c12]
            have HRk : RowKit.Hid (compN op x y = T3.of (decide (n < 0))) := by show _ = _; rw [HR7.out, c12]; simp [holdsS]
            clear HR7 c12
            clear c10
            clear c11
            go_wp2_with fail
            refine (rof_calls _ _).mono ?_
            rintro e w3 ⟨rfl, rfl⟩
            go_wp2
            go_ret
            exact ⟨by rw [HRk.out]; rfl, Hbw1.out⟩
          by_cases c13 : op = 13
          · have o13 : (op == 13) = true := by simp [c13]
            have o10 : (op == 10) = false := by simp [c13]
            have o11 : (op == 11) = false := by simp [c13]
            have o12 : (op == 12) = false := by simp [c13]
            have HRk : RowKit.Hid (compN op x y = T3.of (decide (n ≤ 0))) := by show _ = _; rw [HR7.out, c13]; simp [holdsS]
            clear HR7 c13
            clear c10
            clear c11
            clear c12
            go_wp2_with fail
            refine (rof_calls _ _).mono ?_
            rintro e w3 ⟨rfl, rfl⟩
            go_wp2
            go_ret
            exact ⟨by rw [HRk.out]; rfl, Hbw1.out⟩
          by_cases c14 : op = 14
          · have o14 : (op == 14) = true := by simp [c14]
            have o10 : (op == 10) = false := by simp [c14]
            have o11 : (op == 11) = false := by simp [c14]
            have o12 : (op == 12) = false := by simp [c14]
            have o13 : (op == 13) = false := by simp [c14]
            have HRk : RowKit.Hid (compN op x y = T3.of (decide (0 < n))) := by show _ = _; rw [HR7.out, c14]; simp [holdsS]
            clear HR7 c14
            clear c10
            clear c11
            clear c12
            clear c13
            go_wp2_with fail
            refine (rof_calls _ _).mono ?_
            rintro e w3 ⟨rfl, rfl⟩
            go_wp2
            go_ret
            exact ⟨by rw [HRk.out]; rfl, Hbw1.out⟩
          by_cases c15 : op = 15
          · have o15 : (op == 15) = true := by simp [c15]
            have o10 : (op == 10) = false := by simp [c15]
            have o11 : (op == 11) = false := by simp [c15]
            have o12 : (op == 12) = false := by simp [c15]
            have o13 : (op == 13) = false := by simp [c15]
            have o14 : (op == 14) = false := by simp [c15]
            have HRk : RowKit.Hid (compN op x y = T3.of (decide (0 ≤ n))) := by show _ = _; rw [HR7.out, c15]; simp [holdsS]
            clear HR7 c15
            clear c10
            clear c11
            clear c12
            clear c13
            clear c14
            go_wp2_with fail
            refine (rof_calls _ _).mono ?_
            rintro e w3 ⟨rfl, rfl⟩
            go_wp2
            go_ret
            exact ⟨by rw [HRk.out]; rfl, Hbw1.out⟩
          exfalso
          exact absurd Hlast.out (by omega)
end Go.Proofs.YtgaeabodofabmaaDoor
