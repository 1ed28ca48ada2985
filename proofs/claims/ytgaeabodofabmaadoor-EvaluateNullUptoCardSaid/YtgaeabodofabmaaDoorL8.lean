/- EvaluateNull returns true at every case whose expression has at most 1000000000 columns. -/
import Derived.Test.YtgaeabodofabmaaDoorL8a
import Derived.Test.YtgaeabodofabmaaDoorInv
namespace Go.Proofs.YtgaeabodofabmaaDoor
open Go.RowKit

theorem inv_tok {x x' y y' : Value} {F : Value → Value} (h1 : x' = x) (h2 : y' = y) (h : x = F y) : x' = F y' := by rw [h1, h2]; exact h
theorem nullIn_step {R : List Vl} {l : List Ex} {k i : Nat} (hk : k < l.length) (hi : l[k].index = i) (hir : i < R.length) : nullIn R (l.take (k + 1)) = (nullIn R (l.take k) || (R[i].kind == 0)) := by
  rw [List.take_succ_eq_append_getElem hk, nullIn_append]
  congr 1
  simp [nullIn, hi, hir]
/-- Two operands out of the cells of a block. -/
theorem args_of_var {w : World} {g : Nat} {E B : Ex} {s t : Value} {c : Array Value} (h : VarIs w g c) (hc : c = (E.cells s ++ B.cells t).toArray) (hs : ArgsAt w E.args s) (ht : ArgsAt w B.args t) : ArgsAt w [E, B] (.slice (some ⟨g, 0, none⟩) 2 2) := by
  subst hc
  refine .lie [E, B] g 0 2 2 (fun i => if i = 0 then s else t) rfl h.lt (by omega) ?_ ?_
  · intro i hi j hj
    rw [h.cell]
    match i, hi with
    | 0, _ => match j, hj with
      | 0, _ | 1, _ | 2, _ | 3, _ | 4, _ | 5, _ | 6, _ | 7, _ => rfl
    | 1, _ => match j, hj with
      | 0, _ | 1, _ | 2, _ | 3, _ | 4, _ | 5, _ | 6, _ | 7, _ => rfl
  · intro i hi
    match i, hi with
    | 0, _ => exact hs
    | 1, _ => exact ht
theorem cond_null_u {R : List Vl} {E : Ex} (q : Int) (h : Ex.value R E = some Vl.null) : Ex.cond R (.mk (10 + q % 6) ⟨#[]⟩ ⟨#[]⟩ 0 ⟨0, 0, ⟨#[]⟩⟩ [E, numE 3]) = some .u := by
  have hm := Int.emod_nonneg q (show (6 : Int) ≠ 0 by omega)
  have hm2 := Int.emod_lt_of_pos q (show (0 : Int) < 6 by omega)
  have hn : Ex.value R (numE 3) = some ⟨1, 3, ⟨#[]⟩⟩ := rfl
  rw [Ex.cond.eq_def]
  simp only
  rw [if_neg (by omega), if_neg (by omega), if_neg (by omega), if_neg (by omega), if_neg (by omega), h, hn]
  simp [compS, Vl.null]

set_option maxHeartbeats 8000000 in
set_option maxRecDepth 20000 in
theorem enull_calls {L : List Int} {R : List Vl} (E : Ex) (a : Option Addr) (n c : Nat) (s r : Value) (q : Int) (w : World) (hq0 : 0 ≤ q) (hq1 : q ≤ 255) (hs : ArgsAt w E.args (.slice a n c)) (hl : VarsAt w L s) (hr : ValsAt w R r) (ht : Tab w) (hcl : E.colList.length ≤ 1000000000) :
    Calls Tryd.prog 8 #[.agg #[.int .i64 E.op, .string E.table, .string E.name, .int .i64 E.index, .int .i64 E.v.kind, .int .i64 E.v.int, .string E.v.text, .slice a n c, s, r], .int .u8 q] w (LawPost w) := by
  have Hs := Lib.hid hs
  have Hl := Lib.hid hl
  have Hr := Lib.hid hr
  have Ht := Lib.hid ht
  have Hcl := Lib.hid hcl
  have Hv := Lib.hid (VarIs.new w #[.int .i64 E.op, .string E.table, .string E.name, .int .i64 E.index, .int .i64 E.v.kind, .int .i64 E.v.int, .string E.v.text, .slice a n c, s, r] 31)
  have Hb0 : RowKit.Hid (∀ o, Below w.heap.size w (w.alloc o)) := fun o => (Below.refl _ _).alloc (Nat.le_refl _) o
  clear hs hl hr ht hcl
  go_enter Tryd.func8, Tryd.ntmps8
  go_upto_region 1 with (fail)
  go_cut [15] (fun x wx => ∃ b : Bool, x = .bool b ∧ RowKit.Hid (b = false → VT L 1 E ∧ RowOf L R) ∧ RowKit.Hid (Below (w.heap.size + 1) (w.alloc (.cells #[.int .i64 E.op, .string E.table, .string E.name, .int .i64 E.index, .int .i64 E.v.kind, .int .i64 E.v.int, .string E.v.text, .slice a n c, s, r] 31)) wx))
  case first =>
    go_wp2_with fail
    refine (awake_calls _ (Ht.out.mono (Hb0.out _))).mono ?_
    rintro e w1 ⟨rfl, hb1⟩
    have Hb1 := Lib.hid hb1
    simp only [World.size_alloc] at Hb1
    have Hbw := Lib.hid ((Hb0.out _).trans (Hb1.out.mono (Nat.le_succ _)))
    clear hb1
    obtain ⟨v1, v2, -⟩ := Hv.out.below Hb1.out (Nat.lt_succ_self _)
    go_wp2_with fail
    refine (case_calls 1 E _ _ _ _ _ _ (Hs.out.mono Hbw.out) (Hl.out.mono Hbw.out) (Hr.out.mono Hbw.out)).mono ?_
    rintro e w2 ⟨b, rfl, hb, hb2⟩
    have HB := Lib.hid hb
    have Hb2 := Lib.hid (Hb1.out.trans (hb2.mono (by have := Hb1.out.size; simp at this; omega)))
    clear hb2 hb v1 v2
    cases b
    · go_wp2
      go_meet
      exact ⟨true, rfl, (fun h => nomatch h), Hb2⟩
    · go_wp2
      go_meet
      exact ⟨false, rfl, fun _ => ⟨(HB.out (by simp)).1.1 rfl, (HB.out (by simp)).2.2⟩, Hb2⟩
  case rest =>
    obtain ⟨b, rfl, HB, Hb⟩ := hcut
    have Hbw := Lib.hid ((Hb0.out _).trans (Hb.out.mono (Nat.le_succ _)))
    cases b
    · obtain ⟨hE, hR⟩ := HB.out rfl
      have HE := Lib.hid hE
      have HR := Lib.hid hR
      have Hv1 := Lib.hid (Hv.out.below Hb.out (Nat.lt_succ_self _))
      obtain ⟨v1, v2, -⟩ := Hv1.out
      obtain ⟨ar, nr, cr, rfl, hnr, -⟩ := Hr.out.shape
      have HNR := Lib.hid hnr
      clear hE hR HB hnr
      go_wp2_with fail
      refine (columnsL_calls _ E (Nat.le_refl _) _ _ _ _ (Hs.out.mono Hbw.out) Hcl.out).mono ?_
      rintro e w1 ⟨v, l, rfl, hl, h1, ho, hb1⟩
      have Hb1 := Lib.hid (Hbw.out.trans (hb1.mono Hbw.out.size))
      have Hv2 := Lib.hid (Hv1.out.below hb1 Hv1.out.lt)
      have HLL := Lib.hid hl
      have HLN : RowKit.Hid (l.length = E.colList.length ∧ E.colList.length ≤ 1000000000) := by
        refine ⟨?_, Hcl.out⟩
        rw [← HLL.out]
        simp
      obtain ⟨av, cv, rfl, hcell⟩ : ∃ (av : Option Addr) (cv : Nat), v = .slice av l.length cv ∧ ∀ k (h : k < l.length), ∃ g, av = some ⟨g, 0, none⟩ ∧ ∀ j, j < 8 → w1.cell? ⟨g, k * 8 + j, none⟩ = (l[k].1.cells l[k].2)[j]? := by
        rcases ho.2 with ⟨h2, h3⟩ | ⟨g, cap, cur, h2, _⟩
        · exact ⟨none, 0, by rw [h2, h3], fun k h => by omega⟩
        · refine ⟨some ⟨g, 0, none⟩, cap, h2, fun k h => ⟨g, rfl, fun j hj => ?_⟩⟩
          rw [h2] at ho
          rw [ho.cellAt (k * 8 + j) (by omega), flatE_get l k h j hj]
      have HC := Lib.hid hcell
      have HSV := Lib.hid h1
      have hln : l.length ≤ 1000000000 := by have := HLN.out; omega
      clear hl h1 ho hb1 hcell v1 v2
      go_wp2_with fail
      go_loopw [5, 21] (fun u i wr => ∃ k : Nat, k ≤ l.length ∧ i = .int .i64 k ∧ u = .bool (nullIn R (E.colList.take k)) ∧ RowKit.Hid (Below w1.heap.size w1 wr)) (fun _ i _ => l.length - (intOf i).toNat)
      case atStart => exact ⟨0, Nat.zero_le _, rfl, by simp [nullIn], Lib.hid (Below.refl _ _)⟩
      case round =>
        obtain ⟨k, hk, rfl, rfl, Hbr⟩ := hrel
        have Hbw2 := Lib.hid (Hb1.out.trans (Hbr.out.mono Hb1.out.size))
        have Hv3 := Lib.hid (Hv2.out.below Hbr.out Hv2.out.lt)
        by_cases hlt : k < l.length
        · obtain ⟨g, rfl, hc⟩ := HC.out k hlt
          have hck : E.colList[k]'(by have := HLN.out; omega) = l[k].1 := by
            have h2 := HLL.out
            have h3 : (l.map (·.1))[k]'(by simpa using hlt) = l[k].1 := by simp
            rw [← h3]
            congr 1
            exact h2.symm
          obtain ⟨i, hi, hiL⟩ := vt_cols HE.out _ (List.getElem_mem (show k < E.colList.length by have := HLN.out; omega))
          have hir : i < R.length := by rw [HR.out.1]; exact hiL
          have Hstep := Lib.hid (nullIn_step (R := R) (show k < E.colList.length by have := HLN.out; omega) hi hir)
          rw [hck] at hi
          have hcw : ∀ j, j < 8 → wr.cell? ⟨g, k * 8 + j, none⟩ = (l[k].1.cells l[k].2)[j]? := by
            intro j hj
            have h4 := hc j hj
            have h5 : g < w1.heap.size := by
              have : j < (l[k].1.cells l[k].2).length := hj
              rw [List.getElem?_eq_getElem this] at h4
              exact World.block_lt_of_cell? w1 ⟨g, k * 8 + j, none⟩ h4
            exact (Hbr.out.cell (p := ⟨g, k * 8 + j, none⟩) h5).trans h4
          have e0 : wr.cell? ⟨g, k * 8, none⟩ = some (.int .i64 l[k].1.op) := hcw 0 (by omega)
          have e1 : wr.cell? ⟨g, k * 8 + 1, none⟩ = some (.string l[k].1.table) := hcw 1 (by omega)
          have e2 : wr.cell? ⟨g, k * 8 + 2, none⟩ = some (.string l[k].1.name) := hcw 2 (by omega)
          have e3 : wr.cell? ⟨g, k * 8 + 3, none⟩ = some (.int .i64 (i : Int)) := by rw [← hi]; exact hcw 3 (by omega)
          have e4 : wr.cell? ⟨g, k * 8 + 4, none⟩ = some (.int .i64 l[k].1.v.kind) := hcw 4 (by omega)
          have e5 : wr.cell? ⟨g, k * 8 + 5, none⟩ = some (.int .i64 l[k].1.v.int) := hcw 5 (by omega)
          have e6 : wr.cell? ⟨g, k * 8 + 6, none⟩ = some (.string l[k].1.v.text) := hcw 6 (by omega)
          have e7 : wr.cell? ⟨g, k * 8 + 7, none⟩ = some l[k].2 := hcw 7 (by omega)
          obtain ⟨sa, sn, sc, hsv⟩ := HSV.out _ (List.getElem_mem hlt)
          rw [hsv] at e7
          have Hrw := Lib.hid (Hr.out.mono Hbw2.out)
          obtain ⟨br, or, rfl⟩ := Hrw.out.has i (by have := HNR.out; omega)
          obtain ⟨d0, -, -⟩ := Hrw.out.cell i hir
          have hbr : br < wr.heap.size := World.block_lt_of_cell? wr _ d0
          have hin : i < nr := by have := HNR.out; omega
          have hnm : nr ≤ maxLen := by obtain ⟨_, _, _, h5, _, h6⟩ := Hr.out.shape; cases h5; exact h6
          unfold maxLen at hnm
          have Hbr2 : RowKit.Hid (∀ o, Below w1.heap.size w1 (wr.alloc o)) := fun o => Hbr.out.alloc Hbr.out.size o
          clear hc hcw hck hi hsv
          generalize l[k].1 = E' at *
          generalize R[i] = u at *
          generalize nullIn R (E.colList.take k) = pk at *
          clear hiL hir
          obtain ⟨v1, v2, -⟩ := Hv3.out
          cases pk
          · go_wp2
            go_roundw
            case rel => exact ⟨k + 1, by omega, by go_num, by rw [Hstep.out]; rfl, Hbr2.out _⟩
            case measure => simp [intOf]; omega
          · go_wp2
            go_roundw
            case rel => exact ⟨k + 1, by omega, by go_num, by rw [Hstep.out]; rfl, Hbr2.out _⟩
            case measure => simp [intOf]; omega
        · obtain rfl : k = l.length := by omega
          have hall : E.colList.take l.length = E.colList := List.take_of_length_le (by have := HLN.out; omega)
          rw [hall]
          cases hnu : nullIn R E.colList
          · go_wp2
            go_ret
            exact ⟨rfl, Hbw2.out⟩
          · have Hval := Lib.hid (value_null HR.out HE.out hnu)
            have Hs2 := Lib.hid (Hs.out.mono Hbw2.out)
            have Hr2 := Lib.hid (Hr.out.mono Hbw2.out)
            have Ht2 := Lib.hid (Ht.out.mono Hbw2.out)
            clear hnu hall
            obtain ⟨v1, v2, -⟩ := Hv3.out
            obtain ⟨W, rfl⟩ : ∃ W : World, W = wr := ⟨_, rfl⟩
            have m1 : Int.tmod q 6 = q % 6 := by rw [Int.tmod_eq_emod_of_nonneg hq0]
            have m2 : 0 ≤ q % 6 := Int.emod_nonneg _ (by omega)
            have m3 : q % 6 < 6 := Int.emod_lt_of_pos _ (by omega)
            have m4 : IntKind.i64.wrap q = q := IntWalk.i64_in _ (by omega)
            have m5 : IntKind.i64.wrap (10 + q % 6) = 10 + q % 6 := IntWalk.i64_in _ (by omega)
            have m6 : IntKind.i64.wrap (q % 6) = q % 6 := IntWalk.i64_in _ (by omega)
            go_upto_region 11 with (fail)
            go_cut [8] (fun x wx => ∃ g g2 : Nat, x = .pointer (some ⟨g, 0, none⟩) ∧ RowKit.Hid (VarIs wx g #[.int .i64 (10 + q % 6), .string ⟨#[]⟩, .string ⟨#[]⟩, .int .i64 0, .int .i64 0, .int .i64 0, .string ⟨#[]⟩, .slice (some ⟨g2, 0, none⟩) 2 2]) ∧ RowKit.Hid (ArgsAt wx [E, numE 3] (.slice (some ⟨g2, 0, none⟩) 2 2)) ∧ RowKit.Hid (Below W.heap.size W wx))
            case first =>
              refine region_gen (fun act0 Hact => ?_)
              have Hsz : act0.tmps.size = 62 := by rw [Hact.out]; rfl
              have r2 : act0.eval (.tmp 2) = .pointer (some ⟨w.heap.size, 0, none⟩) := by rw [Hact.out]; rfl
              have r1 : act0.eval (.tmp 1) = .int .u8 q := by rw [Hact.out]; rfl
              refine wp_region_inv0 (fun L a' w' => FrameLike act0 a' [39, 40, 41, 42, 43, 44, 45, 46, 47, 8] ∧ RowKit.Hid (Below W.heap.size W w') ∧
                (L 0 = true → (a'.eval (.tmp 39)) = .int .u8 q) ∧
                (L 1 = true → (a'.eval (.tmp 40)) = .int .i64 q) ∧
                (L 2 = true → (a'.eval (.tmp 41)) = .int .i64 (q % 6)) ∧
                (L 3 = true → (a'.eval (.tmp 42)) = .int .i64 (10 + q % 6)) ∧
                (L 4 = true → (a'.eval (.tmp 43)) = .pointer (some ⟨w.heap.size, 0, none⟩)) ∧
                (L 5 = true → (a'.eval (.tmp 44)) = .agg #[.int .i64 E.op, .string E.table, .string E.name, .int .i64 E.index, .int .i64 E.v.kind, .int .i64 E.v.int, .string E.v.text, .slice a n c]) ∧
                (L 6 = true → (a'.eval (.tmp 45)) = .agg #[.int .i64 1, .string ⟨#[]⟩, .string ⟨#[]⟩, .int .i64 0, .int .i64 1, .int .i64 3, .string ⟨#[]⟩, .slice none 0 0]) ∧
                (L 7 = true → ∃ (g : Nat), (a'.eval (.tmp 46)) = .slice (some ⟨g, 0, none⟩) 2 2 ∧ W.heap.size ≤ g ∧ RowKit.Hid (VarIs w' g #[.int .i64 E.op, .string E.table, .string E.name, .int .i64 E.index, .int .i64 E.v.kind, .int .i64 E.v.int, .string E.v.text, .slice a n c, .int .i64 1, .string ⟨#[]⟩, .string ⟨#[]⟩, .int .i64 0, .int .i64 1, .int .i64 3, .string ⟨#[]⟩, .slice none 0 0])) ∧
                (L 8 = true → (a'.eval (.tmp 47)) = .agg #[.int .i64 (10 + q % 6), .string ⟨#[]⟩, .string ⟨#[]⟩, .int .i64 0, .int .i64 0, .int .i64 0, .string ⟨#[]⟩, (a'.eval (.tmp 46))]) ∧
                (L 9 = true → ∃ (g : Nat) (p0 p1 p2 p3 p4 p5 p6 p7 : Value), (a'.eval (.tmp 8)) = .pointer (some ⟨g, 0, none⟩) ∧ W.heap.size ≤ g ∧ RowKit.Hid (VarIs w' g #[p0, p1, p2, p3, p4, p5, p6, p7]) ∧ (L 10 = true → p0 = .int .i64 (10 + q % 6) ∧ p1 = .string ⟨#[]⟩ ∧ p2 = .string ⟨#[]⟩ ∧ p3 = .int .i64 0 ∧ p4 = .int .i64 0 ∧ p5 = .int .i64 0 ∧ p6 = .string ⟨#[]⟩ ∧ p7 = (a'.eval (.tmp 46)))) ∧
                (L 10 = true → L 9 = true) ∧
                (L 7 = true → L 9 = true → blkOf (a'.eval (.tmp 46)) ≠ blkOf (a'.eval (.tmp 8))) ∧
                (L 8 = true → L 7 = true) ∧
                (L 10 = true → L 7 = true)) rfl (by kernel_rfl) (by kernel_rfl) ?_ ?_ ?_
              · exact ⟨FrameLike.refl _ _, Lib.hid (Below.drew (Below.refl _ _)), (fun h => nomatch h), (fun h => nomatch h), (fun h => nomatch h), (fun h => nomatch h), (fun h => nomatch h), (fun h => nomatch h), (fun h => nomatch h), (fun h => nomatch h), (fun h => nomatch h), (fun h => nomatch h), (fun h => nomatch h), (fun h => nomatch h), (fun h => nomatch h), (fun h => nomatch h)⟩
              · clear Hact
                intro i o L a' w' ho hun hd hI
                obtain ⟨HF, HS, f0, f1, f2, f3, f4, f5, f6, f7, f8, f9, f10, g7_9, n8_7, n10_7⟩ := hI
                have Ha : 62 = a'.tmps.size := by rw [HF.size, Hsz]
                have R2 := eval_spell ((HF.same 2 (by decide)).trans r2)
                have R1 := eval_spell ((HF.same 1 (by decide)).trans r1)
                clear r2 r1 Hsz
                have Ff0 := Lib.hid f0; clear f0; have Ff1 := Lib.hid f1; clear f1; have Ff2 := Lib.hid f2; clear f2; have Ff3 := Lib.hid f3; clear f3; have Ff4 := Lib.hid f4; clear f4; have Ff5 := Lib.hid f5; clear f5; have Ff6 := Lib.hid f6; clear f6; have Ff7 := Lib.hid f7; clear f7; have Ff8 := Lib.hid f8; clear f8; have Ff9 := Lib.hid f9; clear f9; have Ff10 := Lib.hid f10; clear f10; have Fg7_9 := Lib.hid g7_9; clear g7_9; have Fn8_7 := Lib.hid n8_7; clear n8_7; have Fn10_7 := Lib.hid n10_7; clear n10_7
                match i, ho, hun with
                | 0, ho, hun =>
                  obtain rfl := Option.some.inj ho
                  clear hd ho
                  refine inv_value (v := .int .u8 q) (w' := w') rfl (by rfl) (by go_simp) ?_
                  have A7 : ((L 7 || decide (7 = 0)) = true → ∃ (g : Nat), ((a'.put (some 39) (.int .u8 q)).eval (.tmp 46)) = .slice (some ⟨g, 0, none⟩) 2 2 ∧ W.heap.size ≤ g ∧ RowKit.Hid (VarIs w' g #[.int .i64 E.op, .string E.table, .string E.name, .int .i64 E.index, .int .i64 E.v.kind, .int .i64 E.v.int, .string E.v.text, .slice a n c, .int .i64 1, .string ⟨#[]⟩, .string ⟨#[]⟩, .int .i64 0, .int .i64 1, .int .i64 3, .string ⟨#[]⟩, .slice none 0 0])) := by
                    intro h
                    have h0 : L 7 = true := by simpa using h
                    obtain ⟨g, h1, h2, h3⟩ := Ff7.out h0
                    exact ⟨g, (eval_put_ne (by decide)).trans h1, h2, h3⟩
                  have A9 : ((L 9 || decide (9 = 0)) = true → ∃ (g : Nat) (p0 p1 p2 p3 p4 p5 p6 p7 : Value), ((a'.put (some 39) (.int .u8 q)).eval (.tmp 8)) = .pointer (some ⟨g, 0, none⟩) ∧ W.heap.size ≤ g ∧ RowKit.Hid (VarIs w' g #[p0, p1, p2, p3, p4, p5, p6, p7]) ∧ ((L 10 || decide (10 = 0)) = true → p0 = .int .i64 (10 + q % 6) ∧ p1 = .string ⟨#[]⟩ ∧ p2 = .string ⟨#[]⟩ ∧ p3 = .int .i64 0 ∧ p4 = .int .i64 0 ∧ p5 = .int .i64 0 ∧ p6 = .string ⟨#[]⟩ ∧ p7 = ((a'.put (some 39) (.int .u8 q)).eval (.tmp 46)))) := by
                    intro h
                    have h0 : L 9 = true := by simpa using h
                    obtain ⟨g, p0, p1, p2, p3, p4, p5, p6, p7, h1, h2, h3, h4⟩ := Ff9.out h0
                    exact ⟨g, p0, p1, p2, p3, p4, p5, p6, p7, (eval_put_ne (by decide)).trans h1, h2, h3, fun h => by (obtain ⟨z0, z1, z2, z3, z4, z5, z6, z7⟩ := h4 (by simpa using h)); exact ⟨z0, z1, z2, z3, z4, z5, z6, z7.trans (eval_put_ne (j := 39) (k := 46) (by decide)).symm⟩⟩
                  exact ⟨HF.put (by decide) _, HS, fun _ => eval_put_same (by rw [← Ha]; decide), fun h => (eval_put_ne (by decide)).trans (Ff1.out (by simpa using h)), fun h => (eval_put_ne (by decide)).trans (Ff2.out (by simpa using h)), fun h => (eval_put_ne (by decide)).trans (Ff3.out (by simpa using h)), fun h => (eval_put_ne (by decide)).trans (Ff4.out (by simpa using h)), fun h => (eval_put_ne (by decide)).trans (Ff5.out (by simpa using h)), fun h => (eval_put_ne (by decide)).trans (Ff6.out (by simpa using h)), A7, fun h => inv_tok (F := fun z => .agg #[.int .i64 (10 + q % 6), .string ⟨#[]⟩, .string ⟨#[]⟩, .int .i64 0, .int .i64 0, .int .i64 0, .string ⟨#[]⟩, z]) (eval_put_ne (j := 39) (k := 47) (by decide)) (eval_put_ne (j := 39) (k := 46) (by decide)) (Ff8.out (by simpa using h)), A9, fun h => inv_or (Ff10.out (by simpa using h)), fun h h' => inv_ne (eval_put_ne (by decide)) (eval_put_ne (by decide)) (Fg7_9.out (by simpa using h) (by simpa using h')), fun h => inv_or (Fn8_7.out (by simpa using h)), fun h => inv_or (Fn10_7.out (by simpa using h))⟩
                | 1, ho, hun =>
                  obtain rfl := Option.some.inj ho
                  have t0 : L 0 = true := hd ⟨0, .data⟩ (by simp) rfl
                  clear hd ho
                  have e0 := eval_spell (Ff0.out t0)
                  refine inv_value (v := .int .i64 q) (w' := w') rfl (by rfl) (by go_simp) ?_
                  have A7 : ((L 7 || decide (7 = 1)) = true → ∃ (g : Nat), ((a'.put (some 40) (.int .i64 q)).eval (.tmp 46)) = .slice (some ⟨g, 0, none⟩) 2 2 ∧ W.heap.size ≤ g ∧ RowKit.Hid (VarIs w' g #[.int .i64 E.op, .string E.table, .string E.name, .int .i64 E.index, .int .i64 E.v.kind, .int .i64 E.v.int, .string E.v.text, .slice a n c, .int .i64 1, .string ⟨#[]⟩, .string ⟨#[]⟩, .int .i64 0, .int .i64 1, .int .i64 3, .string ⟨#[]⟩, .slice none 0 0])) := by
                    intro h
                    have h0 : L 7 = true := by simpa using h
                    obtain ⟨g, h1, h2, h3⟩ := Ff7.out h0
                    exact ⟨g, (eval_put_ne (by decide)).trans h1, h2, h3⟩
                  have A9 : ((L 9 || decide (9 = 1)) = true → ∃ (g : Nat) (p0 p1 p2 p3 p4 p5 p6 p7 : Value), ((a'.put (some 40) (.int .i64 q)).eval (.tmp 8)) = .pointer (some ⟨g, 0, none⟩) ∧ W.heap.size ≤ g ∧ RowKit.Hid (VarIs w' g #[p0, p1, p2, p3, p4, p5, p6, p7]) ∧ ((L 10 || decide (10 = 1)) = true → p0 = .int .i64 (10 + q % 6) ∧ p1 = .string ⟨#[]⟩ ∧ p2 = .string ⟨#[]⟩ ∧ p3 = .int .i64 0 ∧ p4 = .int .i64 0 ∧ p5 = .int .i64 0 ∧ p6 = .string ⟨#[]⟩ ∧ p7 = ((a'.put (some 40) (.int .i64 q)).eval (.tmp 46)))) := by
                    intro h
                    have h0 : L 9 = true := by simpa using h
                    obtain ⟨g, p0, p1, p2, p3, p4, p5, p6, p7, h1, h2, h3, h4⟩ := Ff9.out h0
                    exact ⟨g, p0, p1, p2, p3, p4, p5, p6, p7, (eval_put_ne (by decide)).trans h1, h2, h3, fun h => by (obtain ⟨z0, z1, z2, z3, z4, z5, z6, z7⟩ := h4 (by simpa using h)); exact ⟨z0, z1, z2, z3, z4, z5, z6, z7.trans (eval_put_ne (j := 40) (k := 46) (by decide)).symm⟩⟩
                  exact ⟨HF.put (by decide) _, HS, fun h => (eval_put_ne (by decide)).trans (Ff0.out (by simpa using h)), fun _ => eval_put_same (by rw [← Ha]; decide), fun h => (eval_put_ne (by decide)).trans (Ff2.out (by simpa using h)), fun h => (eval_put_ne (by decide)).trans (Ff3.out (by simpa using h)), fun h => (eval_put_ne (by decide)).trans (Ff4.out (by simpa using h)), fun h => (eval_put_ne (by decide)).trans (Ff5.out (by simpa using h)), fun h => (eval_put_ne (by decide)).trans (Ff6.out (by simpa using h)), A7, fun h => inv_tok (F := fun z => .agg #[.int .i64 (10 + q % 6), .string ⟨#[]⟩, .string ⟨#[]⟩, .int .i64 0, .int .i64 0, .int .i64 0, .string ⟨#[]⟩, z]) (eval_put_ne (j := 40) (k := 47) (by decide)) (eval_put_ne (j := 40) (k := 46) (by decide)) (Ff8.out (by simpa using h)), A9, fun h => inv_or (Ff10.out (by simpa using h)), fun h h' => inv_ne (eval_put_ne (by decide)) (eval_put_ne (by decide)) (Fg7_9.out (by simpa using h) (by simpa using h')), fun h => inv_or (Fn8_7.out (by simpa using h)), fun h => inv_or (Fn10_7.out (by simpa using h))⟩
                | 2, ho, hun =>
                  obtain rfl := Option.some.inj ho
                  have t1 : L 1 = true := hd ⟨1, .data⟩ (by simp) rfl
                  clear hd ho
                  have e1 := eval_spell (Ff1.out t1)
                  refine inv_value (v := .int .i64 (q % 6)) (w' := w') rfl (by rfl) (by go_simp) ?_
                  have A7 : ((L 7 || decide (7 = 2)) = true → ∃ (g : Nat), ((a'.put (some 41) (.int .i64 (q % 6))).eval (.tmp 46)) = .slice (some ⟨g, 0, none⟩) 2 2 ∧ W.heap.size ≤ g ∧ RowKit.Hid (VarIs w' g #[.int .i64 E.op, .string E.table, .string E.name, .int .i64 E.index, .int .i64 E.v.kind, .int .i64 E.v.int, .string E.v.text, .slice a n c, .int .i64 1, .string ⟨#[]⟩, .string ⟨#[]⟩, .int .i64 0, .int .i64 1, .int .i64 3, .string ⟨#[]⟩, .slice none 0 0])) := by
                    intro h
                    have h0 : L 7 = true := by simpa using h
                    obtain ⟨g, h1, h2, h3⟩ := Ff7.out h0
                    exact ⟨g, (eval_put_ne (by decide)).trans h1, h2, h3⟩
                  have A9 : ((L 9 || decide (9 = 2)) = true → ∃ (g : Nat) (p0 p1 p2 p3 p4 p5 p6 p7 : Value), ((a'.put (some 41) (.int .i64 (q % 6))).eval (.tmp 8)) = .pointer (some ⟨g, 0, none⟩) ∧ W.heap.size ≤ g ∧ RowKit.Hid (VarIs w' g #[p0, p1, p2, p3, p4, p5, p6, p7]) ∧ ((L 10 || decide (10 = 2)) = true → p0 = .int .i64 (10 + q % 6) ∧ p1 = .string ⟨#[]⟩ ∧ p2 = .string ⟨#[]⟩ ∧ p3 = .int .i64 0 ∧ p4 = .int .i64 0 ∧ p5 = .int .i64 0 ∧ p6 = .string ⟨#[]⟩ ∧ p7 = ((a'.put (some 41) (.int .i64 (q % 6))).eval (.tmp 46)))) := by
                    intro h
                    have h0 : L 9 = true := by simpa using h
                    obtain ⟨g, p0, p1, p2, p3, p4, p5, p6, p7, h1, h2, h3, h4⟩ := Ff9.out h0
                    exact ⟨g, p0, p1, p2, p3, p4, p5, p6, p7, (eval_put_ne (by decide)).trans h1, h2, h3, fun h => by (obtain ⟨z0, z1, z2, z3, z4, z5, z6, z7⟩ := h4 (by simpa using h)); exact ⟨z0, z1, z2, z3, z4, z5, z6, z7.trans (eval_put_ne (j := 41) (k := 46) (by decide)).symm⟩⟩
                  exact ⟨HF.put (by decide) _, HS, fun h => (eval_put_ne (by decide)).trans (Ff0.out (by simpa using h)), fun h => (eval_put_ne (by decide)).trans (Ff1.out (by simpa using h)), fun _ => eval_put_same (by rw [← Ha]; decide), fun h => (eval_put_ne (by decide)).trans (Ff3.out (by simpa using h)), fun h => (eval_put_ne (by decide)).trans (Ff4.out (by simpa using h)), fun h => (eval_put_ne (by decide)).trans (Ff5.out (by simpa using h)), fun h => (eval_put_ne (by decide)).trans (Ff6.out (by simpa using h)), A7, fun h => inv_tok (F := fun z => .agg #[.int .i64 (10 + q % 6), .string ⟨#[]⟩, .string ⟨#[]⟩, .int .i64 0, .int .i64 0, .int .i64 0, .string ⟨#[]⟩, z]) (eval_put_ne (j := 41) (k := 47) (by decide)) (eval_put_ne (j := 41) (k := 46) (by decide)) (Ff8.out (by simpa using h)), A9, fun h => inv_or (Ff10.out (by simpa using h)), fun h h' => inv_ne (eval_put_ne (by decide)) (eval_put_ne (by decide)) (Fg7_9.out (by simpa using h) (by simpa using h')), fun h => inv_or (Fn8_7.out (by simpa using h)), fun h => inv_or (Fn10_7.out (by simpa using h))⟩
                | 3, ho, hun =>
                  obtain rfl := Option.some.inj ho
                  have t2 : L 2 = true := hd ⟨2, .data⟩ (by simp) rfl
                  clear hd ho
                  have e2 := eval_spell (Ff2.out t2)
                  refine inv_value (v := .int .i64 (10 + q % 6)) (w' := w') rfl (by rfl) (by go_simp) ?_
                  have A7 : ((L 7 || decide (7 = 3)) = true → ∃ (g : Nat), ((a'.put (some 42) (.int .i64 (10 + q % 6))).eval (.tmp 46)) = .slice (some ⟨g, 0, none⟩) 2 2 ∧ W.heap.size ≤ g ∧ RowKit.Hid (VarIs w' g #[.int .i64 E.op, .string E.table, .string E.name, .int .i64 E.index, .int .i64 E.v.kind, .int .i64 E.v.int, .string E.v.text, .slice a n c, .int .i64 1, .string ⟨#[]⟩, .string ⟨#[]⟩, .int .i64 0, .int .i64 1, .int .i64 3, .string ⟨#[]⟩, .slice none 0 0])) := by
                    intro h
                    have h0 : L 7 = true := by simpa using h
                    obtain ⟨g, h1, h2, h3⟩ := Ff7.out h0
                    exact ⟨g, (eval_put_ne (by decide)).trans h1, h2, h3⟩
                  have A9 : ((L 9 || decide (9 = 3)) = true → ∃ (g : Nat) (p0 p1 p2 p3 p4 p5 p6 p7 : Value), ((a'.put (some 42) (.int .i64 (10 + q % 6))).eval (.tmp 8)) = .pointer (some ⟨g, 0, none⟩) ∧ W.heap.size ≤ g ∧ RowKit.Hid (VarIs w' g #[p0, p1, p2, p3, p4, p5, p6, p7]) ∧ ((L 10 || decide (10 = 3)) = true → p0 = .int .i64 (10 + q % 6) ∧ p1 = .string ⟨#[]⟩ ∧ p2 = .string ⟨#[]⟩ ∧ p3 = .int .i64 0 ∧ p4 = .int .i64 0 ∧ p5 = .int .i64 0 ∧ p6 = .string ⟨#[]⟩ ∧ p7 = ((a'.put (some 42) (.int .i64 (10 + q % 6))).eval (.tmp 46)))) := by
                    intro h
                    have h0 : L 9 = true := by simpa using h
                    obtain ⟨g, p0, p1, p2, p3, p4, p5, p6, p7, h1, h2, h3, h4⟩ := Ff9.out h0
                    exact ⟨g, p0, p1, p2, p3, p4, p5, p6, p7, (eval_put_ne (by decide)).trans h1, h2, h3, fun h => by (obtain ⟨z0, z1, z2, z3, z4, z5, z6, z7⟩ := h4 (by simpa using h)); exact ⟨z0, z1, z2, z3, z4, z5, z6, z7.trans (eval_put_ne (j := 42) (k := 46) (by decide)).symm⟩⟩
                  exact ⟨HF.put (by decide) _, HS, fun h => (eval_put_ne (by decide)).trans (Ff0.out (by simpa using h)), fun h => (eval_put_ne (by decide)).trans (Ff1.out (by simpa using h)), fun h => (eval_put_ne (by decide)).trans (Ff2.out (by simpa using h)), fun _ => eval_put_same (by rw [← Ha]; decide), fun h => (eval_put_ne (by decide)).trans (Ff4.out (by simpa using h)), fun h => (eval_put_ne (by decide)).trans (Ff5.out (by simpa using h)), fun h => (eval_put_ne (by decide)).trans (Ff6.out (by simpa using h)), A7, fun h => inv_tok (F := fun z => .agg #[.int .i64 (10 + q % 6), .string ⟨#[]⟩, .string ⟨#[]⟩, .int .i64 0, .int .i64 0, .int .i64 0, .string ⟨#[]⟩, z]) (eval_put_ne (j := 42) (k := 47) (by decide)) (eval_put_ne (j := 42) (k := 46) (by decide)) (Ff8.out (by simpa using h)), A9, fun h => inv_or (Ff10.out (by simpa using h)), fun h h' => inv_ne (eval_put_ne (by decide)) (eval_put_ne (by decide)) (Fg7_9.out (by simpa using h) (by simpa using h')), fun h => inv_or (Fn8_7.out (by simpa using h)), fun h => inv_or (Fn10_7.out (by simpa using h))⟩
                | 4, ho, hun =>
                  obtain rfl := Option.some.inj ho
                  clear hd ho
                  refine inv_value (v := .pointer (some ⟨w.heap.size, 0, none⟩)) (w' := w') rfl (by rfl) (by go_simp) ?_
                  have A7 : ((L 7 || decide (7 = 4)) = true → ∃ (g : Nat), ((a'.put (some 43) (.pointer (some ⟨w.heap.size, 0, none⟩))).eval (.tmp 46)) = .slice (some ⟨g, 0, none⟩) 2 2 ∧ W.heap.size ≤ g ∧ RowKit.Hid (VarIs w' g #[.int .i64 E.op, .string E.table, .string E.name, .int .i64 E.index, .int .i64 E.v.kind, .int .i64 E.v.int, .string E.v.text, .slice a n c, .int .i64 1, .string ⟨#[]⟩, .string ⟨#[]⟩, .int .i64 0, .int .i64 1, .int .i64 3, .string ⟨#[]⟩, .slice none 0 0])) := by
                    intro h
                    have h0 : L 7 = true := by simpa using h
                    obtain ⟨g, h1, h2, h3⟩ := Ff7.out h0
                    exact ⟨g, (eval_put_ne (by decide)).trans h1, h2, h3⟩
                  have A9 : ((L 9 || decide (9 = 4)) = true → ∃ (g : Nat) (p0 p1 p2 p3 p4 p5 p6 p7 : Value), ((a'.put (some 43) (.pointer (some ⟨w.heap.size, 0, none⟩))).eval (.tmp 8)) = .pointer (some ⟨g, 0, none⟩) ∧ W.heap.size ≤ g ∧ RowKit.Hid (VarIs w' g #[p0, p1, p2, p3, p4, p5, p6, p7]) ∧ ((L 10 || decide (10 = 4)) = true → p0 = .int .i64 (10 + q % 6) ∧ p1 = .string ⟨#[]⟩ ∧ p2 = .string ⟨#[]⟩ ∧ p3 = .int .i64 0 ∧ p4 = .int .i64 0 ∧ p5 = .int .i64 0 ∧ p6 = .string ⟨#[]⟩ ∧ p7 = ((a'.put (some 43) (.pointer (some ⟨w.heap.size, 0, none⟩))).eval (.tmp 46)))) := by
                    intro h
                    have h0 : L 9 = true := by simpa using h
                    obtain ⟨g, p0, p1, p2, p3, p4, p5, p6, p7, h1, h2, h3, h4⟩ := Ff9.out h0
                    exact ⟨g, p0, p1, p2, p3, p4, p5, p6, p7, (eval_put_ne (by decide)).trans h1, h2, h3, fun h => by (obtain ⟨z0, z1, z2, z3, z4, z5, z6, z7⟩ := h4 (by simpa using h)); exact ⟨z0, z1, z2, z3, z4, z5, z6, z7.trans (eval_put_ne (j := 43) (k := 46) (by decide)).symm⟩⟩
                  exact ⟨HF.put (by decide) _, HS, fun h => (eval_put_ne (by decide)).trans (Ff0.out (by simpa using h)), fun h => (eval_put_ne (by decide)).trans (Ff1.out (by simpa using h)), fun h => (eval_put_ne (by decide)).trans (Ff2.out (by simpa using h)), fun h => (eval_put_ne (by decide)).trans (Ff3.out (by simpa using h)), fun _ => eval_put_same (by rw [← Ha]; decide), fun h => (eval_put_ne (by decide)).trans (Ff5.out (by simpa using h)), fun h => (eval_put_ne (by decide)).trans (Ff6.out (by simpa using h)), A7, fun h => inv_tok (F := fun z => .agg #[.int .i64 (10 + q % 6), .string ⟨#[]⟩, .string ⟨#[]⟩, .int .i64 0, .int .i64 0, .int .i64 0, .string ⟨#[]⟩, z]) (eval_put_ne (j := 43) (k := 47) (by decide)) (eval_put_ne (j := 43) (k := 46) (by decide)) (Ff8.out (by simpa using h)), A9, fun h => inv_or (Ff10.out (by simpa using h)), fun h h' => inv_ne (eval_put_ne (by decide)) (eval_put_ne (by decide)) (Fg7_9.out (by simpa using h) (by simpa using h')), fun h => inv_or (Fn8_7.out (by simpa using h)), fun h => inv_or (Fn10_7.out (by simpa using h))⟩
                | 5, ho, hun =>
                  obtain rfl := Option.some.inj ho
                  have t4 : L 4 = true := hd ⟨4, .data⟩ (by simp) rfl
                  clear hd ho
                  have e4 := eval_spell (Ff4.out t4)
                  obtain ⟨q1, q2⟩ := bcell HS.out
                  refine inv_value (v := .agg #[.int .i64 E.op, .string E.table, .string E.name, .int .i64 E.index, .int .i64 E.v.kind, .int .i64 E.v.int, .string E.v.text, .slice a n c]) (w' := w') rfl (by rfl) (by go_simp) ?_
                  clear q1 q2
                  have A7 : ((L 7 || decide (7 = 5)) = true → ∃ (g : Nat), ((a'.put (some 44) (.agg #[.int .i64 E.op, .string E.table, .string E.name, .int .i64 E.index, .int .i64 E.v.kind, .int .i64 E.v.int, .string E.v.text, .slice a n c])).eval (.tmp 46)) = .slice (some ⟨g, 0, none⟩) 2 2 ∧ W.heap.size ≤ g ∧ RowKit.Hid (VarIs w' g #[.int .i64 E.op, .string E.table, .string E.name, .int .i64 E.index, .int .i64 E.v.kind, .int .i64 E.v.int, .string E.v.text, .slice a n c, .int .i64 1, .string ⟨#[]⟩, .string ⟨#[]⟩, .int .i64 0, .int .i64 1, .int .i64 3, .string ⟨#[]⟩, .slice none 0 0])) := by
                    intro h
                    have h0 : L 7 = true := by simpa using h
                    obtain ⟨g, h1, h2, h3⟩ := Ff7.out h0
                    exact ⟨g, (eval_put_ne (by decide)).trans h1, h2, h3⟩
                  have A9 : ((L 9 || decide (9 = 5)) = true → ∃ (g : Nat) (p0 p1 p2 p3 p4 p5 p6 p7 : Value), ((a'.put (some 44) (.agg #[.int .i64 E.op, .string E.table, .string E.name, .int .i64 E.index, .int .i64 E.v.kind, .int .i64 E.v.int, .string E.v.text, .slice a n c])).eval (.tmp 8)) = .pointer (some ⟨g, 0, none⟩) ∧ W.heap.size ≤ g ∧ RowKit.Hid (VarIs w' g #[p0, p1, p2, p3, p4, p5, p6, p7]) ∧ ((L 10 || decide (10 = 5)) = true → p0 = .int .i64 (10 + q % 6) ∧ p1 = .string ⟨#[]⟩ ∧ p2 = .string ⟨#[]⟩ ∧ p3 = .int .i64 0 ∧ p4 = .int .i64 0 ∧ p5 = .int .i64 0 ∧ p6 = .string ⟨#[]⟩ ∧ p7 = ((a'.put (some 44) (.agg #[.int .i64 E.op, .string E.table, .string E.name, .int .i64 E.index, .int .i64 E.v.kind, .int .i64 E.v.int, .string E.v.text, .slice a n c])).eval (.tmp 46)))) := by
                    intro h
                    have h0 : L 9 = true := by simpa using h
                    obtain ⟨g, p0, p1, p2, p3, p4, p5, p6, p7, h1, h2, h3, h4⟩ := Ff9.out h0
                    exact ⟨g, p0, p1, p2, p3, p4, p5, p6, p7, (eval_put_ne (by decide)).trans h1, h2, h3, fun h => by (obtain ⟨z0, z1, z2, z3, z4, z5, z6, z7⟩ := h4 (by simpa using h)); exact ⟨z0, z1, z2, z3, z4, z5, z6, z7.trans (eval_put_ne (j := 44) (k := 46) (by decide)).symm⟩⟩
                  exact ⟨HF.put (by decide) _, HS, fun h => (eval_put_ne (by decide)).trans (Ff0.out (by simpa using h)), fun h => (eval_put_ne (by decide)).trans (Ff1.out (by simpa using h)), fun h => (eval_put_ne (by decide)).trans (Ff2.out (by simpa using h)), fun h => (eval_put_ne (by decide)).trans (Ff3.out (by simpa using h)), fun h => (eval_put_ne (by decide)).trans (Ff4.out (by simpa using h)), fun _ => eval_put_same (by rw [← Ha]; decide), fun h => (eval_put_ne (by decide)).trans (Ff6.out (by simpa using h)), A7, fun h => inv_tok (F := fun z => .agg #[.int .i64 (10 + q % 6), .string ⟨#[]⟩, .string ⟨#[]⟩, .int .i64 0, .int .i64 0, .int .i64 0, .string ⟨#[]⟩, z]) (eval_put_ne (j := 44) (k := 47) (by decide)) (eval_put_ne (j := 44) (k := 46) (by decide)) (Ff8.out (by simpa using h)), A9, fun h => inv_or (Ff10.out (by simpa using h)), fun h h' => inv_ne (eval_put_ne (by decide)) (eval_put_ne (by decide)) (Fg7_9.out (by simpa using h) (by simpa using h')), fun h => inv_or (Fn8_7.out (by simpa using h)), fun h => inv_or (Fn10_7.out (by simpa using h))⟩
                | 6, ho, hun =>
                  obtain rfl := Option.some.inj ho
                  clear hd ho
                  refine inv_call rfl (by rfl) (by go_simp) (number_calls 3 _) ?_
                  rintro e w2 ⟨rfl, hb⟩
                  have HS2 := Lib.hid (HS.out.trans (hb.mono HS.out.size))
                  have A7 : ((L 7 || decide (7 = 6)) = true → ∃ (g : Nat), ((a'.put (some 45) (.agg #[.int .i64 1, .string ⟨#[]⟩, .string ⟨#[]⟩, .int .i64 0, .int .i64 1, .int .i64 3, .string ⟨#[]⟩, .slice none 0 0])).eval (.tmp 46)) = .slice (some ⟨g, 0, none⟩) 2 2 ∧ W.heap.size ≤ g ∧ RowKit.Hid (VarIs w2 g #[.int .i64 E.op, .string E.table, .string E.name, .int .i64 E.index, .int .i64 E.v.kind, .int .i64 E.v.int, .string E.v.text, .slice a n c, .int .i64 1, .string ⟨#[]⟩, .string ⟨#[]⟩, .int .i64 0, .int .i64 1, .int .i64 3, .string ⟨#[]⟩, .slice none 0 0])) := by
                    intro h
                    have h0 : L 7 = true := by simpa using h
                    obtain ⟨g, h1, h2, h3⟩ := Ff7.out h0
                    exact ⟨g, (eval_put_ne (by decide)).trans h1, h2, Lib.hid (h3.out.below hb h3.out.lt)⟩
                  have A9 : ((L 9 || decide (9 = 6)) = true → ∃ (g : Nat) (p0 p1 p2 p3 p4 p5 p6 p7 : Value), ((a'.put (some 45) (.agg #[.int .i64 1, .string ⟨#[]⟩, .string ⟨#[]⟩, .int .i64 0, .int .i64 1, .int .i64 3, .string ⟨#[]⟩, .slice none 0 0])).eval (.tmp 8)) = .pointer (some ⟨g, 0, none⟩) ∧ W.heap.size ≤ g ∧ RowKit.Hid (VarIs w2 g #[p0, p1, p2, p3, p4, p5, p6, p7]) ∧ ((L 10 || decide (10 = 6)) = true → p0 = .int .i64 (10 + q % 6) ∧ p1 = .string ⟨#[]⟩ ∧ p2 = .string ⟨#[]⟩ ∧ p3 = .int .i64 0 ∧ p4 = .int .i64 0 ∧ p5 = .int .i64 0 ∧ p6 = .string ⟨#[]⟩ ∧ p7 = ((a'.put (some 45) (.agg #[.int .i64 1, .string ⟨#[]⟩, .string ⟨#[]⟩, .int .i64 0, .int .i64 1, .int .i64 3, .string ⟨#[]⟩, .slice none 0 0])).eval (.tmp 46)))) := by
                    intro h
                    have h0 : L 9 = true := by simpa using h
                    obtain ⟨g, p0, p1, p2, p3, p4, p5, p6, p7, h1, h2, h3, h4⟩ := Ff9.out h0
                    exact ⟨g, p0, p1, p2, p3, p4, p5, p6, p7, (eval_put_ne (by decide)).trans h1, h2, Lib.hid (h3.out.below hb h3.out.lt), fun h => by (obtain ⟨z0, z1, z2, z3, z4, z5, z6, z7⟩ := h4 (by simpa using h)); exact ⟨z0, z1, z2, z3, z4, z5, z6, z7.trans (eval_put_ne (j := 45) (k := 46) (by decide)).symm⟩⟩
                  exact ⟨_, rfl, HF.put (by decide) _, HS2, fun h => (eval_put_ne (by decide)).trans (Ff0.out (by simpa using h)), fun h => (eval_put_ne (by decide)).trans (Ff1.out (by simpa using h)), fun h => (eval_put_ne (by decide)).trans (Ff2.out (by simpa using h)), fun h => (eval_put_ne (by decide)).trans (Ff3.out (by simpa using h)), fun h => (eval_put_ne (by decide)).trans (Ff4.out (by simpa using h)), fun h => (eval_put_ne (by decide)).trans (Ff5.out (by simpa using h)), fun _ => eval_put_same (by rw [← Ha]; decide), A7, fun h => inv_tok (F := fun z => .agg #[.int .i64 (10 + q % 6), .string ⟨#[]⟩, .string ⟨#[]⟩, .int .i64 0, .int .i64 0, .int .i64 0, .string ⟨#[]⟩, z]) (eval_put_ne (j := 45) (k := 47) (by decide)) (eval_put_ne (j := 45) (k := 46) (by decide)) (Ff8.out (by simpa using h)), A9, fun h => inv_or (Ff10.out (by simpa using h)), fun h h' => inv_ne (eval_put_ne (by decide)) (eval_put_ne (by decide)) (Fg7_9.out (by simpa using h) (by simpa using h')), fun h => inv_or (Fn8_7.out (by simpa using h)), fun h => inv_or (Fn10_7.out (by simpa using h))⟩
                | 7, ho, hun =>
                  obtain rfl := Option.some.inj ho
                  have t5 : L 5 = true := hd ⟨5, .data⟩ (by simp) rfl
                  have t6 : L 6 = true := hd ⟨6, .data⟩ (by simp) rfl
                  clear hd ho
                  have e5 := eval_spell (Ff5.out t5)
                  have e6 := eval_spell (Ff6.out t6)
                  refine inv_value (v := .slice (some ⟨w'.heap.size, 0, none⟩) 2 2) (w' := w'.alloc (.cells #[.int .i64 E.op, .string E.table, .string E.name, .int .i64 E.index, .int .i64 E.v.kind, .int .i64 E.v.int, .string E.v.text, .slice a n c, .int .i64 1, .string ⟨#[]⟩, .string ⟨#[]⟩, .int .i64 0, .int .i64 1, .int .i64 3, .string ⟨#[]⟩, .slice none 0 0] 26)) rfl (by rfl) (by go_simp) ?_
                  have A9 : ((L 9 || decide (9 = 7)) = true → ∃ (g : Nat) (p0 p1 p2 p3 p4 p5 p6 p7 : Value), ((a'.put (some 46) (.slice (some ⟨w'.heap.size, 0, none⟩) 2 2)).eval (.tmp 8)) = .pointer (some ⟨g, 0, none⟩) ∧ W.heap.size ≤ g ∧ RowKit.Hid (VarIs (w'.alloc (.cells #[.int .i64 E.op, .string E.table, .string E.name, .int .i64 E.index, .int .i64 E.v.kind, .int .i64 E.v.int, .string E.v.text, .slice a n c, .int .i64 1, .string ⟨#[]⟩, .string ⟨#[]⟩, .int .i64 0, .int .i64 1, .int .i64 3, .string ⟨#[]⟩, .slice none 0 0] 26)) g #[p0, p1, p2, p3, p4, p5, p6, p7]) ∧ ((L 10 || decide (10 = 7)) = true → p0 = .int .i64 (10 + q % 6) ∧ p1 = .string ⟨#[]⟩ ∧ p2 = .string ⟨#[]⟩ ∧ p3 = .int .i64 0 ∧ p4 = .int .i64 0 ∧ p5 = .int .i64 0 ∧ p6 = .string ⟨#[]⟩ ∧ p7 = ((a'.put (some 46) (.slice (some ⟨w'.heap.size, 0, none⟩) 2 2)).eval (.tmp 46)))) := by
                    intro h
                    have h0 : L 9 = true := by simpa using h
                    obtain ⟨g, p0, p1, p2, p3, p4, p5, p6, p7, h1, h2, h3, h4⟩ := Ff9.out h0
                    exact ⟨g, p0, p1, p2, p3, p4, p5, p6, p7, (eval_put_ne (by decide)).trans h1, h2, Lib.hid (h3.out.alloc _), fun h => absurd (Fn10_7.out (by simpa using h)) (by rw [hun]; decide)⟩
                  refine ⟨HF.put (by decide) _, Lib.hid (HS.out.alloc HS.out.size _), ?_, ?_, ?_, ?_, ?_, ?_, ?_, ?_, ?_, ?_, ?_, ?_, ?_, ?_⟩
                  · exact fun h => (eval_put_ne (by decide)).trans (Ff0.out (by simpa using h))
                  · exact fun h => (eval_put_ne (by decide)).trans (Ff1.out (by simpa using h))
                  · exact fun h => (eval_put_ne (by decide)).trans (Ff2.out (by simpa using h))
                  · exact fun h => (eval_put_ne (by decide)).trans (Ff3.out (by simpa using h))
                  · exact fun h => (eval_put_ne (by decide)).trans (Ff4.out (by simpa using h))
                  · exact fun h => (eval_put_ne (by decide)).trans (Ff5.out (by simpa using h))
                  · exact fun h => (eval_put_ne (by decide)).trans (Ff6.out (by simpa using h))
                  · exact fun _ => ⟨w'.heap.size, eval_put_same (by rw [← Ha]; decide), HS.out.size, Lib.hid (VarIs.new _ _ _)⟩
                  · exact fun h => absurd (Fn8_7.out (by simpa using h)) (by rw [hun]; decide)
                  · exact A9
                  · exact fun h => inv_or (Ff10.out (by simpa using h))
                  · exact fun h h' => by
                      have h0 : L 9 = true := by simpa using h'
                      obtain ⟨g, _, _, _, _, _, _, _, _, h1, _, h3, _⟩ := Ff9.out h0
                      refine inv_ne (eval_put_same (by rw [← Ha]; decide)) ((eval_put_ne (by decide)).trans h1) ?_
                      have := h3.out.lt
                      simp [blkOf]
                      all_goals omega
                  · exact fun h => inv_or (Fn8_7.out (by simpa using h))
                  · exact fun h => inv_or (Fn10_7.out (by simpa using h))
                | 8, ho, hun =>
                  obtain rfl := Option.some.inj ho
                  have t3 : L 3 = true := hd ⟨3, .data⟩ (by simp) rfl
                  have t7 : L 7 = true := hd ⟨7, .data⟩ (by simp) rfl
                  clear hd ho
                  obtain ⟨g_7, e7, -⟩ := Ff7.out t7
                  have E7 := Lib.hid e7
                  have e3 := eval_spell (Ff3.out t3)
                  replace e7 := eval_spell e7
                  refine inv_call rfl (by rfl) (by go_simp) (node_calls (10 + q % 6) (some ⟨g_7, 0, none⟩) 2 2 [] _) ?_
                  rintro e w2 ⟨rfl, hb⟩
                  have HS2 := Lib.hid (HS.out.trans (hb.mono HS.out.size))
                  have A7 : ((L 7 || decide (7 = 8)) = true → ∃ (g : Nat), ((a'.put (some 47) (.agg #[.int .i64 (10 + q % 6), .string ⟨#[]⟩, .string ⟨#[]⟩, .int .i64 0, .int .i64 0, .int .i64 0, .string ⟨#[]⟩, .slice (some ⟨g_7, 0, none⟩) 2 2])).eval (.tmp 46)) = .slice (some ⟨g, 0, none⟩) 2 2 ∧ W.heap.size ≤ g ∧ RowKit.Hid (VarIs w2 g #[.int .i64 E.op, .string E.table, .string E.name, .int .i64 E.index, .int .i64 E.v.kind, .int .i64 E.v.int, .string E.v.text, .slice a n c, .int .i64 1, .string ⟨#[]⟩, .string ⟨#[]⟩, .int .i64 0, .int .i64 1, .int .i64 3, .string ⟨#[]⟩, .slice none 0 0])) := by
                    intro h
                    have h0 : L 7 = true := by simpa using h
                    obtain ⟨g, h1, h2, h3⟩ := Ff7.out h0
                    exact ⟨g, (eval_put_ne (by decide)).trans h1, h2, Lib.hid (h3.out.below hb h3.out.lt)⟩
                  have A9 : ((L 9 || decide (9 = 8)) = true → ∃ (g : Nat) (p0 p1 p2 p3 p4 p5 p6 p7 : Value), ((a'.put (some 47) (.agg #[.int .i64 (10 + q % 6), .string ⟨#[]⟩, .string ⟨#[]⟩, .int .i64 0, .int .i64 0, .int .i64 0, .string ⟨#[]⟩, .slice (some ⟨g_7, 0, none⟩) 2 2])).eval (.tmp 8)) = .pointer (some ⟨g, 0, none⟩) ∧ W.heap.size ≤ g ∧ RowKit.Hid (VarIs w2 g #[p0, p1, p2, p3, p4, p5, p6, p7]) ∧ ((L 10 || decide (10 = 8)) = true → p0 = .int .i64 (10 + q % 6) ∧ p1 = .string ⟨#[]⟩ ∧ p2 = .string ⟨#[]⟩ ∧ p3 = .int .i64 0 ∧ p4 = .int .i64 0 ∧ p5 = .int .i64 0 ∧ p6 = .string ⟨#[]⟩ ∧ p7 = ((a'.put (some 47) (.agg #[.int .i64 (10 + q % 6), .string ⟨#[]⟩, .string ⟨#[]⟩, .int .i64 0, .int .i64 0, .int .i64 0, .string ⟨#[]⟩, .slice (some ⟨g_7, 0, none⟩) 2 2])).eval (.tmp 46)))) := by
                    intro h
                    have h0 : L 9 = true := by simpa using h
                    obtain ⟨g, p0, p1, p2, p3, p4, p5, p6, p7, h1, h2, h3, h4⟩ := Ff9.out h0
                    exact ⟨g, p0, p1, p2, p3, p4, p5, p6, p7, (eval_put_ne (by decide)).trans h1, h2, Lib.hid (h3.out.below hb h3.out.lt), fun h => by (obtain ⟨z0, z1, z2, z3, z4, z5, z6, z7⟩ := h4 (by simpa using h)); exact ⟨z0, z1, z2, z3, z4, z5, z6, z7.trans (eval_put_ne (j := 47) (k := 46) (by decide)).symm⟩⟩
                  exact ⟨_, rfl, HF.put (by decide) _, HS2, fun h => (eval_put_ne (by decide)).trans (Ff0.out (by simpa using h)), fun h => (eval_put_ne (by decide)).trans (Ff1.out (by simpa using h)), fun h => (eval_put_ne (by decide)).trans (Ff2.out (by simpa using h)), fun h => (eval_put_ne (by decide)).trans (Ff3.out (by simpa using h)), fun h => (eval_put_ne (by decide)).trans (Ff4.out (by simpa using h)), fun h => (eval_put_ne (by decide)).trans (Ff5.out (by simpa using h)), fun h => (eval_put_ne (by decide)).trans (Ff6.out (by simpa using h)), A7, fun _ => (eval_put_same (by rw [← Ha]; decide)).trans (congrArg (fun z : Value => (.agg #[.int .i64 (10 + q % 6), .string ⟨#[]⟩, .string ⟨#[]⟩, .int .i64 0, .int .i64 0, .int .i64 0, .string ⟨#[]⟩, z] : Value)) ((eval_put_ne (j := 47) (k := 46) (by decide)).trans E7.out).symm), A9, fun h => inv_or (Ff10.out (by simpa using h)), fun h h' => inv_ne (eval_put_ne (by decide)) (eval_put_ne (by decide)) (Fg7_9.out (by simpa using h) (by simpa using h')), fun _ => inv_or t7, fun h => inv_or (Fn10_7.out (by simpa using h))⟩
                | 9, ho, hun =>
                  obtain rfl := Option.some.inj ho
                  clear hd ho
                  refine inv_value (v := .pointer (some ⟨w'.heap.size, 0, none⟩)) (w' := w'.alloc (.cells #[.int .i64 0, .string ⟨#[]⟩, .string ⟨#[]⟩, .int .i64 0, .int .i64 0, .int .i64 0, .string ⟨#[]⟩, .slice none 0 0] 26)) rfl (by rfl) (by go_simp) ?_
                  have A7 : ((L 7 || decide (7 = 9)) = true → ∃ (g : Nat), ((a'.put (some 8) (.pointer (some ⟨w'.heap.size, 0, none⟩))).eval (.tmp 46)) = .slice (some ⟨g, 0, none⟩) 2 2 ∧ W.heap.size ≤ g ∧ RowKit.Hid (VarIs (w'.alloc (.cells #[.int .i64 0, .string ⟨#[]⟩, .string ⟨#[]⟩, .int .i64 0, .int .i64 0, .int .i64 0, .string ⟨#[]⟩, .slice none 0 0] 26)) g #[.int .i64 E.op, .string E.table, .string E.name, .int .i64 E.index, .int .i64 E.v.kind, .int .i64 E.v.int, .string E.v.text, .slice a n c, .int .i64 1, .string ⟨#[]⟩, .string ⟨#[]⟩, .int .i64 0, .int .i64 1, .int .i64 3, .string ⟨#[]⟩, .slice none 0 0])) := by
                    intro h
                    have h0 : L 7 = true := by simpa using h
                    obtain ⟨g, h1, h2, h3⟩ := Ff7.out h0
                    exact ⟨g, (eval_put_ne (by decide)).trans h1, h2, Lib.hid (h3.out.alloc _)⟩
                  refine ⟨HF.put (by decide) _, Lib.hid (HS.out.alloc HS.out.size _), ?_, ?_, ?_, ?_, ?_, ?_, ?_, ?_, ?_, ?_, ?_, ?_, ?_, ?_⟩
                  · exact fun h => (eval_put_ne (by decide)).trans (Ff0.out (by simpa using h))
                  · exact fun h => (eval_put_ne (by decide)).trans (Ff1.out (by simpa using h))
                  · exact fun h => (eval_put_ne (by decide)).trans (Ff2.out (by simpa using h))
                  · exact fun h => (eval_put_ne (by decide)).trans (Ff3.out (by simpa using h))
                  · exact fun h => (eval_put_ne (by decide)).trans (Ff4.out (by simpa using h))
                  · exact fun h => (eval_put_ne (by decide)).trans (Ff5.out (by simpa using h))
                  · exact fun h => (eval_put_ne (by decide)).trans (Ff6.out (by simpa using h))
                  · exact A7
                  · exact fun h => inv_tok (F := fun z => .agg #[.int .i64 (10 + q % 6), .string ⟨#[]⟩, .string ⟨#[]⟩, .int .i64 0, .int .i64 0, .int .i64 0, .string ⟨#[]⟩, z]) (eval_put_ne (j := 8) (k := 47) (by decide)) (eval_put_ne (j := 8) (k := 46) (by decide)) (Ff8.out (by simpa using h))
                  · exact fun _ => ⟨w'.heap.size, _, _, _, _, _, _, _, _, eval_put_same (by rw [← Ha]; decide), HS.out.size, Lib.hid (VarIs.new _ _ _), fun h => absurd (Ff10.out (by simpa using h)) (by rw [hun]; decide)⟩
                  · exact fun h => inv_or (Ff10.out (by simpa using h))
                  · exact fun h h' => by
                      have h0 : L 7 = true := by simpa using h
                      obtain ⟨g, h1, _, h3⟩ := Ff7.out h0
                      refine inv_ne ((eval_put_ne (by decide)).trans h1) (eval_put_same (by rw [← Ha]; decide)) ?_
                      have := h3.out.lt
                      simp [blkOf]
                      all_goals omega
                  · exact fun h => inv_or (Fn8_7.out (by simpa using h))
                  · exact fun h => inv_or (Fn10_7.out (by simpa using h))
                | 10, ho, hun =>
                  obtain rfl := Option.some.inj ho
                  have t9 : L 9 = true := hd ⟨9, .data⟩ (by simp) rfl
                  have t8 : L 8 = true := hd ⟨8, .data⟩ (by simp) rfl
                  clear hd ho
                  have t7 : L 7 = true := Fn8_7.out t8
                  obtain ⟨g_7, e7, -⟩ := Ff7.out t7
                  have E7 := Lib.hid e7
                  have e8 := Ff8.out t8
                  rw [e7] at e8
                  replace e8 := eval_spell e8
                  replace e7 := eval_spell e7
                  obtain ⟨g, p0, p1, p2, p3, p4, p5, p6, p7, e9, hg, HV, -⟩ := Ff9.out t9
                  have E9 := Lib.hid e9; replace e9 := eval_spell e9
                  obtain ⟨v1, v2, v3⟩ := HV.out
                  refine inv_step rfl (by rfl) (fun K hK => ?_)
                  go_simp
                  refine hK _ _ ?_
                  clear hK K v1 v2 v3
                  have A7 : ((L 7 || decide (7 = 10)) = true → ∃ (g' : Nat), (a'.eval (.tmp 46)) = .slice (some ⟨g', 0, none⟩) 2 2 ∧ W.heap.size ≤ g' ∧ RowKit.Hid (VarIs ((((((((w'.setCell ⟨g, 0, none⟩ (.int .i64 (10 + q % 6))).setCell ⟨g, 1, none⟩ (.string ⟨#[]⟩)).setCell ⟨g, 2, none⟩ (.string ⟨#[]⟩)).setCell ⟨g, 3, none⟩ (.int .i64 0)).setCell ⟨g, 4, none⟩ (.int .i64 0)).setCell ⟨g, 5, none⟩ (.int .i64 0)).setCell ⟨g, 6, none⟩ (.string ⟨#[]⟩)).setCell ⟨g, 7, none⟩ (.slice (some ⟨g_7, 0, none⟩) 2 2)) g' #[.int .i64 E.op, .string E.table, .string E.name, .int .i64 E.index, .int .i64 E.v.kind, .int .i64 E.v.int, .string E.v.text, .slice a n c, .int .i64 1, .string ⟨#[]⟩, .string ⟨#[]⟩, .int .i64 0, .int .i64 1, .int .i64 3, .string ⟨#[]⟩, .slice none 0 0])) := by
                    intro h
                    have h0 : L 7 = true := by simpa using h
                    have hne := (Fg7_9.out h0 t9).symm
                    obtain ⟨g', h1, h2, h3⟩ := Ff7.out h0
                    rw [h1, E9.out] at hne
                    have hne' : g ≠ g' := fun e => hne (by subst e; rfl)
                    exact ⟨g', h1, h2, Lib.hid ((((((((h3.out.setOther hne' 0 _).setOther hne' 1 _).setOther hne' 2 _).setOther hne' 3 _).setOther hne' 4 _).setOther hne' 5 _).setOther hne' 6 _).setOther hne' 7 _)⟩
                  exact ⟨HF, Lib.hid ((((((((HS.out.setCell hg _).setCell hg _).setCell hg _).setCell hg _).setCell hg _).setCell hg _).setCell hg _).setCell hg _), fun h => Ff0.out (by simpa using h), fun h => Ff1.out (by simpa using h), fun h => Ff2.out (by simpa using h), fun h => Ff3.out (by simpa using h), fun h => Ff4.out (by simpa using h), fun h => Ff5.out (by simpa using h), fun h => Ff6.out (by simpa using h), A7, fun h => Ff8.out (by simpa using h), fun _ => ⟨g, _, _, _, _, _, _, _, _, E9.out, hg, Lib.hid (VarIs.store8 HV.out), fun _ => ⟨rfl, rfl, rfl, rfl, rfl, rfl, rfl, E7.out.symm⟩⟩, fun _ => inv_or t9, fun h h' => Fg7_9.out (by simpa using h) (by simpa using h'), fun h => inv_or (Fn8_7.out (by simpa using h)), fun _ => inv_or t7⟩
                | x + 11, ho, hun => simp at ho
              · intro L a' w' hall hI
                obtain ⟨HF, HS, f0, f1, f2, f3, f4, f5, f6, f7, f8, f9, f10, g7_9, n8_7, n10_7⟩ := hI
                have hall : ∀ i, i < 11 → L i = true := hall
                have E0 := f0 (hall 0 (by omega))
                have E1 := f1 (hall 1 (by omega))
                have E2 := f2 (hall 2 (by omega))
                have E3 := f3 (hall 3 (by omega))
                have E4 := f4 (hall 4 (by omega))
                have E5 := f5 (hall 5 (by omega))
                have E6 := f6 (hall 6 (by omega))
                obtain ⟨b7, E7, hg7, HV7⟩ := f7 (hall 7 (by omega))
                have E8 := f8 (hall 8 (by omega))
                obtain ⟨b9, x9_0, x9_1, x9_2, x9_3, x9_4, x9_5, x9_6, x9_7, E9, hg9, HV9, he9⟩ := f9 (hall 9 (by omega))
                obtain ⟨rfl, rfl, rfl, rfl, rfl, rfl, rfl, rfl⟩ := he9 (hall 10 (by omega))
                simp only [E7] at HV9
                rw [E7] at E8
                have HA := HF.eq
                simp only [List.map_cons, List.map_nil, E0, E1, E2, E3, E4, E5, E6, E7, E8, E9] at HA
                have HH := Lib.hid HA
                have N7_9 := Lib.hid (inv_ne E7.symm E9.symm (g7_9 (hall 7 (by omega)) (hall 9 (by omega))))
                clear HA HF f0 f1 f2 f3 f4 f5 f6 f7 f8 f9 f10 g7_9 n8_7 n10_7 E0 E1 E2 E3 E4 E5 E6 E7 E8 E9 he9 hall
                obtain rfl := HH.out
                clear HH
                rw [Hact.out]
                simp only [putL, List.foldl_cons, List.foldl_nil, Act.put, List.setIfInBounds_toArray, List.set_cons_zero, List.set_cons_succ]
                clear Hact r2 r1 Hsz act0
                refine NoPanic.normal ?_
                clear m1 m2 m3 m4 m5 m6 v1 v2
                go_wp2
                go_meet
                exact ⟨b9, b7, rfl, HV9, Lib.hid (args_of_var (E := E) (B := numE 3) (s := .slice a n c) (t := .slice none 0 0) HV7.out rfl (Hs2.out.mono HS.out) .mt), HS⟩
            case rest =>
              obtain ⟨g, g2, rfl, HVC, HA2, HBc⟩ := hcut
              have Hbw3 := Lib.hid (Hbw2.out.trans (HBc.out.mono Hbw2.out.size))
              have Hv4 := Lib.hid (Hv3.out.below HBc.out Hv3.out.lt)
              have Hs3 := Lib.hid (Hs2.out.mono HBc.out)
              have Hr3 := Lib.hid (Hr2.out.mono HBc.out)
              have Ht3 := Lib.hid (Ht2.out.mono HBc.out)
              clear m1 m2 m3 m4 m5 m6 v1 v2 hq0 hq1
              obtain ⟨v1, v2, -⟩ := Hv4.out
              have HV := Lib.hid (fun a' n' c' r' w' h1 h2 => value_calls _ E (Nat.le_refl _) R (.slice a' n' c') r' w' Vl.null h1 h2 Hval.out)
              simp only [Ex.val, Vl.val, Vl.null] at HV
              go_wp2_with fail
              refine (HV.out _ _ _ _ _ Hs3.out Hr3.out).mono ?_
              rintro e w2 ⟨rfl, hb2⟩
              have Hbw4 := Lib.hid (Hbw3.out.trans (hb2.mono Hbw3.out.size))
              have Hv5 := Lib.hid (Hv4.out.below hb2 Hv4.out.lt)
              have HVC2 := Lib.hid (HVC.out.below hb2 HVC.out.lt)
              have HA3 := Lib.hid (HA2.out.mono hb2)
              have Hr4 := Lib.hid (Hr3.out.mono hb2)
              have Ht4 := Lib.hid (Ht3.out.mono hb2)
              clear hb2 v1 v2
              obtain ⟨v1, v2, -⟩ := Hv5.out
              obtain ⟨p1, p2, -⟩ := HVC2.out
              have HCD := Lib.hid (cond_calls _ (.mk (10 + q % 6) ⟨#[]⟩ ⟨#[]⟩ 0 ⟨0, 0, ⟨#[]⟩⟩ [E, numE 3]) (Nat.le_refl _) R _ _ _ _ _ .u HA3.out Hr4.out Ht4.out (cond_null_u q Hval.out))
              simp only [Ex.op, Ex.table, Ex.name, Ex.index, Ex.v, T3.val, T3.num] at HCD
              go_wp2_with fail
              refine HCD.out.mono ?_
              rintro e w3 ⟨rfl, hb3⟩
              have Hbw5 := Lib.hid (Hbw4.out.trans (hb3.mono Hbw4.out.size))
              clear hb3 v1 v2 p1 p2 HCD
              go_wp2
              go_ret
              exact ⟨rfl, Hbw5.out⟩
    · go_wp2_with fail
      refine (awake_later Ht.out _ Hbw.out).mono ?_
      rintro e w1 ⟨rfl, hb1⟩
      have Hb1 := Lib.hid hb1
      clear hb1
      go_wp2
      go_ret
      exact ⟨rfl, Hb1.out⟩
end Go.Proofs.YtgaeabodofabmaaDoor
