/- The walk of the reference's Like: it returns whether the text matches the pattern. -/
import Derived.Test.YtgaeabodofabmaaDoorB2
import Derived.Test.YtgaeabodofabmaaDoorLikeDp
import Derived.Test.YtgaeabodofabmaaDoorLkOps
import Derived.IntWalk
namespace Go.Proofs.YtgaeabodofabmaaDoor
open Go.RowKit

/-- What holds at the head of a round of the outer loop: the row of the first k bytes lies at g. -/
def DpAt (p t : ByteArray) (w : World) (k g : Nat) (wr : World) : Prop := BoolsAt wr g (dpTo p.data.toList t.data.toList k (t.size + 1)) ∧ w.heap.size ≤ g ∧ Below w.heap.size w wr

theorem grown_drew {w w' : World} {row : Option Nat} (h : w.grownBy w' row) : w.grownBy w'.drew row := ⟨h.os, h.tape, h.output, h.size, h.block⟩
theorem BoolsAt.drew {w : World} {g : Nat} {l : List Bool} (h : BoolsAt w g l) : BoolsAt w.drew g l := h

set_option maxHeartbeats 16000000 in
set_option maxRecDepth 20000 in
theorem rlike_calls (t p : ByteArray) (w : World) (ht : t.size ≤ 2000000000000) (hp : p.size ≤ 2000000000000) :
    Calls Tryd.prog 43 #[.string t, .string p] w fun e w' => e = .returned (.bool (likeS t.data.toList p.data.toList)) ∧ Below w.heap.size w w' := by
  have hmk := run_makeBools t.size ht
  have h00 := bl_get (List.replicate (t.size + 1) false) 0 (by simp)
  go_enter Tryd.func43, Tryd.ntmps43
  go_wp2_with fail
  rw [bl_set]
  have hI : DpAt p t w 0 w.heap.size (w.alloc (.cells (bl ((List.replicate (t.size + 1) false).set 0 true)) 4)) := by
    refine ⟨?_, Nat.le_refl _, (Below.refl _ _).alloc (Nat.le_refl _) _⟩
    have := dp_start p.data.toList t.data.toList
    rw [show t.data.toList.length = t.size by simp] at this
    rw [this]
    exact BoolsAt.new _ _
  clear h00
  have HI := Lib.hid hI
  clear hI
  go_loopw [5, 6] (fun s i wr => ∃ k g : Nat, k ≤ p.size ∧ i = .int .i64 k ∧ s = .slice (some ⟨g, 0, none⟩) (t.size + 1) (t.size + 1) ∧ RowKit.Hid (DpAt p t w k g wr)) (fun _ i _ => p.size - (intOf i).toNat)
  case atStart => exact ⟨0, _, Nat.zero_le _, rfl, rfl, HI⟩
  case round =>
    clear HI
    obtain ⟨k, g, hk, rfl, rfl, HI⟩ := hrel
    obtain ⟨wo, rfl⟩ : ∃ wo : World, wo = wr := ⟨_, rfl⟩
    have Hlen : RowKit.Hid (∀ k i, i ≤ t.size + 1 → (dpTo p.data.toList t.data.toList k i).length = t.size + 1) := by
      intro k i hi
      have := length_dpTo p.data.toList t.data.toList k i (by simpa using hi)
      simpa using this
    by_cases hlt : k < p.size
    · go_wp2_with fail
      go_loopw [8] (fun i wi => ∃ j : Nat, j ≤ t.size + 1 ∧ i = .int .i64 j ∧ RowKit.Hid (BoolsAt wi wo.heap.size (dpTo p.data.toList t.data.toList (k + 1) j)) ∧
          RowKit.Hid ((wo.alloc (.cells (bl (List.replicate (t.size + 1) false)) 4)).grownBy wi (some wo.heap.size))) (fun i _ => t.size + 1 - (intOf i).toNat)
      case atStart => exact ⟨0, Nat.zero_le _, rfl, by
        have := dpTo_zero p.data.toList t.data.toList (k + 1)
        rw [show t.data.toList.length = t.size by simp] at this
        show BoolsAt _ _ _
        rw [this]
        exact BoolsAt.new _ _, grown_refl _ _⟩
      case round =>
        obtain ⟨j, hj, rfl, Hbi, Hgi⟩ := hrel
        by_cases hlj : j ≤ t.size
        · have hsz : t.data.toList.length = t.size := by simp
          have hkp : k < p.data.toList.length := by simpa using hlt
          have Hl1 := Lib.hid (Hlen.out k (t.size + 1) (by omega))
          have Hl2 := Lib.hid (Hlen.out (k + 1) j hj)
          have hc0 := Hgi.out.cell (a := ⟨g, j, none⟩) ((World.cell?_alloc_lt _ _ _ HI.out.1.lt).trans (HI.out.1.cell j (by rw [Hl1.out]; omega))) (by have := HI.out.1.lt; simp; omega)
          rw [dpTo_get _ _ _ _ _ (by omega)] at hc0
          have hn := Hbi.out.cell j (by rw [Hl2.out]; omega)
          have hfz := Hbi.out.frozen j
          have Hset : RowKit.Hid (∀ v wi', BoolsAt wi' wo.heap.size (dpTo p.data.toList t.data.toList (k + 1) j) → fitB p.data.toList t.data.toList (k + 1) j = v → BoolsAt (wi'.setCell ⟨wo.heap.size, j, none⟩ (.bool v)) wo.heap.size (dpTo p.data.toList t.data.toList (k + 1) (j + 1))) := by
            intro v wi' h e
            rw [← dpTo_set _ _ _ _ (by omega), e]
            exact h.set j v
          by_cases h37 : ((p[k]'hlt).toNat : Int) = 37
          · have Hf := Lib.hid (fit_star p.data.toList t.data.toList k j hkp (by omega) ((byte_eq p k hlt 37).2 h37))
            have h37' : (((p[k]'hlt).toNat : Int) == 37) = true := by simp [h37]
            clear h37 hsz hkp
            rcases Nat.eq_zero_or_pos j with rfl | h0
            · have Hf' : RowKit.Hid (fitB p.data.toList t.data.toList (k + 1) 0 = fitB p.data.toList t.data.toList k 0) := by show _ = _; rw [Hf.out]; simp
              generalize hx : fitB p.data.toList t.data.toList k 0 = x at *
              clear hx Hf
              cases x
              · go_wp2
                go_roundw
                case rel => exact ⟨1, by omega, rfl, Hset.out _ _ Hbi.out Hf'.out, grown_set Hgi.out _ _⟩
                case measure => simp [intOf]
              · go_wp2
                go_roundw
                case rel => exact ⟨1, by omega, rfl, Hset.out _ _ Hbi.out Hf'.out, grown_set Hgi.out _ _⟩
                case measure => simp [intOf]
            · obtain ⟨i, rfl⟩ : ∃ i, j = i + 1 := ⟨j - 1, by omega⟩
              have hn1 := Hbi.out.cell i (by rw [Hl2.out]; omega)
              rw [dpTo_get _ _ _ _ _ (by omega)] at hn1
              simp only [Nat.add_sub_cancel] at Hf
              generalize hx : fitB p.data.toList t.data.toList k (i + 1) = x at *
              generalize hy : fitB p.data.toList t.data.toList (k + 1) i = y at *
              clear hx hy
              have Hf' : RowKit.Hid (fitB p.data.toList t.data.toList (k + 1) (i + 1) = (x || y)) := by show _ = _; rw [Hf.out]; simp
              clear Hf
              cases x
              · go_wp2
                go_roundw
                case rel => exact ⟨i + 1 + 1, by omega, by go_num, Hset.out _ _ Hbi.out Hf'.out, grown_set Hgi.out _ _⟩
                case measure => simp [intOf]; omega
              · go_wp2
                go_roundw
                case rel => exact ⟨i + 1 + 1, by omega, by go_num, Hset.out _ _ Hbi.out Hf'.out, grown_set Hgi.out _ _⟩
                case measure => simp [intOf]; omega
          · have h37' : (((p[k]'hlt).toNat : Int) == 37) = false := by simp [h37]
            have h37n : p.data.toList.getD k 0 ≠ 37 := fun h => h37 ((byte_eq p k hlt 37).1 h)
            rcases Nat.eq_zero_or_pos j with rfl | h0
            · have Hoff : RowKit.Hid (dpTo p.data.toList t.data.toList (k + 1) 1 = dpTo p.data.toList t.data.toList (k + 1) 0) := dpTo_off _ _ _ _ (by omega) (fit_char0 _ _ k hkp h37n)
              clear h37 h37n hsz hkp
              go_wp2
              go_roundw
              case rel => exact ⟨1, by omega, rfl, by show BoolsAt _ _ _; rw [Hoff.out]; exact Hbi.out, Hgi⟩
              case measure => simp [intOf]
            · obtain ⟨i, rfl⟩ : ∃ i, j = i + 1 := ⟨j - 1, by omega⟩
              have hit : i < t.size := by omega
              have hc1 := Hgi.out.cell (a := ⟨g, i, none⟩) ((World.cell?_alloc_lt _ _ _ HI.out.1.lt).trans (HI.out.1.cell i (by rw [Hl1.out]; omega))) (by have := HI.out.1.lt; simp; omega)
              rw [dpTo_get _ _ _ _ _ (by omega)] at hc1
              have Hf := Lib.hid (fit_char p.data.toList t.data.toList k i hkp (by omega) h37n)
              have hb1 : decide (p.data.toList.getD k 0 = 95) = (((p[k]'hlt).toNat : Int) == 95) := by
                rw [Bool.eq_iff_iff]; simp only [decide_eq_true_eq, beq_iff_eq]; exact byte_eq p k hlt 95
              have hb2 : decide (p.data.toList.getD k 0 = t.data.toList.getD i 0) = (((p[k]'hlt).toNat : Int) == ((t[i]'hit).toNat : Int)) := by
                rw [byte_getD t i hit, Bool.eq_iff_iff]; simp only [decide_eq_true_eq, beq_iff_eq]; exact byte_eq p k hlt _
              rw [hb1, hb2] at Hf
              clear hb1 hb2 h37 h37n hsz hkp hc0
              generalize hx : fitB p.data.toList t.data.toList k i = x at *
              clear hx
              have Hfin : RowKit.Hid (∀ v, fitB p.data.toList t.data.toList (k + 1) (i + 1) = v → Hid (BoolsAt (wr.setCell ⟨wo.heap.size, i + 1, none⟩ (.bool v)) wo.heap.size (dpTo p.data.toList t.data.toList (k + 1) (i + 1 + 1)))) := fun v h => Hset.out _ _ Hbi.out h
              cases x
              · go_wp2_with fail
                have g1 : IntKind.i64.wrap (i : Int) = i := IntWalk.i64_in _ (by omega)
                have g2 : (0 : Int) ≤ i := by omega
                have g3 : (i : Int) < (t.size : Int) + 1 := by omega
                have g4 : ((i : Int) + 1) < (t.size : Int) + 1 := by omega
                have g5 : (0 : Int) ≤ (i : Int) + 1 := by omega
                have g6 : (i : Int) < (t.size : Int) := by omega
                have hgw := HI.out.1.lt
                refine wp_region_ord (S := (fun w' => ∀ o, w'.cell? ⟨g, o, none⟩ = wr.cell? ⟨g, o, none⟩)) lkOrd lkInf (ops' := lkOps) (by kernel_rfl) (by kernel_rfl) lk_noSelect lk_len lk_inf lk_ok (fun _ => rfl) ?_
                unfold lkOrd
                refine ord_yield (v := .slice (some ⟨wo.heap.size, 0, none⟩) (t.size + 1) (t.size + 1)) lk_0 (by rfl) (fun w hSw => by (try dsimp only at hSw); go_simp) ?_
                simp only [Act.put, List.setIfInBounds_toArray, List.set_cons_zero, List.set_cons_succ]
                refine ord_yield (v := .int .i64 ((i : Int) + 1)) lk_1 (by rfl) (fun w hSw => by (try dsimp only at hSw); go_simp) ?_
                simp only [Act.put, List.setIfInBounds_toArray, List.set_cons_zero, List.set_cons_succ]
                refine ord_yield (v := .slice (some ⟨g, 0, none⟩) (t.size + 1) (t.size + 1)) lk_2 (by rfl) (fun w hSw => by (try dsimp only at hSw); go_simp) ?_
                simp only [Act.put, List.setIfInBounds_toArray, List.set_cons_zero, List.set_cons_succ]
                refine ord_yield (v := .int .i64 ((i : Int) + 1)) lk_3 (by rfl) (fun w hSw => by (try dsimp only at hSw); go_simp) ?_
                simp only [Act.put, List.setIfInBounds_toArray, List.set_cons_zero, List.set_cons_succ]
                refine ord_yield (v := .int .i64 (i : Int)) lk_4 (by rfl) (fun w hSw => by (try dsimp only at hSw); go_simp) ?_
                simp only [Act.put, List.setIfInBounds_toArray, List.set_cons_zero, List.set_cons_succ]
                refine ord_yield (v := .pointer (some ⟨g, i, none⟩)) lk_5 (by rfl) (fun w hSw => by (try dsimp only at hSw); go_simp) ?_
                simp only [Act.put, List.setIfInBounds_toArray, List.set_cons_zero, List.set_cons_succ]
                refine ord_yield (v := .bool false) lk_6 (by rfl) (fun w hSw => by (try dsimp only at hSw); go_simp) ?_
                simp only [Act.put, List.setIfInBounds_toArray, List.set_cons_zero, List.set_cons_succ]
                refine ord_yield (v := .bool false) lk_7 (by rfl) (fun w hSw => by (try dsimp only at hSw); go_simp) ?_
                simp only [Act.put, List.setIfInBounds_toArray, List.set_cons_zero, List.set_cons_succ]
                refine ord_skip lk_8 (by rfl) ?_
                simp only [Act.put, List.setIfInBounds_toArray, List.set_cons_zero, List.set_cons_succ]
                refine ord_skip lk_9 (by rfl) ?_
                simp only [Act.put, List.setIfInBounds_toArray, List.set_cons_zero, List.set_cons_succ]
                refine ord_skip lk_10 (by rfl) ?_
                simp only [Act.put, List.setIfInBounds_toArray, List.set_cons_zero, List.set_cons_succ]
                refine ord_skip lk_11 (by rfl) ?_
                simp only [Act.put, List.setIfInBounds_toArray, List.set_cons_zero, List.set_cons_succ]
                refine ord_skip lk_12 (by rfl) ?_
                simp only [Act.put, List.setIfInBounds_toArray, List.set_cons_zero, List.set_cons_succ]
                refine ord_skip lk_13 (by rfl) ?_
                simp only [Act.put, List.setIfInBounds_toArray, List.set_cons_zero, List.set_cons_succ]
                refine ord_skip lk_14 (by rfl) ?_
                simp only [Act.put, List.setIfInBounds_toArray, List.set_cons_zero, List.set_cons_succ]
                refine ord_skip lk_15 (by rfl) ?_
                simp only [Act.put, List.setIfInBounds_toArray, List.set_cons_zero, List.set_cons_succ]
                refine ord_skip lk_16 (by rfl) ?_
                simp only [Act.put, List.setIfInBounds_toArray, List.set_cons_zero, List.set_cons_succ]
                refine ord_skip lk_17 (by rfl) ?_
                simp only [Act.put, List.setIfInBounds_toArray, List.set_cons_zero, List.set_cons_succ]
                refine ord_skip lk_18 (by rfl) ?_
                simp only [Act.put, List.setIfInBounds_toArray, List.set_cons_zero, List.set_cons_succ]
                refine ord_skip lk_19 (by rfl) ?_
                simp only [Act.put, List.setIfInBounds_toArray, List.set_cons_zero, List.set_cons_succ]
                refine ord_skip lk_20 (by rfl) ?_
                simp only [Act.put, List.setIfInBounds_toArray, List.set_cons_zero, List.set_cons_succ]
                refine ord_skip lk_21 (by rfl) ?_
                simp only [Act.put, List.setIfInBounds_toArray, List.set_cons_zero, List.set_cons_succ]
                refine ord_yield (v := .bool false) lk_22 (by rfl) (fun w hSw => by (try dsimp only at hSw); go_simp) ?_
                simp only [Act.put, List.setIfInBounds_toArray, List.set_cons_zero, List.set_cons_succ]
                refine ord_yield (v := .pointer (some ⟨wo.heap.size, i + 1, none⟩)) lk_23 (by rfl) (fun w hSw => by (try dsimp only at hSw); go_simp) ?_
                simp only [Act.put, List.setIfInBounds_toArray, List.set_cons_zero, List.set_cons_succ]
                refine ord_step lk_24 (by rfl) (fun K hK => ?_)
                go_simp
                refine hK _ _ (fun o => (World.cell?_setCell_far _ _ _ _ (by show wo.heap.size ≠ g; omega)).trans rfl) ?_
                clear hK K
                refine NoPanic.normal ?_
                clear g1 g2 g3 g4 g5 g6
                go_wp2
                go_roundw
                case rel => exact ⟨i + 1 + 1, by omega, by go_num, (Hfin.out _ (by rw [Hf.out]; rfl)).drew, grown_drew (grown_set Hgi.out _ _)⟩
                case measure => simp [intOf]; omega
              · cases h5 : (((p[k]'hlt).toNat : Int) == 95)
                · cases h6 : (((p[k]'hlt).toNat : Int) == ((t[i]'hit).toNat : Int))
                  · rw [h5, h6] at Hf
                    go_wp2_with fail
                    have g1 : IntKind.i64.wrap (i : Int) = i := IntWalk.i64_in _ (by omega)
                    have g2 : (0 : Int) ≤ i := by omega
                    have g3 : (i : Int) < (t.size : Int) + 1 := by omega
                    have g4 : ((i : Int) + 1) < (t.size : Int) + 1 := by omega
                    have g5 : (0 : Int) ≤ (i : Int) + 1 := by omega
                    have g6 : (i : Int) < (t.size : Int) := by omega
                    have hgw := HI.out.1.lt
                    refine wp_region_ord (S := (fun w' => ∀ o, w'.cell? ⟨g, o, none⟩ = wr.cell? ⟨g, o, none⟩)) lkOrd lkInf (ops' := lkOps) (by kernel_rfl) (by kernel_rfl) lk_noSelect lk_len lk_inf lk_ok (fun _ => rfl) ?_
                    unfold lkOrd
                    refine ord_yield (v := .slice (some ⟨wo.heap.size, 0, none⟩) (t.size + 1) (t.size + 1)) lk_0 (by rfl) (fun w hSw => by (try dsimp only at hSw); go_simp) ?_
                    simp only [Act.put, List.setIfInBounds_toArray, List.set_cons_zero, List.set_cons_succ]
                    refine ord_yield (v := .int .i64 ((i : Int) + 1)) lk_1 (by rfl) (fun w hSw => by (try dsimp only at hSw); go_simp) ?_
                    simp only [Act.put, List.setIfInBounds_toArray, List.set_cons_zero, List.set_cons_succ]
                    refine ord_yield (v := .slice (some ⟨g, 0, none⟩) (t.size + 1) (t.size + 1)) lk_2 (by rfl) (fun w hSw => by (try dsimp only at hSw); go_simp) ?_
                    simp only [Act.put, List.setIfInBounds_toArray, List.set_cons_zero, List.set_cons_succ]
                    refine ord_yield (v := .int .i64 ((i : Int) + 1)) lk_3 (by rfl) (fun w hSw => by (try dsimp only at hSw); go_simp) ?_
                    simp only [Act.put, List.setIfInBounds_toArray, List.set_cons_zero, List.set_cons_succ]
                    refine ord_yield (v := .int .i64 (i : Int)) lk_4 (by rfl) (fun w hSw => by (try dsimp only at hSw); go_simp) ?_
                    simp only [Act.put, List.setIfInBounds_toArray, List.set_cons_zero, List.set_cons_succ]
                    refine ord_yield (v := .pointer (some ⟨g, i, none⟩)) lk_5 (by rfl) (fun w hSw => by (try dsimp only at hSw); go_simp) ?_
                    simp only [Act.put, List.setIfInBounds_toArray, List.set_cons_zero, List.set_cons_succ]
                    refine ord_yield (v := .bool true) lk_6 (by rfl) (fun w hSw => by (try dsimp only at hSw); go_simp) ?_
                    simp only [Act.put, List.setIfInBounds_toArray, List.set_cons_zero, List.set_cons_succ]
                    refine ord_yield (v := .bool true) lk_7 (by rfl) (fun w hSw => by (try dsimp only at hSw); go_simp) ?_
                    simp only [Act.put, List.setIfInBounds_toArray, List.set_cons_zero, List.set_cons_succ]
                    refine ord_yield (v := .string p) lk_8 (by rfl) (fun w hSw => by (try dsimp only at hSw); go_simp) ?_
                    simp only [Act.put, List.setIfInBounds_toArray, List.set_cons_zero, List.set_cons_succ]
                    refine ord_yield (v := .int .i64 (k : Int)) lk_9 (by rfl) (fun w hSw => by (try dsimp only at hSw); go_simp) ?_
                    simp only [Act.put, List.setIfInBounds_toArray, List.set_cons_zero, List.set_cons_succ]
                    refine ord_yield (v := (.int .u8 ((p[k]'hlt).toNat : Int))) lk_10 (by rfl) (fun w hSw => by (try dsimp only at hSw); go_simp) ?_
                    simp only [Act.put, List.setIfInBounds_toArray, List.set_cons_zero, List.set_cons_succ]
                    refine ord_yield (v := .bool false) lk_11 (by rfl) (fun w hSw => by (try dsimp only at hSw); go_simp) ?_
                    simp only [Act.put, List.setIfInBounds_toArray, List.set_cons_zero, List.set_cons_succ]
                    refine ord_yield (v := .bool false) lk_12 (by rfl) (fun w hSw => by (try dsimp only at hSw); go_simp) ?_
                    simp only [Act.put, List.setIfInBounds_toArray, List.set_cons_zero, List.set_cons_succ]
                    refine ord_yield (v := .string p) lk_13 (by rfl) (fun w hSw => by (try dsimp only at hSw); go_simp) ?_
                    simp only [Act.put, List.setIfInBounds_toArray, List.set_cons_zero, List.set_cons_succ]
                    refine ord_yield (v := .int .i64 (k : Int)) lk_14 (by rfl) (fun w hSw => by (try dsimp only at hSw); go_simp) ?_
                    simp only [Act.put, List.setIfInBounds_toArray, List.set_cons_zero, List.set_cons_succ]
                    refine ord_yield (v := (.int .u8 ((p[k]'hlt).toNat : Int))) lk_15 (by rfl) (fun w hSw => by (try dsimp only at hSw); go_simp) ?_
                    simp only [Act.put, List.setIfInBounds_toArray, List.set_cons_zero, List.set_cons_succ]
                    refine ord_yield (v := .string t) lk_16 (by rfl) (fun w hSw => by (try dsimp only at hSw); go_simp) ?_
                    simp only [Act.put, List.setIfInBounds_toArray, List.set_cons_zero, List.set_cons_succ]
                    refine ord_yield (v := .int .i64 ((i : Int) + 1)) lk_17 (by rfl) (fun w hSw => by (try dsimp only at hSw); go_simp) ?_
                    simp only [Act.put, List.setIfInBounds_toArray, List.set_cons_zero, List.set_cons_succ]
                    refine ord_yield (v := .int .i64 (i : Int)) lk_18 (by rfl) (fun w hSw => by (try dsimp only at hSw); go_simp) ?_
                    simp only [Act.put, List.setIfInBounds_toArray, List.set_cons_zero, List.set_cons_succ]
                    refine ord_yield (v := (.int .u8 ((t[i]'hit).toNat : Int))) lk_19 (by rfl) (fun w hSw => by (try dsimp only at hSw); go_simp) ?_
                    simp only [Act.put, List.setIfInBounds_toArray, List.set_cons_zero, List.set_cons_succ]
                    refine ord_yield (v := .bool false) lk_20 (by rfl) (fun w hSw => by (try dsimp only at hSw); go_simp) ?_
                    simp only [Act.put, List.setIfInBounds_toArray, List.set_cons_zero, List.set_cons_succ]
                    refine ord_yield (v := .bool false) lk_21 (by rfl) (fun w hSw => by (try dsimp only at hSw); go_simp) ?_
                    simp only [Act.put, List.setIfInBounds_toArray, List.set_cons_zero, List.set_cons_succ]
                    refine ord_yield (v := .bool false) lk_22 (by rfl) (fun w hSw => by (try dsimp only at hSw); go_simp) ?_
                    simp only [Act.put, List.setIfInBounds_toArray, List.set_cons_zero, List.set_cons_succ]
                    refine ord_yield (v := .pointer (some ⟨wo.heap.size, i + 1, none⟩)) lk_23 (by rfl) (fun w hSw => by (try dsimp only at hSw); go_simp) ?_
                    simp only [Act.put, List.setIfInBounds_toArray, List.set_cons_zero, List.set_cons_succ]
                    refine ord_step lk_24 (by rfl) (fun K hK => ?_)
                    go_simp
                    refine hK _ _ (fun o => (World.cell?_setCell_far _ _ _ _ (by show wo.heap.size ≠ g; omega)).trans rfl) ?_
                    clear hK K
                    refine NoPanic.normal ?_
                    clear g1 g2 g3 g4 g5 g6
                    go_wp2
                    go_roundw
                    case rel => exact ⟨i + 1 + 1, by omega, by go_num, (Hfin.out _ (by rw [Hf.out]; rfl)).drew, grown_drew (grown_set Hgi.out _ _)⟩
                    case measure => simp [intOf]; omega
                  · rw [h5, h6] at Hf
                    go_wp2_with fail
                    have g1 : IntKind.i64.wrap (i : Int) = i := IntWalk.i64_in _ (by omega)
                    have g2 : (0 : Int) ≤ i := by omega
                    have g3 : (i : Int) < (t.size : Int) + 1 := by omega
                    have g4 : ((i : Int) + 1) < (t.size : Int) + 1 := by omega
                    have g5 : (0 : Int) ≤ (i : Int) + 1 := by omega
                    have g6 : (i : Int) < (t.size : Int) := by omega
                    have hgw := HI.out.1.lt
                    refine wp_region_ord (S := (fun w' => ∀ o, w'.cell? ⟨g, o, none⟩ = wr.cell? ⟨g, o, none⟩)) lkOrd lkInf (ops' := lkOps) (by kernel_rfl) (by kernel_rfl) lk_noSelect lk_len lk_inf lk_ok (fun _ => rfl) ?_
                    unfold lkOrd
                    refine ord_yield (v := .slice (some ⟨wo.heap.size, 0, none⟩) (t.size + 1) (t.size + 1)) lk_0 (by rfl) (fun w hSw => by (try dsimp only at hSw); go_simp) ?_
                    simp only [Act.put, List.setIfInBounds_toArray, List.set_cons_zero, List.set_cons_succ]
                    refine ord_yield (v := .int .i64 ((i : Int) + 1)) lk_1 (by rfl) (fun w hSw => by (try dsimp only at hSw); go_simp) ?_
                    simp only [Act.put, List.setIfInBounds_toArray, List.set_cons_zero, List.set_cons_succ]
                    refine ord_yield (v := .slice (some ⟨g, 0, none⟩) (t.size + 1) (t.size + 1)) lk_2 (by rfl) (fun w hSw => by (try dsimp only at hSw); go_simp) ?_
                    simp only [Act.put, List.setIfInBounds_toArray, List.set_cons_zero, List.set_cons_succ]
                    refine ord_yield (v := .int .i64 ((i : Int) + 1)) lk_3 (by rfl) (fun w hSw => by (try dsimp only at hSw); go_simp) ?_
                    simp only [Act.put, List.setIfInBounds_toArray, List.set_cons_zero, List.set_cons_succ]
                    refine ord_yield (v := .int .i64 (i : Int)) lk_4 (by rfl) (fun w hSw => by (try dsimp only at hSw); go_simp) ?_
                    simp only [Act.put, List.setIfInBounds_toArray, List.set_cons_zero, List.set_cons_succ]
                    refine ord_yield (v := .pointer (some ⟨g, i, none⟩)) lk_5 (by rfl) (fun w hSw => by (try dsimp only at hSw); go_simp) ?_
                    simp only [Act.put, List.setIfInBounds_toArray, List.set_cons_zero, List.set_cons_succ]
                    refine ord_yield (v := .bool true) lk_6 (by rfl) (fun w hSw => by (try dsimp only at hSw); go_simp) ?_
                    simp only [Act.put, List.setIfInBounds_toArray, List.set_cons_zero, List.set_cons_succ]
                    refine ord_yield (v := .bool true) lk_7 (by rfl) (fun w hSw => by (try dsimp only at hSw); go_simp) ?_
                    simp only [Act.put, List.setIfInBounds_toArray, List.set_cons_zero, List.set_cons_succ]
                    refine ord_yield (v := .string p) lk_8 (by rfl) (fun w hSw => by (try dsimp only at hSw); go_simp) ?_
                    simp only [Act.put, List.setIfInBounds_toArray, List.set_cons_zero, List.set_cons_succ]
                    refine ord_yield (v := .int .i64 (k : Int)) lk_9 (by rfl) (fun w hSw => by (try dsimp only at hSw); go_simp) ?_
                    simp only [Act.put, List.setIfInBounds_toArray, List.set_cons_zero, List.set_cons_succ]
                    refine ord_yield (v := (.int .u8 ((p[k]'hlt).toNat : Int))) lk_10 (by rfl) (fun w hSw => by (try dsimp only at hSw); go_simp) ?_
                    simp only [Act.put, List.setIfInBounds_toArray, List.set_cons_zero, List.set_cons_succ]
                    refine ord_yield (v := .bool false) lk_11 (by rfl) (fun w hSw => by (try dsimp only at hSw); go_simp) ?_
                    simp only [Act.put, List.setIfInBounds_toArray, List.set_cons_zero, List.set_cons_succ]
                    refine ord_yield (v := .bool false) lk_12 (by rfl) (fun w hSw => by (try dsimp only at hSw); go_simp) ?_
                    simp only [Act.put, List.setIfInBounds_toArray, List.set_cons_zero, List.set_cons_succ]
                    refine ord_yield (v := .string p) lk_13 (by rfl) (fun w hSw => by (try dsimp only at hSw); go_simp) ?_
                    simp only [Act.put, List.setIfInBounds_toArray, List.set_cons_zero, List.set_cons_succ]
                    refine ord_yield (v := .int .i64 (k : Int)) lk_14 (by rfl) (fun w hSw => by (try dsimp only at hSw); go_simp) ?_
                    simp only [Act.put, List.setIfInBounds_toArray, List.set_cons_zero, List.set_cons_succ]
                    refine ord_yield (v := (.int .u8 ((p[k]'hlt).toNat : Int))) lk_15 (by rfl) (fun w hSw => by (try dsimp only at hSw); go_simp) ?_
                    simp only [Act.put, List.setIfInBounds_toArray, List.set_cons_zero, List.set_cons_succ]
                    refine ord_yield (v := .string t) lk_16 (by rfl) (fun w hSw => by (try dsimp only at hSw); go_simp) ?_
                    simp only [Act.put, List.setIfInBounds_toArray, List.set_cons_zero, List.set_cons_succ]
                    refine ord_yield (v := .int .i64 ((i : Int) + 1)) lk_17 (by rfl) (fun w hSw => by (try dsimp only at hSw); go_simp) ?_
                    simp only [Act.put, List.setIfInBounds_toArray, List.set_cons_zero, List.set_cons_succ]
                    refine ord_yield (v := .int .i64 (i : Int)) lk_18 (by rfl) (fun w hSw => by (try dsimp only at hSw); go_simp) ?_
                    simp only [Act.put, List.setIfInBounds_toArray, List.set_cons_zero, List.set_cons_succ]
                    refine ord_yield (v := (.int .u8 ((t[i]'hit).toNat : Int))) lk_19 (by rfl) (fun w hSw => by (try dsimp only at hSw); go_simp) ?_
                    simp only [Act.put, List.setIfInBounds_toArray, List.set_cons_zero, List.set_cons_succ]
                    refine ord_yield (v := .bool true) lk_20 (by rfl) (fun w hSw => by (try dsimp only at hSw); go_simp) ?_
                    simp only [Act.put, List.setIfInBounds_toArray, List.set_cons_zero, List.set_cons_succ]
                    refine ord_yield (v := .bool true) lk_21 (by rfl) (fun w hSw => by (try dsimp only at hSw); go_simp) ?_
                    simp only [Act.put, List.setIfInBounds_toArray, List.set_cons_zero, List.set_cons_succ]
                    refine ord_yield (v := .bool true) lk_22 (by rfl) (fun w hSw => by (try dsimp only at hSw); go_simp) ?_
                    simp only [Act.put, List.setIfInBounds_toArray, List.set_cons_zero, List.set_cons_succ]
                    refine ord_yield (v := .pointer (some ⟨wo.heap.size, i + 1, none⟩)) lk_23 (by rfl) (fun w hSw => by (try dsimp only at hSw); go_simp) ?_
                    simp only [Act.put, List.setIfInBounds_toArray, List.set_cons_zero, List.set_cons_succ]
                    refine ord_step lk_24 (by rfl) (fun K hK => ?_)
                    go_simp
                    refine hK _ _ (fun o => (World.cell?_setCell_far _ _ _ _ (by show wo.heap.size ≠ g; omega)).trans rfl) ?_
                    clear hK K
                    refine NoPanic.normal ?_
                    clear g1 g2 g3 g4 g5 g6
                    go_wp2
                    go_roundw
                    case rel => exact ⟨i + 1 + 1, by omega, by go_num, (Hfin.out _ (by rw [Hf.out]; rfl)).drew, grown_drew (grown_set Hgi.out _ _)⟩
                    case measure => simp [intOf]; omega
                · rw [h5] at Hf
                  go_wp2_with fail
                  have g1 : IntKind.i64.wrap (i : Int) = i := IntWalk.i64_in _ (by omega)
                  have g2 : (0 : Int) ≤ i := by omega
                  have g3 : (i : Int) < (t.size : Int) + 1 := by omega
                  have g4 : ((i : Int) + 1) < (t.size : Int) + 1 := by omega
                  have g5 : (0 : Int) ≤ (i : Int) + 1 := by omega
                  have g6 : (i : Int) < (t.size : Int) := by omega
                  have hgw := HI.out.1.lt
                  refine wp_region_ord (S := (fun w' => ∀ o, w'.cell? ⟨g, o, none⟩ = wr.cell? ⟨g, o, none⟩)) lkOrd lkInf (ops' := lkOps) (by kernel_rfl) (by kernel_rfl) lk_noSelect lk_len lk_inf lk_ok (fun _ => rfl) ?_
                  unfold lkOrd
                  refine ord_yield (v := .slice (some ⟨wo.heap.size, 0, none⟩) (t.size + 1) (t.size + 1)) lk_0 (by rfl) (fun w hSw => by (try dsimp only at hSw); go_simp) ?_
                  simp only [Act.put, List.setIfInBounds_toArray, List.set_cons_zero, List.set_cons_succ]
                  refine ord_yield (v := .int .i64 ((i : Int) + 1)) lk_1 (by rfl) (fun w hSw => by (try dsimp only at hSw); go_simp) ?_
                  simp only [Act.put, List.setIfInBounds_toArray, List.set_cons_zero, List.set_cons_succ]
                  refine ord_yield (v := .slice (some ⟨g, 0, none⟩) (t.size + 1) (t.size + 1)) lk_2 (by rfl) (fun w hSw => by (try dsimp only at hSw); go_simp) ?_
                  simp only [Act.put, List.setIfInBounds_toArray, List.set_cons_zero, List.set_cons_succ]
                  refine ord_yield (v := .int .i64 ((i : Int) + 1)) lk_3 (by rfl) (fun w hSw => by (try dsimp only at hSw); go_simp) ?_
                  simp only [Act.put, List.setIfInBounds_toArray, List.set_cons_zero, List.set_cons_succ]
                  refine ord_yield (v := .int .i64 (i : Int)) lk_4 (by rfl) (fun w hSw => by (try dsimp only at hSw); go_simp) ?_
                  simp only [Act.put, List.setIfInBounds_toArray, List.set_cons_zero, List.set_cons_succ]
                  refine ord_yield (v := .pointer (some ⟨g, i, none⟩)) lk_5 (by rfl) (fun w hSw => by (try dsimp only at hSw); go_simp) ?_
                  simp only [Act.put, List.setIfInBounds_toArray, List.set_cons_zero, List.set_cons_succ]
                  refine ord_yield (v := .bool true) lk_6 (by rfl) (fun w hSw => by (try dsimp only at hSw); go_simp) ?_
                  simp only [Act.put, List.setIfInBounds_toArray, List.set_cons_zero, List.set_cons_succ]
                  refine ord_yield (v := .bool true) lk_7 (by rfl) (fun w hSw => by (try dsimp only at hSw); go_simp) ?_
                  simp only [Act.put, List.setIfInBounds_toArray, List.set_cons_zero, List.set_cons_succ]
                  refine ord_yield (v := .string p) lk_8 (by rfl) (fun w hSw => by (try dsimp only at hSw); go_simp) ?_
                  simp only [Act.put, List.setIfInBounds_toArray, List.set_cons_zero, List.set_cons_succ]
                  refine ord_yield (v := .int .i64 (k : Int)) lk_9 (by rfl) (fun w hSw => by (try dsimp only at hSw); go_simp) ?_
                  simp only [Act.put, List.setIfInBounds_toArray, List.set_cons_zero, List.set_cons_succ]
                  refine ord_yield (v := (.int .u8 ((p[k]'hlt).toNat : Int))) lk_10 (by rfl) (fun w hSw => by (try dsimp only at hSw); go_simp) ?_
                  simp only [Act.put, List.setIfInBounds_toArray, List.set_cons_zero, List.set_cons_succ]
                  refine ord_yield (v := .bool true) lk_11 (by rfl) (fun w hSw => by (try dsimp only at hSw); go_simp) ?_
                  simp only [Act.put, List.setIfInBounds_toArray, List.set_cons_zero, List.set_cons_succ]
                  refine ord_yield (v := .bool true) lk_12 (by rfl) (fun w hSw => by (try dsimp only at hSw); go_simp) ?_
                  simp only [Act.put, List.setIfInBounds_toArray, List.set_cons_zero, List.set_cons_succ]
                  refine ord_skip lk_13 (by rfl) ?_
                  simp only [Act.put, List.setIfInBounds_toArray, List.set_cons_zero, List.set_cons_succ]
                  refine ord_skip lk_14 (by rfl) ?_
                  simp only [Act.put, List.setIfInBounds_toArray, List.set_cons_zero, List.set_cons_succ]
                  refine ord_skip lk_15 (by rfl) ?_
                  simp only [Act.put, List.setIfInBounds_toArray, List.set_cons_zero, List.set_cons_succ]
                  refine ord_skip lk_16 (by rfl) ?_
                  simp only [Act.put, List.setIfInBounds_toArray, List.set_cons_zero, List.set_cons_succ]
                  refine ord_skip lk_17 (by rfl) ?_
                  simp only [Act.put, List.setIfInBounds_toArray, List.set_cons_zero, List.set_cons_succ]
                  refine ord_skip lk_18 (by rfl) ?_
                  simp only [Act.put, List.setIfInBounds_toArray, List.set_cons_zero, List.set_cons_succ]
                  refine ord_skip lk_19 (by rfl) ?_
                  simp only [Act.put, List.setIfInBounds_toArray, List.set_cons_zero, List.set_cons_succ]
                  refine ord_skip lk_20 (by rfl) ?_
                  simp only [Act.put, List.setIfInBounds_toArray, List.set_cons_zero, List.set_cons_succ]
                  refine ord_yield (v := .bool true) lk_21 (by rfl) (fun w hSw => by (try dsimp only at hSw); go_simp) ?_
                  simp only [Act.put, List.setIfInBounds_toArray, List.set_cons_zero, List.set_cons_succ]
                  refine ord_yield (v := .bool true) lk_22 (by rfl) (fun w hSw => by (try dsimp only at hSw); go_simp) ?_
                  simp only [Act.put, List.setIfInBounds_toArray, List.set_cons_zero, List.set_cons_succ]
                  refine ord_yield (v := .pointer (some ⟨wo.heap.size, i + 1, none⟩)) lk_23 (by rfl) (fun w hSw => by (try dsimp only at hSw); go_simp) ?_
                  simp only [Act.put, List.setIfInBounds_toArray, List.set_cons_zero, List.set_cons_succ]
                  refine ord_step lk_24 (by rfl) (fun K hK => ?_)
                  go_simp
                  refine hK _ _ (fun o => (World.cell?_setCell_far _ _ _ _ (by show wo.heap.size ≠ g; omega)).trans rfl) ?_
                  clear hK K
                  refine NoPanic.normal ?_
                  clear g1 g2 g3 g4 g5 g6
                  go_wp2
                  go_roundw
                  case rel => exact ⟨i + 1 + 1, by omega, by go_num, (Hfin.out _ (by rw [Hf.out]; rfl)).drew, grown_drew (grown_set Hgi.out _ _)⟩
                  case measure => simp [intOf]; omega
        · obtain rfl : j = t.size + 1 := by omega
          have HD : RowKit.Hid (DpAt p t w (k + 1) wo.heap.size wr) := by
            refine ⟨Hbi.out, HI.out.2.2.size, ?_⟩
            exact (HI.out.2.2.alloc HI.out.2.2.size _).grown Hgi.out (by have := HI.out.2.2.size; simp; omega) (fun k hk => by injection hk with hk; have := HI.out.2.2.size; omega)
          clear Hbi Hgi HI
          go_wp2
          go_roundw
          case rel => exact ⟨k + 1, _, by omega, by go_num, rfl, HD⟩
          case measure => simp [intOf]; omega
    · obtain rfl : k = p.size := by omega
      have hc := HI.out.1.cell t.size (by rw [Hlen.out _ _ (Nat.le_refl _)]; omega)
      rw [dpTo_get _ _ _ _ _ (by omega)] at hc
      have He := Lib.hid (dp_end p.data.toList t.data.toList)
      rw [show p.data.toList.length = p.size by simp, show t.data.toList.length = t.size by simp] at He
      rw [He.out] at hc
      clear He
      go_wp2
      go_ret
      exact ⟨rfl, HI.out.2.2⟩
end Go.Proofs.YtgaeabodofabmaaDoor
