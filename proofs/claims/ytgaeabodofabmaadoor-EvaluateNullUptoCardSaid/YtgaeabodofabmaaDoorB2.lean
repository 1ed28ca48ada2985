import Derived.Test.YtgaeabodofabmaaDoorB1
import Derived.OwnWalk
import Derived.Deep.OwnRows
namespace Go.Proofs.YtgaeabodofabmaaDoor
open Go.RowKit

theorem Tryd.info4' : (Tryd.prog.info? 4).map (fun i => (i.zero, i.size, i.bytes)) = some (some (.bool false), 1, 1) := by kernel_rfl
theorem run_makeBools (n : Nat) (hn : n ≤ 2000000000000) (W : World) : (Instr.makeSlice 70 (.int .i64 ((n : Int) + 1)) (.int .i64 ((n : Int) + 1))).run Tryd.prog W = .ok (.slice (some ⟨W.heap.size, 0, none⟩) (n + 1) (n + 1)) (W.alloc (.cells (bl (List.replicate (n + 1) false)) 4)) := by
  rw [← bl_made]
  exact run_make_row' (P := Tryd.prog) 70 4 (.bool false) 1 Tryd.underlying70 Tryd.info4' rfl .i64 .i64 (n + 1) (by omega) (by omega) W

/-- What holds at the head of the k-th round of Like's outer loop. -/
structure LikeInv (p t : ByteArray) (w : World) (k g : Nat) (wr : World) : Prop where
  hp : wr.cell? ⟨w.heap.size, 0, none⟩ = some (.string p)
  hr : wr.cell? ⟨w.heap.size + 1 + 1, 0, none⟩ = some (.slice (some ⟨g, 0, none⟩) (p.size + 1) (p.size + 1))
  hf : wr.frozen? ⟨w.heap.size + 1 + 1, 0, none⟩ = false
  hb : BoolsAt wr g (statesTo p.data.toList t.data.toList k)
  hg : w.heap.size < g
  hg2 : g ≠ w.heap.size + 1 + 1
  below : Below w.heap.size w wr
  size : w.heap.size + 1 + 1 < wr.heap.size

set_option maxHeartbeats 1000000 in
theorem like_calls (t p : ByteArray) (w : World) (ht : t.size ≤ 2000000000000) (hp : p.size ≤ 2000000000000) :
    Calls Tryd.prog 22 #[.string t, .string p] w fun e w' => e = .returned (.bool (likeS t.data.toList p.data.toList)) ∧ Below w.heap.size w w' := by
  have hmk := run_makeBools p.size hp
  have h00 := bl_get (List.replicate (p.size + 1) false) 0 (by simp)
  have hmf : ∀ (fn : Fn) (first cap : Array Value) (w : World), (Instr.makeFunc fn first cap).run Tryd.prog w = .ok (.func fn first cap) w := fun _ _ _ _ => rfl
  go_enter Tryd.func22, Tryd.ntmps22
  go_wp2_with fail
  rw [bl_set]
  refine (skip_calls p w.heap.size (w.heap.size + 1 + 1) (w.heap.size + 1) ((List.replicate (p.size + 1) false).set 0 true) _ ?h1 ?h2 ?hb (by simp) (by omega) (by omega) hp).mono ?_
  case h1 => go_simp
  case h2 => go_simp
  case hb =>
    show (((w.heap.push _).push _).push _)[w.heap.size + 1]? = _
    simp only [Array.getElem?_push, Array.size_push]
    rw [if_neg (by omega), if_pos trivial]
  rintro e w1 ⟨rfl, hb1, hg1⟩
  have hin : LikeInv p t w 0 (w.heap.size + 1) w1 := by
    have hsz := hg1.size
    simp only [World.size_alloc] at hsz
    refine ⟨hg1.cell (by go_simp) (by simp), hg1.cell (by go_simp) (by simp), ?_, ?_, by omega, by omega, ?_, by omega⟩
    · rw [World.frozen?_of_block (hg1.block (w.heap.size + 1 + 1) (by simp) (by simp))]; go_simp
    · have := hb1; rw [show p.size + 1 = p.data.toList.length + 1 by simp] at this; exact this
    · exact ((((Below.refl w.heap.size w).alloc (Nat.le_refl _) _).alloc (by simp) _).alloc (by simp; omega) _).grown hg1 (by simp; omega) (fun k hk => by injection hk with hk; omega)
  clear hb1 hg1 h00
  go_wp2_with fail
  go_loopw [21] (fun i wr => ∃ k g : Nat, k ≤ t.size ∧ i = .int .i64 k ∧ LikeInv p t w k g wr) (fun i _ => t.size - (intOf i).toNat)
  case atStart => exact ⟨0, _, Nat.zero_le _, rfl, hin⟩
  case round =>
    obtain ⟨k, g, hk, rfl, hI⟩ := hrel
    obtain ⟨wo, rfl⟩ : ∃ wo : World, wo = wr := ⟨_, rfl⟩
    have hpc := hI.hp
    have hrc := hI.hr
    have hs2 := hI.size
    have hs0 : w.heap.size < wo.heap.size := by omega
    have hgl := hI.hb.lt
    by_cases hlt : k < t.size
    · go_wp2_with fail
      have hBn : BoolsAt (wo.alloc (.cells (bl (List.replicate (p.size + 1) false)) 4)) wo.heap.size (nextTo p.data.toList t[k] (statesTo p.data.toList t.data.toList k) 0) := BoolsAt.new _ _
      go_loopw [30] (fun i wi => ∃ j : Nat, j ≤ p.size ∧ i = .int .i64 j ∧ BoolsAt wi wo.heap.size (nextTo p.data.toList t[k] (statesTo p.data.toList t.data.toList k) j) ∧
          (wo.alloc (.cells (bl (List.replicate (p.size + 1) false)) 4)).grownBy wi (some wo.heap.size)) (fun i _ => p.size - (intOf i).toNat)
      case atStart => exact ⟨0, Nat.zero_le _, rfl, hBn, grown_refl _ _⟩
      case round =>
        clear hBn
        obtain ⟨j, hj, rfl, hbi, hgi⟩ := hrel
        have hpi := hgi.cell (a := ⟨w.heap.size, 0, none⟩) ((World.cell?_alloc_lt _ _ _ hs0).trans hpc) (by simp; omega)
        have hri := hgi.cell (a := ⟨w.heap.size + 1 + 1, 0, none⟩) ((World.cell?_alloc_lt _ _ _ hs2).trans hrc) (by simp; omega)
        by_cases hlj : j < p.size
        · have hcs := hgi.cell (a := ⟨g, j, none⟩) ((World.cell?_alloc_lt _ _ _ hgl).trans (hI.hb.cell j (by rw [length_statesTo]; simp; omega))) (by simp; omega)
          have hn0 := hbi.cell j (by rw [length_nextTo]; simp; omega)
          have hn1 := hbi.cell (j + 1) (by rw [length_nextTo]; simp; omega)
          have hf0 := hbi.frozen j
          have hf1 := hbi.frozen (j + 1)
          go_wp2
          · go_round
            case rel => exact ⟨j + 1, by omega, by go_num, by rw [next_off ‹_›]; exact hbi, hgi⟩
            case measure => simp [intOf]; omega
          · go_round
            case rel => exact ⟨j + 1, by omega, by go_num, by rw [next_any hlj ‹_› ‹_›]; exact hbi.set _ _, grown_set hgi _ _⟩
            case measure => simp [intOf]; omega
          · go_round
            case rel => exact ⟨j + 1, by omega, by go_num, by rw [next_one hlj ‹_› ‹_› ‹_›]; exact hbi.set _ _, grown_set hgi _ _⟩
            case measure => simp [intOf]; omega
          · go_round
            case rel => exact ⟨j + 1, by omega, by go_num, by rw [next_same hlj ‹_› ‹_› ‹_›]; exact hbi.set _ _, grown_set hgi _ _⟩
            case measure => simp [intOf]; omega
          · go_round
            case rel => exact ⟨j + 1, by omega, by go_num, by rw [next_none hlj ‹_› ‹_› ‹_›]; exact hbi, hgi⟩
            case measure => simp [intOf]; omega
        · obtain rfl : j = p.size := by omega
          have hs3 := hgi.size
          simp only [World.size_alloc] at hs3
          have hfi : wr.frozen? ⟨w.heap.size + 1 + 1, 0, none⟩ = false := by
            rw [World.frozen?_of_block (hgi.block (w.heap.size + 1 + 1) (by simp; omega) (by simp; omega)), World.frozen?_alloc_old _ _ _ (by show w.heap.size + 1 + 1 ≠ _; omega)]
            exact hI.hf
          have hz1 : w.heap.size + 1 + 1 < wr.heap.size := by omega
          go_wp2_with fail
          refine (skip_calls p w.heap.size (w.heap.size + 1 + 1) wo.heap.size (nextTo p.data.toList t[k] (statesTo p.data.toList t.data.toList k) p.size) _ ?h1 ?h2 ?hb (by rw [length_nextTo]; simp) (by omega) (by omega) hp).mono ?_
          case h1 => go_simp
          case h2 => go_simp
          case hb => exact (Below.heap_setCell _ _ _ _ (by show wo.heap.size ≠ w.heap.size + 1 + 1; omega)).trans hbi
          rintro e w2 ⟨rfl, hb2, hg2⟩
          have hnew : LikeInv p t w (k + 1) wo.heap.size w2 := by
            have hsz2 := hg2.size
            simp only [World.size_setCell] at hsz2
            refine ⟨hg2.cell (by go_simp) (by simp; omega), hg2.cell (by go_simp) (by simp; omega), ?_, ?_, by omega, by omega, ?_, by omega⟩
            · rw [World.frozen?_of_block (hg2.block (w.heap.size + 1 + 1) (by simp; omega) (by simp; omega))]
              go_simp
            · have := hb2
              rw [statesTo]
              rw [byte_getD t k hlt]
              simpa using this
            · exact (((hI.below.alloc (by omega) _).grown hgi (by simp; omega) (fun k hk => by injection hk with hk; omega)).setCell (by show w.heap.size ≤ w.heap.size + 1 + 1; omega) _).grown hg2 (by simp; omega) (fun k hk => by injection hk with hk; omega)
          clear hb2 hg2 hbi hgi hI
          go_wp2
          go_round
          case rel => exact ⟨k + 1, _, by omega, by go_num, hnew⟩
          case measure => simp [intOf]; omega
    · obtain rfl : k = t.size := by omega
      have hpn := hI.hb.cell p.size (by rw [length_statesTo]; simp)
      have hbe := hI.below
      have Hfin : RowKit.Hid (likeS t.data.toList p.data.toList = (statesTo p.data.toList t.data.toList t.size)[p.size]?.getD false) := by
        show _ = _
        unfold likeS
        simp [List.getD]
      go_wp2
      go_ret
      exact ⟨by rw [Hfin.out]; rfl, hbe⟩
end Go.Proofs.YtgaeabodofabmaaDoor
