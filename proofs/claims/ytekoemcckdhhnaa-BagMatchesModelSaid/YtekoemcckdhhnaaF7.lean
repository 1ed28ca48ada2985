/- The bag's Rows. -/
import Derived.Test.YtekoemcckdhhnaaF6
import Derived.Test.YtekoemcckdhhnaaF1
namespace Go.Proofs.Ytekoemcckdhhnaa
open Go.RowKit

theorem rowsB_append (b c : List Ent) : rowsB (b ++ c) = rowsB b ++ rowsB c := by simp [rowsB]
/-- A block of another type stays where a list of rows grows. -/
theorem block_grown {w w' : World} {B : Nat} {L : List Rw} {v : Value} {k : Nat} {cur : Array Value} {t : TypeId} (h : w.heap[k]? = some (.cells cur t (0, 0))) (ht : t ≠ 33) (hv : RowsNew w B L v) (hg : w.grownBy w' v.ownBlock) : w'.heap[k]? = some (.cells cur t (0, 0)) := by
  refine (hg.block k (Array.getElem?_eq_some_iff.1 h).1 fun e => ?_).trans h
  obtain ⟨xs, ⟨_, ⟨rfl, _⟩ | ⟨g, cap, cur', rfl, _, hg', _⟩⟩, _⟩ := hv
  · simp [Value.ownBlock] at e
  · simp only [Value.ownBlock, Option.some.injEq] at e
    rw [e, hg'] at h
    injection h with h
    injection h with _ h
    exact ht h.symm

set_option maxHeartbeats 4000000 in
set_option maxRecDepth 20000 in
theorem brows_calls (B pb : Nat) (s : Value) (b : List Ent) (w : World) (hb : BagAt w B pb s b) (hlen : (rowsB b).length < 1099511627776) (hR : ∀ e ∈ b, e.1.length < 1099511627776) :
    Calls Try.prog 16 #[.pointer (some ⟨pb, 0, none⟩)] w fun e w' => ∃ v, e = .returned v ∧ RowsNew w' w.heap.size (rowsB b) v ∧ Below w.heap.size w w' := by
  have hs := hb.ents
  obtain ⟨a, n, c, rfl, hn, hm⟩ := hs.shape
  obtain ⟨c0, c1⟩ := hb.cell
  have hlt := hb.lt
  have Hs := Lib.hid hs
  have Hn := Lib.hid hn
  have HR := Lib.hid hR
  have Hlen := Lib.hid hlen
  have Hwf := Lib.hid hb.wf
  unfold maxLen at hm
  clear hs hn hR hb hlen c1
  go_enter Try.func16, Try.ntmps16
  go_wp2
  go_loopw [3, 11] (fun v i wr => ∃ (k : Nat), k ≤ n ∧ i = .int .i64 k ∧ RowKit.Hid (RowsNew wr w.heap.size (rowsB (b.take k)) v) ∧ RowKit.Hid (Below w.heap.size w wr)) (fun _ i _ => n - (intOf i).toNat)
  case atStart => exact ⟨0, Nat.zero_le _, rfl, RowsNew.nil _ _, Below.refl _ _⟩
  case round =>
    obtain ⟨k, hk, rfl, Ho, Hb⟩ := hrel
    obtain ⟨am, cm, rfl⟩ := Ho.out.own.shape
    generalize hnm : (rowsB (b.take k)).length = nm at *
    have Hnm := Lib.hid hnm
    clear hnm
    by_cases hlt' : k < n
    · obtain ⟨W, rfl⟩ : ∃ W : World, W = wr := ⟨_, rfl⟩
      have hk1 : k < b.length := by have := Hn.out; omega
      obtain ⟨g, o, rfl⟩ := Hs.out.has k hlt'
      obtain ⟨ax, nx, cx, Hcell⟩ := Hs.out.entry k hk1
      have Htk : RowKit.Hid (rowsB (b.take (k + 1)) = rowsB (b.take k) ++ List.replicate b[k].2 b[k].1) := by
        show _ = _
        rw [List.take_add_one, List.getElem?_eq_getElem hk1, rowsB_append]
        simp [rowsB]
      have Hle : RowKit.Hid (nm + b[k].2 < 1099511627776) := by
        show _ < _
        have h1 := Hlen.out
        have h2 : rowsB b = rowsB (b.take (k + 1)) ++ rowsB (b.drop (k + 1)) := by
          have : b = b.take (k + 1) ++ b.drop (k + 1) := (List.take_append_drop _ _).symm
          conv => lhs; rw [this]
          simp only [rowsB, List.flatMap_append]
        rw [h2, Htk.out, List.length_append, List.length_append, List.length_replicate, Hnm.out] at h1
        omega
      obtain ⟨d0, d1, hx, hbl⟩ := Hcell.out _ Hb.out
      have HXl := Lib.hid (HR.out b[k] (List.getElem_mem hk1))
      have Hx := Lib.hid hx
      have Hbs := Lib.hid Hb.out.size
      generalize b[k].1 = X at *
      generalize b[k].2 = N at *
      have i1 : (0 : Int) ≤ k := by omega
      have i2 : (k : Int) < n := by omega
      have Hblk : RowKit.Hid ((W.alloc (.cells #[.slice ax nx cx, .int .i64 N] 57)).heap[W.heap.size]? = some (.cells #[.slice ax nx cx, .int .i64 N] 57 (0, 0))) := heap_alloc_new W _
      have Ho1 := Lib.hid (Ho.out.alloc (.cells #[.slice ax nx cx, .int .i64 N] 57))
      have Hb1 : RowKit.Hid (Below w.heap.size w (W.alloc (.cells #[.slice ax nx cx, .int .i64 N] 57))) := Hb.out.alloc Hbs.out _
      have hN : (N : Int) < 1099511627776 := by have := Hle.out; omega
      clear hk1 hx
      go_wp2
      go_loopw [3, 17] (fun v i wx => ∃ (j : Nat), j ≤ N ∧ i = .int .i64 j ∧ RowKit.Hid (RowsNew wx w.heap.size (rowsB (b.take k) ++ List.replicate j X) v) ∧ RowKit.Hid (Below w.heap.size w wx) ∧ RowKit.Hid (wx.heap[W.heap.size]? = some (.cells #[.slice ax nx cx, .int .i64 N] 57 (0, 0)))) (fun _ i _ => N - (intOf i).toNat)
      case atStart => exact ⟨0, Nat.zero_le _, rfl, by show RowsNew _ _ _ _; simpa using Ho1.out, Hb1, Hblk⟩
      case round =>
        obtain ⟨j, hj, rfl, Ho2, Hb2, Hv⟩ := hrel
        obtain ⟨a2, cm2, rfl⟩ := Ho2.out.own.shape
        generalize hnm2 : (rowsB (b.take k) ++ List.replicate j X).length = nm2 at *
        have Hnm2 := Lib.hid hnm2
        clear hnm2
        by_cases hjN : j < N
        · have v0 := cell_of_row wr W.heap.size 0 _ 57 (0, 0) Hv.out
          have v1 := cell_of_row wr W.heap.size 1 _ 57 (0, 0) Hv.out
          have vlt := (Array.getElem?_eq_some_iff.1 Hv.out).1
          simp only [List.getElem?_toArray, List.getElem?_cons_zero, List.getElem?_cons_succ] at v0 v1
          have HC := Lib.hid (clone_calls X _ wr (Hcell.out _ Hb2.out).2.2.1 HXl.out)
          have Hrep : RowKit.Hid (rowsB (b.take k) ++ List.replicate (j + 1) X = (rowsB (b.take k) ++ List.replicate j X) ++ [X]) := by show _ = _; rw [List.replicate_succ', List.append_assoc]
          have Hl1 : RowKit.Hid ((rowsB (b.take k) ++ List.replicate j X).length + 1 ≤ 1099511627776) := by
            show _ ≤ _
            rw [List.length_append, List.length_replicate, Hnm.out]; have := Hle.out; omega
          have Hbs2 := Lib.hid Hb2.out.size
          go_wp2_with fail
          (with_reducible refine HC.out.mono ?_)
          rintro e w1 ⟨cv, rfl, hcv, hb1⟩
          have Hcv := Lib.hid (hcv.base Hbs2.out)
          have Ho4 := Lib.hid (Ho2.out.mono hb1)
          have Hb4 := Lib.hid (Hb2.out.trans (hb1.mono Hbs2.out))
          have Hbs4 := Lib.hid Hb4.out.size
          have Hv4 : RowKit.Hid (w1.heap[W.heap.size]? = some (.cells #[.slice ax nx cx, .int .i64 N] 57 (0, 0))) := (hb1.block _ vlt).trans Hv.out
          clear hcv hb1 v0 v1 vlt HC
          obtain ⟨ac, nc, cc, rfl, p1, p2⟩ := Hcv.out.vals.shape
          clear p1 p2
          go_wp2_with (at_builtin; go_loud (refine wpList_rowN rfl _ _ rfl w.heap.size (rowsB (b.take k) ++ List.replicate j X) X _ rfl (Ho4.out.alloc _) _ _ (.slice ac nc cc) rfl (by simp) (Hcv.out.alloc _) Hl1.out ?d2 ?_))
          case d2 => have := Hbs4.out; simp; omega
          intro v2 w2 ho2 hb2 hg2
          have Ho5 : RowKit.Hid (RowsNew w2 w.heap.size (rowsB (b.take k) ++ List.replicate (j + 1) X) v2) := by show RowsNew _ _ _ _; rw [Hrep.out, List.append_assoc]; exact ho2
          have Hb5 : RowKit.Hid (Below w.heap.size w w2) := (Hb4.out.alloc Hbs4.out _).trans hb2
          have Hv5 : RowKit.Hid (w2.heap[W.heap.size]? = some (.cells #[.slice ax nx cx, .int .i64 N] 57 (0, 0))) := by
            refine block_grown ?_ (by decide) (Ho4.out.alloc _) hg2
            rw [Below.heap_alloc _ _ _ (Array.getElem?_eq_some_iff.1 Hv4.out).1]
            exact Hv4.out
          clear ho2 hb2 hg2
          go_wp2
          go_roundw
          case rel => exact ⟨j + 1, by omega, by go_num, Ho5, Hb5, Hv5⟩
          case measure => simp [intOf]; omega
        · obtain rfl : j = N := by omega
          have Ho3 : RowKit.Hid (RowsNew wr w.heap.size (rowsB (b.take (k + 1))) (.slice a2 nm2 cm2)) := by show RowsNew _ _ _ _; rw [Htk.out]; exact Ho2.out
          go_wp2
          go_roundw
          case rel => exact ⟨k + 1, by omega, by go_num, Ho3, Hb2⟩
          case measure => simp [intOf]; omega
    · obtain rfl : k = n := by omega
      go_wp2
      go_ret
      have e : b.take k = b := List.take_of_length_le (by have := Hn.out; omega)
      rw [e] at Ho
      exact ⟨_, rfl, Ho.out, Hb.out⟩
end Go.Proofs.Ytekoemcckdhhnaa
