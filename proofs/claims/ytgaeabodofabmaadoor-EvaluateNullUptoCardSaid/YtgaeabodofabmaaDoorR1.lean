/- The walks of the reference's Columns and Nulls, and of count: it returns some number. -/
import Derived.Test.YtgaeabodofabmaaDoorA5
import Derived.Test.YtgaeabodofabmaaDoorTyped
import Derived.LoopTactic
import Derived.OwnWalk
import Derived.Lib.Hide
namespace Go.Proofs.YtgaeabodofabmaaDoor
open Go.RowKit

mutual
def Ex.nulls : Ex → Bool
  | .mk op _ _ _ _ args => op == 17 || Ex.nullsL args
def Ex.nullsL : List Ex → Bool
  | [] => false
  | e :: es => Ex.nulls e || Ex.nullsL es
end
theorem nullsL_append (a b : List Ex) : Ex.nullsL (a ++ b) = (Ex.nullsL a || Ex.nullsL b) := by
  induction a with
  | nil => simp [Ex.nullsL]
  | cons x l ih => simp [Ex.nullsL, ih, Bool.or_assoc]

theorem rcolumns_calls (m : Nat) : ∀ E : Ex, SizeOf.sizeOf E ≤ m → ∀ (a : Option Addr) (n c : Nat) (w : World), ArgsAt w E.args (.slice a n c) →
    Calls Tryd.prog 48 #[.agg #[.int .i64 E.op, .string E.table, .string E.name, .int .i64 E.index, .int .i64 E.v.kind, .int .i64 E.v.int, .string E.v.text, .slice a n c]] w fun e w' => e = .returned (.bool (Ex.cols E)) ∧ Below w.heap.size w w' := by
  induction m with
  | zero => intro E h; cases E; simp at h
  | succ m ih =>
    rintro ⟨op, table, name, index, v0, args⟩ hm a n c w hs
    simp only [Ex.args] at hs
    simp only [Ex.op, Ex.table, Ex.name, Ex.index, Ex.v]
    have Hmem : RowKit.Hid (∀ E ∈ args, SizeOf.sizeOf E ≤ m) := by
      intro E hE
      have h1 := List.sizeOf_lt_of_mem hE
      simp at hm
      omega
    obtain ⟨_, _, _, he, hn, hlen⟩ := hs.shape
    cases he
    have Hn := Lib.hid hn
    have Hs := Lib.hid hs
    have Hih := Lib.hid ih
    have Hv := Lib.hid (VarIs.new w #[.int .i64 op, .string table, .string name, .int .i64 index, .int .i64 v0.kind, .int .i64 v0.int, .string v0.text, .slice a n c] 26)
    have Hb0 : RowKit.Hid (∀ o, Below w.heap.size w (w.alloc o)) := fun o => (Below.refl _ _).alloc (Nat.le_refl _) o
    have Hdef : RowKit.Hid (Ex.cols (.mk op table name index v0 args) = (Ex.colsL args || op == 2)) := by
      show _ = _
      simp [Ex.cols, Bool.or_comm]
    clear hs hn ih hm
    go_enter Tryd.func48, Tryd.ntmps48
    go_wp2
    go_loopw [3] (fun i wr => ∃ k : Nat, k ≤ n ∧ i = .int .i64 k ∧ RowKit.Hid (Ex.colsL (args.take k) = false) ∧ RowKit.Hid (Below (w.heap.size + 1) (w.alloc (.cells #[.int .i64 op, .string table, .string name, .int .i64 index, .int .i64 v0.kind, .int .i64 v0.int, .string v0.text, .slice a n c] 26)) wr)) (fun i _ => n - (intOf i).toNat)
    case atStart => exact ⟨0, Nat.zero_le _, rfl, rfl, Below.refl _ _⟩
    case round =>
      obtain ⟨k, hk, rfl, hno, Hb⟩ := hrel
      have Hbw := Lib.hid ((Hb0.out _).trans (Hb.out.mono (Nat.le_succ _)))
      obtain ⟨v1, v2, -⟩ := Hv.out.below Hb.out (Nat.lt_succ_self _)
      by_cases hlt : k < n
      · have hlen : k < args.length := by have := Hn.out; omega
        obtain ⟨b, o, rfl⟩ : ∃ b o, a = some ⟨b, o, none⟩ := by
          have := Hs.out
          cases this with
          | mt => omega
          | lie _ b o => exact ⟨b, o, rfl⟩
        obtain ⟨s', hs', c0, c1, c2, c3, c4, c5, c6, c7⟩ := (Hs.out.mono Hbw.out).cell k hlen
        obtain ⟨sa, sn, sc, rfl, -, -⟩ := hs'.shape
        have Hsz := Lib.hid (Hmem.out _ (List.getElem_mem hlen))
        have Htk := Lib.hid (take_succ_ex args k hlen)
        have Hdrop := Lib.hid (List.take_append_drop (k + 1) args)
        generalize args[k] = E' at *
        go_wp2_with fail
        refine (Hih.out E' Hsz.out _ _ _ _ hs').mono ?_
        rintro e w1 ⟨rfl, hb1⟩
        have Hb1 := Lib.hid (Hb.out.trans (hb1.mono (by have := Hb.out.size; simp at this; omega)))
        have Hc : RowKit.Hid (Ex.colsL (args.take (k + 1)) = Ex.cols E') := by
          show _ = _
          rw [Htk.out, colsL_append, hno.out]
          simp [Ex.colsL]
        clear hb1 c0 c1 c2 c3 c4 c5 c6 c7 v1 v2
        obtain ⟨v1, v2, -⟩ := Hv.out.below Hb1.out (Nat.lt_succ_self _)
        cases hcol : Ex.cols E'
        · rw [hcol] at Hc
          clear hcol
          go_wp2
          go_roundw
          case rel => exact ⟨k + 1, by omega, by go_num, Hc, Hb1⟩
          case measure => simp [intOf]; omega
        · have Hyes : RowKit.Hid (Ex.colsL args = true) := by
            show _ = _
            rw [← Hdrop.out, colsL_append, Hc.out, hcol]
            rfl
          clear hcol
          go_wp2
          go_ret
          exact ⟨by rw [Hdef.out, Hyes.out]; rfl, (Hb0.out _).trans (Hb1.out.mono (Nat.le_succ _))⟩
      · obtain rfl : k = n := by omega
        have Hres : RowKit.Hid (Ex.colsL args = false) := by
          have := hno.out
          rwa [List.take_of_length_le (by have := Hn.out; omega)] at this
        go_wp2
        go_ret
        exact ⟨by rw [Hdef.out, Hres.out]; simp, Hbw.out⟩

theorem nulls_calls (m : Nat) : ∀ E : Ex, SizeOf.sizeOf E ≤ m → ∀ (a : Option Addr) (n c : Nat) (w : World), ArgsAt w E.args (.slice a n c) →
    Calls Tryd.prog 26 #[.agg #[.int .i64 E.op, .string E.table, .string E.name, .int .i64 E.index, .int .i64 E.v.kind, .int .i64 E.v.int, .string E.v.text, .slice a n c]] w fun e w' => e = .returned (.bool (Ex.nulls E)) ∧ Below w.heap.size w w' := by
  induction m with
  | zero => intro E h; cases E; simp at h
  | succ m ih =>
    rintro ⟨op, table, name, index, v0, args⟩ hm a n c w hs
    simp only [Ex.args] at hs
    simp only [Ex.op, Ex.table, Ex.name, Ex.index, Ex.v]
    have Hmem : RowKit.Hid (∀ E ∈ args, SizeOf.sizeOf E ≤ m) := by
      intro E hE
      have h1 := List.sizeOf_lt_of_mem hE
      simp at hm
      omega
    obtain ⟨_, _, _, he, hn, hlen⟩ := hs.shape
    cases he
    have Hn := Lib.hid hn
    have Hs := Lib.hid hs
    have Hih := Lib.hid ih
    have Hv := Lib.hid (VarIs.new w #[.int .i64 op, .string table, .string name, .int .i64 index, .int .i64 v0.kind, .int .i64 v0.int, .string v0.text, .slice a n c] 26)
    have Hb0 : RowKit.Hid (∀ o, Below w.heap.size w (w.alloc o)) := fun o => (Below.refl _ _).alloc (Nat.le_refl _) o
    have Hdef : RowKit.Hid (Ex.nulls (.mk op table name index v0 args) = (Ex.nullsL args || op == 17)) := by
      show _ = _
      simp [Ex.nulls, Bool.or_comm]
    clear hs hn ih hm
    go_enter Tryd.func26, Tryd.ntmps26
    go_wp2
    go_loopw [3] (fun i wr => ∃ k : Nat, k ≤ n ∧ i = .int .i64 k ∧ RowKit.Hid (Ex.nullsL (args.take k) = false) ∧ RowKit.Hid (Below (w.heap.size + 1) (w.alloc (.cells #[.int .i64 op, .string table, .string name, .int .i64 index, .int .i64 v0.kind, .int .i64 v0.int, .string v0.text, .slice a n c] 26)) wr)) (fun i _ => n - (intOf i).toNat)
    case atStart => exact ⟨0, Nat.zero_le _, rfl, rfl, Below.refl _ _⟩
    case round =>
      obtain ⟨k, hk, rfl, hno, Hb⟩ := hrel
      have Hbw := Lib.hid ((Hb0.out _).trans (Hb.out.mono (Nat.le_succ _)))
      obtain ⟨v1, v2, -⟩ := Hv.out.below Hb.out (Nat.lt_succ_self _)
      by_cases hlt : k < n
      · have hlen : k < args.length := by have := Hn.out; omega
        obtain ⟨b, o, rfl⟩ : ∃ b o, a = some ⟨b, o, none⟩ := by
          have := Hs.out
          cases this with
          | mt => omega
          | lie _ b o => exact ⟨b, o, rfl⟩
        obtain ⟨s', hs', c0, c1, c2, c3, c4, c5, c6, c7⟩ := (Hs.out.mono Hbw.out).cell k hlen
        obtain ⟨sa, sn, sc, rfl, -, -⟩ := hs'.shape
        have Hsz := Lib.hid (Hmem.out _ (List.getElem_mem hlen))
        have Htk := Lib.hid (take_succ_ex args k hlen)
        have Hdrop := Lib.hid (List.take_append_drop (k + 1) args)
        generalize args[k] = E' at *
        go_wp2_with fail
        refine (Hih.out E' Hsz.out _ _ _ _ hs').mono ?_
        rintro e w1 ⟨rfl, hb1⟩
        have Hb1 := Lib.hid (Hb.out.trans (hb1.mono (by have := Hb.out.size; simp at this; omega)))
        have Hc : RowKit.Hid (Ex.nullsL (args.take (k + 1)) = Ex.nulls E') := by
          show _ = _
          rw [Htk.out, nullsL_append, hno.out]
          simp [Ex.nullsL]
        clear hb1 c0 c1 c2 c3 c4 c5 c6 c7 v1 v2
        obtain ⟨v1, v2, -⟩ := Hv.out.below Hb1.out (Nat.lt_succ_self _)
        cases hcol : Ex.nulls E'
        · rw [hcol] at Hc
          clear hcol
          go_wp2
          go_roundw
          case rel => exact ⟨k + 1, by omega, by go_num, Hc, Hb1⟩
          case measure => simp [intOf]; omega
        · have Hyes : RowKit.Hid (Ex.nullsL args = true) := by
            show _ = _
            rw [← Hdrop.out, nullsL_append, Hc.out, hcol]
            rfl
          clear hcol
          go_wp2
          go_ret
          exact ⟨by rw [Hdef.out, Hyes.out]; rfl, (Hb0.out _).trans (Hb1.out.mono (Nat.le_succ _))⟩
      · obtain rfl : k = n := by omega
        have Hres : RowKit.Hid (Ex.nullsL args = false) := by
          have := hno.out
          rwa [List.take_of_length_le (by have := Hn.out; omega)] at this
        go_wp2
        go_ret
        exact ⟨by rw [Hdef.out, Hres.out]; simp, Hbw.out⟩
end Go.Proofs.YtgaeabodofabmaaDoor
