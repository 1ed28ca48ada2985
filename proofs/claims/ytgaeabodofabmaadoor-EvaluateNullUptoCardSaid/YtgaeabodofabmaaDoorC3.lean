import Derived.Test.YtgaeabodofabmaaDoorC2
import Derived.Test.YtgaeabodofabmaaDoorA3
import Derived.Test.YtgaeabodofabmaaDoorB2
import Derived.Deep.RegionHeld3
namespace Go.Proofs.YtgaeabodofabmaaDoor
open Go.RowKit

/-- The contract of Condition at E. -/
def CondAt (E : Ex) : Prop := ∀ (R : List Vl) (a : Option Addr) (n c : Nat) (r : Value) (w : World) (x : T3), ArgsAt w E.args (.slice a n c) → ValsAt w R r → Tab w → Ex.cond R E = some x →
    Calls Tryd.prog 15 #[.agg #[.int .i64 E.op, .string E.table, .string E.name, .int .i64 E.index, .int .i64 E.v.kind, .int .i64 E.v.int, .string E.v.text, .slice a n c], r] w fun e w' => e = .returned x.val ∧ Below w.heap.size w w'

theorem cond_and (op : Int) (table name : ByteArray) (index : Int) (v0 : Vl) (A B : Ex) (l : List Ex) (hA : CondAt A) (hB : CondAt B) (hop : op = 18) (R : List Vl) (a : Option Addr) (n c : Nat) (r : Value) (w : World) (x y : T3)
    (hs : ArgsAt w (A :: B :: l) (.slice a n c)) (hr : ValsAt w R r) (ht : Tab w) (hx : Ex.cond R A = some x) (hy : Ex.cond R B = some y) :
    Calls Tryd.prog 15 #[.agg #[.int .i64 op, .string table, .string name, .int .i64 index, .int .i64 v0.kind, .int .i64 v0.int, .string v0.text, .slice a n c], r] w fun e w' => e = .returned (x.and y).val ∧ Below w.heap.size w w' := by
  subst hop
  obtain ⟨b, o, rfl, hlt, hn⟩ : ∃ b o, a = some ⟨b, o, none⟩ ∧ b < w.heap.size ∧ 2 ≤ n := by
    cases hs with
    | lie _ b o _ _ _ hn hlt => exact ⟨b, o, rfl, hlt, by simp at hn; omega⟩
  have hb0 : Below w.heap.size w (w.alloc (.cells #[.int .i64 18, .string table, .string name, .int .i64 index, .int .i64 v0.kind, .int .i64 v0.int, .string v0.text, .slice (some ⟨b, o, none⟩) n c] 26)) := (Below.refl _ _).alloc (Nat.le_refl _) _
  have hv := VarIs.new w #[.int .i64 18, .string table, .string name, .int .i64 index, .int .i64 v0.kind, .int .i64 v0.int, .string v0.text, .slice (some ⟨b, o, none⟩) n c] 26
  go_enter Tryd.func15, Tryd.ntmps15
  go_wp2
  generalize w.alloc (.cells #[.int .i64 18, .string table, .string name, .int .i64 index, .int .i64 v0.kind, .int .i64 v0.int, .string v0.text, .slice (some ⟨b, o, none⟩) n c] 26) = W at *
  have hs := hs.mono hb0
  have hlt : b < W.heap.size := Nat.lt_of_lt_of_le hlt hb0.size
  obtain ⟨s0, hs0, c0, c1, c2, c3, c4, c5, c6, c7⟩ := hs.cell 0 (by simp)
  obtain ⟨s1, hs1, d0, d1, d2, d3, d4, d5, d6, d7⟩ := hs.cell 1 (by simp)
  simp only [List.getElem_cons_zero, List.getElem_cons_succ, Nat.zero_mul, Nat.add_zero, Nat.one_mul] at c0 c1 c2 c3 c4 c5 c6 c7 d0 d1 d2 d3 d4 d5 d6 d7 hs0 hs1
  obtain ⟨a0, n0, e0, rfl, -, -⟩ := hs0.shape
  obtain ⟨a1, n1, e1, rfl, -, -⟩ := hs1.shape
  have HA := Lib.hid (fun w' h1 h2 h3 => hA R a0 n0 e0 r w' x h1 h2 h3 hx)
  have HB := Lib.hid (fun w' h1 h2 h3 => hB R a1 n1 e1 r w' y h1 h2 h3 hy)
  have hr := hr.mono hb0
  have ht := ht.mono hb0
  have Hb0 := Lib.hid hb0
  clear hA hB hs hx hy hb0
  obtain ⟨v1, v2, -⟩ := hv
  have k0 : (0 : Int) < (n : Int) := by omega
  have k1 : (1 : Int) < (n : Int) := by omega
  have k2 : 0 < n := by omega
  have k3 : 1 < n := by omega
  go_region_held3 (fun w' => Below W.heap.size W w' ∧ ∀ b o, b < W.heap.size → w'.cell? ⟨b, o, none⟩ = W.cell? ⟨b, o, none⟩)
    (first | assumption | exact S_of (Below.drew (Below.refl _ _)) | exact S_step (by assumption) (by assumption))
    (first
      | (go_at_call 15; (with_reducible refine (HA.out _ (hs0.keep ‹_›) (hr.keep ‹_›) (ht.mono (And.left ‹_›))).mono ?_); rintro e w1 ⟨rfl, hb1⟩)
      | (go_at_call 15; (with_reducible refine (HB.out _ (hs1.keep ‹_›) (hr.keep ‹_›) (ht.mono (And.left ‹_›))).mono ?_); rintro e w1 ⟨rfl, hb1⟩)
      | (go_at_call 33; (with_reducible refine (and_calls _ _ _ (ht.mono (And.left ‹_›))).mono ?_); rintro e w1 ⟨rfl, rfl⟩))
  go_wp2
  go_ret
  exact ⟨rfl, Hb0.out.trans (Below.mono (And.left (by assumption)) Hb0.out.size)⟩
theorem cond_or (op : Int) (table name : ByteArray) (index : Int) (v0 : Vl) (A B : Ex) (l : List Ex) (hA : CondAt A) (hB : CondAt B) (hop : op = 19) (R : List Vl) (a : Option Addr) (n c : Nat) (r : Value) (w : World) (x y : T3)
    (hs : ArgsAt w (A :: B :: l) (.slice a n c)) (hr : ValsAt w R r) (ht : Tab w) (hx : Ex.cond R A = some x) (hy : Ex.cond R B = some y) :
    Calls Tryd.prog 15 #[.agg #[.int .i64 op, .string table, .string name, .int .i64 index, .int .i64 v0.kind, .int .i64 v0.int, .string v0.text, .slice a n c], r] w fun e w' => e = .returned (x.or y).val ∧ Below w.heap.size w w' := by
  subst hop
  obtain ⟨b, o, rfl, hlt, hn⟩ : ∃ b o, a = some ⟨b, o, none⟩ ∧ b < w.heap.size ∧ 2 ≤ n := by
    cases hs with
    | lie _ b o _ _ _ hn hlt => exact ⟨b, o, rfl, hlt, by simp at hn; omega⟩
  have hb0 : Below w.heap.size w (w.alloc (.cells #[.int .i64 19, .string table, .string name, .int .i64 index, .int .i64 v0.kind, .int .i64 v0.int, .string v0.text, .slice (some ⟨b, o, none⟩) n c] 26)) := (Below.refl _ _).alloc (Nat.le_refl _) _
  have hv := VarIs.new w #[.int .i64 19, .string table, .string name, .int .i64 index, .int .i64 v0.kind, .int .i64 v0.int, .string v0.text, .slice (some ⟨b, o, none⟩) n c] 26
  go_enter Tryd.func15, Tryd.ntmps15
  go_wp2
  generalize w.alloc (.cells #[.int .i64 19, .string table, .string name, .int .i64 index, .int .i64 v0.kind, .int .i64 v0.int, .string v0.text, .slice (some ⟨b, o, none⟩) n c] 26) = W at *
  have hs := hs.mono hb0
  have hlt : b < W.heap.size := Nat.lt_of_lt_of_le hlt hb0.size
  obtain ⟨s0, hs0, c0, c1, c2, c3, c4, c5, c6, c7⟩ := hs.cell 0 (by simp)
  obtain ⟨s1, hs1, d0, d1, d2, d3, d4, d5, d6, d7⟩ := hs.cell 1 (by simp)
  simp only [List.getElem_cons_zero, List.getElem_cons_succ, Nat.zero_mul, Nat.add_zero, Nat.one_mul] at c0 c1 c2 c3 c4 c5 c6 c7 d0 d1 d2 d3 d4 d5 d6 d7 hs0 hs1
  obtain ⟨a0, n0, e0, rfl, -, -⟩ := hs0.shape
  obtain ⟨a1, n1, e1, rfl, -, -⟩ := hs1.shape
  have HA := Lib.hid (fun w' h1 h2 h3 => hA R a0 n0 e0 r w' x h1 h2 h3 hx)
  have HB := Lib.hid (fun w' h1 h2 h3 => hB R a1 n1 e1 r w' y h1 h2 h3 hy)
  have hr := hr.mono hb0
  have ht := ht.mono hb0
  have Hb0 := Lib.hid hb0
  clear hA hB hs hx hy hb0
  obtain ⟨v1, v2, -⟩ := hv
  have k0 : (0 : Int) < (n : Int) := by omega
  have k1 : (1 : Int) < (n : Int) := by omega
  have k2 : 0 < n := by omega
  have k3 : 1 < n := by omega
  go_region_held3 (fun w' => Below W.heap.size W w' ∧ ∀ b o, b < W.heap.size → w'.cell? ⟨b, o, none⟩ = W.cell? ⟨b, o, none⟩)
    (first | assumption | exact S_of (Below.drew (Below.refl _ _)) | exact S_step (by assumption) (by assumption))
    (first
      | (go_at_call 15; (with_reducible refine (HA.out _ (hs0.keep ‹_›) (hr.keep ‹_›) (ht.mono (And.left ‹_›))).mono ?_); rintro e w1 ⟨rfl, hb1⟩)
      | (go_at_call 15; (with_reducible refine (HB.out _ (hs1.keep ‹_›) (hr.keep ‹_›) (ht.mono (And.left ‹_›))).mono ?_); rintro e w1 ⟨rfl, hb1⟩)
      | (go_at_call 34; (with_reducible refine (or_calls _ _ _ (ht.mono (And.left ‹_›))).mono ?_); rintro e w1 ⟨rfl, rfl⟩))
  go_wp2
  go_ret
  exact ⟨rfl, Hb0.out.trans (Below.mono (And.left (by assumption)) Hb0.out.size)⟩
theorem cond_not (op : Int) (table name : ByteArray) (index : Int) (v0 : Vl) (A : Ex) (l : List Ex) (hA : CondAt A) (hop : op = 20) (R : List Vl) (a : Option Addr) (n c : Nat) (r : Value) (w : World) (x : T3)
    (hs : ArgsAt w (A :: l) (.slice a n c)) (hr : ValsAt w R r) (ht : Tab w) (hx : Ex.cond R A = some x) :
    Calls Tryd.prog 15 #[.agg #[.int .i64 op, .string table, .string name, .int .i64 index, .int .i64 v0.kind, .int .i64 v0.int, .string v0.text, .slice a n c], r] w fun e w' => e = .returned x.not.val ∧ Below w.heap.size w w' := by
  subst hop
  obtain ⟨b, o, rfl, hlt, hn⟩ : ∃ b o, a = some ⟨b, o, none⟩ ∧ b < w.heap.size ∧ 1 ≤ n := by
    cases hs with
    | lie _ b o _ _ _ hn hlt => exact ⟨b, o, rfl, hlt, by simp at hn; omega⟩
  have hb0 : Below w.heap.size w (w.alloc (.cells #[.int .i64 20, .string table, .string name, .int .i64 index, .int .i64 v0.kind, .int .i64 v0.int, .string v0.text, .slice (some ⟨b, o, none⟩) n c] 26)) := (Below.refl _ _).alloc (Nat.le_refl _) _
  have hv := VarIs.new w #[.int .i64 20, .string table, .string name, .int .i64 index, .int .i64 v0.kind, .int .i64 v0.int, .string v0.text, .slice (some ⟨b, o, none⟩) n c] 26
  go_enter Tryd.func15, Tryd.ntmps15
  obtain ⟨s0, hs0, c0, c1, c2, c3, c4, c5, c6, c7⟩ := hs.cell 0 (by simp)
  simp only [List.getElem_cons_zero, Nat.zero_mul, Nat.add_zero] at c0 c1 c2 c3 c4 c5 c6 c7 hs0
  obtain ⟨a0, n0, e0, rfl, -, -⟩ := hs0.shape
  have HA := Lib.hid (fun w' h1 h2 h3 => hA R a0 n0 e0 r w' x h1 h2 h3 hx)
  have Hb0 := Lib.hid hb0
  have Hv := Lib.hid hv
  clear hA hs hx hb0 hv
  go_wp2_with fail
  refine (HA.out _ (hs0.mono Hb0.out) (hr.mono Hb0.out) (ht.mono Hb0.out)).mono ?_
  rintro e w1 ⟨rfl, hb1⟩
  have hbw := Hb0.out.trans (hb1.mono Hb0.out.size)
  clear hb1
  go_wp2_with fail
  refine (not_calls _ _ (ht.mono hbw)).mono ?_
  rintro e w2 ⟨rfl, rfl⟩
  go_wp2
  go_ret
  exact ⟨rfl, hbw⟩

end Go.Proofs.YtgaeabodofabmaaDoor
