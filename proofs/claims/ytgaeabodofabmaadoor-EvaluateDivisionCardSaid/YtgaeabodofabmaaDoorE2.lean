/- The walk of EvaluateDivision: it returns true. -/
import Derived.Test.YtgaeabodofabmaaDoorD1
namespace Go.Proofs.YtgaeabodofabmaaDoor
open Go.RowKit

theorem vals_one {w : World} {g : Nat} {A : Vl} (hg : w.heap[g]? = some (.cells A.cells.toArray 23 (0, 0))) : ValsAt w [A] (.slice (some ⟨g, 0, none⟩) 1 1) := by
  refine .lie [A] g 0 1 1 rfl (Array.getElem?_eq_some_iff.1 hg).1 (by unfold maxLen; omega) ?_
  intro i hi j hj
  rw [cell_of_row w g _ _ 23 (0, 0) hg]
  match i, hi with
  | 0, _ => match j, hj with
    | 0, _ | 1, _ | 2, _ => rfl

theorem wrap_id (x : Int) (h1 : -9223372036854775808 ≤ x) (h2 : x ≤ 9223372036854775807) : wrap64 x = x := IntWalk.wrap64_in x ⟨h1, h2⟩
/-- The quotient and the remainder as the code computes them, for a number of 32 bits and a divisor from 1 to 1000. -/
theorem div_facts (n b : Int) (h1 : -2147483648 ≤ n) (h2 : n ≤ 2147483647) (h3 : 1 ≤ b) (h4 : b ≤ 1000) :
    wrap64 (wrap64 (floorS n b * b) + wrap64 (n - wrap64 (b * floorS n b))) = n ∧ 0 ≤ wrap64 (n - wrap64 (b * floorS n b)) ∧ wrap64 (n - wrap64 (b * floorS n b)) < b := by
  have hq : (-2147483648 : Int) ≤ n.tdiv b ∧ n.tdiv b ≤ 2147483648 := by
    rcases Int.le_total 0 n with h | h
    · have e1 := Int.tdiv_nonneg h (by omega : 0 ≤ b)
      have e2 := Int.tdiv_le_self (a := n) b h
      omega
    · have e1 : 0 ≤ (-n).tdiv b := Int.tdiv_nonneg (by omega) (by omega)
      have e2 : (-n).tdiv b ≤ -n := Int.tdiv_le_self b (by omega)
      rw [Int.neg_tdiv] at e1 e2
      omega
  have hm := Int.mul_tdiv_add_tmod n b
  have hr : n.tmod b < b ∧ -b < n.tmod b := by
    constructor
    · exact Int.tmod_lt_of_pos n (by omega)
    · have := Int.tmod_lt_of_pos (-n) (by omega : 0 < b)
      rw [Int.neg_tmod] at this
      omega
  unfold floorS
  generalize n.tdiv b = q at *
  generalize n.tmod b = r at *
  rw [wrap_id q (by omega) (by omega)]
  split
  · rw [wrap_id (q - 1) (by omega) (by omega)]
    have e : b * (q - 1) = b * q - b := by rw [Int.mul_sub, Int.mul_one]
    have e' : (q - 1) * b = b * q - b := by rw [Int.mul_comm, e]
    rw [e, e']
    generalize b * q = p at *
    rw [wrap_id (p - b) (by omega) (by omega), wrap_id (n - (p - b)) (by omega) (by omega), wrap_id _ (by omega) (by omega)]
    omega
  · have e' : q * b = b * q := Int.mul_comm q b
    rw [e']
    generalize b * q = p at *
    rw [wrap_id p (by omega) (by omega), wrap_id (n - p) (by omega) (by omega), wrap_id _ (by omega) (by omega)]
    omega

def divE (op b : Int) : Ex := nodE op [colE 0, numE b]
theorem divE_7 (n b : Int) (hb : 0 < b) : Ex.value [⟨1, n, ⟨#[]⟩⟩] (divE 7 b) = some ⟨1, floorS n b, ⟨#[]⟩⟩ := by
  have : ¬ b ≤ 0 := by omega
  simp [divE, nodE, colE, numE, Ex.value, Ex.values, computeS, this]
theorem divE_8 (n b : Int) (hb : 0 < b) : Ex.value [⟨1, n, ⟨#[]⟩⟩] (divE 8 b) = some ⟨1, wrap64 (n - wrap64 (b * floorS n b)), ⟨#[]⟩⟩ := by
  have : ¬ b ≤ 0 := by omega
  simp [divE, nodE, colE, numE, Ex.value, Ex.values, computeS, this]
theorem dv_v (op : Int) (q : Int) (n b : Int) (h : Ex.value [⟨1, n, ⟨#[]⟩⟩] (divE op b) = some ⟨1, q, ⟨#[]⟩⟩) (a : Option Addr) (k c : Nat) (r : Value) (w : World) (hs : ArgsAt w [colE 0, numE b] (.slice a k c)) (hr : ValsAt w [⟨1, n, ⟨#[]⟩⟩] r) :
    Calls Tryd.prog 13 #[.agg #[.int .i64 op, .string ⟨#[]⟩, .string ⟨#[]⟩, .int .i64 0, .int .i64 0, .int .i64 0, .string ⟨#[]⟩, .slice a k c], r] w fun e w' => e = .returned (.agg #[.int .i64 1, .int .i64 q, .string ⟨#[]⟩]) ∧ Below w.heap.size w w' :=
  value_calls _ (divE op b) (Nat.le_refl _) [⟨1, n, ⟨#[]⟩⟩] _ r w ⟨1, q, ⟨#[]⟩⟩ hs hr h

set_option maxHeartbeats 1000000 in
theorem division_yes (n b : Int) (w : World) (ht : Tab w) (h1 : -2147483648 ≤ n) (h2 : n ≤ 2147483647) (h3 : 1 ≤ b) (h4 : b ≤ 1000) : Calls Tryd.prog 10 #[.int .i32 n, .int .u16 b] w fun e w' => e = .returned (.bool true) ∧ Below w.heap.size w w' := by
  have Ha := Lib.hid (awake_calls w ht)
  have HF := Lib.hid (div_facts n b h1 h2 h3 h4)
  have H7 := Lib.hid (dv_v 7 _ n b (divE_7 n b (by omega)))
  have H8 := Lib.hid (dv_v 8 _ n b (divE_8 n b (by omega)))
  generalize floorS n b = q at *
  clear ht
  go_enter Tryd.func10, Tryd.ntmps10
  go_wp2_with fail
  refine Ha.out.mono ?_
  rintro e w0 ⟨rfl, hb0⟩
  have Bw := Lib.hid hb0
  clear hb0 Ha
  replace Bw : RowKit.Hid (Bel w w0) := Bw
  go_wp2_with fail
  refine (aw_int _ _).mono ?_
  rintro e w1 ⟨rfl, hb⟩
  replace Bw := Lib.hid (Bw.out.mono hb)
  clear hb
  have R0 := Lib.hid (vals_one (heap_alloc_new w1 (.cells (Vl.cells ⟨1, n, ⟨#[]⟩⟩).toArray 23)))
  go_wp2_with fail
  refine (column_calls _ _).mono ?_
  rintro e a1 ⟨rfl, hb⟩
  have R := Lib.hid (R0.out.mono hb)
  clear R0
  replace hb := below_a hb
  replace Bw := Lib.hid (Bw.out.mono hb)
  clear hb
  simp only [Ex.val, Ex.op, Ex.table, Ex.name, Ex.index, Ex.v]
  go_wp2_with fail
  refine (aw_num _ _).mono ?_
  rintro e a2 ⟨rfl, hb⟩
  replace Bw := Lib.hid (Bw.out.mono hb)
  replace R := Lib.hid (R.out.mono hb)
  clear hb
  have A0 := Lib.hid (args_two (A := colE 0) (B := numE b) (s := nilS) (t := nilS) (heap_alloc_new a2 (.cells ((colE 0).cells nilS ++ (numE b).cells nilS).toArray 26)) .mt .mt)
  go_wp2_with fail
  refine (aw_node 7 _ _ _ _).mono ?_
  rintro e a3 ⟨rfl, hb⟩
  have A1 := Lib.hid (A0.out.mono hb)
  clear A0
  replace hb := below_a hb
  replace Bw := Lib.hid (Bw.out.mono hb)
  replace R := Lib.hid (R.out.mono hb)
  clear hb
  go_wp2_with fail
  refine (H7.out _ _ _ _ _ A1.out R.out).mono ?_
  rintro e a4 ⟨rfl, hb⟩
  clear A1
  replace Bw := Lib.hid (Bw.out.mono hb)
  replace R := Lib.hid (R.out.mono hb)
  clear hb
  have Qv0 := Lib.hid (VarIs.new a4 #[.int .i64 1, .int .i64 q, .string ⟨#[]⟩] 23)
  go_wp2_with fail
  refine (column_calls _ _).mono ?_
  rintro e c1 ⟨rfl, hb⟩
  have Qv := Lib.hid (Qv0.out.mono hb)
  clear Qv0
  replace hb := below_a hb
  replace R := Lib.hid (R.out.mono hb)
  replace Bw := Lib.hid (Bw.out.mono hb)
  clear hb
  obtain ⟨q1, q2, -⟩ := Qv.out
  simp only [Ex.val, Ex.op, Ex.table, Ex.name, Ex.index, Ex.v]
  go_wp2_with fail
  refine (aw_num _ _).mono ?_
  rintro e c2 ⟨rfl, hb⟩
  clear q1 q2
  replace Qv := Lib.hid (Qv.out.mono hb)
  replace Bw := Lib.hid (Bw.out.mono hb)
  replace R := Lib.hid (R.out.mono hb)
  clear hb
  have A0 := Lib.hid (args_two (A := colE 0) (B := numE b) (s := nilS) (t := nilS) (heap_alloc_new c2 (.cells ((colE 0).cells nilS ++ (numE b).cells nilS).toArray 26)) .mt .mt)
  obtain ⟨q1, q2, -⟩ := Qv.out
  go_wp2_with fail
  refine (aw_node 8 _ _ _ _).mono ?_
  rintro e c3 ⟨rfl, hb⟩
  have A1 := Lib.hid (A0.out.mono hb)
  clear A0
  replace hb := below_a hb
  clear q1 q2
  replace Qv := Lib.hid (Qv.out.mono hb)
  replace Bw := Lib.hid (Bw.out.mono hb)
  replace R := Lib.hid (R.out.mono hb)
  clear hb
  obtain ⟨q1, q2, -⟩ := Qv.out
  go_wp2_with fail
  refine (H8.out _ _ _ _ _ A1.out R.out).mono ?_
  rintro e c4 ⟨rfl, hb⟩
  clear A1
  clear q1 q2
  replace Qv := Lib.hid (Qv.out.mono hb)
  replace Bw := Lib.hid (Bw.out.mono hb)
  replace R := Lib.hid (R.out.mono hb)
  clear hb
  obtain ⟨q1, q2, -⟩ := Qv.out
  obtain ⟨f1, f2, f3⟩ := HF.out
  generalize hm : wrap64 (n - wrap64 (b * q)) = m at *
  clear hm H7 H8 HF
  have g1 : (wrap64 (wrap64 (q * b) + m) == n) = true := by simp [f1]
  have Hb5 : RowKit.Hid (∀ o, Below w.heap.size w (c4.alloc o)) := fun o => Below.alloc Bw.out (Below.size Bw.out) o
  clear f1
  go_wp2
  go_ret
  exact ⟨by simp, Hb5.out _⟩

theorem division_no (n b : Int) (w : World) (ht : Tab w) (h : b < 1 ∨ 1000 < b) (h0 : 0 ≤ b) (h5 : b ≤ 65535) : Calls Tryd.prog 10 #[.int .i32 n, .int .u16 b] w fun e w' => e = .returned (.bool true) ∧ Below w.heap.size w w' := by
  have Ht := Lib.hid ht
  clear ht
  have Fin : RowKit.Hid (∀ w1, Below w.heap.size w w1 → Calls Tryd.prog 11 #[] w1 fun e w' => e = .returned (.bool true) ∧ Below w.heap.size w w') := fun w1 hb =>
    (awake_calls w1 (Ht.out.mono hb)).mono fun e w' ⟨he, hb'⟩ => ⟨he, hb.trans (hb'.mono hb.size)⟩
  rcases h with h | h
  · go_enter Tryd.func10, Tryd.ntmps10
    go_wp2_with fail
    refine (Fin.out w (Below.refl _ _)).mono ?_
    rintro e w1 ⟨rfl, hb1⟩
    have Hb1 := Lib.hid hb1
    clear hb1
    go_wp2_with fail
    refine (Fin.out _ Hb1.out).mono ?_
    rintro e w2 ⟨rfl, hb2⟩
    go_wp2
    go_ret
    exact ⟨rfl, hb2⟩
  · go_enter Tryd.func10, Tryd.ntmps10
    go_wp2_with fail
    refine (Fin.out w (Below.refl _ _)).mono ?_
    rintro e w1 ⟨rfl, hb1⟩
    have Hb1 := Lib.hid hb1
    clear hb1
    go_wp2_with fail
    refine (Fin.out _ Hb1.out).mono ?_
    rintro e w2 ⟨rfl, hb2⟩
    go_wp2
    go_ret
    exact ⟨rfl, hb2⟩
theorem division_calls (n b : Int) (w : World) (ht : Tab w) (h1 : -2147483648 ≤ n) (h2 : n ≤ 2147483647) (h0 : 0 ≤ b) (h5 : b ≤ 65535) : Calls Tryd.prog 10 #[.int .i32 n, .int .u16 b] w fun e w' => e = .returned (.bool true) ∧ Below w.heap.size w w' := by
  by_cases h : b < 1 ∨ 1000 < b
  · exact division_no n b w ht h h0 h5
  · exact division_yes n b w ht h1 h2 (by omega) (by omega)
end Go.Proofs.YtgaeabodofabmaaDoor
