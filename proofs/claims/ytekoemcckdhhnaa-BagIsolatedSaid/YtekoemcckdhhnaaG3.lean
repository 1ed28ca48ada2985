/- slices.Delete at entries: one entry less. -/
import Derived.Test.YtekoemcckdhhnaaG1
namespace Go.Proofs.Ytekoemcckdhhnaa
open Go.RowKit
section
variable {P : Program}
/-- append in place, as a step of a region that draws. -/
theorem step_append_row {w : World} {ops : Array Oper} {o : Oper} {a : Act} {K : Act → World → Prop} {Q : Exit → Act → World → Prop} {E : Prop} (hgd : o.guard = none) (s x : Operand) (t : TypeId)
    (ho : o.op = .call { callee := .builtin .append, args := #[s, x], argTypes := #[t, t] }) (e : TypeId) (i : TypeInfo) (size : Nat) (ht : P.underlying t = some (.slice e)) (hi : P.info? e = some i) (hsize : i.size = size)
    (g n cap : Nat) (hs : a.eval s = .slice (some ⟨g, 0, none⟩) n cap) (cur : List Value) (hg : w.heap[g]? = some (.cells cur.toArray e (0, 0)))
    (ad : Addr) (m c : Nat) (news : List Value) (hx : a.eval x = .slice (some ad) m c) (hl : news.length = m * size) (hnews : ∀ j u, news[j]? = some u → w.cell? (ad.add j) = some u) (h1 : ∀ u ∈ news, u.oneCell' = true)
    (hroom : n + m ≤ cap) (hfit : n * size + news.length ≤ cur.length)
    (h : ∀ w', RowKit.Hid (w'.heap[g]? = some (.cells (splice cur (n * size) news).toArray e (0, 0))) → RowKit.Hid (w.grownBy w' (some g)) → K (a.put o.dst (.slice (some ⟨g, 0, none⟩) (n + m) cap)) w') :
    if Region.wanted o (yielded ops a.tmps) = true then Oper.wp P o a w K Q else E := by
  have hw : Region.wanted o (yielded ops a.tmps) = true := by simp [Region.wanted, hgd]
  rw [if_pos hw]
  subst hsize
  have hrun := run_append_room (P := P) w t o.type e i ht hi g n cap cur.toArray hg ad m c news hl hnews h1 hroom (by simpa using hfit)
  unfold Oper.wp
  simp only [execOp, ho, resolve, invoke, builtin, Sem.run_bind, Sem.run_pure, Result.andThen_ok, List.map_toArray, List.map_cons, List.map_nil, hs, hx, hrun]
  exact h _ (show _ = _ by simpa [splice] using setRow_heap w g _ _ e _ hg) (grown_setRow _ _ _)

/-- clear at elements of several cells. -/
theorem wpList_clear2 {w : World} {ops : Array Oper} {rest : List Oper} {o : Oper} {a : Act} {Q : Exit → Act → World → Prop} (hgd : o.guard = none) (s : Operand) (t : TypeId)
    (ho : o.op = .call { callee := .builtin .clear, args := #[s], argTypes := #[t] }) (e : TypeId) (i : TypeInfo) (z : Value) (size : Nat) (ht : P.underlying t = some (.slice e)) (hi : P.info? e = some i) (hz : i.zero = some z) (hzs : z.cells.size = size)
    (g off n cap : Nat) (hs : a.eval s = .slice (some ⟨g, off, none⟩) n cap) (hn : 0 < n) (cur : List Value) (hg : w.heap[g]? = some (.cells cur.toArray e (0, 0))) (hfit : off + n * size ≤ cur.length) (h1 : ∀ u ∈ (Builtin.zeroCells z.cells n).toList, u.oneCell' = true)
    (h : ∀ w', RowKit.Hid (w'.heap[g]? = some (.cells (splice cur off (Builtin.zeroCells z.cells n).toList).toArray e (0, 0))) → RowKit.Hid (w.grownBy w' (some g)) → wpList P ops Q rest (a.put o.dst (.tuple #[])) w') : wpList P ops Q (o :: rest) a w := by
  refine wpList_plain hgd fun K hK => ?_
  have hzl : (Builtin.zeroCells z.cells n).toList.length = n * size := by rw [Array.length_toList, size_zeroCells, hzs]
  have hst := run_storeCells_at P g off e (Builtin.zeroCells z.cells n).toList 0 cur.toArray w hg (by rw [hzl]; simpa using hfit) h1
  obtain ⟨n, rfl⟩ : ∃ m, n = m + 1 := ⟨n - 1, by omega⟩
  have hrun : ∀ ty, (Builtin.clear_ #[t] ty #[.slice (some ⟨g, off, none⟩) (n + 1) cap]).run P w = .ok (.tuple #[]) (w.setRow g (cur.take off ++ (Builtin.zeroCells z.cells (n + 1)).toList ++ cur.drop (off + (Builtin.zeroCells z.cells (n + 1)).toList.length)).toArray) := by
    intro ty
    simp only [Nat.add_zero] at hst
    simp [Builtin.clear_, run_underlying ht, zeroValue, typeInfo, hi, hz, hst]
  unfold Oper.wp
  simp only [execOp, ho, resolve, invoke, builtin, Sem.run_bind, Sem.run_pure, Result.andThen_ok, List.map_toArray, List.map_cons, List.map_nil, hs, hrun]
  exact hK _ _ (h _ (show _ = _ by simpa [splice] using setRow_heap w g _ _ e _ hg) (grown_setRow _ _ _))

theorem row_delete {α : Type} (cur : List α) (k m d : Nat) (zs : List α) (hm : m ≤ cur.length) (hk : k + d ≤ m) (hz : zs.length ≤ d) :
    (splice (splice cur k ((cur.take m).drop (k + d))) (m - d) zs).take (m - d) = (cur.take m).take k ++ (cur.take m).drop (k + d) := by
  have l1 : ((cur.take m).drop (k + d)).length = m - (k + d) := by simp; omega
  have h1 : k + ((cur.take m).drop (k + d)).length ≤ cur.length := by omega
  have h2 : (m - d) + zs.length ≤ (splice cur k ((cur.take m).drop (k + d))).length := by rw [splice_length _ _ _ h1]; omega
  have e1 : ((cur.take m).take k).length = k := by simp; omega
  apply List.ext_getElem?
  intro j
  rw [List.getElem?_take, splice_get _ _ _ h2, splice_get _ _ _ h1, l1]
  by_cases c1 : j < k
  · rw [if_pos (by omega), if_pos (by omega), if_pos c1, List.getElem?_append_left (by omega), List.getElem?_take, if_pos c1, List.getElem?_take, if_pos (by omega)]
  · by_cases c2 : j < m - d
    · rw [if_pos c2, if_pos c2, if_neg c1, if_pos (by omega), List.getElem?_append_right (by omega), e1]
    · rw [if_neg c2, List.getElem?_eq_none]
      simp; omega
end

theorem zero57 : ∀ u ∈ (Builtin.zeroCells (Value.agg #[.slice none 0 0, .int .i64 0]).cells 1).toList, u.oneCell' = true := by
  intro u hu
  simp only [Builtin.zeroCells, Array.mem_toList_iff, Array.mem_map, Array.mem_range] at hu
  obtain ⟨a, ha, rfl⟩ := hu
  have : a = 0 ∨ a = 1 := by simp [Value.cells] at ha; omega
  rcases this with rfl | rfl <;> rfl
theorem grown_drew {w w' : World} {g : Option Nat} (h : w.drew.grownBy w' g) : w.grownBy w' g := ⟨h.os, h.tape, h.output, h.size, h.block⟩

/-- What Delete leaves. -/
def Del (w : World) (B : Nat) (g k c i : Nat) (cs : List Value) (e : Ending) (w' : World) : Prop :=
  e = .returned (.slice (some ⟨g, 0, none⟩) k c) ∧ w'.ownsRow B 57 2 (.slice (some ⟨g, 0, none⟩) k c) k (cs.take (i * 2) ++ cs.drop ((i + 1) * 2)) ∧ w.grownBy w' (some g)

set_option maxHeartbeats 2000000 in
set_option maxRecDepth 100000 in
theorem delete_calls (B : Nat) (g k c i : Nat) (cs : List Value) (w : World) (hs : w.ownsRow B 57 2 (.slice (some ⟨g, 0, none⟩) (k + 1) c) (k + 1) cs) (h1 : ∀ u ∈ cs, u.oneCell' = true) (hn : k + 1 < 1099511627776) (hin : i ≤ k) :
    Calls Try.prog 38 #[.slice (some ⟨g, 0, none⟩) (k + 1) c, .int .i64 i, .int .i64 ((i : Int) + 1)] w (Del w B g k c i cs) := by
  obtain ⟨i0, ii, iz0, iz1, iz2⟩ := info_parts Try.info57'
  obtain ⟨hl, ⟨h, _⟩ | ⟨g', c', cur, hv, hbg, hg, hnc, hcm, hcur, htk⟩⟩ := hs
  · cases h
  obtain ⟨rfl, rfl⟩ : g = g' ∧ c = c' := by injection hv with a1 a2 a3; injection a1 with a1; injection a1 with a1; exact ⟨a1, a3⟩
  clear hv
  unfold maxLen at hcm
  have Hsrc : RowKit.Hid (∀ j u, (cs.drop ((i + 1) * 2))[j]? = some u → w.cell? ((⟨g, (i + 1) * 2, none⟩ : Addr).add j) = some u) := by
    intro j u hu
    rw [Addr.add_lit, cell_of_row w g _ cur 57 (0, 0) hg]
    rw [List.getElem?_drop, ← htk, List.getElem?_take] at hu
    split at hu
    · simpa using hu
    · cases hu
  have H1c : RowKit.Hid (∀ u ∈ cs.drop ((i + 1) * 2), u.oneCell' = true) := fun u hu => h1 u (List.mem_of_mem_drop hu)
  have Hg : RowKit.Hid (w.heap[g]? = some (.cells cur.toList.toArray 57 (0, 0))) := hg
  have Hl : RowKit.Hid ((cs.drop ((i + 1) * 2)).length = (k - i) * 2) := by show _ = _; rw [List.length_drop, hl]; omega
  have Hfit : RowKit.Hid (i * 2 + (cs.drop ((i + 1) * 2)).length ≤ cur.toList.length) := by show _ ≤ _; rw [Hl.out]; simp; omega
  have Hfit2 : RowKit.Hid (k * 2 + 1 * 2 ≤ (splice cur.toList (i * 2) (cs.drop ((i + 1) * 2))).length) := by show _ ≤ _; rw [splice_length _ _ _ Hfit.out]; simp; omega
  have Hfin : RowKit.Hid (∀ w' w'', w.grownBy w' (some g) → w'.grownBy w'' (some g) → w''.heap[g]? = some (.cells (splice (splice cur.toList (i * 2) (cs.drop ((i + 1) * 2))) (k * 2) (Builtin.zeroCells (Value.agg #[.slice none 0 0, .int .i64 0]).cells 1).toList).toArray 57 (0, 0)) →
      Del w B g k c i cs (.returned (.slice (some ⟨g, 0, none⟩) k c)) w'') := by
    intro w' w'' g1 g2 hw
    refine ⟨rfl, ⟨by simp; omega, .inr ⟨g, c, _, rfl, hbg, hw, by omega, by unfold maxLen; omega, ?_, ?_⟩⟩, ?_⟩
    · have := Hfit2.out
      have hh := Hfit.out
      simp only [List.size_toArray]
      rw [splice_length _ _ _ (by simpa [Builtin.zeroCells, Value.cells] using this), splice_length _ _ _ hh, Array.length_toList, hcur]
    · have := row_delete cur.toList (i * 2) ((k + 1) * 2) 2 (Builtin.zeroCells (Value.agg #[.slice none 0 0, .int .i64 0]).cells 1).toList (by simp; omega) (by omega) (by simp [Builtin.zeroCells, Value.cells])
      rw [htk] at this
      rw [show k * 2 = (k + 1) * 2 - 2 by omega, show (i + 1) * 2 = i * 2 + 2 by omega]
      simpa using this
    · exact ⟨g2.os.trans g1.os, g2.tape.trans g1.tape, g2.output.trans g1.output, Nat.le_trans g1.size g2.size, fun k hk hk' => (g2.block k (Nat.lt_of_lt_of_le hk g1.size) hk').trans (g1.block k hk hk')⟩
  have hb1 : (0 : Int) ≤ (i : Int) + (1 : Int) := by omega
  have htn : ((i : Int) + (1 : Int)).toNat = i + 1 := by omega
  have hi0 : (0 : Int) ≤ (i : Int) := by omega
  have hi1 : (i : Int) < (k : Int) + 1 := by omega
  have hi2 : (i : Int) ≤ (k : Int) := by omega
  have hi3 : (i : Int) ≤ (k : Int) + 1 := by omega
  have hi4 : (i : Int) ≤ (c : Int) := by omega
  have hi5 : (i : Int) + 1 ≤ (c : Int) := by omega
  have hz2 : ¬ ((i : Int) = (i : Int) + 1) := by omega
  have hn0 : (k : Int) + 1 ≤ c := by omega
  have hb4 : ¬ (c = i) := by omega
  have hb5 : ¬ (k + 1 = i) := by omega
  clear h1 hg htk hl hcur
  go_enter Try.func38, Try.ntmps38
  go_wp2
  by_cases hb6 : c = i + 1
  · subst hb6
    obtain rfl : i = k := by omega
    have hi6 : (i : Int) ≤ (i : Int) + 1 := by omega
    have He : RowKit.Hid (cs.drop ((i + 1) * 2) = []) := by show _ = _; have := Hl.out; rw [Nat.sub_self, Nat.zero_mul] at this; exact List.length_eq_zero_iff.1 this
    go_region_law ((refine step_append_row rfl _ _ 53 rfl 57 i0 2 Try.underlying53 ii iz1 g i (i + 1) (by simp [Act.eval, Act.put, *]) cur.toList Hg.out ⟨g, 0, none⟩ (i - i) 0 (cs.drop ((i + 1) * 2)) (by simp [Act.eval, Act.put, *]) Hl.out (by rw [He.out]; intro j u hu; simp at hu) H1c.out (by omega) Hfit.out ?_; intro w1 hw1 hg1))
    go_wp2_with ((refine wpList_clear2 rfl _ 53 rfl 57 i0 (.agg #[.slice none 0 0, .int .i64 0]) 2 Try.underlying53 ii iz0 rfl g (i * 2) 1 _ rfl (by decide) (splice cur.toList (i * 2) (cs.drop ((i + 1) * 2))) hw1.out (by have := Hfit2.out; omega) zero57 ?_))
    intro w2 hw2 hg2
    have Hr := Lib.hid (Hfin.out w1 w2 (grown_drew hg1.out) hg2.out hw2.out)
    clear hg1 hg2 hw1 hw2
    go_wp2
    go_ret
    exact Hr.out
  · have hk1 : i + (k - i) = k := by omega
    go_region_law ((refine step_append_row rfl _ _ 53 rfl 57 i0 2 Try.underlying53 ii iz1 g i c (by simp [Act.eval, Act.put, *]) cur.toList Hg.out ⟨g, (i + 1) * 2, none⟩ (k - i) (c - (i + 1)) (cs.drop ((i + 1) * 2)) (by simp [Act.eval, Act.put, *]) Hl.out Hsrc.out H1c.out (by omega) Hfit.out ?_; intro w1 hw1 hg1))
    go_wp2_with ((refine wpList_clear2 rfl _ 53 rfl 57 i0 (.agg #[.slice none 0 0, .int .i64 0]) 2 Try.underlying53 ii iz0 rfl g (k * 2) 1 _ rfl (by decide) (splice cur.toList (i * 2) (cs.drop ((i + 1) * 2))) hw1.out (by have := Hfit2.out; omega) zero57 ?_))
    intro w2 hw2 hg2
    have Hr := Lib.hid (Hfin.out w1 w2 (grown_drew hg1.out) hg2.out hw2.out)
    clear hg1 hg2 hw1 hw2
    go_wp2
    go_ret
    exact Hr.out
end Go.Proofs.Ytekoemcckdhhnaa
