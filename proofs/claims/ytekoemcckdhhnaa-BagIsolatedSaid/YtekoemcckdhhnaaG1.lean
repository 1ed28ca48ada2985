/- slices.Insert at entries: one entry more, in place or in a new row. -/
import Derived.Test.YtekoemcckdhhnaaF9
import Derived.Deep.RegionLaw
namespace Go.Proofs.Ytekoemcckdhhnaa
open Go.RowKit
section
variable {P : Program}

/-- append of zero values to a slice without room: a new row. -/
theorem wpList_append_zeros {w : World} {ops : Array Oper} {rest : List Oper} {o : Oper} {a : Act} {Q : Exit → Act → World → Prop} (hgd : o.guard = none) (s x : Operand) (t tn : TypeId)
    (ho : o.op = .call { callee := .builtin .append, args := #[s, x], argTypes := #[t, tn] })
    (e : TypeId) (i : TypeInfo) (z : Value) (size bytes : Nat) (kq kn : IntKind) (ht : P.underlying t = some (.slice e)) (htn : P.underlying tn = some (.int kn)) (hi : P.info? e = some i) (hz : i.zero = some z)
    (hsize : i.size = size) (hby : i.bytes = bytes) (hzs : z.cells.size = size) (hsz : 0 < size)
    (g n cap : Nat) (hs : a.eval s = .slice (some ⟨g, 0, none⟩) n cap) (k : Nat) (hx : a.eval x = .int kq k)
    (cs : List Value) (hl : cs.length = n * size) (hcs : ∀ j u, cs[j]? = some u → w.cell? ⟨g, j, none⟩ = some u)
    (h0 : 0 < k) (hg : cap < n + k) (hnc : n ≤ cap) (h63 : n + k ≤ 1099511627776) (hbytes : (n + k) * bytes ≤ 140737488355328)
    (h : ∀ w' G Z, RowKit.Hid (w'.heap[w.heap.size]? = some (.cells (cs ++ Z).toArray e (0, 0))) → RowKit.Hid (Z.length = (G - n) * size) → n + k ≤ G → RowKit.Hid (G ≤ maxLen) → RowKit.Hid (w.grownBy w' none) →
      wpList P ops Q rest (a.put o.dst (.slice (some ⟨w.heap.size, 0, none⟩) (n + k) G)) w') : wpList P ops Q (o :: rest) a w := by
  refine wpList_plain hgd fun K hK => ?_
  subst hsize
  subst hby
  have hold : (Builtin.firstCells i.size n (.slice (some ⟨g, 0, none⟩) n cap)).run P w.drew = .ok cs.toArray w.drew :=
    run_firstCells_some w.drew i.size n ⟨g, 0, none⟩ n cap cs hl (fun j v hj => by rw [Addr.add_lit, Nat.zero_add]; exact hcs j v hj)
  have hfit : Builtin.nextslicecap (n + k) cap * i.bytes ≤ 281474976710656 := growslice_fits hg hbytes
  have hkb : k * i.bytes ≤ (n + k) * i.bytes := Nat.mul_le_mul_right _ (by omega)
  have hrun := Lib.run_append_grow_zeros (P := P) w t tn o.type e i z kq kn ht htn hi hz (some ⟨g, 0, none⟩) n cap cs hold k h0 hsz hg (by omega) (by omega) hfit
  have hG1 := grownCap_ge w (n + k) cap e
  have hG2 := grownCap_le_maxLen w (n + k) cap e (by unfold maxLen; omega)
  unfold Oper.wp execOp
  simp only [ho, resolve, invoke, builtin, Sem.run_bind, Sem.run_pure, Result.andThen_ok, List.map_toArray, List.map_cons, List.map_nil, hs, hx, hrun]
  refine hK _ _ (h _ _ ((Builtin.zeroCells z.cells k ++ Builtin.zeroCells z.cells (grownCap w (n + k) cap e - (n + k))).toList) ?_ ?_ hG1 hG2 ?_)
  · show _ = _
    refine (heap_alloc_new w.drew _).trans ?_
    simp
  · show _ = _
    simp only [Array.toList_append, List.length_append, Array.length_toList, size_zeroCells, hzs]
    rw [← Nat.add_mul]
    congr 1
    omega
  · show World.grownBy _ _ _
    exact ⟨rfl, rfl, rfl, by simp, fun j hj _ => Below.heap_alloc w.drew _ _ hj⟩

theorem splice_get {α : Type} (L : List α) (off : Nat) (cs : List α) (h : off + cs.length ≤ L.length) (j : Nat) : (splice L off cs)[j]? = if j < off then L[j]? else if j < off + cs.length then cs[j - off]? else L[j]? := by
  unfold splice
  by_cases h1 : j < off
  · rw [List.getElem?_append_left (by simp; omega), List.getElem?_take, if_pos h1, if_pos h1]
  · rw [List.getElem?_append_right (by simp; omega), if_neg h1]
    have e : (L.take off).length = off := by simp; omega
    rw [e]
    by_cases h2 : j < off + cs.length
    · rw [List.getElem?_append_left (by omega), if_pos h2]
    · rw [List.getElem?_append_right (by omega), if_neg h2, List.getElem?_drop]
      congr 1
      omega
theorem splice_length {α : Type} (L : List α) (off : Nat) (cs : List α) (h : off + cs.length ≤ L.length) : (splice L off cs).length = L.length := by
  unfold splice; simp; omega
/-- The row after the insertion in place. -/
theorem row_shift {α : Type} (cur : List α) (k m : Nat) (vs : List α) (hm : m + vs.length ≤ cur.length) (hk : k ≤ m) :
    (splice (splice cur (k + vs.length) ((cur.take m).drop k)) k vs).take (m + vs.length) = (cur.take m).take k ++ vs ++ (cur.take m).drop k := by
  have l1 : ((cur.take m).drop k).length = m - k := by simp; omega
  have h1 : (k + vs.length) + ((cur.take m).drop k).length ≤ cur.length := by omega
  have h2 : k + vs.length ≤ (splice cur (k + vs.length) ((cur.take m).drop k)).length := by rw [splice_length _ _ _ h1]; omega
  apply List.ext_getElem?
  intro j
  have e1 : ((cur.take m).take k).length = k := by simp; omega
  rw [List.getElem?_take, splice_get _ _ _ h2, splice_get _ _ _ h1, l1]
  by_cases c1 : j < k
  · rw [if_pos (by omega), if_pos c1, if_pos (by omega), List.getElem?_append_left (by simp; omega), List.getElem?_append_left (by omega), List.getElem?_take, if_pos c1, List.getElem?_take, if_pos (by omega)]
  · by_cases c2 : j < k + vs.length
    · rw [if_pos (by omega), if_neg c1, if_pos c2, List.getElem?_append_left (by simp; omega), List.getElem?_append_right (by omega), e1]
    · by_cases c3 : j < m + vs.length
      · rw [if_pos c3, if_neg c1, if_neg c2, if_neg c2, if_pos (by omega), List.getElem?_append_right (by simp; omega)]
        congr 1
        simp; omega
      · rw [if_neg c3, List.getElem?_eq_none]
        simp; omega
/-- .. and in a new row. -/
theorem row_grow {α : Type} (cs Z : List α) (k : Nat) (vs : List α) (hk : k ≤ cs.length) (hz : vs.length + (cs.length - k) ≤ Z.length) :
    (splice (splice (cs.take k ++ Z) k vs) (k + vs.length) (cs.drop k)).take (cs.length + vs.length) = cs.take k ++ vs ++ cs.drop k := by
  have h1 : k + vs.length ≤ (cs.take k ++ Z).length := by simp; omega
  have h2 : (k + vs.length) + (cs.drop k).length ≤ (splice (cs.take k ++ Z) k vs).length := by rw [splice_length _ _ _ h1]; simp; omega
  apply List.ext_getElem?
  intro j
  have e1 : (cs.take k).length = k := by simp; omega
  rw [List.getElem?_take, splice_get _ _ _ h2, splice_get _ _ _ h1]
  by_cases c1 : j < k
  · rw [if_pos (by omega), if_pos (by omega), if_pos c1, List.getElem?_append_left (by simp; omega), List.getElem?_append_left (by simp; omega), List.getElem?_append_left (by omega)]
  · by_cases c2 : j < k + vs.length
    · rw [if_pos (by omega), if_pos c2, if_neg c1, if_pos c2, List.getElem?_append_left (by simp; omega), List.getElem?_append_right (by omega), e1]
    · by_cases c3 : j < cs.length + vs.length
      · rw [if_pos c3, if_neg c2, if_pos (by simp; omega), List.getElem?_append_right (by simp; omega)]
        congr 1
        simp; omega
      · rw [if_neg c3, List.getElem?_eq_none]
        simp; omega
end

end Go.Proofs.Ytekoemcckdhhnaa
