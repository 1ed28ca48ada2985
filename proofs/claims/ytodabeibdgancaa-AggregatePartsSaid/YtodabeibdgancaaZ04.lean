/- Part 4 of the proof: G1, G3, Ow, A1, Df, F6, B1, Ag, Ev, Re0, Rs, Ky -/
import Derived.Test.YtodabeibdgancaaZ03
import Derived.Deep.RegionLaw
import Derived.Test.YtodabeibdgancaaZ00
import Derived.Deep.DeepCutAuto
import Derived.Test.YtodabeibdgancaaZ02
/- slices.Insert at entries: one entry more, in place or in a new row. -/
namespace Go.Proofs.Ytodabeibdgancaa
open Go.RowKit
section
variable {P : Program}

/-- append of zero values to a slice without room: a new row. -/
theorem wpList_append_zeros {w : World} {ops : Array Oper} {rest : List Oper} {o : Oper} {a : Act} {Q : Exit → Act → World → Prop} (hgd : o.guard = none) (s x : Operand) (t tn : TypeId)
    (ho : o.op = .call { callee := .builtin .append, args := #[s, x], argTypes := #[t, tn] })
    (e : TypeId) (i : TypeInfo) (z : Value) (size bytes : Nat) (kq kn : IntKind) (ht : P.underlying t = some (.slice e)) (htn : P.underlying tn = some (.int kn)) (hi : P.info? e = some i) (hz : i.zero = some z)
    (hsize : i.size = size) (hby : i.bytes = bytes) (hzs : z.cells.size = size) (hsz : 0 < size)
    (g n cap : Nat) (hs : a.eval s = .slice (some ⟨g, 0, none⟩) n cap) (k : Nat) (hx : a.eval x = .int kq k)
    (cs : List Value) (hl : cs.length = n * size) (hcs : ∀ j u, cs[j]? = some u → w.cell? ⟨g, j, none⟩ = some u)
    (h0 : 0 < k) (hg : cap < n + k) (hnc : n ≤ cap) (h63 : n + k ≤ 1099511627776) (hbytes : (n + k) * bytes ≤ 140737488355328)
    (h : ∀ w' G Z, RowKit.Hid (w'.heap[w.heap.size]? = some (.cells (cs ++ Z).toArray e (0, 0))) → RowKit.Hid (Z.length = (G - n) * size) → n + k ≤ G → RowKit.Hid (G ≤ maxLen) → RowKit.Hid (w.grownBy w' none) →
      wpList P ops Q rest (a.put o.dst (.slice (some ⟨w.heap.size, 0, none⟩) (n + k) G)) w') : wpList P ops Q (o :: rest) a w := by
  refine wpList_plain hgd fun K hK => ?_
  subst hsize
  subst hby
  have hold : (Builtin.firstCells i.size n (.slice (some ⟨g, 0, none⟩) n cap)).run P w.drew = .ok cs.toArray w.drew :=
    run_firstCells_some w.drew i.size n ⟨g, 0, none⟩ n cap cs hl (fun j v hj => by rw [Addr.add_lit, Nat.zero_add]; exact hcs j v hj)
  have hfit : Builtin.nextslicecap (n + k) cap * i.bytes ≤ 281474976710656 := growslice_fits hg hbytes
  have hkb : k * i.bytes ≤ (n + k) * i.bytes := Nat.mul_le_mul_right _ (by omega)
  have hrun := Lib.run_append_grow_zeros (P := P) w t tn o.type e i z kq kn ht htn hi hz (some ⟨g, 0, none⟩) n cap cs hold k h0 hsz hg (by omega) (by omega) hfit
  have hG1 := grownCap_ge w (n + k) cap e
  have hG2 := grownCap_le_maxLen w (n + k) cap e (by unfold maxLen; omega)
  unfold Oper.wp execOp
  simp only [ho, resolve, invoke, builtin, Sem.run_bind, Sem.run_pure, Result.andThen_ok, List.map_toArray, List.map_cons, List.map_nil, hs, hx, hrun]
  refine hK _ _ (h _ _ ((Builtin.zeroCells z.cells k ++ Builtin.zeroCells z.cells (grownCap w (n + k) cap e - (n + k))).toList) ?_ ?_ hG1 hG2 ?_)
  · show _ = _
    refine (heap_alloc_new w.drew _).trans ?_
    simp
  · show _ = _
    simp only [Array.toList_append, List.length_append, Array.length_toList, size_zeroCells, hzs]
    rw [← Nat.add_mul]
    congr 1
    omega
  · show World.grownBy _ _ _
    exact ⟨rfl, rfl, rfl, by simp, fun j hj _ => Below.heap_alloc w.drew _ _ hj⟩

theorem splice_get {α : Type} (L : List α) (off : Nat) (cs : List α) (h : off + cs.length ≤ L.length) (j : Nat) : (splice L off cs)[j]? = if j < off then L[j]? else if j < off + cs.length then cs[j - off]? else L[j]? := by
  unfold splice
  by_cases h1 : j < off
  · rw [List.getElem?_append_left (by simp; omega), List.getElem?_take, if_pos h1, if_pos h1]
  · rw [List.getElem?_append_right (by simp; omega), if_neg h1]
    have e : (L.take off).length = off := by simp; omega
    rw [e]
    by_cases h2 : j < off + cs.length
    · rw [List.getElem?_append_left (by omega), if_pos h2]
    · rw [List.getElem?_append_right (by omega), if_neg h2, List.getElem?_drop]
      congr 1
      omega
theorem splice_length {α : Type} (L : List α) (off : Nat) (cs : List α) (h : off + cs.length ≤ L.length) : (splice L off cs).length = L.length := by
  unfold splice; simp; omega
/-- The row after the insertion in place. -/
theorem row_shift {α : Type} (cur : List α) (k m : Nat) (vs : List α) (hm : m + vs.length ≤ cur.length) (hk : k ≤ m) :
    (splice (splice cur (k + vs.length) ((cur.take m).drop k)) k vs).take (m + vs.length) = (cur.take m).take k ++ vs ++ (cur.take m).drop k := by
  have l1 : ((cur.take m).drop k).length = m - k := by simp; omega
  have h1 : (k + vs.length) + ((cur.take m).drop k).length ≤ cur.length := by omega
  have h2 : k + vs.length ≤ (splice cur (k + vs.length) ((cur.take m).drop k)).length := by rw [splice_length _ _ _ h1]; omega
  apply List.ext_getElem?
  intro j
  have e1 : ((cur.take m).take k).length = k := by simp; omega
  rw [List.getElem?_take, splice_get _ _ _ h2, splice_get _ _ _ h1, l1]
  by_cases c1 : j < k
  · rw [if_pos (by omega), if_pos c1, if_pos (by omega), List.getElem?_append_left (by simp; omega), List.getElem?_append_left (by omega), List.getElem?_take, if_pos c1, List.getElem?_take, if_pos (by omega)]
  · by_cases c2 : j < k + vs.length
    · rw [if_pos (by omega), if_neg c1, if_pos c2, List.getElem?_append_left (by simp; omega), List.getElem?_append_right (by omega), e1]
    · by_cases c3 : j < m + vs.length
      · rw [if_pos c3, if_neg c1, if_neg c2, if_neg c2, if_pos (by omega), List.getElem?_append_right (by simp; omega)]
        congr 1
        simp; omega
      · rw [if_neg c3, List.getElem?_eq_none]
        simp; omega
/-- .. and in a new row. -/
theorem row_grow {α : Type} (cs Z : List α) (k : Nat) (vs : List α) (hk : k ≤ cs.length) (hz : vs.length + (cs.length - k) ≤ Z.length) :
    (splice (splice (cs.take k ++ Z) k vs) (k + vs.length) (cs.drop k)).take (cs.length + vs.length) = cs.take k ++ vs ++ cs.drop k := by
  have h1 : k + vs.length ≤ (cs.take k ++ Z).length := by simp; omega
  have h2 : (k + vs.length) + (cs.drop k).length ≤ (splice (cs.take k ++ Z) k vs).length := by rw [splice_length _ _ _ h1]; simp; omega
  apply List.ext_getElem?
  intro j
  have e1 : (cs.take k).length = k := by simp; omega
  rw [List.getElem?_take, splice_get _ _ _ h2, splice_get _ _ _ h1]
  by_cases c1 : j < k
  · rw [if_pos (by omega), if_pos (by omega), if_pos c1, List.getElem?_append_left (by simp; omega), List.getElem?_append_left (by simp; omega), List.getElem?_append_left (by omega)]
  · by_cases c2 : j < k + vs.length
    · rw [if_pos (by omega), if_pos c2, if_neg c1, if_pos c2, List.getElem?_append_left (by simp; omega), List.getElem?_append_right (by omega), e1]
    · by_cases c3 : j < cs.length + vs.length
      · rw [if_pos c3, if_neg c2, if_pos (by simp; omega), List.getElem?_append_right (by simp; omega)]
        congr 1
        simp; omega
      · rw [if_neg c3, List.getElem?_eq_none]
        simp; omega
end

end Go.Proofs.Ytodabeibdgancaa
/- slices.Delete at entries: one entry less. -/
namespace Go.Proofs.Ytodabeibdgancaa
open Go.RowKit
section
variable {P : Program}
/-- append in place, as a step of a region that draws. -/
theorem step_append_row {w : World} {ops : Array Oper} {o : Oper} {a : Act} {K : Act → World → Prop} {Q : Exit → Act → World → Prop} {E : Prop} (hgd : o.guard = none) (s x : Operand) (t : TypeId)
    (ho : o.op = .call { callee := .builtin .append, args := #[s, x], argTypes := #[t, t] }) (e : TypeId) (i : TypeInfo) (size : Nat) (ht : P.underlying t = some (.slice e)) (hi : P.info? e = some i) (hsize : i.size = size)
    (g n cap : Nat) (hs : a.eval s = .slice (some ⟨g, 0, none⟩) n cap) (cur : List Value) (hg : w.heap[g]? = some (.cells cur.toArray e (0, 0)))
    (ad : Addr) (m c : Nat) (news : List Value) (hx : a.eval x = .slice (some ad) m c) (hl : news.length = m * size) (hnews : ∀ j u, news[j]? = some u → w.cell? (ad.add j) = some u) (h1 : ∀ u ∈ news, u.oneCell' = true)
    (hroom : n + m ≤ cap) (hfit : n * size + news.length ≤ cur.length)
    (h : ∀ w', RowKit.Hid (w'.heap[g]? = some (.cells (splice cur (n * size) news).toArray e (0, 0))) → RowKit.Hid (w.grownBy w' (some g)) → K (a.put o.dst (.slice (some ⟨g, 0, none⟩) (n + m) cap)) w') :
    if Region.wanted o (yielded ops a.tmps) = true then Oper.wp P o a w K Q else E := by
  have hw : Region.wanted o (yielded ops a.tmps) = true := by simp [Region.wanted, hgd]
  rw [if_pos hw]
  subst hsize
  have hrun := run_append_room (P := P) w t o.type e i ht hi g n cap cur.toArray hg ad m c news hl hnews h1 hroom (by simpa using hfit)
  unfold Oper.wp
  simp only [execOp, ho, resolve, invoke, builtin, Sem.run_bind, Sem.run_pure, Result.andThen_ok, List.map_toArray, List.map_cons, List.map_nil, hs, hx, hrun]
  exact h _ (show _ = _ by simpa [splice] using setRow_heap w g _ _ e _ hg) (grown_setRow _ _ _)

/-- clear at elements of several cells. -/
theorem wpList_clear2 {w : World} {ops : Array Oper} {rest : List Oper} {o : Oper} {a : Act} {Q : Exit → Act → World → Prop} (hgd : o.guard = none) (s : Operand) (t : TypeId)
    (ho : o.op = .call { callee := .builtin .clear, args := #[s], argTypes := #[t] }) (e : TypeId) (i : TypeInfo) (z : Value) (size : Nat) (ht : P.underlying t = some (.slice e)) (hi : P.info? e = some i) (hz : i.zero = some z) (hzs : z.cells.size = size)
    (g off n cap : Nat) (hs : a.eval s = .slice (some ⟨g, off, none⟩) n cap) (hn : 0 < n) (cur : List Value) (hg : w.heap[g]? = some (.cells cur.toArray e (0, 0))) (hfit : off + n * size ≤ cur.length) (h1 : ∀ u ∈ (Builtin.zeroCells z.cells n).toList, u.oneCell' = true)
    (h : ∀ w', RowKit.Hid (w'.heap[g]? = some (.cells (splice cur off (Builtin.zeroCells z.cells n).toList).toArray e (0, 0))) → RowKit.Hid (w.grownBy w' (some g)) → wpList P ops Q rest (a.put o.dst (.tuple #[])) w') : wpList P ops Q (o :: rest) a w := by
  refine wpList_plain hgd fun K hK => ?_
  have hzl : (Builtin.zeroCells z.cells n).toList.length = n * size := by rw [Array.length_toList, size_zeroCells, hzs]
  have hst := run_storeCells_at P g off e (Builtin.zeroCells z.cells n).toList 0 cur.toArray w hg (by rw [hzl]; simpa using hfit) h1
  obtain ⟨n, rfl⟩ : ∃ m, n = m + 1 := ⟨n - 1, by omega⟩
  have hrun : ∀ ty, (Builtin.clear_ #[t] ty #[.slice (some ⟨g, off, none⟩) (n + 1) cap]).run P w = .ok (.tuple #[]) (w.setRow g (cur.take off ++ (Builtin.zeroCells z.cells (n + 1)).toList ++ cur.drop (off + (Builtin.zeroCells z.cells (n + 1)).toList.length)).toArray) := by
    intro ty
    simp only [Nat.add_zero] at hst
    simp [Builtin.clear_, run_underlying ht, zeroValue, typeInfo, hi, hz, hst]
  unfold Oper.wp
  simp only [execOp, ho, resolve, invoke, builtin, Sem.run_bind, Sem.run_pure, Result.andThen_ok, List.map_toArray, List.map_cons, List.map_nil, hs, hrun]
  exact hK _ _ (h _ (show _ = _ by simpa [splice] using setRow_heap w g _ _ e _ hg) (grown_setRow _ _ _))

theorem row_delete {α : Type} (cur : List α) (k m d : Nat) (zs : List α) (hm : m ≤ cur.length) (hk : k + d ≤ m) (hz : zs.length ≤ d) :
    (splice (splice cur k ((cur.take m).drop (k + d))) (m - d) zs).take (m - d) = (cur.take m).take k ++ (cur.take m).drop (k + d) := by
  have l1 : ((cur.take m).drop (k + d)).length = m - (k + d) := by simp; omega
  have h1 : k + ((cur.take m).drop (k + d)).length ≤ cur.length := by omega
  have h2 : (m - d) + zs.length ≤ (splice cur k ((cur.take m).drop (k + d))).length := by rw [splice_length _ _ _ h1]; omega
  have e1 : ((cur.take m).take k).length = k := by simp; omega
  apply List.ext_getElem?
  intro j
  rw [List.getElem?_take, splice_get _ _ _ h2, splice_get _ _ _ h1, l1]
  by_cases c1 : j < k
  · rw [if_pos (by omega), if_pos (by omega), if_pos c1, List.getElem?_append_left (by omega), List.getElem?_take, if_pos c1, List.getElem?_take, if_pos (by omega)]
  · by_cases c2 : j < m - d
    · rw [if_pos c2, if_pos c2, if_neg c1, if_pos (by omega), List.getElem?_append_right (by omega), e1]
    · rw [if_neg c2, List.getElem?_eq_none]
      simp; omega
end
end Go.Proofs.Ytodabeibdgancaa
/- An owned row of values: an element is written anew. -/
namespace Go.Proofs.Ytodabeibdgancaa
open Go Go.RowKit
theorem flat_set (l : List Vl) (k : Nat) (hk : k < l.length) (v : Vl) : (((flat l).set (k * 3) (.int .i64 v.kind)).set (k * 3 + 1) (.int .i64 v.int)).set (k * 3 + 2) (.string v.text) = flat (l.set k v) := by
  induction l generalizing k with
  | nil => simp at hk
  | cons x l ih =>
    cases k with
    | zero => simp [flat, Vl.cells]
    | succ k =>
      have := ih k (by simpa using hk)
      simp only [flat, List.flatMap_cons, List.set_cons_succ] at this ⊢
      rw [← this]
      rw [List.set_append_right _ _ (by simp [Vl.cells]; omega), List.set_append_right _ _ (by simp [Vl.cells]; omega), List.set_append_right _ _ (by simp [Vl.cells]; omega)]
      congr 1
      simp only [Vl.cells, List.length_cons, List.length_nil]
      rw [show (k + 1) * 3 - (0 + 1 + 1 + 1) = k * 3 by omega, show (k + 1) * 3 + 1 - (0 + 1 + 1 + 1) = k * 3 + 1 by omega, show (k + 1) * 3 + 2 - (0 + 1 + 1 + 1) = k * 3 + 2 by omega]
/-- An owned row of values: an element is written anew. -/
theorem own_set {w : World} {B g n cap k : Nat} {l : List Vl} {v : Vl} (h : w.ownsRow B 26 3 (.slice (some ⟨g, 0, none⟩) n cap) n (flat l)) (hk : k < l.length) :
    (((w.setCell ⟨g, k * 3, none⟩ (.int .i64 v.kind)).setCell ⟨g, k * 3 + 1, none⟩ (.int .i64 v.int)).setCell ⟨g, k * 3 + 2, none⟩ (.string v.text)).ownsRow B 26 3 (.slice (some ⟨g, 0, none⟩) n cap) n (flat (l.set k v)) := by
  have h1 := (h.stored (k * 3) (.int .i64 v.kind)).1
  have h2 := (h1.stored (k * 3 + 1) (.int .i64 v.int)).1
  have h3 := (h2.stored (k * 3 + 2) (.string v.text)).1
  rwa [flat_set l k hk v] at h3
end Go.Proofs.Ytodabeibdgancaa
/- Aggregate's closure, Int, the place of the first NULL, the least and greatest value. -/
namespace Go.Proofs.Ytodabeibdgancaa
open Go Go.RowKit
theorem agg1_calls (v : Vl) (w : World) : Calls Try.prog 17 #[.agg #[.int .i64 v.kind, .int .i64 v.int, .string v.text]] w fun e w' => e = .returned (.bool (v.kind == 0)) ∧ Below w.heap.size w w' := by
  go_enter Try.func17, Try.ntmps17
  go_wp2
  go_ret
  exact ⟨rfl, (Below.refl _ _).alloc (Nat.le_refl _) _⟩
theorem vInt_calls (n : Int) (w : World) : Calls Try.prog 18 #[.int .i64 n] w fun e w' => e = .returned (.agg #[.int .i64 1, .int .i64 n, .string ⟨#[]⟩]) ∧ Below w.heap.size w w' := by
  go_enter Try.func18, Try.ntmps18
  go_wp2
  refine bodyPost_ret (v := .agg #[.int .i64 1, .int .i64 n, .string ⟨#[]⟩]) (by simp [results, Try.results18, go_sem]) rfl ?_
  exact ⟨rfl, (Below.refl _ _).alloc (Nat.le_refl _) _⟩
/-- The place of the first NULL, or -1. -/
def nullAt : Rw → Nat → Int | [], _ => -1 | v :: l, i => if v.kind = 0 then i else nullAt l (i + 1)
set_option maxHeartbeats 2000000 in
theorem indexV_calls (L : Rw) (s : Value) (w : World) (hs : ValsAt w L s) :
    Calls Try.prog 32 #[s, .func (.func 17) #[] #[]] w fun e w' => e = .returned (.int .i64 (nullAt L 0)) ∧ Below w.heap.size w w' := by
  obtain ⟨a, n, c, rfl, hn, hm⟩ := hs.shape
  have HS := Lib.hid hs
  have Hn := Lib.hid hn
  have hm2 : n ≤ 9223372036854775807 := by unfold maxLen at hm; omega
  clear hs hn hm
  go_enter Try.func32, Try.ntmps32
  go_wp2
  go_loopg [8] n (fun g z wr => ∃ i : Nat, z = .int .i64 i ∧ g + i = n ∧ RowKit.Hid (nullAt L 0 = nullAt (L.drop i) i) ∧ RowKit.Hid (Below w.heap.size w wr))
  case atStart => exact ⟨0, rfl, rfl, rfl, Below.refl _ _⟩
  case round =>
    obtain ⟨i, rfl, hgi, Hi, Hb⟩ := hrel
    by_cases hin : i < n
    · have hil : i < L.length := by rw [← Hn.out]; exact hin
      obtain ⟨b, o, rfl⟩ := HS.out.has i hin
      have hcell := (HS.out.mono Hb.out).cell i hil
      have hlt := (HS.out.mono Hb.out).lt hil
      have hd : L.drop i = L[i] :: L.drop (i + 1) := List.drop_eq_getElem_cons hil
      have hin' : (i : Int) < n := by omega
      have HC : RowKit.Hid (∀ w', Calls Try.prog 17 #[.agg #[.int .i64 L[i].kind, .int .i64 L[i].int, .string L[i].text]] w' fun e w'' => e = .returned (.bool (L[i].kind == 0)) ∧ Below w'.heap.size w' w'') := fun w' => agg1_calls L[i] w'
      have hstep : nullAt (L.drop i) i = if L[i].kind = 0 then (i : Int) else nullAt (L.drop (i + 1)) (i + 1) := by rw [hd]; rfl
      have Hstep := Lib.hid hstep
      obtain ⟨c0, c1, c2⟩ := hcell
      have Hgi := Lib.hid hgi
      clear hd hstep hgi
      generalize L[i] = v at *
      clear hil
      by_cases hk : v.kind = 0
      · have hkb : (v.kind == 0) = true := by rw [hk]; rfl
        have Hk := Lib.hid hk
        rw [hkb] at HC
        clear hk hkb
        go_wp2_with fail
        (with_reducible refine (HC.out _).mono ?_)
        rintro e w1 ⟨rfl, hb1⟩
        have Hb1 := Lib.hid (Hb.out.trans (hb1.mono Hb.out.size))
        clear hb1
        go_wp2
        go_ret
        exact ⟨by rw [Hi.out, Hstep.out, if_pos Hk.out]; rfl, Hb1.out⟩
      · have hkb : (v.kind == 0) = false := beq_false_of_ne hk
        have Hk := Lib.hid hk
        rw [hkb] at HC
        clear hk hkb
        go_wp2_with fail
        (with_reducible refine (HC.out _).mono ?_)
        rintro e w1 ⟨rfl, hb1⟩
        have Hb1 := Lib.hid (Hb.out.trans (hb1.mono Hb.out.size))
        clear hb1
        go_wp2
        go_roundg (gk - 1)
        case rel => exact ⟨i + 1, by go_num, by have := Hgi.out; omega, by show _ = _; rw [Hi.out, Hstep.out, if_neg Hk.out], Hb1⟩
        case measure => have := Hgi.out; omega
    · obtain rfl : i = n := by omega
      have hR : RowKit.Hid (nullAt L 0 = -1) := by
        show _ = _
        rw [Hi.out, List.drop_of_length_le (by rw [← Hn.out]; exact Nat.le_refl _)]
        rfl
      clear hgi hin
      go_wp2
      go_ret
      exact ⟨by rw [hR.out]; rfl, Hb.out⟩
end Go.Proofs.Ytodabeibdgancaa
/- slices.DeleteFunc over an owned row of values, with Aggregate's closure. -/
namespace Go.Proofs.Ytodabeibdgancaa
open Go Go.RowKit
/-- The values that are not NULL. -/
def nnV (l : Rw) : Rw := l.filter fun v => v.kind != 0
theorem nullAt_neg : ∀ (l : Rw) (i : Nat), nullAt l i = -1 → nnV l = l
  | [], _, _ => rfl
  | v :: l, i, h => by
    unfold nullAt at h
    by_cases hk : v.kind = 0
    · rw [if_pos hk] at h; omega
    · rw [if_neg hk] at h
      have ih := nullAt_neg l (i + 1) h
      unfold nnV at ih ⊢
      rw [List.filter_cons, if_pos (by simp [hk]), ih]
theorem nullAt_at : ∀ (l : Rw) (i : Nat) (j : Int), nullAt l i = j → j ≠ -1 → ∃ k : Nat, j = (i + k : Nat) ∧ k < l.length ∧ nnV (l.take (k + 1)) = l.take k
  | [], _, _, h, hne => absurd h.symm hne
  | v :: l, i, j, h, hne => by
    unfold nullAt at h
    by_cases hk : v.kind = 0
    · rw [if_pos hk] at h
      refine ⟨0, by omega, by simp, ?_⟩
      simp [nnV, hk]
    · rw [if_neg hk] at h
      obtain ⟨k, h1, h2, h3⟩ := nullAt_at l (i + 1) j h hne
      refine ⟨k + 1, by omega, by simpa using h2, ?_⟩
      unfold nnV at h3 ⊢
      rw [List.take_succ_cons, List.filter_cons, if_pos (by simp [hk]), h3, List.take_succ_cons]
theorem nnV_snoc (l : Rw) (v : Vl) : nnV (l ++ [v]) = if v.kind = 0 then nnV l else nnV l ++ [v] := by
  unfold nnV
  by_cases h : v.kind = 0 <;> simp [h]
/-- The state of the loop: C is what lies in the row; i are kept of the first j. -/
structure DelS (R C : Rw) (i j : Nat) : Prop where
  len : C.length = R.length
  kept : C.take i = nnV (R.take j)
  rest : C.drop j = R.drop j
  lt : i < j
  le : j ≤ R.length
theorem DelS.skip {R C : Rw} {i j : Nat} (h : DelS R C i j) (hj : j < R.length) (hk : (R[j]).kind = 0) : DelS R C i (j + 1) :=
  ⟨h.len, by rw [h.kept, List.take_add_one, List.getElem?_eq_getElem hj]; exact (by rw [Option.toList_some, nnV_snoc, if_pos hk]), by
    have := congrArg List.tail h.rest
    rwa [List.tail_drop, List.tail_drop] at this, by have := h.lt; omega, hj⟩
theorem DelS.keep {R C : Rw} {i j : Nat} (h : DelS R C i j) (hj : j < R.length) (hk : (R[j]).kind ≠ 0) : DelS R (C.set i R[j]) (i + 1) (j + 1) := by
  have hi : i < C.length := by have := h.len; have := h.lt; omega
  refine ⟨by rw [List.length_set]; exact h.len, ?_, ?_, by have := h.lt; omega, hj⟩
  · rw [List.take_add_one, List.getElem?_set_self hi, List.take_set_of_le (Nat.le_refl _), h.kept, List.take_add_one, List.getElem?_eq_getElem hj]
    exact (by simp only [Option.toList_some]; rw [nnV_snoc, if_neg hk])
  · rw [List.drop_set_of_lt (by have := h.lt; omega)]
    have := congrArg List.tail h.rest
    rwa [List.tail_drop, List.tail_drop] at this
theorem DelS.at {R C : Rw} {i j : Nat} (h : DelS R C i j) (hj : j < R.length) : C[j]? = some R[j] := by
  have h1 : C[j]? = (C.drop j)[0]? := by rw [List.getElem?_drop]; simp
  rw [h1, h.rest, List.getElem?_drop]
  simp
theorem zeroV_one (n : Nat) : ∀ u ∈ (Builtin.zeroCells (Value.agg #[.int .i64 0, .int .i64 0, .string ⟨#[]⟩]).cells n).toList, u.oneCell' = true := by
  intro u hu
  unfold Builtin.zeroCells at hu
  simp only [Value.cells, Array.toList_map, List.mem_map] at hu
  obtain ⟨i, -, rfl⟩ := hu
  have : i % 3 = 0 ∨ i % 3 = 1 ∨ i % 3 = 2 := by omega
  rcases this with h | h | h <;> simp [h] <;> rfl
set_option maxHeartbeats 4000000 in
set_option maxRecDepth 20000 in
theorem deleteFunc_calls (R : Rw) (s : Value) (B : Nat) (w : World) (hs : RowO w B R s) (hB : B ≤ w.heap.size) :
    Calls Try.prog 15 #[s, .func (.func 17) #[] #[]] w fun e w' => ∃ u, e = .returned u ∧ ValsAt w' (nnV R) u ∧ Below B w w' := by
  have hv := hs.vals
  have HI := Lib.hid (indexV_calls R s w hv)
  obtain ⟨a, n, c, rfl, hn, hm⟩ := hv.shape
  have HS := Lib.hid hs
  have HV := Lib.hid hv
  have Hn := Lib.hid hn
  have HBB := Lib.hid hB
  have hm2 : n ≤ 9223372036854775807 := by unfold maxLen at hm; omega
  by_cases hi : nullAt R 0 = -1
  · have hall := nullAt_neg R 0 hi
    have Hall := Lib.hid hall
    rw [hi] at HI
    clear hs hv hn hm hB hall hi
    go_enter Try.func15, Try.ntmps15
    go_wp2_with fail
    (with_reducible refine HI.out.mono ?_)
    rintro e w1 ⟨rfl, hb1⟩
    have H1 := Lib.hid hb1
    clear hb1 HI
    go_wp2
    go_ret
    exact ⟨_, rfl, by rw [Hall.out]; exact HV.out.mono H1.out, H1.out.mono HBB.out⟩
  · obtain ⟨i0, e0, hi0, ht0⟩ := nullAt_at R 0 _ rfl hi
    rw [Nat.zero_add] at e0
    rw [e0] at HI
    have HD : RowKit.Hid (DelS R R i0 (i0 + 1)) := ⟨rfl, ht0.symm, rfl, Nat.lt_succ_self _, hi0⟩
    have hi0n : i0 < n := by rw [hn]; exact hi0
    clear hs hv hn hm hB hi e0 hi0 ht0
    go_enter Try.func15, Try.ntmps15
    go_wp2_with fail
    (with_reducible refine HI.out.mono ?_)
    rintro e w1 ⟨rfl, hb1⟩
    have H1 := Lib.hid hb1
    clear hb1 HI
    obtain ⟨gb, rfl, hgB⟩ : ∃ gb, a = some ⟨gb, 0, none⟩ ∧ B ≤ gb := by
      rcases HS.out.1.2 with ⟨h', _⟩ | ⟨g', cap', cur, h', hb, _⟩
      · injection h' with e1 e2 e3; omega
      · injection h' with e1 e2 e3; exact ⟨g', e1, hb⟩
    have HW0 : RowKit.Hid (RowO w1 B R (.slice (some ⟨gb, 0, none⟩) n c) ∧ Below B w w1) := ⟨⟨own_below HS.out.1 H1.out, HS.out.2⟩, H1.out.mono HBB.out⟩
    go_wp2
    go_loopg [5, 6] (n - (i0 + 1)) (fun g z5 z6 wr => ∃ (i j : Nat) (C : Rw), z5 = .int .i64 i ∧ z6 = .int .i64 j ∧ g + j = n ∧ RowKit.Hid (DelS R C i j) ∧ RowKit.Hid (RowO wr B C (.slice (some ⟨gb, 0, none⟩) n c) ∧ Below B w wr))
    case atStart => exact ⟨i0, i0 + 1, R, rfl, by go_num, by omega, HD.out, HW0.out⟩
    case round =>
      clear HD HW0
      obtain ⟨i, j, C, rfl, rfl, hgj, HD, HW⟩ := hrel
      have hDl := HD.out.len
      have hij := HD.out.lt
      have hown := HW.out.1
      have hvC := hown.vals
      by_cases hjn : j < n
      · have hjR : j < R.length := by rw [← Hn.out]; exact hjn
        have hjC : j < C.length := by rw [hDl]; exact hjR
        have hCj : C[j] = R[j] := by
          have := HD.out.at hjR
          rw [List.getElem?_eq_getElem hjC] at this
          exact Option.some.inj this
        obtain ⟨c0, c1, c2⟩ := hvC.cell j hjC
        rw [hCj] at c0 c1 c2
        rw [Nat.zero_add] at c0 c1 c2
        have hlt := hvC.lt hjC
        have hjn' : (j : Int) < n := by omega
        have HC := Lib.hid (fun w' => agg1_calls R[j] w')
        have Hgj := Lib.hid hgj
        by_cases hk : R[j].kind = 0
        · have Hs := Lib.hid (HD.out.skip hjR hk)
          have hkb : (R[j].kind == 0) = true := by rw [hk]; rfl
          rw [hkb] at HC
          have Hown := HW
          clear hk hkb hDl hown hvC hgj
          generalize R[j] = y at *
          clear hjR hjC hCj
          go_wp2_with fail
          (with_reducible refine (HC.out _).mono ?_)
          rintro e w2 ⟨rfl, hb2⟩
          have hb3 : Below wr.heap.size wr w2 := ((Below.refl _ _).alloc (Nat.le_refl _) _).trans (hb2.mono (by simp))
          have HW2 : RowKit.Hid (RowO w2 B C (.slice (some ⟨gb, 0, none⟩) n c) ∧ Below B w w2) := ⟨⟨own_below Hown.out.1.1 hb3, Hown.out.1.2⟩, Hown.out.2.trans (hb3.mono (by have := Nat.lt_of_le_of_lt hgB hlt; omega))⟩
          clear hb2 hb3
          go_wp2
          go_roundg (gk - 1)
          case rel => exact ⟨i, j + 1, C, rfl, by go_num, by have := Hgj.out; omega, Hs.out, HW2.out⟩
          case measure => have := Hgj.out; omega
        · have Hs := Lib.hid (HD.out.keep hjR hk)
          have hkb : (R[j].kind == 0) = false := beq_false_of_ne hk
          rw [hkb] at HC
          have hiC : i < C.length := by omega
          have hCn : C.length = n := by rw [hDl, Hn.out]
          have HCn := Lib.hid hCn
          have Htx : RowKit.Hid (R[j].text.size ≤ maxLen) := HW.out.1.2 _ (by rw [← hCj]; exact List.getElem_mem _)
          have V := fun c => VarIs.new wr c 26
          have HiC := Lib.hid hiC
          clear hk hkb hDl hown hvC hgj hCn
          generalize R[j] = y at *
          clear hjR hjC hCj
          go_wp2_with fail
          (with_reducible refine (HC.out _).mono ?_)
          rintro e w2 ⟨rfl, hb2⟩
          obtain ⟨-, v2, -⟩ := (V #[.int .i64 y.kind, .int .i64 y.int, .string y.text]).below hb2 (by simp)
          have v2l : wr.heap.size < w2.heap.size := Nat.lt_of_lt_of_le (by simp) hb2.size
          have y0 := v2 0
          have y1 := v2 1
          have y2 := v2 2
          simp only [List.getElem?_toArray, List.getElem?_cons_zero, List.getElem?_cons_succ] at y0 y1 y2
          have hb3 : Below wr.heap.size wr w2 := ((Below.refl _ _).alloc (Nat.le_refl _) _).trans (hb2.mono (by simp))
          have hown2 : RowO w2 B C (.slice (some ⟨gb, 0, none⟩) n c) := ⟨own_below HW.out.1.1 hb3, HW.out.1.2⟩
          have hbB : Below B w w2 := HW.out.2.trans (hb3.mono (by have := Nat.lt_of_le_of_lt hgB hlt; omega))
          obtain ⟨z0, z1, z2⟩ := hown2.vals.cell i HiC.out
          rw [Nat.zero_add] at z0 z1 z2
          have hlt2 := hown2.vals.lt HiC.out
          have hown3 := hown2.1
          rw [HCn.out] at hown3
          have f0 := hown3.frozenAt (i * 3)
          have f1 := hown3.frozenAt (i * 3 + 1)
          have f2 := hown3.frozenAt (i * 3 + 2)
          have hset := own_set (v := y) hown3 HiC.out
          have HW2 : RowKit.Hid (RowO (((w2.setCell ⟨gb, i * 3, none⟩ (.int .i64 y.kind)).setCell ⟨gb, i * 3 + 1, none⟩ (.int .i64 y.int)).setCell ⟨gb, i * 3 + 2, none⟩ (.string y.text)) B (C.set i y) (.slice (some ⟨gb, 0, none⟩) n c) ∧ Below B w (((w2.setCell ⟨gb, i * 3, none⟩ (.int .i64 y.kind)).setCell ⟨gb, i * 3 + 1, none⟩ (.int .i64 y.int)).setCell ⟨gb, i * 3 + 2, none⟩ (.string y.text))) := by
            refine ⟨⟨by rw [List.length_set, HCn.out]; exact hset, fun u hu => ?_⟩, ((hbB.setCell hgB _).setCell hgB _).setCell hgB _⟩
            rcases List.mem_or_eq_of_mem_set hu with hu | rfl
            · exact HW.out.1.2 u hu
            · exact Htx.out
          have hin : (i : Int) < n := by omega
          generalize C[i] = q at *
          clear hb2 hb3 hown2 hown3 hbB hset V v2
          go_wp2
          go_roundg (gk - 1)
          case rel => exact ⟨i + 1, j + 1, C.set i y, by go_num, by go_num, by have := Hgj.out; omega, Hs.out, HW2.out⟩
          case measure => have := Hgj.out; omega
      · obtain rfl : j = n := by have := HD.out.le; have := Hn.out; omega
        have hkeep : C.take i = nnV R := by rw [HD.out.kept, Hn.out, List.take_length]
        have hin : i < C.length := by have := Hn.out; omega
        obtain ⟨cur, hcur, hjc, hcs, htk⟩ : ∃ cur : Array Value, wr.heap[gb]? = some (.cells cur 26 (0, 0)) ∧ C.length ≤ c ∧ C.length * 3 ≤ cur.size ∧ cur.toList.take (C.length * 3) = flat C := by
          rcases hown.1.2 with ⟨h', _⟩ | ⟨g', cap', cur, h', hb, hg, hnc, hcm, hcs, htake⟩
          · injection h' with e1 e2 e3; cases e1
          · injection h' with e1 e2 e3
            injection e1 with e1
            injection e1 with e1
            subst e1
            exact ⟨cur, hg, by rw [e3]; exact hnc, by rw [hcs]; exact Nat.mul_le_mul_right _ hnc, htake⟩
        have hcur' : wr.heap[gb]? = some (.cells cur.toList.toArray 26 (0, 0)) := by simpa using hcur
        have hcl : C.length * 3 ≤ cur.toList.length := by simpa using hcs
        obtain ⟨iV, ii, iz0, iz1, iz2⟩ := info_parts Try.info26'
        have hCn : C.length = j := by rw [hDl, Hn.out]
        have hfit : i * 3 + (j - i) * 3 ≤ cur.toList.length := by rw [← hCn]; omega
        have hpos : 0 < j - i := by omega
        have hij2 : (i : Int) ≤ j := by omega
        have hc0 : ¬ c = i := by omega
        have hj0 : ¬ j - i = 0 := by omega
        have hHW := HW
        generalize cur.toList = L at *
        clear hvC hown hgj hjn
        go_wp2_with ((refine wpList_clear2 rfl _ 22 rfl 26 iV (.agg #[.int .i64 0, .int .i64 0, .string ⟨#[]⟩]) 3 Try.underlying22 ii iz0 rfl gb (i * 3) (j - i) (c - i) rfl hpos L hcur' hfit (zeroV_one _) ?_))
        intro w9 hz hg9
        have HR : RowKit.Hid (ValsAt w9 (nnV R) (.slice (some ⟨gb, 0, none⟩) i c) ∧ Below B w w9) := by
          have hlen : (nnV R).length = i := by rw [← hkeep, List.length_take, Nat.min_eq_left (Nat.le_of_lt hin)]
          have hblk := hz.out
          refine ⟨.lie _ gb 0 i c hlen.symm (Array.getElem?_eq_some_iff.1 hblk).1 (by unfold maxLen; omega) (fun k hk jj hjj => ?_) (fun u hu => HW.out.1.2 u (List.mem_of_mem_take (by rw [hkeep]; exact hu))), ?_⟩
          · rw [hlen] at hk
            rw [Nat.zero_add, cell_of_row w9 gb (k * 3 + jj) _ 26 (0, 0) hblk, List.getElem?_toArray, splice_get L (i * 3) _ (by rw [Array.length_toList, size_zeroCells]; exact hfit), if_pos (by omega)]
            have e1 : L[k * 3 + jj]? = (flat C)[k * 3 + jj]? := by rw [← htk, List.getElem?_take, if_pos (by omega)]
            have hkC : k < C.length := by omega
            rw [e1, flat_get C k hkC jj hjj]
            have e2 : (nnV R)[k]'(by omega) = C[k] := by
              have : (C.take i)[k]? = some C[k] := by rw [List.getElem?_take, if_pos hk, List.getElem?_eq_getElem hkC]
              rw [hkeep, List.getElem?_eq_getElem (by omega)] at this
              exact Option.some.inj this
            rw [e2]
          · have h9 := hg9.out
            exact ⟨h9.os.trans HW.out.2.os, h9.tape.trans HW.out.2.tape, h9.output.trans HW.out.2.output, Nat.le_trans HW.out.2.size h9.size, fun k hk => (h9.block k (by have := HW.out.2.size; have := HBB.out; omega) (by intro e; have := Option.some.inj e; omega)).trans (HW.out.2.block k hk)⟩
        clear hz hg9 hcur'
        go_wp2
        go_ret
        exact ⟨_, rfl, HR.out.1, HR.out.2⟩
end Go.Proofs.Ytodabeibdgancaa
/- slices.Clone over values. -/
namespace Go.Proofs.Ytodabeibdgancaa
open Go Go.RowKit
set_option maxHeartbeats 1000000 in
theorem cloneV_calls (R : Rw) (r : Value) (w : World) (hr : ValsAt w R r) (hlen : R.length < 1099511627776) :
    Calls Try.prog 16 #[r] w fun e w' => ∃ v, e = .returned v ∧ RowO w' w.heap.size R v ∧ Below w.heap.size w w' := by
  obtain ⟨a, n, c, rfl, hn, hm⟩ := hr.shape
  have Htx := Lib.hid hr.txt
  obtain ⟨i0, ii, iz0, iz1, iz2⟩ := info_parts Try.info26'
  rcases vals_src hr with ⟨rfl, rfl, rfl, rfl⟩ | ⟨ad, rfl, hsrc⟩
  · have hnil := fun w' => Lib.run_eql_slice_nil (P := Try.prog) w' 22 26 none 0 0 0 0 Try.underlying22
    simp only [Option.isNone_none] at hnil
    clear hr hn hm hlen
    go_enter Try.func16, Try.ntmps16
    go_wp2
    go_ret
    exact ⟨_, rfl, ⟨World.ownsRow_nil _ _ _ _, by simp⟩, Below.refl _ _⟩
  · have Hn := Lib.hid hn
    have hown0 := World.ownsRow_lit (e := 26) (size := 3) w #[] 0 (Nat.le_refl _) (by simp) (by simp)
    have hone := one_flat R
    have hsrc' : ∀ j u, (flat R)[j]? = some u → (w.alloc (.cells #[] 26)).cell? (ad.add j) = some u := by
      intro j u hu
      have h1 := hsrc j u hu
      rw [World.cell?_alloc_lt _ _ _ (World.block_lt_of_cell? w _ h1)]
      exact h1
    have HSRC := Lib.hid hsrc'
    have Hlen := Lib.hid hlen
    have hnil := fun w' => Lib.run_eql_slice_nil (P := Try.prog) w' 22 26 (some ad) n c 0 0 Try.underlying22
    simp only [Option.isNone_some] at hnil
    clear hr hn hm hsrc hsrc' hlen
    go_enter Try.func16, Try.ntmps16
    go_wp2_with (at_builtin; go_loud (refine wpList_append_own _ rfl _ _ 22 rfl w.heap.size 26 i0 (.agg #[.int .i64 0, .int .i64 0, .string ⟨#[]⟩]) 3 32 Try.underlying22 ii iz0 iz1 iz2 rfl (by decide) _ 0 [] rfl hown0 ad n c (flat R) rfl ?c0 ?c1 ?c2 ?c3 ?c4 ?c5 ?_))
    case c0 => rw [length_flat]; have := Hn.out; omega
    case c1 => exact HSRC.out
    case c2 => exact hone
    case c3 => unfold maxLen; have := Hn.out; have := Hlen.out; omega
    case c4 => have := Hn.out; have := Hlen.out; omega
    intro v' w' hown' hgrow _
    have H1 : RowKit.Hid (w'.ownsRow w.heap.size 26 3 v' R.length (flat R)) := by
      show World.ownsRow _ _ _ _ _ _ _
      have e : R.length = 0 + n := by have := Hn.out; omega
      rw [e]
      simpa using hown'
    have H2 : RowKit.Hid (Below w.heap.size w w') := ((Below.refl _ _).alloc (Nat.le_refl _) _).grown hgrow (by simp) (fun k hk => (hown0.lt k hk).1)
    clear hown' hgrow
    go_wp2
    go_ret
    exact ⟨_, rfl, ⟨H1.out, Htx.out⟩, H2.out⟩
end Go.Proofs.Ytodabeibdgancaa
/- slices.MinFunc and MaxFunc over values. -/
namespace Go.Proofs.Ytodabeibdgancaa
open Go Go.RowKit
/-- The least of m and some values (the first one of equals). -/
def minV (m : Vl) (l : Rw) : Vl := l.foldl (fun m v => if cmpV v m < 0 then v else m) m
set_option maxHeartbeats 4000000 in
theorem minFunc_calls (m : Vl) (L : Rw) (s : Value) (w : World) (hs : ValsAt w (m :: L) s) :
    Calls Try.prog 19 #[s, .func (.func 20) #[] #[]] w fun e w' => e = .returned (.agg #[.int .i64 (minV m L).kind, .int .i64 (minV m L).int, .string (minV m L).text]) ∧ Below w.heap.size w w' := by
  obtain ⟨a, n, c, rfl, hn, hm⟩ := hs.shape
  have HS := Lib.hid hs
  have Hn := Lib.hid hn
  have hm2 : n ≤ 9223372036854775807 := by unfold maxLen at hm; omega
  have hn1 : 0 < n := by rw [hn]; simp
  obtain ⟨b, o, rfl⟩ := hs.has 0 hn1
  obtain ⟨c0, c1, c2⟩ := hs.cell 0 (by simp)
  rw [Nat.zero_mul, Nat.add_zero] at c0 c1 c2
  have hlt := hs.lt (i := 0) (by simp)
  simp only [List.getElem_cons_zero] at c0 c1 c2
  clear hs hn hm
  go_enter Try.func19, Try.ntmps19
  go_wp2
  have V4 := (VarIs.new w #[.int .i64 0, .int .i64 0, .string ⟨#[]⟩] 26).alloc (.cells #[.int .i64 m.kind, .int .i64 m.int, .string m.text] 26)
  have V5 := VarIs.new1 w (.cells #[.int .i64 0, .int .i64 0, .string ⟨#[]⟩] 26) #[.int .i64 m.kind, .int .i64 m.int, .string m.text] 26
  have hb0 : Below w.heap.size w ((w.alloc (.cells #[.int .i64 0, .int .i64 0, .string ⟨#[]⟩] 26)).alloc (.cells #[.int .i64 m.kind, .int .i64 m.int, .string m.text] 26)) := ((Below.refl _ _).alloc (Nat.le_refl _) _).alloc (by simp) _
  generalize (w.alloc (.cells #[.int .i64 0, .int .i64 0, .string ⟨#[]⟩] 26)).alloc (.cells #[.int .i64 m.kind, .int .i64 m.int, .string m.text] 26) = W0 at *
  obtain ⟨B, hB⟩ : ∃ B, w.heap.size = B := ⟨_, rfl⟩
  have HB := Lib.hid hB
  rw [hB] at V4 V5 hb0 ⊢
  have HV4 := Lib.hid V4
  have HV5 := Lib.hid V5
  have Hb0 := Lib.hid hb0
  clear V4 V5 hb0 c0 c1 c2 hlt hB
  go_loopg [6] (n - 1) (fun g z wr => ∃ (k : Nat) (x : Vl), z = .int .i64 k ∧ g + k = n ∧ 1 ≤ k ∧ RowKit.Hid (minV m L = minV x (L.drop (k - 1))) ∧ RowKit.Hid (Below B w wr ∧ VarIs wr B #[.int .i64 0, .int .i64 0, .string ⟨#[]⟩] ∧ VarIs wr (B + 1) #[.int .i64 x.kind, .int .i64 x.int, .string x.text]))
  case atStart => exact ⟨1, m, rfl, by omega, Nat.le_refl _, rfl, Hb0.out, HV4.out, HV5.out⟩
  case round =>
    clear HV4 HV5 Hb0
    obtain ⟨k, x, rfl, hgk, hk1, Hx, Hw⟩ := hrel
    obtain ⟨hbw, ⟨v1, v2, v3⟩, ⟨u1, u2, u3⟩⟩ := Hw.out
    by_cases hkn : k < n
    · have hkl : k < (m :: L).length := by rw [← Hn.out]; exact hkn
      have hvs := HS.out.mono (HB.out ▸ hbw)
      obtain ⟨c0, c1, c2⟩ := hvs.cell k hkl
      have hlt := hvs.lt hkl
      have hkn' : (k : Int) < n := by omega
      have HC := Lib.hid (fun w' => cmpV_calls (m :: L)[k] x w')
      have hd : L.drop (k - 1) = (m :: L)[k] :: L.drop k := by
        obtain ⟨k', rfl⟩ : ∃ k', k = k' + 1 := ⟨k - 1, by omega⟩
        exact List.drop_eq_getElem_cons (by simpa using hkl)
      have hstep : minV x (L.drop (k - 1)) = minV (if cmpV (m :: L)[k] x < 0 then (m :: L)[k] else x) (L.drop k) := by rw [hd]; rfl
      have Hstep := Lib.hid hstep
      have Hgk := Lib.hid hgk
      have Hbw := Lib.hid hbw
      clear hd hstep hgk hvs hbw
      generalize (m :: L)[k] = y at *
      have e0 := u2 0
      have e1 := u2 1
      have e2 := u2 2
      simp only [List.getElem?_toArray, List.getElem?_cons_zero, List.getElem?_cons_succ] at e0 e1 e2
      clear hkl
      go_upto_region 7 with (fail)
      go_cut [27] (fun z wx => z = .bool (decide (cmpV y x < 0)) ∧ RowKit.Hid (Below wr.heap.size wr wx))
      case first =>
        go_region_held3 (fun w' => Below wr.heap.size wr w' ∧ ∀ b o, b < wr.heap.size → w'.cell? ⟨b, o, none⟩ = wr.cell? ⟨b, o, none⟩)
          (first | assumption | exact S_of (Below.drew (Below.refl _ _)) | exact S_step (by assumption) (by assumption))
          (first | (go_at_call 20; (with_reducible refine (HC.out _).mono ?_); rintro e w1 ⟨rfl, hb1⟩))
        rename_i hH
        have H := Lib.hid hH.1
        clear hH
        go_step
        go_step
        go_meet
        exact ⟨rfl, H.out⟩
      obtain ⟨rfl, Hc⟩ := hcut
      have hbx := Hc.out
      have HB2 := Lib.hid (Hbw.out.trans (hbx.mono (Nat.le_of_lt v1)))
      have HV4 : RowKit.Hid (VarIs wc B #[.int .i64 0, .int .i64 0, .string ⟨#[]⟩]) := VarIs.below ⟨v1, v2, v3⟩ hbx v1
      have HV5 : RowKit.Hid (VarIs wc (B + 1) #[.int .i64 x.kind, .int .i64 x.int, .string x.text]) := VarIs.below ⟨u1, u2, u3⟩ hbx u1
      replace c0 := (hbx.cell (p := ⟨b, o + k * 3, none⟩) hlt).trans c0
      replace c1 := (hbx.cell (p := ⟨b, o + k * 3 + 1, none⟩) hlt).trans c1
      replace c2 := (hbx.cell (p := ⟨b, o + k * 3 + 2, none⟩) hlt).trans c2
      replace hlt := Nat.lt_of_lt_of_le hlt hbx.size
      clear hbx Hc e0 e1 e2 v1 v2 v3 u1 u2 u3 HC Hw
      by_cases hlv : cmpV y x < 0
      · have hd1 : decide (cmpV y x < 0) = true := by simp [hlv]
        obtain ⟨w1', w2', w3'⟩ := HV5.out
        have f0 := w2' 0
        have f1 := w2' 1
        have f2 := w2' 2
        have g0 := w3' 0
        have g1 := w3' 1
        have g2 := w3' 2
        simp only [List.getElem?_toArray, List.getElem?_cons_zero, List.getElem?_cons_succ] at f0 f1 f2
        clear w2' w3'
        have Hn2 : RowKit.Hid (minV m L = minV y (L.drop k)) := by show _ = _; rw [Hx.out, Hstep.out, if_pos hlv]
        have HV4b : RowKit.Hid (VarIs (((wc.setCell ⟨B + 1, 0, none⟩ (.int .i64 y.kind)).setCell ⟨B + 1, 1, none⟩ (.int .i64 y.int)).setCell ⟨B + 1, 2, none⟩ (.string y.text)) B #[.int .i64 0, .int .i64 0, .string ⟨#[]⟩]) := ((HV4.out.setOther (by omega) 0 _).setOther (by omega) 1 _).setOther (by omega) 2 _
        have HV5b : RowKit.Hid (VarIs (((wc.setCell ⟨B + 1, 0, none⟩ (.int .i64 y.kind)).setCell ⟨B + 1, 1, none⟩ (.int .i64 y.int)).setCell ⟨B + 1, 2, none⟩ (.string y.text)) (B + 1) #[.int .i64 y.kind, .int .i64 y.int, .string y.text]) := ((HV5.out.set 0 (by simp) _).set 1 (by simp) _).set 2 (by simp) _
        have HB3 : RowKit.Hid (Below B w (((wc.setCell ⟨B + 1, 0, none⟩ (.int .i64 y.kind)).setCell ⟨B + 1, 1, none⟩ (.int .i64 y.int)).setCell ⟨B + 1, 2, none⟩ (.string y.text))) := ((HB2.out.setCell (Nat.le_succ B) _).setCell (Nat.le_succ B) _).setCell (Nat.le_succ B) _
        go_wp2
        go_roundg (gk - 1)
        case rel => exact ⟨k + 1, y, by go_num, by have := Hgk.out; omega, by omega, Hn2.out, HB3.out, HV4b.out, HV5b.out⟩
        case measure => have := Hgk.out; omega
      · have hd1 : decide (cmpV y x < 0) = false := by simp [hlv]
        have Hn2 : RowKit.Hid (minV m L = minV x (L.drop k)) := by show _ = _; rw [Hx.out, Hstep.out, if_neg hlv]
        go_wp2
        go_roundg (gk - 1)
        case rel => exact ⟨k + 1, x, by go_num, by have := Hgk.out; omega, by omega, Hn2.out, HB2.out, HV4.out, HV5.out⟩
        case measure => have := Hgk.out; omega
    · obtain rfl : k = n := by omega
      have hR : RowKit.Hid (minV m L = x) := by
        show _ = _
        rw [Hx.out, List.drop_of_length_le (by have := Hn.out; simp only [List.length_cons] at this; omega)]
        rfl
      have e0 := u2 0
      have e1 := u2 1
      have e2 := u2 2
      have f0 := v2 0
      have f1 := v2 1
      have f2 := v2 2
      have g0 := v3 0
      have g1 := v3 1
      have g2 := v3 2
      simp only [List.getElem?_toArray, List.getElem?_cons_zero, List.getElem?_cons_succ] at e0 e1 e2 f0 f1 f2
      have HV4b : RowKit.Hid (VarIs (((wr.setCell ⟨B, 0, none⟩ (.int .i64 x.kind)).setCell ⟨B, 1, none⟩ (.int .i64 x.int)).setCell ⟨B, 2, none⟩ (.string x.text)) B #[.int .i64 x.kind, .int .i64 x.int, .string x.text]) := (((⟨v1, v2, v3⟩ : VarIs wr B _).set 0 (by simp) _).set 1 (by simp) _).set 2 (by simp) _
      have HB3 : RowKit.Hid (Below B w (((wr.setCell ⟨B, 0, none⟩ (.int .i64 x.kind)).setCell ⟨B, 1, none⟩ (.int .i64 x.int)).setCell ⟨B, 2, none⟩ (.string x.text))) := ((hbw.setCell (Nat.le_refl B) _).setCell (Nat.le_refl B) _).setCell (Nat.le_refl B) _
      clear v2 v3 u2 u3 hgk hkn
      go_wp2
      obtain ⟨-, r2, -⟩ := HV4b.out
      have r0 := r2 0
      have r1 := r2 1
      have r3 := r2 2
      simp only [List.getElem?_toArray, List.getElem?_cons_zero, List.getElem?_cons_succ] at r0 r1 r3
      refine bodyPost_ret (v := .agg #[.int .i64 x.kind, .int .i64 x.int, .string x.text]) (by simp [results, Try.results19, go_sem, r0, r1, r3]) rfl ?_
      exact ⟨by rw [hR.out], by rw [HB.out]; exact HB3.out⟩
/-- The greatest of m and some values (the first one of equals). -/
def maxV (m : Vl) (l : Rw) : Vl := l.foldl (fun m v => if 0 < cmpV v m then v else m) m
set_option maxHeartbeats 4000000 in
theorem maxFunc_calls (m : Vl) (L : Rw) (s : Value) (w : World) (hs : ValsAt w (m :: L) s) :
    Calls Try.prog 21 #[s, .func (.func 20) #[] #[]] w fun e w' => e = .returned (.agg #[.int .i64 (maxV m L).kind, .int .i64 (maxV m L).int, .string (maxV m L).text]) ∧ Below w.heap.size w w' := by
  obtain ⟨a, n, c, rfl, hn, hm⟩ := hs.shape
  have HS := Lib.hid hs
  have Hn := Lib.hid hn
  have hm2 : n ≤ 9223372036854775807 := by unfold maxLen at hm; omega
  have hn1 : 0 < n := by rw [hn]; simp
  obtain ⟨b, o, rfl⟩ := hs.has 0 hn1
  obtain ⟨c0, c1, c2⟩ := hs.cell 0 (by simp)
  rw [Nat.zero_mul, Nat.add_zero] at c0 c1 c2
  have hlt := hs.lt (i := 0) (by simp)
  simp only [List.getElem_cons_zero] at c0 c1 c2
  clear hs hn hm
  go_enter Try.func21, Try.ntmps21
  go_wp2
  have V4 := (VarIs.new w #[.int .i64 0, .int .i64 0, .string ⟨#[]⟩] 26).alloc (.cells #[.int .i64 m.kind, .int .i64 m.int, .string m.text] 26)
  have V5 := VarIs.new1 w (.cells #[.int .i64 0, .int .i64 0, .string ⟨#[]⟩] 26) #[.int .i64 m.kind, .int .i64 m.int, .string m.text] 26
  have hb0 : Below w.heap.size w ((w.alloc (.cells #[.int .i64 0, .int .i64 0, .string ⟨#[]⟩] 26)).alloc (.cells #[.int .i64 m.kind, .int .i64 m.int, .string m.text] 26)) := ((Below.refl _ _).alloc (Nat.le_refl _) _).alloc (by simp) _
  generalize (w.alloc (.cells #[.int .i64 0, .int .i64 0, .string ⟨#[]⟩] 26)).alloc (.cells #[.int .i64 m.kind, .int .i64 m.int, .string m.text] 26) = W0 at *
  obtain ⟨B, hB⟩ : ∃ B, w.heap.size = B := ⟨_, rfl⟩
  have HB := Lib.hid hB
  rw [hB] at V4 V5 hb0 ⊢
  have HV4 := Lib.hid V4
  have HV5 := Lib.hid V5
  have Hb0 := Lib.hid hb0
  clear V4 V5 hb0 c0 c1 c2 hlt hB
  go_loopg [6] (n - 1) (fun g z wr => ∃ (k : Nat) (x : Vl), z = .int .i64 k ∧ g + k = n ∧ 1 ≤ k ∧ RowKit.Hid (maxV m L = maxV x (L.drop (k - 1))) ∧ RowKit.Hid (Below B w wr ∧ VarIs wr B #[.int .i64 0, .int .i64 0, .string ⟨#[]⟩] ∧ VarIs wr (B + 1) #[.int .i64 x.kind, .int .i64 x.int, .string x.text]))
  case atStart => exact ⟨1, m, rfl, by omega, Nat.le_refl _, rfl, Hb0.out, HV4.out, HV5.out⟩
  case round =>
    clear HV4 HV5 Hb0
    obtain ⟨k, x, rfl, hgk, hk1, Hx, Hw⟩ := hrel
    obtain ⟨hbw, ⟨v1, v2, v3⟩, ⟨u1, u2, u3⟩⟩ := Hw.out
    by_cases hkn : k < n
    · have hkl : k < (m :: L).length := by rw [← Hn.out]; exact hkn
      have hvs := HS.out.mono (HB.out ▸ hbw)
      obtain ⟨c0, c1, c2⟩ := hvs.cell k hkl
      have hlt := hvs.lt hkl
      have hkn' : (k : Int) < n := by omega
      have HC := Lib.hid (fun w' => cmpV_calls (m :: L)[k] x w')
      have hd : L.drop (k - 1) = (m :: L)[k] :: L.drop k := by
        obtain ⟨k', rfl⟩ : ∃ k', k = k' + 1 := ⟨k - 1, by omega⟩
        exact List.drop_eq_getElem_cons (by simpa using hkl)
      have hstep : maxV x (L.drop (k - 1)) = maxV (if 0 < cmpV (m :: L)[k] x then (m :: L)[k] else x) (L.drop k) := by rw [hd]; rfl
      have Hstep := Lib.hid hstep
      have Hgk := Lib.hid hgk
      have Hbw := Lib.hid hbw
      clear hd hstep hgk hvs hbw
      generalize (m :: L)[k] = y at *
      have e0 := u2 0
      have e1 := u2 1
      have e2 := u2 2
      simp only [List.getElem?_toArray, List.getElem?_cons_zero, List.getElem?_cons_succ] at e0 e1 e2
      clear hkl
      go_upto_region 7 with (fail)
      go_cut [27] (fun z wx => z = .bool (decide (0 < cmpV y x)) ∧ RowKit.Hid (Below wr.heap.size wr wx))
      case first =>
        go_region_held3 (fun w' => Below wr.heap.size wr w' ∧ ∀ b o, b < wr.heap.size → w'.cell? ⟨b, o, none⟩ = wr.cell? ⟨b, o, none⟩)
          (first | assumption | exact S_of (Below.drew (Below.refl _ _)) | exact S_step (by assumption) (by assumption))
          (first | (go_at_call 20; (with_reducible refine (HC.out _).mono ?_); rintro e w1 ⟨rfl, hb1⟩))
        rename_i hH
        have H := Lib.hid hH.1
        clear hH
        go_step
        go_step
        go_meet
        exact ⟨rfl, H.out⟩
      obtain ⟨rfl, Hc⟩ := hcut
      have hbx := Hc.out
      have HB2 := Lib.hid (Hbw.out.trans (hbx.mono (Nat.le_of_lt v1)))
      have HV4 : RowKit.Hid (VarIs wc B #[.int .i64 0, .int .i64 0, .string ⟨#[]⟩]) := VarIs.below ⟨v1, v2, v3⟩ hbx v1
      have HV5 : RowKit.Hid (VarIs wc (B + 1) #[.int .i64 x.kind, .int .i64 x.int, .string x.text]) := VarIs.below ⟨u1, u2, u3⟩ hbx u1
      replace c0 := (hbx.cell (p := ⟨b, o + k * 3, none⟩) hlt).trans c0
      replace c1 := (hbx.cell (p := ⟨b, o + k * 3 + 1, none⟩) hlt).trans c1
      replace c2 := (hbx.cell (p := ⟨b, o + k * 3 + 2, none⟩) hlt).trans c2
      replace hlt := Nat.lt_of_lt_of_le hlt hbx.size
      clear hbx Hc e0 e1 e2 v1 v2 v3 u1 u2 u3 HC Hw
      by_cases hlv : 0 < cmpV y x
      · have hd1 : decide (0 < cmpV y x) = true := by simp [hlv]
        obtain ⟨w1', w2', w3'⟩ := HV5.out
        have f0 := w2' 0
        have f1 := w2' 1
        have f2 := w2' 2
        have g0 := w3' 0
        have g1 := w3' 1
        have g2 := w3' 2
        simp only [List.getElem?_toArray, List.getElem?_cons_zero, List.getElem?_cons_succ] at f0 f1 f2
        clear w2' w3'
        have Hn2 : RowKit.Hid (maxV m L = maxV y (L.drop k)) := by show _ = _; rw [Hx.out, Hstep.out, if_pos hlv]
        have HV4b : RowKit.Hid (VarIs (((wc.setCell ⟨B + 1, 0, none⟩ (.int .i64 y.kind)).setCell ⟨B + 1, 1, none⟩ (.int .i64 y.int)).setCell ⟨B + 1, 2, none⟩ (.string y.text)) B #[.int .i64 0, .int .i64 0, .string ⟨#[]⟩]) := ((HV4.out.setOther (by omega) 0 _).setOther (by omega) 1 _).setOther (by omega) 2 _
        have HV5b : RowKit.Hid (VarIs (((wc.setCell ⟨B + 1, 0, none⟩ (.int .i64 y.kind)).setCell ⟨B + 1, 1, none⟩ (.int .i64 y.int)).setCell ⟨B + 1, 2, none⟩ (.string y.text)) (B + 1) #[.int .i64 y.kind, .int .i64 y.int, .string y.text]) := ((HV5.out.set 0 (by simp) _).set 1 (by simp) _).set 2 (by simp) _
        have HB3 : RowKit.Hid (Below B w (((wc.setCell ⟨B + 1, 0, none⟩ (.int .i64 y.kind)).setCell ⟨B + 1, 1, none⟩ (.int .i64 y.int)).setCell ⟨B + 1, 2, none⟩ (.string y.text))) := ((HB2.out.setCell (Nat.le_succ B) _).setCell (Nat.le_succ B) _).setCell (Nat.le_succ B) _
        go_wp2
        go_roundg (gk - 1)
        case rel => exact ⟨k + 1, y, by go_num, by have := Hgk.out; omega, by omega, Hn2.out, HB3.out, HV4b.out, HV5b.out⟩
        case measure => have := Hgk.out; omega
      · have hd1 : decide (0 < cmpV y x) = false := by simp [hlv]
        have Hn2 : RowKit.Hid (maxV m L = maxV x (L.drop k)) := by show _ = _; rw [Hx.out, Hstep.out, if_neg hlv]
        go_wp2
        go_roundg (gk - 1)
        case rel => exact ⟨k + 1, x, by go_num, by have := Hgk.out; omega, by omega, Hn2.out, HB2.out, HV4.out, HV5.out⟩
        case measure => have := Hgk.out; omega
    · obtain rfl : k = n := by omega
      have hR : RowKit.Hid (maxV m L = x) := by
        show _ = _
        rw [Hx.out, List.drop_of_length_le (by have := Hn.out; simp only [List.length_cons] at this; omega)]
        rfl
      have e0 := u2 0
      have e1 := u2 1
      have e2 := u2 2
      have f0 := v2 0
      have f1 := v2 1
      have f2 := v2 2
      have g0 := v3 0
      have g1 := v3 1
      have g2 := v3 2
      simp only [List.getElem?_toArray, List.getElem?_cons_zero, List.getElem?_cons_succ] at e0 e1 e2 f0 f1 f2
      have HV4b : RowKit.Hid (VarIs (((wr.setCell ⟨B, 0, none⟩ (.int .i64 x.kind)).setCell ⟨B, 1, none⟩ (.int .i64 x.int)).setCell ⟨B, 2, none⟩ (.string x.text)) B #[.int .i64 x.kind, .int .i64 x.int, .string x.text]) := (((⟨v1, v2, v3⟩ : VarIs wr B _).set 0 (by simp) _).set 1 (by simp) _).set 2 (by simp) _
      have HB3 : RowKit.Hid (Below B w (((wr.setCell ⟨B, 0, none⟩ (.int .i64 x.kind)).setCell ⟨B, 1, none⟩ (.int .i64 x.int)).setCell ⟨B, 2, none⟩ (.string x.text))) := ((hbw.setCell (Nat.le_refl B) _).setCell (Nat.le_refl B) _).setCell (Nat.le_refl B) _
      clear v2 v3 u2 u3 hgk hkn
      go_wp2
      obtain ⟨-, r2, -⟩ := HV4b.out
      have r0 := r2 0
      have r1 := r2 1
      have r3 := r2 2
      simp only [List.getElem?_toArray, List.getElem?_cons_zero, List.getElem?_cons_succ] at r0 r1 r3
      refine bodyPost_ret (v := .agg #[.int .i64 x.kind, .int .i64 x.int, .string x.text]) (by simp [results, Try.results21, go_sem, r0, r1, r3]) rfl ?_
      exact ⟨by rw [hR.out], by rw [HB.out]; exact HB3.out⟩
end Go.Proofs.Ytodabeibdgancaa
/- Aggregate. -/
namespace Go.Proofs.Ytodabeibdgancaa
open Go Go.RowKit
def intV (n : Int) : Vl := ⟨1, n, ⟨#[]⟩⟩
def sumV (l : Rw) : Int := l.foldl (fun s v => if v.kind = 1 then wrap64 (s + v.int) else s) 0
/-- The value of an aggregate function. -/
def aggV (k : Int) (l : Rw) : Vl :=
  if k = 1 then intV l.length else if k = 2 then intV (nnV l).length else
  match nnV l with
  | [] => nilV
  | x :: r => if k = 4 then minV x r else if k = 5 then maxV x r else if k = 3 then intV (sumV (x :: r)) else nilV
theorem sumV_step (l : Rw) (k : Nat) (h : k < l.length) : sumV (l.take (k + 1)) = if (l[k]).kind = 1 then wrap64 (sumV (l.take k) + (l[k]).int) else sumV (l.take k) := by
  unfold sumV
  rw [List.take_succ_eq_append_getElem h, List.foldl_append]
  rfl
def AggEnd (k : Int) (R : Rw) (w : World) (e : Ending) (w' : World) : Prop := e = .returned (aggV k R).val ∧ Below w.heap.size w w'
set_option maxHeartbeats 8000000 in
set_option maxRecDepth 20000 in
theorem aggregate_calls (k : Int) (R : Rw) (s : Value) (w : World) (hs : ValsAt w R s) (hlen : R.length < 1099511627776) :
    Calls Try.prog 6 #[.int .i64 k, s] w (AggEnd k R w) := by
  obtain ⟨a, n, c, rfl, hn, hmx⟩ := hs.shape
  have HC := Lib.hid (cloneV_calls R _ (w.alloc (.cells #[.int .i64 0, .int .i64 0, .string ⟨#[]⟩] 26)) (hs.mono ((Below.refl _ _).alloc (Nat.le_refl _) _)) hlen)
  have V := Lib.hid (VarIs.new w #[.int .i64 0, .int .i64 0, .string ⟨#[]⟩] 26)
  have Hn := Lib.hid hn
  have hnb : n < 1099511627776 := by omega
  obtain ⟨B, hB⟩ : ∃ B, w.heap.size = B := ⟨_, rfl⟩
  have HB := Lib.hid hB
  have Hs := Lib.hid hs
  clear hs hn hmx hlen hB
  go_enter Try.func6, Try.ntmps6
  go_wp2_with fail
  (with_reducible refine HC.out.mono ?_)
  rintro e w1 ⟨v1, rfl, hv1, hb1⟩
  have Hv1 := Lib.hid hv1
  have Hb1 := Lib.hid hb1
  have HD := Lib.hid (deleteFunc_calls R v1 _ w1 hv1 hb1.size)
  clear hv1 hb1 HC
  go_wp2_with fail
  (with_reducible refine HD.out.mono ?_)
  rintro e w2 ⟨u, rfl, hu, hb2⟩
  have hW : Below w.heap.size w w2 := ((Below.refl _ _).alloc (Nat.le_refl _) _).trans ((Hb1.out.trans hb2).mono (by simp))
  have hV : VarIs w2 B #[.int .i64 0, .int .i64 0, .string ⟨#[]⟩] := by
    have := V.out.below (Hb1.out.trans hb2) (by simp)
    rwa [HB.out] at this
  have Hu := Lib.hid hu
  have HV := Lib.hid hV
  have HW := Lib.hid hW
  obtain ⟨au, nu, cu, rfl, hnu, -⟩ := hu.shape
  have hlu : (nnV R).length ≤ R.length := List.length_filter_le _ _
  have hnub : nu < 1099511627776 := by have := Hn.out; omega
  have Hnu := Lib.hid hnu
  simp only [HB.out]
  have F3 : RowKit.Hid (∀ w3, Below w2.heap.size w2 w3 → (B < w3.heap.size ∧ w3.cell? ⟨B, 0, none⟩ = some (.int .i64 0) ∧ w3.cell? ⟨B, 1, none⟩ = some (.int .i64 0) ∧ w3.cell? ⟨B, 2, none⟩ = some (.string ⟨#[]⟩) ∧ w3.frozen? ⟨B, 0, none⟩ = false ∧ w3.frozen? ⟨B, 1, none⟩ = false ∧ w3.frozen? ⟨B, 2, none⟩ = false) ∧ ∀ v : Vl, v = aggV k R → AggEnd k R w (.returned v.val) (((w3.setCell ⟨B, 0, none⟩ (.int .i64 v.kind)).setCell ⟨B, 1, none⟩ (.int .i64 v.int)).setCell ⟨B, 2, none⟩ (.string v.text))) := by
    refine Lib.hid fun w3 hb3 => ⟨?_, fun v hv => ⟨by rw [hv], ?_⟩⟩
    · obtain ⟨f1, f2, f3⟩ := HV.out.below hb3 HV.out.lt
      exact ⟨f1, f2 0, f2 1, f2 2, f3 0, f3 1, f3 2⟩
    · have h0 : w.heap.size ≤ B := by rw [HB.out]; exact Nat.le_refl _
      exact (((HW.out.trans (hb3.mono HW.out.size)).setCell (p := ⟨B, 0, none⟩) h0 _).setCell (p := ⟨B, 1, none⟩) h0 _).setCell (p := ⟨B, 2, none⟩) h0 _
  have HvI := Lib.hid (fun (m : Int) w' => vInt_calls m w')
  clear hu hb2 hW HD Hb1 V hV hnu hlu Hv1
  by_cases k1 : k = 1
  · have Ha := Lib.hid (show intV n = aggV k R by rw [k1, Hn.out]; rfl)
    have hk : (k == 1) = true := by simpa using k1
    clear k1
    go_wp2_with fail
    (with_reducible refine (HvI.out _ _).mono ?_)
    rintro e w3 ⟨rfl, hb3⟩
    obtain ⟨⟨d1, d2, d3, d4, d5, d6, d7⟩, he⟩ := F3.out w3 hb3
    have He := Lib.hid (he _ Ha.out)
    clear he hb3 F3 HvI
    go_wp2
    refine bodyPost_ret (v := (intV n).val) (by simp [results, Try.results6, go_sem, d2, d3, d4]; rfl) rfl He.out
  have hk1 : (k == 1) = false := by simpa using k1
  by_cases k2 : k = 2
  · have Ha := Lib.hid (show intV nu = aggV k R by rw [k2, Hnu.out]; rfl)
    have hk : (k == 2) = true := by simpa using k2
    clear k1 k2
    go_wp2_with fail
    (with_reducible refine (HvI.out _ _).mono ?_)
    rintro e w3 ⟨rfl, hb3⟩
    obtain ⟨⟨d1, d2, d3, d4, d5, d6, d7⟩, he⟩ := F3.out w3 hb3
    have He := Lib.hid (he _ Ha.out)
    clear he hb3 F3 HvI
    go_wp2
    refine bodyPost_ret (v := (intV nu).val) (by simp [results, Try.results6, go_sem, d2, d3, d4]; rfl) rfl He.out
  have hk2 : (k == 2) = false := by simpa using k2
  rcases hnn : nnV R with _ | ⟨x, r⟩
  · have h0 : nu = 0 := by have := Hnu.out; rw [hnn] at this; exact this
    have Ha := Lib.hid (show nilV = aggV k R by unfold aggV; rw [if_neg k1, if_neg k2, hnn])
    obtain ⟨⟨d1, d2, d3, d4, d5, d6, d7⟩, he⟩ := F3.out w2 (Below.refl _ _)
    have He := Lib.hid (he _ Ha.out)
    subst h0
    clear he F3 HvI k1 k2 hnn
    go_wp2
    refine bodyPost_ret (v := nilV.val) (by simp [results, Try.results6, go_sem, d2, d3, d4]; rfl) rfl He.out
  have hnu0 : ((nu : Int) == 0) = false := by have := Hnu.out; rw [hnn] at this; simp at this ⊢; omega
  have Hux := Lib.hid (show ValsAt w2 (x :: r) (.slice au nu cu) by rw [← hnn]; exact Hu.out)
  have Hag := Lib.hid (show aggV k R = if k = 4 then minV x r else if k = 5 then maxV x r else if k = 3 then intV (sumV (x :: r)) else nilV by unfold aggV; rw [if_neg k1, if_neg k2, hnn])
  have Hlr := Lib.hid (show nu = (x :: r).length by rw [← hnn]; exact Hnu.out)
  clear k1 k2 hnn Hu
  by_cases k4 : k = 4
  · have Ha := Lib.hid (show minV x r = aggV k R by rw [Hag.out, if_pos k4])
    have hk : (k == 4) = true := by simpa using k4
    have HM := Lib.hid (minFunc_calls x r _ w2 Hux.out)
    clear k4
    go_wp2_with fail
    (with_reducible refine HM.out.mono ?_)
    rintro e w3 ⟨rfl, hb3⟩
    obtain ⟨⟨d1, d2, d3, d4, d5, d6, d7⟩, he⟩ := F3.out w3 hb3
    have He := Lib.hid (he _ Ha.out)
    clear he hb3 F3 HvI
    go_wp2
    refine bodyPost_ret (v := (minV x r).val) (by simp [results, Try.results6, go_sem, d2, d3, d4]; rfl) rfl He.out
  have hk4 : (k == 4) = false := by simpa using k4
  by_cases k5 : k = 5
  · have Ha := Lib.hid (show maxV x r = aggV k R by rw [Hag.out, if_neg k4, if_pos k5])
    have hk : (k == 5) = true := by simpa using k5
    have HM := Lib.hid (maxFunc_calls x r _ w2 Hux.out)
    clear k4 k5
    go_wp2_with fail
    (with_reducible refine HM.out.mono ?_)
    rintro e w3 ⟨rfl, hb3⟩
    obtain ⟨⟨d1, d2, d3, d4, d5, d6, d7⟩, he⟩ := F3.out w3 hb3
    have He := Lib.hid (he _ Ha.out)
    clear he hb3 F3 HvI
    go_wp2
    refine bodyPost_ret (v := (maxV x r).val) (by simp [results, Try.results6, go_sem, d2, d3, d4]; rfl) rfl He.out
  have hk5 : (k == 5) = false := by simpa using k5
  by_cases k3 : k = 3
  · have hk : (k != 3) = false := by simp [k3]
    have Ha := Lib.hid (show intV (sumV (x :: r)) = aggV k R by rw [Hag.out, if_neg k4, if_neg k5, if_pos k3])
    clear k3 k4 k5
    go_wp2_with fail
    go_loopw [6, 45] (fun z6 z45 wr => ∃ j : Nat, j ≤ nu ∧ z45 = .int .i64 j ∧ z6 = .int .i64 (sumV ((x :: r).take j)) ∧ RowKit.Hid (Below w2.heap.size w2 wr)) (fun _ z _ => nu - (intOf z).toNat)
    case atStart => exact ⟨0, Nat.zero_le _, rfl, rfl, Lib.hid (Below.refl _ _)⟩
    case round =>
      obtain ⟨j, hj, rfl, rfl, Hb⟩ := hrel
      by_cases hlt : j < nu
      · have hjl : j < (x :: r).length := by have := Hlr.out; omega
        obtain ⟨b, o, rfl⟩ := Hux.out.has j hlt
        have hst := sumV_step (x :: r) j hjl
        have hv := Hux.out.mono Hb.out
        obtain ⟨e0, e1, e2⟩ := hv.cell j hjl
        have hbl := hv.lt hjl
        have Hst := Lib.hid hst
        generalize (x :: r)[j] = y at *
        have V := VarIs.new wr #[.int .i64 y.kind, .int .i64 y.int, .string y.text] 26
        obtain ⟨-, y0, -⟩ := V
        have z0 := y0 0
        have z1 := y0 1
        simp only [List.getElem?_toArray, List.getElem?_cons_zero, List.getElem?_cons_succ] at z0 z1
        have Hb1 := Lib.hid (show Below w2.heap.size w2 (wr.alloc (.cells #[.int .i64 y.kind, .int .i64 y.int, .string y.text] 26)) from Hb.out.alloc Hb.out.size _)
        clear hst hv y0 hjl
        by_cases hy : y.kind = 1
        · have hyk : (y.kind == 1) = true := by simpa using hy
          have Hs2 := Lib.hid (show sumV ((x :: r).take (j + 1)) = wrap64 (sumV ((x :: r).take j) + y.int) by rw [Hst.out, if_pos hy])
          clear hy
          generalize sumV ((x :: r).take j) = S at *
          go_wp2_with fail
          go_roundw
          case rel => exact ⟨j + 1, by omega, by go_num, by rw [Hs2.out], Hb1⟩
          case measure => simp [intOf]; omega
        · have hyk : (y.kind == 1) = false := by simpa using hy
          have Hs2 := Lib.hid (show sumV ((x :: r).take (j + 1)) = sumV ((x :: r).take j) by rw [Hst.out, if_neg hy])
          clear hy
          generalize sumV ((x :: r).take j) = S at *
          go_wp2_with fail
          go_roundw
          case rel => exact ⟨j + 1, by omega, by go_num, by rw [Hs2.out], Hb1⟩
          case measure => simp [intOf]; omega
      · obtain rfl : j = nu := by omega
        have hS : sumV ((x :: r).take j) = sumV (x :: r) := by rw [List.take_of_length_le (by have := Hlr.out; omega)]
        have HS := Lib.hid hS
        generalize sumV ((x :: r).take j) = S at *
        clear hS
        go_wp2_with fail
        (with_reducible refine (HvI.out _ _).mono ?_)
        rintro e w3 ⟨rfl, hb3⟩
        obtain ⟨⟨d1, d2, d3, d4, d5, d6, d7⟩, he⟩ := F3.out w3 (Hb.out.trans (hb3.mono Hb.out.size))
        have He := Lib.hid (he (intV S) (by rw [HS.out]; exact Ha.out))
        clear he hb3 F3 HvI
        go_wp2
        refine bodyPost_ret (v := (intV S).val) (by simp [results, Try.results6, go_sem, d2, d3, d4]; rfl) rfl He.out
  · have hk : (k != 3) = true := by simpa using k3
    have Ha := Lib.hid (show nilV = aggV k R by rw [Hag.out, if_neg k4, if_neg k5, if_neg k3])
    obtain ⟨⟨d1, d2, d3, d4, d5, d6, d7⟩, he⟩ := F3.out w2 (Below.refl _ _)
    have He := Lib.hid (he _ Ha.out)
    clear he F3 HvI k3 k4 k5
    go_wp2
    refine bodyPost_ret (v := nilV.val) (by simp [results, Try.results6, go_sem, d2, d3, d4]; rfl) rfl He.out
end Go.Proofs.Ytodabeibdgancaa
/- Expressions, items, orders and a bound statement as values; the value of a column. -/
namespace Go.Proofs.Ytodabeibdgancaa
open Go Go.RowKit
structure Sl where
  a : Option Addr
  n : Nat
  c : Nat
def Sl.v (s : Sl) : Value := .slice s.a s.n s.c
/-- An expression as it lies in memory. -/
structure Xp where
  op : Int
  tab : ByteArray
  nm : ByteArray
  idx : Int
  lit : Vl
  args : Sl
def Xp.cells (e : Xp) : List Value := [.int .i64 e.op, .string e.tab, .string e.nm, .int .i64 e.idx, .int .i64 e.lit.kind, .int .i64 e.lit.int, .string e.lit.text, .slice e.args.a e.args.n e.args.c]
def Xp.val (e : Xp) : Value := .agg #[.int .i64 e.op, .string e.tab, .string e.nm, .int .i64 e.idx, .int .i64 e.lit.kind, .int .i64 e.lit.int, .string e.lit.text, .slice e.args.a e.args.n e.args.c]
def ValEnd (v : Vl) (w : World) (e : Ending) (w' : World) : Prop := e = .returned v.val ∧ Below w.heap.size w w'
set_option maxHeartbeats 4000000 in
set_option maxRecDepth 20000 in
theorem evalue_col (e : Xp) (R : Rw) (s : Value) (q : Nat) (w : World) (ho : e.op = 2) (hi : e.idx = q) (hs : ValsAt w R s) (hq : q < R.length) :
    Calls Try.prog 44 #[e.val, s] w (ValEnd (R.getD q nilV) w) := by
  obtain ⟨a, n, c, rfl, hn, hmx⟩ := hs.shape
  obtain ⟨b, o, rfl⟩ := hs.has q (by omega)
  obtain ⟨x0, x1, x2⟩ := hs.cell q hq
  have hbl := hs.lt hq
  have hg : R.getD q nilV = R[q] := by rw [List.getD_eq_getElem?_getD, List.getElem?_eq_getElem hq]; rfl
  have hqn : q < n := by omega
  rw [hg]
  unfold maxLen at hmx
  clear hs hg hn
  generalize R[q] = y at *
  clear hq
  obtain ⟨op, tab, nm, idx, ⟨lk, li, lt⟩, ⟨aa, an, ac⟩⟩ := e
  obtain rfl : op = 2 := ho
  obtain rfl : idx = q := hi
  unfold Xp.val
  have i1 : (0 : Int) ≤ q := by omega
  have i2 : (q : Int) < n := by omega
  go_enter Try.func44, Try.ntmps44
  go_wp2
  refine bodyPost_ret (v := y.val) (by simp [results, Try.results44, go_sem]; rfl) rfl ⟨rfl, ?_⟩
  first
    | exact ((Below.refl _ _).alloc (Nat.le_refl _) _).alloc (by simp) _
    | exact (((((Below.refl _ _).alloc (Nat.le_refl _) _).alloc (by simp) _).setCell (by simp) _).setCell (by simp) _).setCell (by simp) _
end Go.Proofs.Ytodabeibdgancaa
/- Items in memory; append of a value to a row of one's own; new rows of empty values. -/
namespace Go.Proofs.Ytodabeibdgancaa
open Go Go.RowKit
/-- An item, with what its expression gives. -/
structure It where
  k : Int
  e : Xp
  f : Rw → Vl
def It.cells (i : It) : List Value := .int .i64 i.k :: i.e.cells
/-- Items lie at the slice. -/
inductive ItemsAt (w : World) : List It → Value → Prop where
  | mt {a : Option Addr} {c : Nat} : ItemsAt w [] (.slice a 0 c)
  | lie (its : List It) (b o n cap : Nat) (hn : n = its.length) (hlt : b < w.heap.size) (hm : n ≤ maxLen)
      (hc : ∀ i (h : i < its.length), ∀ j (_ : j < 9), w.cell? ⟨b, o + i * 9 + j, none⟩ = (its[i].cells[j]?)) : ItemsAt w its (.slice (some ⟨b, o, none⟩) n cap)
theorem ItemsAt.mono {w w' : World} {its : List It} {s : Value} (h : ItemsAt w its s) (hb : Below w.heap.size w w') : ItemsAt w' its s := by
  cases h with
  | mt => exact .mt
  | lie _ b o n cap hn hlt hm hc => exact .lie _ b o n cap hn (Nat.lt_of_lt_of_le hlt hb.size) hm fun i h j hj => (hb.cell (p := ⟨b, _, none⟩) hlt).trans (hc i h j hj)
theorem ItemsAt.shape {w : World} {its : List It} {s : Value} (h : ItemsAt w its s) : ∃ a n c, s = .slice a n c ∧ n = its.length ∧ n ≤ maxLen := by
  cases h with
  | mt => exact ⟨_, _, _, rfl, rfl, by simp⟩
  | lie _ b o n cap hn hlt hm hc => exact ⟨_, _, _, rfl, hn, hm⟩
theorem ItemsAt.at {w : World} {its : List It} {a : Option Addr} {n c : Nat} (h : ItemsAt w its (.slice a n c)) (i : Nat) (hi : i < its.length) : ∃ b o, a = some ⟨b, o, none⟩ ∧ b < w.heap.size ∧ ∀ j (_ : j < 9), w.cell? ⟨b, o + i * 9 + j, none⟩ = (its[i].cells[j]?) := by
  cases h with
  | mt => simp at hi
  | lie _ b o n cap hn hlt hm hc => exact ⟨b, o, rfl, hlt, hc i hi⟩
def resV (i : It) (G : List Rw) : Vl := if i.k = 0 then i.f (G.headD []) else aggV i.k (if i.k = 1 then G.map (fun _ => nilV) else G.map i.f)
set_option maxRecDepth 20000 in
/-- append of one value to a row of one's own. -/
theorem wpList_val {w : World} {ops : Array Oper} {rest : List Oper} {o : Oper} {a : Act} {Q : Exit → Act → World → Prop} (hgd : o.guard = none) (s x : Operand)
    (ho : o.op = .call { callee := .builtin .append, args := #[s, x], argTypes := #[61, 61] })
    (B : Nat) (R : Rw) (y : Vl) (v : Value) (hs : a.eval s = v) (hown : RowO w B R v) (g : Nat) (c : Nat) (hx : a.eval x = .slice (some ⟨g, 0, none⟩) 1 c)
    (h0 : w.cell? ⟨g, 0, none⟩ = some (.int .i64 y.kind)) (h1 : w.cell? ⟨g, 1, none⟩ = some (.int .i64 y.int)) (h2 : w.cell? ⟨g, 2, none⟩ = some (.string y.text)) (hy : y.text.size ≤ maxLen)
    (hlen : R.length + 1 ≤ 1099511627776) (hB : B ≤ w.heap.size)
    (h : ∀ v' w', RowO w' B (R ++ [y]) v' → Below B w w' → wpList Try.prog ops Q rest (a.put o.dst v') w') : wpList Try.prog ops Q (o :: rest) a w := by
  obtain ⟨i0, ii, iz0, iz1, iz2⟩ := info_parts Try.info26'
  refine wpList_append_own w hgd s x 61 ho B 26 i0 (.agg #[.int .i64 0, .int .i64 0, .string ⟨#[]⟩]) 3 32 Try.underlying61 ii iz0 iz1 iz2 rfl (by decide) v _ (flat R) hs hown.1 ⟨g, 0, none⟩ 1 c (flat [y]) hx (by rw [length_flat]; rfl) (fun j u hj => ?_) (one_flat [y]) (by unfold maxLen; omega) (by omega) hB ?_
  · have e : (⟨g, 0, none⟩ : Addr).add j = ⟨g, j, none⟩ := by unfold Addr.add; split <;> simp_all
    rw [e]
    have hj3 := (List.getElem?_eq_some_iff.1 hj).1
    rw [length_flat] at hj3
    have e3 : j = 0 ∨ j = 1 ∨ j = 2 := by simp at hj3; omega
    rcases e3 with rfl | rfl | rfl <;> simp [flat, Vl.cells] at hj <;> subst hj <;> assumption
  · intro v' w' ho' hg _
    refine h v' w' ⟨?_, ?_⟩ ((Below.refl _ _).grown hg hB fun g hg' => (hown.1.lt g hg').1)
    · have e : flat (R ++ [y]) = flat R ++ flat [y] := by simp [flat]
      rw [List.length_append, e]; exact ho'
    · intro u hu
      rcases List.mem_append.1 hu with hu | hu
      · exact hown.2 u hu
      · rw [List.mem_singleton.1 hu]; exact hy
theorem made_flat (n : Nat) : (madeCells (Value.agg #[.int .i64 0, .int .i64 0, .string ⟨#[]⟩]).cells (n * 3)).toList = flat (List.replicate n nilV) := by
  apply List.ext_getElem?
  intro j
  by_cases hj : j < n * 3
  · have e := flat_get (List.replicate n nilV) (j / 3) (by simp; omega) (j % 3) (Nat.mod_lt _ (by omega))
    rw [show j / 3 * 3 + j % 3 = j by omega] at e
    rw [e, List.getElem_replicate]
    have h3 : j % 3 = 0 ∨ j % 3 = 1 ∨ j % 3 = 2 := by omega
    rcases h3 with h | h | h <;> simp [madeCells, hj, h, Value.cells, Vl.cells, nilV]
  · rw [List.getElem?_eq_none (by simp [madeCells]; omega), List.getElem?_eq_none (by rw [length_flat]; simp; omega)]
theorem rowO_made {w : World} {B n : Nat} {v : Value} (h : w.ownsRow B 26 3 v n (madeCells (Value.agg #[.int .i64 0, .int .i64 0, .string ⟨#[]⟩]).cells (n * 3)).toList) : RowO w B (List.replicate n nilV) v := by
  rw [made_flat] at h
  refine ⟨by rw [List.length_replicate]; exact h, fun u hu => ?_⟩
  rw [List.eq_of_mem_replicate hu]
  exact Nat.zero_le _
theorem minV_mem (x : Vl) (r : Rw) : minV x r ∈ x :: r := by
  unfold minV
  induction r generalizing x with
  | nil => simp
  | cons y r ih =>
    rw [List.foldl_cons]
    rcases List.mem_cons.1 (ih (if cmpV y x < 0 then y else x)) with h | h
    · rw [h]; split <;> simp
    · simp [h]
theorem maxV_mem (x : Vl) (r : Rw) : maxV x r ∈ x :: r := by
  unfold maxV
  induction r generalizing x with
  | nil => simp
  | cons y r ih =>
    rw [List.foldl_cons]
    rcases List.mem_cons.1 (ih (if 0 < cmpV y x then y else x)) with h | h
    · rw [h]; split <;> simp
    · simp [h]
theorem aggV_text (k : Int) (R : Rw) (h : ∀ v ∈ R, v.text.size ≤ maxLen) : (aggV k R).text.size ≤ maxLen := by
  have h0 : ∀ n, (intV n).text.size ≤ maxLen := fun n => Nat.zero_le _
  have h1 : nilV.text.size ≤ maxLen := Nat.zero_le _
  have hm : ∀ v ∈ nnV R, v.text.size ≤ maxLen := fun v hv => h v (List.mem_filter.1 hv).1
  unfold aggV
  split
  · exact h0 _
  split
  · exact h0 _
  split
  · exact h1
  · rename_i x r e
    rw [e] at hm
    split
    · exact hm _ (minV_mem x r)
    split
    · exact hm _ (maxV_mem x r)
    split
    · exact h0 _
    · exact h1
end Go.Proofs.Ytodabeibdgancaa
/- result: the row of a group, where each item is an aggregate. -/
namespace Go.Proofs.Ytodabeibdgancaa
open Go Go.RowKit
/-- An item's expression is evaluated as its function says, at each row of a group. -/
def EvOk (w : World) (it : It) (G : List Rw) : Prop := ∀ R ∈ G, ∀ w' s, Below w.heap.size w w' → ValsAt w' R s → Calls Try.prog 44 #[it.e.val, s] w' (ValEnd (it.f R) w')
def ResEnd (its : List It) (G : List Rw) (w : World) (e : Ending) (w' : World) : Prop := ∃ v, e = .returned v ∧ RowO w' w.heap.size (its.map fun i => resV i G) v ∧ Below w.heap.size w w'
set_option maxHeartbeats 8000000 in
set_option maxRecDepth 20000 in
theorem result_calls (its : List It) (G : List Rw) (si s : Value) (w : World) (hi : ItemsAt w its si) (hs : RowsAt w G s) (hk : ∀ i ∈ its, i.k ≠ 0) (hev : ∀ i ∈ its, i.k ≠ 1 → EvOk w i G) (htx : ∀ i ∈ its, ∀ R ∈ G, (i.f R).text.size ≤ maxLen) (hli : its.length < 1099511627776) (hlg : G.length < 1099511627776) :
    Calls Try.prog 30 #[si, s] w (ResEnd its G w) := by
  obtain ⟨ai, ni, ci, rfl, hni, -⟩ := hi.shape
  obtain ⟨a, n, c, rfl, hn, -⟩ := hs.shape
  obtain ⟨j0, jj, jz0, jz1, jz2⟩ := info_parts Try.info26'
  have HI := Lib.hid hi
  have HS := Lib.hid hs
  have HK := Lib.hid hk
  have HE := Lib.hid hev
  have HX := Lib.hid htx
  have Hni := Lib.hid hni
  have Hn := Lib.hid hn
  have b1 : ni < 1099511627776 := by omega
  have b2 : n < 1099511627776 := by omega
  clear hi hs hk hev htx hli hlg hni hn
  go_enter Try.func30, Try.ntmps30
  go_wp2
  go_loopw [5, 13] (fun z5 z13 wr => ∃ k : Nat, k ≤ ni ∧ z13 = .int .i64 k ∧ RowKit.Hid (RowO wr w.heap.size ((its.take k).map fun i => resV i G) z5 ∧ Below w.heap.size w wr)) (fun _ z _ => ni - (intOf z).toNat)
  case atStart => exact ⟨0, Nat.zero_le _, rfl, Lib.hid ⟨⟨World.ownsRow_nil _ _ _ _, by simp⟩, Below.refl _ _⟩⟩
  case round =>
    obtain ⟨k, hk, rfl, HW⟩ := hrel
    obtain ⟨a5, n5, c5, h5, -, -⟩ := HW.out.1.vals.shape
    subst h5
    by_cases hlt : k < ni
    · have hkl : k < its.length := by have := Hni.out; omega
      obtain ⟨b, o, rfl, hbl, hc⟩ := (HI.out.mono HW.out.2).at k hkl
      have hk0 := HK.out _ (List.getElem_mem hkl)
      have HE1 := Lib.hid (HE.out _ (List.getElem_mem hkl))
      have HX1 := Lib.hid (HX.out _ (List.getElem_mem hkl))
      have HT := Lib.hid (show (its.take (k + 1)).map (fun i => resV i G) = (its.take k).map (fun i => resV i G) ++ [resV its[k] G] by rw [List.take_succ_eq_append_getElem hkl, List.map_append]; rfl)
      have Hlk := Lib.hid (show ((its.take k).map (fun i => resV i G)).length = k by rw [List.length_map, List.length_take, Nat.min_eq_left (by omega)])
      generalize its[k] = it at *
      clear hkl
      obtain ⟨kk, ⟨op, tab, nm, idx, ⟨lk, li, lt⟩, ⟨aa, an, ac⟩⟩, f⟩ := it
      have c0 := hc 0 (by omega)
      have c1 := hc 1 (by omega)
      have c2 := hc 2 (by omega)
      have c3 := hc 3 (by omega)
      have c4 := hc 4 (by omega)
      have c5' := hc 5 (by omega)
      have c6 := hc 6 (by omega)
      have c7 := hc 7 (by omega)
      have c8 := hc 8 (by omega)
      simp only [It.cells, Xp.cells, List.getElem?_cons_zero, List.getElem?_cons_succ, Nat.add_zero] at c0 c1 c2 c3 c4 c5' c6 c7 c8
      have hk0' : (kk == 0) = false := by simpa using hk0
      have V := VarIs.new wr #[.int .i64 kk, .int .i64 op, .string tab, .string nm, .int .i64 idx, .int .i64 lk, .int .i64 li, .string lt, .slice aa an ac] 40
      have hb0 : Below wr.heap.size wr (wr.alloc (.cells #[.int .i64 kk, .int .i64 op, .string tab, .string nm, .int .i64 idx, .int .i64 lk, .int .i64 li, .string lt, .slice aa an ac] 40)) := (Below.refl _ _).alloc (Nat.le_refl _) _
      have hsz0 : (wr.alloc (.cells #[.int .i64 kk, .int .i64 op, .string tab, .string nm, .int .i64 idx, .int .i64 lk, .int .i64 li, .string lt, .slice aa an ac] 40)).heap.size = wr.heap.size + 1 := by simp
      clear hc hk0
      go_upto_region 5 with (fail)
      obtain ⟨bw, hbw⟩ : ∃ bw, wr.heap.size = bw := ⟨_, rfl⟩
      rw [hbw] at V hsz0
      simp only [hbw]
      have Hbw := Lib.hid hbw
      have Hb0 := Lib.hid hb0
      have HV := Lib.hid V
      have Hsz0 := Lib.hid hsz0
      clear hbw c0 c1 c2 c3 c4 c5' c6 c7 c8 hbl hb0 V hsz0
      generalize wr.alloc (.cells #[.int .i64 kk, .int .i64 op, .string tab, .string nm, .int .i64 idx, .int .i64 lk, .int .i64 li, .string lt, .slice aa an ac] 40) = W0 at *
      obtain ⟨v1, v2, v3⟩ := HV.out
      have d0 := v2 0
      simp only [List.getElem?_toArray, List.getElem?_cons_zero] at d0
      clear v2 v3
      go_wp2_with (refine wpList_make_full _ rfl _ _ 22 rfl (bw + 1) 26 j0 (.agg #[.int .i64 0, .int .i64 0, .string ⟨#[]⟩]) 3 Try.underlying22 jj jz0 jz1 _ _ _ _ n rfl rfl rfl rfl ?k2 ?k3 ?k4 ?_)
      case k2 => first | omega | (rw [jz2]; omega)
      case k3 => unfold maxLen; omega
      case k4 => rw [Hsz0.out]; exact Nat.le_refl _
      intro w1 ho1 hg1
      have hown := rowO_made (B := bw + 1) (n := n) ho1
      have hb1 : Below (bw + 1) W0 w1 := (Below.refl _ _).grown hg1 (by rw [Hsz0.out]; exact Nat.le_refl _) (by simp)
      simp only [Hsz0.out] at hown ⊢
      obtain ⟨g, hg⟩ : ∃ g, bw + 1 = g := ⟨_, rfl⟩
      have Hg := Lib.hid hg
      rw [hg] at hown hb1 ⊢
      have HW1 := Lib.hid (show RowO w1 g (List.replicate n nilV) (.slice (some ⟨g, 0, none⟩) n n) ∧ Below g W0 w1 from ⟨hown, hb1⟩)
      have d0' := (hb1.cell (p := ⟨bw, 0, none⟩) (show bw < g by have := Hg.out; omega)).trans d0
      have hbl1 := Nat.lt_of_lt_of_le v1 hb1.size
      have HK1 := Lib.hid (show ∀ wx, Below g W0 wx → RowO wx w.heap.size ((its.take k).map fun i => resV i G) (.slice a5 n5 c5) ∧ Below w.heap.size w wx ∧ VarIs wx bw #[.int .i64 kk, .int .i64 op, .string tab, .string nm, .int .i64 idx, .int .i64 lk, .int .i64 li, .string lt, .slice aa an ac] ∧ w.heap.size ≤ wx.heap.size from fun wx hb => by
        have h1 : Below W0.heap.size W0 wx := by rw [Hsz0.out, Hg.out]; exact hb
        have h2 : Below wr.heap.size wr wx := Hb0.out.trans (h1.mono Hb0.out.size)
        have h3 := HW.out.2.trans (h2.mono HW.out.2.size)
        exact ⟨⟨own_below HW.out.1.1 h2, HW.out.1.2⟩, h3, HV.out.below h1 HV.out.lt, h3.size⟩)
      clear hown hb1 ho1 hg1 hg d0 v1 HW Hb0 HV Hsz0
      go_upto_if 34 with (fail)
      go_cut [] from 34 to 49 (fun wx => RowKit.Hid (∃ Vs, RowO wx g Vs (.slice (some ⟨g, 0, none⟩) n n) ∧ Below g W0 wx ∧ resV ⟨kk, ⟨op, tab, nm, idx, ⟨lk, li, lt⟩, ⟨aa, an, ac⟩⟩, f⟩ G = aggV kk Vs))
      case first =>
        by_cases hk1 : kk = 1
        · have e1 : (kk != 1) = false := by simp [hk1]
          have HR := Lib.hid (show resV ⟨kk, ⟨op, tab, nm, idx, ⟨lk, li, lt⟩, ⟨aa, an, ac⟩⟩, f⟩ G = aggV kk (List.replicate n nilV) by
            unfold resV
            rw [if_neg (by simp [hk1]), if_pos hk1, List.map_const', Hn.out])
          clear hk1
          go_wp2_with fail
          go_meet
          exact Lib.hid ⟨_, HW1.out.1, HW1.out.2, HR.out⟩
        · have e1 : (kk != 1) = true := by simpa using hk1
          have HR := Lib.hid (show resV ⟨kk, ⟨op, tab, nm, idx, ⟨lk, li, lt⟩, ⟨aa, an, ac⟩⟩, f⟩ G = aggV kk (G.map f) by
            unfold resV
            rw [if_neg (by simpa using hk0'), if_neg hk1])
          have HE2 := Lib.hid (HE1.out (by simpa using hk1))
          clear hk1
          rw [e1]
          go_wp2_with fail
          go_loopw [37] (fun z wx => ∃ j : Nat, j ≤ n ∧ z = .int .i64 j ∧ RowKit.Hid (RowO wx g ((G.take j).map f ++ List.replicate (n - j) nilV) (.slice (some ⟨g, 0, none⟩) n n) ∧ Below g W0 wx)) (fun z _ => n - (intOf z).toNat)
          case atStart => exact ⟨0, Nat.zero_le _, rfl, by simpa using HW1⟩
          case round =>
            clear HW1 d0' hbl1
            obtain ⟨j, hj, rfl, HJ⟩ := hrel
            by_cases hjn : j < n
            · have hjl : j < G.length := by have := Hn.out; omega
              obtain ⟨p1, p2, ⟨v1, v2, -⟩, p4⟩ := HK1.out _ HJ.out.2
              obtain ⟨bg, og, rfl⟩ := HS.out.has j hjn
              obtain ⟨ax, nx, cx, Hcell, -⟩ := HS.out.row j hjl
              obtain ⟨hc, hx, hbl⟩ := Hcell.out _ p2
              have Hcl := Lib.hid (show Calls Try.prog 44 #[Xp.val ⟨op, tab, nm, idx, ⟨lk, li, lt⟩, ⟨aa, an, ac⟩⟩, .slice ax nx cx] wr (ValEnd (f G[j]) wr) from HE2.out G[j] (List.getElem_mem hjl) _ _ p2 hx)
              have Htx := Lib.hid (show (f G[j]).text.size ≤ maxLen from HX1.out G[j] (List.getElem_mem hjl))
              have d1 := v2 1
              have d2 := v2 2
              have d3 := v2 3
              have d4 := v2 4
              have d5 := v2 5
              have d6 := v2 6
              have d7 := v2 7
              have d8 := v2 8
              simp only [List.getElem?_toArray, List.getElem?_cons_zero, List.getElem?_cons_succ] at d1 d2 d3 d4 d5 d6 d7 d8
              have hl1 : ((G.take j).map f ++ List.replicate (n - j) nilV).length = n := by rw [List.length_append, List.length_map, List.length_take, List.length_replicate, Nat.min_eq_left (by omega)]; omega
              have hset : ((G.take j).map f ++ List.replicate (n - j) nilV).set j (f G[j]) = (G.take (j + 1)).map f ++ List.replicate (n - (j + 1)) nilV := by
                rw [List.set_append_right _ _ (by simp; omega), List.length_map, List.length_take, Nat.min_eq_left (by omega), Nat.sub_self, show n - j = n - (j + 1) + 1 by omega, List.replicate_succ, List.set_cons_zero, List.take_succ_eq_append_getElem hjl, List.map_append, List.append_assoc]; rfl
              have Hl1 := Lib.hid hl1
              have Hset := Lib.hid hset
              unfold Xp.val at Hcl
              have hgw : g ≤ wr.heap.size := by
                obtain ⟨_, ⟨e, _⟩ | ⟨g', _, _, e, _, hg', _⟩⟩ := HJ.out.1.1
                · cases e
                · injection e with e1
                  injection e1 with e1
                  injection e1 with e1
                  subst e1
                  exact Nat.le_of_lt (Array.getElem?_eq_some_iff.1 hg').1
              have Hgw := Lib.hid hgw
              clear hx Hcell p1 p2 v2 p4 hl1 hset hgw
              generalize f G[j] = y at *
              generalize G[j] = X at *
              clear hjl
              have hj2 : (j : Int) < n := by omega
              go_wp2_with fail
              (with_reducible refine Hcl.out.mono ?_)
              rintro e w2 ⟨rfl, hb2⟩
              have hR2 : RowO w2 g ((G.take j).map f ++ List.replicate (n - j) nilV) (.slice (some ⟨g, 0, none⟩) n n) := ⟨own_below HJ.out.1.1 hb2, HJ.out.1.2⟩
              have hown3 := hR2.1
              rw [Hl1.out] at hown3
              obtain ⟨z0, z1, z2⟩ := hR2.vals.cell j (by rw [Hl1.out]; exact hjn)
              rw [Nat.zero_add] at z0 z1 z2
              have hlt2 := hR2.vals.lt (show j < _ by rw [Hl1.out]; exact hjn)
              have f0 := hown3.frozenAt (j * 3)
              have f1 := hown3.frozenAt (j * 3 + 1)
              have f2 := hown3.frozenAt (j * 3 + 2)
              have hs3 := own_set (v := y) hown3 (by rw [Hl1.out]; exact hjn)
              rw [Hset.out] at hs3
              have HJ2 := Lib.hid (show RowO (((w2.setCell ⟨g, j * 3, none⟩ (.int .i64 y.kind)).setCell ⟨g, j * 3 + 1, none⟩ (.int .i64 y.int)).setCell ⟨g, j * 3 + 2, none⟩ (.string y.text)) g ((G.take (j + 1)).map f ++ List.replicate (n - (j + 1)) nilV) (.slice (some ⟨g, 0, none⟩) n n) ∧ Below g W0 (((w2.setCell ⟨g, j * 3, none⟩ (.int .i64 y.kind)).setCell ⟨g, j * 3 + 1, none⟩ (.int .i64 y.int)).setCell ⟨g, j * 3 + 2, none⟩ (.string y.text)) from by
                refine ⟨⟨?_, fun u hu => ?_⟩, (((HJ.out.2.trans (hb2.mono Hgw.out)).setCell (p := ⟨g, j * 3, none⟩) (Nat.le_refl _) _).setCell (p := ⟨g, j * 3 + 1, none⟩) (Nat.le_refl _) _).setCell (p := ⟨g, j * 3 + 2, none⟩) (Nat.le_refl _) _⟩
                · have hl : ((G.take (j + 1)).map f ++ List.replicate (n - (j + 1)) nilV).length = n := by rw [← Hset.out, List.length_set, Hl1.out]
                  rw [hl]; exact hs3
                · rw [← Hset.out] at hu
                  rcases List.mem_or_eq_of_mem_set hu with hu | rfl
                  · exact HJ.out.1.2 u hu
                  · exact Htx.out)
              generalize ((G.take j).map f ++ List.replicate (n - j) nilV) = Vs0 at *
              unfold Vl.val
              clear hb2 hR2 hown3 hs3 hc hbl d1 d2 d3 d4 d5 d6 d7 d8 Hcl v1
              go_wp2_with fail
              go_roundw
              case rel => exact ⟨j + 1, by omega, by go_num, HJ2⟩
              case measure => simp [intOf]; omega
            · obtain rfl : j = n := by omega
              have HJ2 := Lib.hid (show RowO wr g (G.map f) (.slice (some ⟨g, 0, none⟩) j j) ∧ Below g W0 wr from by
                have := HJ.out
                rwa [Nat.sub_self, List.replicate_zero, List.append_nil, List.take_of_length_le (by have := Hn.out; omega)] at this)
              clear HJ
              go_wp2_with fail
              go_meet
              exact Lib.hid ⟨_, HJ2.out.1, HJ2.out.2, HR.out⟩
      rename RowKit.Hid (∃ Vs, _) => HC
      obtain ⟨Vs, q1, q2, q3⟩ := HC.out
      clear HW1 d0' hbl1 HC
      obtain ⟨p1, p2, ⟨v1, v2, -⟩, p4⟩ := HK1.out _ q2
      have d0 := v2 0
      simp only [List.getElem?_toArray, List.getElem?_cons_zero] at d0
      have Hlen := Lib.hid (show Vs.length < 1099511627776 from by
        obtain ⟨_, _, _, e, h1, _⟩ := q1.vals.shape
        injection e with e1 e2 e3
        omega)
      have HA := Lib.hid (aggregate_calls kk Vs _ wc q1.vals Hlen.out)
      have Hq3 := Lib.hid q3
      have Htx := Lib.hid (aggV_text kk Vs q1.2)
      have Hp1 := Lib.hid p1
      have Hp2 := Lib.hid p2
      clear v2 q1 q2 q3 p1 p2 p4 HK1
      go_wp2_with fail
      (with_reducible refine HA.out.mono ?_)
      rintro e w2 ⟨rfl, hb2⟩
      have Hb2 := Lib.hid hb2
      generalize aggV kk Vs = y at *
      unfold Vl.val
      clear d0 v1 hb2 HA
      go_wp2_with (at_builtin; go_loud (refine wpList_val rfl _ _ rfl w.heap.size ((its.take k).map fun i => resV i G) y _ rfl ⟨own_below Hp1.out.1 (Hb2.out.alloc Hb2.out.size _), Hp1.out.2⟩ _ _ rfl (by simp) (by simp) (by simp) Htx.out (by rw [Hlk.out]; omega) (by have := (Hp2.out.trans (Hb2.out.mono Hp2.out.size)).size; simp; omega) ?_))
      intro v3 w3 ho3 hb3
      have HN := Lib.hid (show RowO w3 w.heap.size ((its.take (k + 1)).map fun i => resV i G) v3 ∧ Below w.heap.size w w3 from ⟨by rw [HT.out, Hq3.out]; first | exact ho3 | (rw [List.map_take]; exact ho3), (Hp2.out.trans ((Hb2.out.alloc Hb2.out.size _).mono Hp2.out.size)).trans hb3⟩)
      clear ho3 hb3
      go_wp2_with fail
      go_roundw
      case rel => exact ⟨k + 1, by omega, by go_num, HN⟩
      case measure => simp [intOf]; omega
    · obtain rfl : k = ni := by omega
      have HF := Lib.hid (show RowO wr w.heap.size (its.map fun i => resV i G) (.slice a5 n5 c5) ∧ Below w.heap.size w wr from by
        have := HW.out
        rwa [List.take_of_length_le (by have := Hni.out; omega)] at this)
      clear HW
      go_wp2_with fail
      go_ret
      exact ⟨_, rfl, HF.out⟩
end Go.Proofs.Ytodabeibdgancaa
/- A bound statement as a value; key. -/
namespace Go.Proofs.Ytodabeibdgancaa
open Go Go.RowKit
structure Bd where
  kind : Int
  tab : ByteArray
  cr0 : Sl
  cr1 : Sl
  cr2 : Sl
  cr3 : Sl
  vals : Sl
  sets : Sl
  items : Sl
  frm : Sl
  whr : Xp
  group : Sl
  order : Sl
  limit : Int
  name : ByteArray
  table : Int
  tables : Sl
  vars : Sl
  rows : Sl
def Bd.arr (b : Bd) : Array Value := #[.int .i64 b.kind, .string b.tab, .slice b.cr0.a b.cr0.n b.cr0.c, .slice b.cr1.a b.cr1.n b.cr1.c, .slice b.cr2.a b.cr2.n b.cr2.c, .slice b.cr3.a b.cr3.n b.cr3.c, .slice b.vals.a b.vals.n b.vals.c, .slice b.sets.a b.sets.n b.sets.c, .slice b.items.a b.items.n b.items.c, .slice b.frm.a b.frm.n b.frm.c, .int .i64 b.whr.op, .string b.whr.tab, .string b.whr.nm, .int .i64 b.whr.idx, .int .i64 b.whr.lit.kind, .int .i64 b.whr.lit.int, .string b.whr.lit.text, .slice b.whr.args.a b.whr.args.n b.whr.args.c, .slice b.group.a b.group.n b.group.c, .slice b.order.a b.order.n b.order.c, .int .i64 b.limit, .string b.name, .int .i64 b.table, .slice b.tables.a b.tables.n b.tables.c, .slice b.vars.a b.vars.n b.vars.c, .slice b.rows.a b.rows.n b.rows.c]
/-- Expressions lie at the slice. -/
inductive XpsAt (w : World) : List Xp → Value → Prop where
  | mt {a : Option Addr} {c : Nat} : XpsAt w [] (.slice a 0 c)
  | lie (es : List Xp) (b o n cap : Nat) (hn : n = es.length) (hlt : b < w.heap.size) (hm : n ≤ maxLen)
      (hc : ∀ i (h : i < es.length), ∀ j (_ : j < 8), w.cell? ⟨b, o + i * 8 + j, none⟩ = (es[i].cells[j]?)) : XpsAt w es (.slice (some ⟨b, o, none⟩) n cap)
theorem XpsAt.mono {w w' : World} {es : List Xp} {s : Value} (h : XpsAt w es s) (hb : Below w.heap.size w w') : XpsAt w' es s := by
  cases h with
  | mt => exact .mt
  | lie _ b o n cap hn hlt hm hc => exact .lie _ b o n cap hn (Nat.lt_of_lt_of_le hlt hb.size) hm fun i h j hj => (hb.cell (p := ⟨b, _, none⟩) hlt).trans (hc i h j hj)
theorem XpsAt.shape {w : World} {es : List Xp} {s : Value} (h : XpsAt w es s) : ∃ a n c, s = .slice a n c ∧ n = es.length ∧ n ≤ maxLen := by
  cases h with
  | mt => exact ⟨_, _, _, rfl, rfl, by simp⟩
  | lie _ b o n cap hn hlt hm hc => exact ⟨_, _, _, rfl, hn, hm⟩
theorem XpsAt.at {w : World} {es : List Xp} {a : Option Addr} {n c : Nat} (h : XpsAt w es (.slice a n c)) (i : Nat) (hi : i < es.length) : ∃ b o, a = some ⟨b, o, none⟩ ∧ b < w.heap.size ∧ ∀ j (_ : j < 8), w.cell? ⟨b, o + i * 8 + j, none⟩ = (es[i].cells[j]?) := by
  cases h with
  | mt => simp at hi
  | lie _ b o n cap hn hlt hm hc => exact ⟨b, o, rfl, hlt, hc i hi⟩
def keyV (es : List Xp) (R : Rw) : Rw := es.map fun e => R.getD e.idx.toNat nilV
def KeyFit (es : List Xp) (n : Nat) : Prop := ∀ e ∈ es, 0 ≤ e.idx ∧ e.idx < n
def KeyEnd (es : List Xp) (R : Rw) (w : World) (e : Ending) (w' : World) : Prop := ∃ v, e = .returned v ∧ RowO w' w.heap.size (keyV es R) v ∧ Below w.heap.size w w'
set_option maxHeartbeats 8000000 in
set_option maxRecDepth 20000 in
theorem key_calls (bd : Bd) (es : List Xp) (R : Rw) (s : Value) (w : World) (he : XpsAt w es (.slice bd.group.a bd.group.n bd.group.c)) (hs : ValsAt w R s) (hf : KeyFit es R.length) (hl : es.length < 1099511627776) :
    Calls Try.prog 54 #[.agg bd.arr, s] w (KeyEnd es R w) := by
  obtain ⟨a, n, c, rfl, hn, hmx⟩ := hs.shape
  have hgn : bd.group.n = es.length := by
    obtain ⟨_, _, _, hg0, hgn, -⟩ := he.shape
    injection hg0 with _ hg0 _
    omega
  obtain ⟨kind, tab, ⟨a0, n0, c0⟩, ⟨a1, n1, c1⟩, ⟨a2, n2, c2⟩, ⟨a3, n3, c3⟩, ⟨a4, n4, c4⟩, ⟨a5, n5, c5⟩, ⟨a6, n6, c6⟩, ⟨a7, n7, c7⟩, ⟨wo, wt, wn, wi, ⟨wk, wv, wx⟩, ⟨wa, wb, wc⟩⟩, ⟨ga, gn, gc⟩, ⟨oa, on, oc⟩, limit, name, table, ⟨ta, tn, tc⟩, ⟨va, vn, vc⟩, ⟨ra, rn, rc⟩⟩ := bd
  unfold Bd.arr
  dsimp only at he hgn ⊢
  unfold maxLen at hmx
  have HE := Lib.hid he
  have HS := Lib.hid hs
  have HF := Lib.hid hf
  have Hgn := Lib.hid hgn
  have Hn := Lib.hid hn
  have hgb : gn < 1099511627776 := by omega
  obtain ⟨B, hB⟩ : ∃ B, w.heap.size = B := ⟨_, rfl⟩
  have HB := Lib.hid hB
  clear he hs hf hgn hn hl hB
  go_enter Try.func54, Try.ntmps54
  go_wp2
  go_loopw [5, 12] (fun z5 z12 wr => ∃ k : Nat, k ≤ gn ∧ z12 = .int .i64 k ∧ RowKit.Hid (RowO wr w.heap.size (keyV (es.take k) R) z5 ∧ Below w.heap.size w wr)) (fun _ z _ => gn - (intOf z).toNat)
  case atStart => exact ⟨0, Nat.zero_le _, rfl, Lib.hid ⟨⟨World.ownsRow_nil _ _ _ _, by simp [keyV]⟩, (Below.refl _ _).alloc (Nat.le_refl _) _⟩⟩
  case round =>
    obtain ⟨k, hk, rfl, HW⟩ := hrel
    obtain ⟨z0, zn, zc, h5, -, -⟩ := HW.out.1.vals.shape
    subst h5
    by_cases hlt : k < gn
    · have hkl : k < es.length := by have := Hgn.out; omega
      obtain ⟨b, o, rfl, hbl, hc⟩ := (HE.out.mono HW.out.2).at k hkl
      have hfk := HF.out _ (List.getElem_mem hkl)
      have hT : keyV (es.take (k + 1)) R = keyV (es.take k) R ++ [R.getD (es[k]).idx.toNat nilV] := by unfold keyV; rw [List.take_succ_eq_append_getElem hkl, List.map_append]; rfl
      have Hlk := Lib.hid (show (keyV (es.take k) R).length = k by unfold keyV; rw [List.length_map, List.length_take, Nat.min_eq_left (by omega)])
      generalize es[k] = e at *
      clear hkl
      obtain ⟨op, etab, nm, idx, ⟨lk, li, lt⟩, ⟨aa, an, ac⟩⟩ := e
      obtain ⟨q, hq⟩ : ∃ q : Nat, idx = q := ⟨idx.toNat, by have := hfk.1; dsimp only at this; omega⟩
      subst hq
      have e0 := hc 0 (by omega)
      have e1 := hc 1 (by omega)
      have e2 := hc 2 (by omega)
      have e3 := hc 3 (by omega)
      have e4 := hc 4 (by omega)
      have e5 := hc 5 (by omega)
      have e6 := hc 6 (by omega)
      have e7 := hc 7 (by omega)
      simp only [Xp.cells, List.getElem?_cons_zero, List.getElem?_cons_succ, Nat.add_zero] at e0 e1 e2 e3 e4 e5 e6 e7
      have hqR : q < R.length := by have := hfk.2; dsimp only at this; omega
      obtain ⟨bx, ox, rfl⟩ := HS.out.has q (by have := Hn.out; omega)
      obtain ⟨x0, x1, x2⟩ := (HS.out.mono HW.out.2).cell q hqR
      have hbx := (HS.out.mono HW.out.2).lt hqR
      have htx := HS.out.txt _ (List.getElem_mem hqR)
      have hT2 : keyV (es.take (k + 1)) R = keyV (es.take k) R ++ [R[q]] := by
        rw [hT, List.getD_eq_getElem?_getD]
        dsimp only
        rw [Int.toNat_natCast, List.getElem?_eq_getElem hqR]; rfl
      have HT := Lib.hid hT2
      have Htx := Lib.hid htx
      have HWs := Lib.hid HW.out.2.size
      have i1 : (0 : Int) ≤ q := by omega
      have i2 : (q : Int) < n := by have := Hn.out; omega
      clear hc hfk hT hT2 htx
      generalize R[q] = y at *
      clear hqR
      go_wp2_with (at_builtin; go_loud (refine wpList_val rfl _ _ rfl w.heap.size (keyV (es.take k) R) y _ rfl ⟨own_below HW.out.1.1 (((Below.refl _ _).alloc (Nat.le_refl _) _).alloc (by simp) _), HW.out.1.2⟩ _ _ rfl (by simp) (by simp) (by simp) Htx.out (by rw [Hlk.out]; omega) (by have := HWs.out; simp; omega) ?_))
      intro v3 w3 ho3 hb3
      have HN := Lib.hid (show RowO w3 w.heap.size (keyV (es.take (k + 1)) R) v3 ∧ Below w.heap.size w w3 from ⟨by rw [HT.out]; exact ho3, ((HW.out.2.alloc HWs.out _).alloc (by have := HWs.out; simp; omega) _).trans hb3⟩)
      clear ho3 hb3
      go_wp2_with fail
      go_roundw
      case rel => exact ⟨k + 1, by omega, by go_num, HN⟩
      case measure => simp [intOf]; omega
    · obtain rfl : k = gn := by omega
      have HF := Lib.hid (show RowO wr w.heap.size (keyV es R) (.slice z0 zn zc) ∧ Below w.heap.size w wr from by
        have := HW.out
        rwa [List.take_of_length_le (by have := Hgn.out; omega)] at this)
      clear HW
      go_wp2_with fail
      go_ret
      exact ⟨_, rfl, HF.out⟩
end Go.Proofs.Ytodabeibdgancaa
