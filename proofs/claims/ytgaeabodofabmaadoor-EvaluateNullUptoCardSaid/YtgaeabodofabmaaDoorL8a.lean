/- The walk of the law's columns: it returns the columns of an expression, in memory of its own. -/
import Derived.Test.YtgaeabodofabmaaDoorL9
import Derived.Test.YtgaeabodofabmaaDoorNull
import Derived.Deep.Onto
namespace Go.Proofs.YtgaeabodofabmaaDoor
open Go.RowKit

def flatE (l : List (Ex × Value)) : List Value := l.flatMap fun p => p.1.cells p.2
theorem length_flatE (l : List (Ex × Value)) : (flatE l).length = l.length * 8 := by
  induction l with
  | nil => rfl
  | cons x l ih => simp only [flatE, List.flatMap_cons, List.length_append, List.length_cons] at ih ⊢; rw [ih]; simp [Ex.cells]; omega
def IsSlice (v : Value) : Prop := ∃ a n c, v = .slice a n c
theorem one_flatE (l : List (Ex × Value)) (h : ∀ p ∈ l, IsSlice p.2) : ∀ u ∈ flatE l, u.oneCell' = true := by
  intro u hu
  simp only [flatE, List.mem_flatMap] at hu
  obtain ⟨p, hp, hv⟩ := hu
  simp [Ex.cells] at hv
  rcases hv with rfl | rfl | rfl | rfl | rfl | rfl | rfl | rfl <;> first | rfl | (obtain ⟨a, n, c, e⟩ := h p hp; rw [e]; rfl)
theorem flatE_get (l : List (Ex × Value)) (i : Nat) (hi : i < l.length) (j : Nat) (hj : j < 8) : (flatE l)[i * 8 + j]? = (l[i].1.cells l[i].2)[j]? := by
  induction l generalizing i with
  | nil => simp at hi
  | cons x l ih =>
    cases i with
    | zero =>
      simp only [flatE, List.flatMap_cons, Nat.zero_mul, Nat.zero_add, List.getElem_cons_zero]
      rw [List.getElem?_append_left (by simpa [Ex.cells] using hj)]
    | succ i =>
      have := ih i (by simpa using hi)
      simp only [flatE, List.flatMap_cons, List.getElem_cons_succ] at this ⊢
      rw [List.getElem?_append_right (by simp [Ex.cells]; omega), ← this]
      congr 1
      simp [Ex.cells]
      omega
theorem Tryd.info26' : (Tryd.prog.info? 26).map (fun i => (i.zero, i.size, i.bytes)) = some (some (.agg #[.int .i64 0, .string ⟨#[]⟩, .string ⟨#[]⟩, .int .i64 0, .int .i64 0, .int .i64 0, .string ⟨#[]⟩, .slice none 0 0]), 8, 104) := by kernel_rfl

/-- What columns leaves: a slice of its own that holds the columns of E. -/
def ColPost (E : Ex) (w : World) (e : Ending) (w' : World) : Prop := ∃ (v : Value) (l : List (Ex × Value)), e = .returned v ∧ l.map (·.1) = E.colList ∧ (∀ p ∈ l, IsSlice p.2) ∧ w'.ownsRow w.heap.size 26 8 v l.length (flatE l) ∧ Below w.heap.size w w'

theorem own_src {w : World} {B n : Nat} {v : Value} {xs : List Value} {e : TypeId} {sz : Nat} (h : w.ownsRow B e sz v n xs) : (v = .slice none 0 0 ∧ n = 0 ∧ xs = []) ∨ ∃ g c, v = .slice (some ⟨g, 0, none⟩) n c ∧ ∀ j u, xs[j]? = some u → w.cell? ((⟨g, 0, none⟩ : Addr).add j) = some u := by
  rcases h.2 with ⟨h1, h2⟩ | ⟨g, cap, cur, h1, _⟩
  · refine .inl ⟨h1, h2, ?_⟩
    have := h.1
    rw [h2, Nat.zero_mul] at this
    exact List.length_eq_zero_iff.1 this
  · exact .inr ⟨g, cap, h1, h.cells (by rw [h1]; rfl)⟩

theorem columnsL_calls (m : Nat) : ∀ E : Ex, SizeOf.sizeOf E ≤ m → ∀ (a : Option Addr) (n c : Nat) (w : World), ArgsAt w E.args (.slice a n c) → E.colList.length ≤ 1000000000 →
    Calls Tryd.prog 23 #[.agg #[.int .i64 E.op, .string E.table, .string E.name, .int .i64 E.index, .int .i64 E.v.kind, .int .i64 E.v.int, .string E.v.text, .slice a n c]] w (ColPost E w) := by
  induction m with
  | zero => intro E h; cases E; simp at h
  | succ m ih =>
    rintro ⟨op, table, name, index, v0, args⟩ hm a n c w hs hlen0
    simp only [Ex.args] at hs
    simp only [Ex.op, Ex.table, Ex.name, Ex.index, Ex.v]
    have Hmem : RowKit.Hid (∀ E ∈ args, SizeOf.sizeOf E ≤ m) := by
      intro E hE
      have h1 := List.sizeOf_lt_of_mem hE
      simp at hm
      omega
    obtain ⟨_, _, _, he, hn, hlen⟩ := hs.shape
    cases he
    have Hn := Lib.hid hn
    have Hs := Lib.hid hs
    have Hih := Lib.hid ih
    have Hv := Lib.hid (VarIs.new w #[.int .i64 op, .string table, .string name, .int .i64 index, .int .i64 v0.kind, .int .i64 v0.int, .string v0.text, .slice a n c] 26)
    have Hb0 : RowKit.Hid (∀ o, Below w.heap.size w (w.alloc o)) := fun o => (Below.refl _ _).alloc (Nat.le_refl _) o
    have HL := Lib.hid hlen0
    clear hs hn ih hm hlen0
    by_cases h2 : op = 2
    · subst h2
      have hlit := World.ownsRow_lit (e := 26) (size := 8) (base := w.heap.size) (w.alloc (.cells #[.int .i64 2, .string table, .string name, .int .i64 index, .int .i64 v0.kind, .int .i64 v0.int, .string v0.text, .slice a n c] 26)) #[.int .i64 2, .string table, .string name, .int .i64 index, .int .i64 v0.kind, .int .i64 v0.int, .string v0.text, .slice a n c] 1 (by simp) (by simp [maxLen]) (by simp)
      have Hlit := Lib.hid hlit
      clear hlit
      go_enter Tryd.func23, Tryd.ntmps23
      go_wp2
      go_ret
      exact ⟨_, [(.mk 2 table name index v0 args, .slice a n c)], rfl, by simp [Ex.colList], by intro p hp; simp at hp; subst hp; exact ⟨a, n, c, rfl⟩, by simpa [flatE, Ex.cells, Ex.op, Ex.table, Ex.name, Ex.index, Ex.v] using Hlit.out, (Hb0.out _).alloc (by simp) _⟩
    · have h2' : (op == 2) = false := by simp [h2]
      have Hdef : RowKit.Hid (Ex.colList (.mk op table name index v0 args) = Ex.colListL args) := by show _ = _; rw [Ex.colList, if_neg h2]
      clear h2
      obtain ⟨i0, ii, iz0, iz1, iz2⟩ := info_parts Tryd.info26'
      go_enter Tryd.func23, Tryd.ntmps23
      go_wp2_with fail
      go_loopw [3, 14] (fun o i wr => ∃ (k : Nat) (l : List (Ex × Value)), k ≤ n ∧ i = .int .i64 k ∧ RowKit.Hid (l.map (·.1) = Ex.colListL (args.take k)) ∧ RowKit.Hid (∀ p ∈ l, IsSlice p.2) ∧ RowKit.Hid (wr.ownsRow (w.heap.size + 1) 26 8 o l.length (flatE l)) ∧
          RowKit.Hid (Below (w.heap.size + 1) (w.alloc (.cells #[.int .i64 op, .string table, .string name, .int .i64 index, .int .i64 v0.kind, .int .i64 v0.int, .string v0.text, .slice a n c] 26)) wr)) (fun _ i _ => n - (intOf i).toNat)
      case atStart => exact ⟨0, [], Nat.zero_le _, rfl, rfl, by show ∀ p ∈ [], _; simp, World.ownsRow_nil _ _ _ _, Below.refl _ _⟩
      case round =>
        obtain ⟨k, l, hk, rfl, Hl, H1, Ho, Hb⟩ := hrel
        have Hbw := Lib.hid ((Hb0.out _).trans (Hb.out.mono (Nat.le_succ _)))
        obtain ⟨v1, v2, -⟩ := Hv.out.below Hb.out (Nat.lt_succ_self _)
        by_cases hlt : k < n
        · have hlen : k < args.length := by have := Hn.out; omega
          obtain ⟨b, o, rfl⟩ : ∃ b o, a = some ⟨b, o, none⟩ := by
            have := Hs.out
            cases this with
            | mt => omega
            | lie _ b o => exact ⟨b, o, rfl⟩
          obtain ⟨s', hs', c0, c1, c2, c3, c4, c5, c6, c7⟩ := (Hs.out.mono Hbw.out).cell k hlen
          obtain ⟨sa, sn, sc, rfl, -, -⟩ := hs'.shape
          have Hsz := Lib.hid (Hmem.out _ (List.getElem_mem hlen))
          have Htk : RowKit.Hid (Ex.colListL (args.take (k + 1)) = Ex.colListL (args.take k) ++ Ex.colList args[k]) := by
            show _ = _
            rw [take_succ_ex args k hlen, colListL_append]
            simp [Ex.colListL]
          have HT : RowKit.Hid ((Ex.colListL (args.take (k + 1))).length ≤ 1000000000) := by
            have h1 := HL.out
            rw [Hdef.out, ← List.take_append_drop (k + 1) args, colListL_append] at h1
            simp at h1
            show _ ≤ _
            omega
          have Hs' := Lib.hid hs'
          generalize args[k] = E' at *
          have HE : RowKit.Hid (E'.colList.length ≤ 1000000000 ∧ l.length + E'.colList.length ≤ 1000000000) := by
            have h1 := HT.out
            rw [Htk.out, List.length_append, ← Hl.out] at h1
            simp at h1
            exact ⟨by omega, by omega⟩
          clear hs'
          go_wp2_with fail
          refine (Hih.out E' Hsz.out _ _ _ _ (Hs'.out.mono ((Below.refl _ _).alloc (Nat.le_refl _) _)) HE.out.1).mono ?_
          rintro e w1 ⟨v', l', rfl, hl', h1', ho', hb1⟩
          have Hl' := Lib.hid hl'
          have H1' := Lib.hid h1'
          have hown1 := own_below (Ho.out.alloc _) hb1
          have Hb1 := Lib.hid ((Hb.out.alloc (by have := Hb.out.size; simp at this; omega) _).trans (hb1.mono (by have := Hb.out.size; simp at this ⊢; omega)))
          have hlen' : l'.length = E'.colList.length := by rw [← Hl'.out]; simp
          have HX : RowKit.Hid (l.length + l'.length ≤ 1000000000) := by show _ ≤ _; rw [hlen']; exact HE.out.2
          have Hnew : RowKit.Hid ((l ++ l').map (·.1) = Ex.colListL (args.take (k + 1))) := by
            show _ = _
            rw [List.map_append, Hl.out, Hl'.out, Htk.out]
          have Hone : RowKit.Hid (∀ p ∈ l ++ l', IsSlice p.2) := by
            intro p hp
            rcases List.mem_append.1 hp with h | h
            · exact H1.out p h
            · exact H1'.out p h
          have hone := one_flatE l' h1'
          have hsrc := own_src ho'
          have Hfl := Lib.hid (length_flatE l')
          have Hcat : RowKit.Hid (flatE (l ++ l') = flatE l ++ flatE l') := by show _ = _; simp [flatE]
          have hsz1 : w.heap.size + 1 ≤ w1.heap.size := by have := Hb1.out.size; simp at this; omega
          clear hl' h1' ho' hb1 hlen' c0 c1 c2 c3 c4 c5 c6 c7 v1 v2 Hl'
          rcases hsrc with ⟨rfl, h0, hx0⟩ | ⟨g, cg, rfl, hsrc⟩
          · have Hl0 : RowKit.Hid (l' = []) := List.length_eq_zero_iff.1 h0
            clear h0 hx0
            go_wp2_with (at_builtin; refine wpList_append_own_none rfl _ _ 24 rfl (w.heap.size + 1) 26 i0 8 Tryd.underlying24 ii _ _ _ rfl hown1 rfl ?_)
            have Ho1 := Lib.hid hown1
            clear hown1
            go_wp2
            go_roundw
            case rel => exact ⟨k + 1, l ++ l', by omega, by go_num, Hnew, Hone, by show World.ownsRow _ _ _ _ _ _ _; rw [Hl0.out, List.append_nil]; exact Ho1.out, Hb1⟩
            case measure => simp [intOf]; omega
          · go_wp2_with (at_builtin; refine wpList_append_own _ rfl _ _ 24 rfl (w.heap.size + 1) 26 i0 (.agg #[.int .i64 0, .string ⟨#[]⟩, .string ⟨#[]⟩, .int .i64 0, .int .i64 0, .int .i64 0, .string ⟨#[]⟩, .slice none 0 0]) 8 104 Tryd.underlying24 ii iz0 iz1 iz2 rfl (by decide) _ _ _ rfl hown1 ⟨g, 0, none⟩ l'.length cg (flatE l') rfl ?c0 ?c1 ?c2 ?c3 ?c4 ?c5 ?_)
            case c0 => exact Hfl.out
            case c1 => exact hsrc
            case c2 => exact hone
            case c3 => have := HX.out; unfold maxLen; omega
            case c4 => have := HX.out; omega
            case c5 => exact hsz1
            intro v'' w' hown' hgrow _
            have Ho2 : RowKit.Hid (w'.ownsRow (w.heap.size + 1) 26 8 v'' (l ++ l').length (flatE (l ++ l'))) := by
              show World.ownsRow _ _ _ _ _ _ _
              rw [Hcat.out, List.length_append]
              exact hown'
            have Hb2 := Lib.hid (Hb1.out.grown hgrow hsz1 (fun g hg => (hown1.lt g hg).1))
            clear hown' hgrow hown1 hone hsrc hsz1
            go_wp2
            go_roundw
            case rel => exact ⟨k + 1, l ++ l', by omega, by go_num, Hnew, Hone, Ho2, Hb2⟩
            case measure => simp [intOf]; omega
        · obtain rfl : k = n := by omega
          have Hres : RowKit.Hid (l.map (·.1) = Ex.colList (.mk op table name index v0 args)) := by
            show _ = _
            rw [Hl.out, Hdef.out, List.take_of_length_le (by have := Hn.out; omega)]
          go_wp2
          go_ret
          exact ⟨_, l, rfl, Hres.out, H1.out, Ho.out.mono (Nat.le_succ _), Hbw.out⟩
end Go.Proofs.YtgaeabodofabmaaDoor
