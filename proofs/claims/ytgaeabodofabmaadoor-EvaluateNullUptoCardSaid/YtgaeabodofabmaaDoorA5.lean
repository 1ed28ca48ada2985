import Derived.Test.YtgaeabodofabmaaDoorA4
import Derived.LoopTactic
import Derived.OwnWalk
import Derived.Lib.Hide
namespace Go.Proofs.YtgaeabodofabmaaDoor
open Go.RowKit

def flat (vs : List Vl) : List Value := vs.flatMap Vl.cells

theorem Tryd.info23' : (Tryd.prog.info? 23).map (fun i => (i.zero, i.size, i.bytes)) = some (some (.agg #[.int .i64 0, .int .i64 0, .string ⟨#[]⟩]), 3, 32) := by kernel_rfl

theorem ArgsAt.cell {w : World} {es : List Ex} {b o n cap : Nat} (h : ArgsAt w es (.slice (some ⟨b, o, none⟩) n cap)) (i : Nat) (hi : i < es.length) :
    ∃ s, ArgsAt w es[i].args s ∧ w.cell? ⟨b, o + i * 8, Option.none⟩ = some (.int .i64 es[i].op) ∧ w.cell? ⟨b, o + i * 8 + 1, Option.none⟩ = some (.string es[i].table) ∧ w.cell? ⟨b, o + i * 8 + 2, Option.none⟩ = some (.string es[i].name) ∧
      w.cell? ⟨b, o + i * 8 + 3, Option.none⟩ = some (.int .i64 es[i].index) ∧ w.cell? ⟨b, o + i * 8 + 4, Option.none⟩ = some (.int .i64 es[i].v.kind) ∧ w.cell? ⟨b, o + i * 8 + 5, Option.none⟩ = some (.int .i64 es[i].v.int) ∧
      w.cell? ⟨b, o + i * 8 + 6, Option.none⟩ = some (.string es[i].v.text) ∧ w.cell? ⟨b, o + i * 8 + 7, Option.none⟩ = some s := by
  cases h with
  | mt => simp at hi
  | lie _ _ _ _ _ ss hn hlt hm hc hs => exact ⟨ss i, hs i hi, hc i hi 0 (by omega), hc i hi 1 (by omega), hc i hi 2 (by omega), hc i hi 3 (by omega), hc i hi 4 (by omega), hc i hi 5 (by omega), hc i hi 6 (by omega), hc i hi 7 (by omega)⟩

/-- What holds of a walk through the operands: the first k values are known, and none is NULL. -/
theorem values_step (R : List Vl) (es : List Ex) (k : Nat) (hk : k < es.length) (vs : List Vl) (r : Option (List Vl))
    (h : (Ex.values R (es.drop k)).map (fun r => r.map (vs ++ ·)) = some r) :
    ∃ u, Ex.value R es[k] = some u ∧ (if u.kind = 0 then r = none else (Ex.values R (es.drop (k + 1))).map (fun r => r.map ((vs ++ [u]) ++ ·)) = some r) := by
  rw [List.drop_eq_getElem_cons hk, Ex.values] at h
  cases hu : Ex.value R es[k] with
  | none => rw [hu] at h; simp at h
  | some u =>
    rw [hu] at h
    refine ⟨u, rfl, ?_⟩
    split
    · rename_i h0
      simp [h0] at h
      exact h.symm
    · rename_i h0
      simp only [Option.bind_some, if_neg h0, Option.map_map] at h
      rw [← h]
      cases Ex.values R (es.drop (k + 1)) with
      | none => rfl
      | some x => cases x <;> simp
theorem flat_snoc (vs : List Vl) (u : Vl) : flat (vs ++ [u]) = flat vs ++ [.int .i64 u.kind, .int .i64 u.int, .string u.text] := by simp [flat, Vl.cells]
theorem flat_get (vs : List Vl) (i : Nat) (hi : i < vs.length) (j : Nat) (hj : j < 3) : (flat vs)[i * 3 + j]? = vs[i].cells[j]? := by
  induction vs generalizing i with
  | nil => simp at hi
  | cons x l ih =>
    cases i with
    | zero =>
      simp only [flat, List.flatMap_cons, Nat.zero_mul, Nat.zero_add, List.getElem_cons_zero]
      rw [List.getElem?_append_left (by simpa [Vl.cells] using hj)]
    | succ i =>
      have := ih i (by simpa using hi)
      simp only [flat, List.flatMap_cons, List.getElem_cons_succ] at this ⊢
      rw [List.getElem?_append_right (by simp [Vl.cells]; omega), ← this]
      congr 1
      simp [Vl.cells]
      omega
theorem vals_of_own {w : World} {B : Nat} {v : Value} {n : Nat} {vs : List Vl} (h : w.ownsRow B 23 3 v n (flat vs)) (hl : vs.length = n) : ValsAt w vs v := by
  obtain ⟨_, ⟨rfl, rfl⟩ | ⟨g, cap, cur, rfl, hb, hg, hn, hc, hs, ht⟩⟩ := h
  · cases vs with
    | nil => exact .mt
    | cons => simp at hl
  · refine .lie vs g 0 n cap hl.symm (Array.getElem?_eq_some_iff.1 hg).1 (Nat.le_trans hn hc) (fun i hi j hj => ?_)
    rw [← flat_get vs i hi j hj, ← ht, Nat.zero_add, cell_of_row w g (i * 3 + j) cur 23 (0, 0) hg, List.getElem?_take, if_pos (by omega)]
    simp

set_option maxHeartbeats 1000000 in
theorem value_calls (m : Nat) : ∀ (E : Ex), SizeOf.sizeOf E ≤ m → ∀ (R : List Vl) (s r : Value) (w : World) (v : Vl), ArgsAt w E.args s → ValsAt w R r → Ex.value R E = some v →
    Calls Tryd.prog 13 #[E.val s, r] w fun e w' => e = .returned v.val ∧ Below w.heap.size w w' := by
  induction m with
  | zero => intro E h; cases E; simp at h
  | succ m ih =>
    rintro ⟨op, table, name, index, v0, args⟩ hm R s r w v hs hr hv
    simp only [Ex.args] at hs
    simp only [Ex.val, Vl.val, Ex.op, Ex.table, Ex.name, Ex.index, Ex.v]
    by_cases h1 : op = 1
    · subst h1
      simp [Ex.value] at hv
      subst hv
      clear ih hm hr hs
      go_enter Tryd.func13, Tryd.ntmps13
      go_wp2
      exact bodyPost_ret (v := .agg #[.int .i64 v0.kind, .int .i64 v0.int, .string v0.text]) (by simp [results, Tryd.results13, go_sem]) rfl ⟨rfl, ((Below.refl _ _).alloc (Nat.le_refl _) _).alloc (by simp) _⟩
    by_cases h2 : op = 2
    · subst h2
      simp [Ex.value] at hv
      obtain ⟨hi, hv⟩ := hv
      obtain ⟨i, rfl⟩ := Int.eq_ofNat_of_zero_le hi
      rw [Int.toNat_natCast] at hv
      cases hr with
      | mt => simp at hv
      | lie _ b o k cap hn hlt hml hc =>
        obtain ⟨hk, hv⟩ := List.getElem?_eq_some_iff.1 hv
        subst hv
        obtain ⟨h0, h1, h2⟩ := (ValsAt.lie _ b o k cap hn hlt hml hc).cell i hk
        have hk' : i < k := by omega
        unfold maxLen at hml
        clear hc hn ih hm hs
        generalize R[i] = v at *
        go_enter Tryd.func13, Tryd.ntmps13
        go_wp2
        exact bodyPost_ret (v := .agg #[.int .i64 v.kind, .int .i64 v.int, .string v.text]) (by simp [results, Tryd.results13, go_sem]) rfl ⟨rfl, ((Below.refl _ _).alloc (Nat.le_refl _) _).alloc (by simp) _⟩
    simp only [Ex.value, if_neg h1, if_neg h2] at hv
    have b1 : (op == 1) = false := by simp [h1]
    have b2 : (op == 2) = false := by simp [h2]
    clear h1 h2
    cases hs with
    | mt => simp [Ex.values, computeS] at hv
    | lie _ b o n cap ss hn hlt hml hc hss =>
      obtain ⟨rr, hvs, hfin⟩ := Option.bind_eq_some_iff.1 hv
      clear hv
      have hat := ArgsAt.lie args b o n cap ss hn hlt hml hc hss
      clear hc hss
      obtain ⟨i0, ii, iz0, iz1, iz2⟩ := info_parts Tryd.info23'
      have Hfin := Lib.hid hfin
      clear hfin
      have Hvs : RowKit.Hid ((Ex.values R (args.drop 0)).map (fun r => r.map (([] : List Vl) ++ ·)) = some rr) := by
        show _ = _
        rw [List.drop_zero, hvs]; cases rr <;> simp
      clear hvs
      have Hn := Lib.hid hn
      clear hn
      have Hih := Lib.hid ih
      clear ih
      have hn' : n ≤ args.length := by have := Hn.out; omega
      go_enter Tryd.func13, Tryd.ntmps13
      go_wp2
      go_loopw [5, 25] (fun v i wr => ∃ (k : Nat) (vs : List Vl), k ≤ n ∧ i = .int .i64 k ∧ RowKit.Hid (vs.length = k) ∧ RowKit.Hid ((Ex.values R (args.drop k)).map (fun r => r.map (vs ++ ·)) = some rr) ∧ wr.ownsRow (w.heap.size + 2) 23 3 v k (flat vs) ∧
          Below (w.heap.size + 2) ((w.alloc (.cells #[.int .i64 op, .string table, .string name, .int .i64 index, .int .i64 v0.kind, .int .i64 v0.int, .string v0.text, .slice (some ⟨b, o, none⟩) n cap] 26)).alloc (.cells #[.int .i64 0, .int .i64 0, .string ⟨#[]⟩] 23)) wr)
        (fun _ i _ => n - (intOf i).toNat)
      case atStart => exact ⟨0, [], Nat.zero_le _, rfl, rfl, Hvs, World.ownsRow_nil _ _ _ _, Below.refl _ _⟩
      case round =>
        obtain ⟨k, vs, hk, rfl, hlen, hpre, hown, hbr⟩ := hrel
        have hsz := hbr.size
        simp only [World.size_alloc] at hsz
        have hbw : Below w.heap.size w wr := (((Below.refl w.heap.size w).alloc (Nat.le_refl _) _).alloc (by simp) _).trans (hbr.mono (by omega))
        have hp0 : wr.cell? ⟨w.heap.size, 0, none⟩ = some (.int .i64 op) := (hbr.cell (p := ⟨w.heap.size, 0, none⟩) (by show w.heap.size < _; omega)).trans (by simp)
        have hf0 : wr.frozen? ⟨w.heap.size + 1, 0, none⟩ = false := (hbr.frozen (p := ⟨w.heap.size + 1, 0, none⟩) (by show w.heap.size + 1 < _; omega)).trans (by simp)
        have hf1 : wr.frozen? ⟨w.heap.size + 1, 1, none⟩ = false := (hbr.frozen (p := ⟨w.heap.size + 1, 1, none⟩) (by show w.heap.size + 1 < _; omega)).trans (by simp)
        have hf2 : wr.frozen? ⟨w.heap.size + 1, 2, none⟩ = false := (hbr.frozen (p := ⟨w.heap.size + 1, 2, none⟩) (by show w.heap.size + 1 < _; omega)).trans (by simp)
        have hq0 : wr.cell? ⟨w.heap.size + 1, 0, none⟩ = some (.int .i64 0) := (hbr.cell (p := ⟨w.heap.size + 1, 0, none⟩) (by show w.heap.size + 1 < _; omega)).trans (by simp)
        have hq1 : wr.cell? ⟨w.heap.size + 1, 1, none⟩ = some (.int .i64 0) := (hbr.cell (p := ⟨w.heap.size + 1, 1, none⟩) (by show w.heap.size + 1 < _; omega)).trans (by simp)
        have hq2 : wr.cell? ⟨w.heap.size + 1, 2, none⟩ = some (.string ⟨#[]⟩) := (hbr.cell (p := ⟨w.heap.size + 1, 2, none⟩) (by show w.heap.size + 1 < _; omega)).trans (by simp)
        by_cases hlt' : k < n
        · obtain ⟨u, hu, hnext⟩ := values_step R args k (by omega) vs rr hpre.out
          obtain ⟨s', hs', c0, c1, c2, c3, c4, c5, c6, c7⟩ := hat.cell k (by omega)
          have d0 := (hbw.cell (p := ⟨b, o + k * 8, none⟩) hlt).trans c0
          have d1 := (hbw.cell (p := ⟨b, o + k * 8 + 1, none⟩) hlt).trans c1
          have d2 := (hbw.cell (p := ⟨b, o + k * 8 + 2, none⟩) hlt).trans c2
          have d3 := (hbw.cell (p := ⟨b, o + k * 8 + 3, none⟩) hlt).trans c3
          have d4 := (hbw.cell (p := ⟨b, o + k * 8 + 4, none⟩) hlt).trans c4
          have d5 := (hbw.cell (p := ⟨b, o + k * 8 + 5, none⟩) hlt).trans c5
          have d6 := (hbw.cell (p := ⟨b, o + k * 8 + 6, none⟩) hlt).trans c6
          have d7 := (hbw.cell (p := ⟨b, o + k * 8 + 7, none⟩) hlt).trans c7
          clear c0 c1 c2 c3 c4 c5 c6 c7
          have hsz' : SizeOf.sizeOf args[k] ≤ m := by
            have h1 := List.sizeOf_lt_of_mem (List.getElem_mem (show k < args.length by omega))
            simp at hm
            omega
          have hsw := hs'.mono hbw
          have hrw := hr.mono hbw
          obtain ⟨sa, sn, sc, rfl, -, -⟩ := hs'.shape
          generalize args[k] = E' at *
          have Hu := Lib.hid hu
          have Hnext := Lib.hid hnext
          clear hu hnext
          go_wp2_with fail
          refine (Hih.out E' hsz' R _ r _ u (hsw.mono ((Below.refl _ _).alloc (Nat.le_refl _) _)) (hrw.mono ((Below.refl _ _).alloc (Nat.le_refl _) _)) Hu.out).mono ?_
          rintro e w1 ⟨rfl, hb1⟩
          simp only [Vl.val]
          have hz1 := hb1.size
          simp only [World.size_alloc] at hz1 hb1
          have hc1 : ∀ p : Addr, p.block < wr.heap.size → w1.cell? p = wr.cell? p := fun p hp => (hb1.cell (by omega)).trans (World.cell?_alloc_lt _ _ _ hp)
          have hfc1 : ∀ p : Addr, p.block < wr.heap.size → w1.frozen? p = wr.frozen? p := fun p hp => (hb1.frozen (by omega)).trans (World.frozen?_alloc_old _ _ _ (Nat.ne_of_lt hp))
          have e0 := (hc1 ⟨w.heap.size + 1, 0, none⟩ (by show w.heap.size + 1 < _; omega)).trans hq0
          have e1 := (hc1 ⟨w.heap.size + 1, 1, none⟩ (by show w.heap.size + 1 < _; omega)).trans hq1
          have e2 := (hc1 ⟨w.heap.size + 1, 2, none⟩ (by show w.heap.size + 1 < _; omega)).trans hq2
          have g0 := (hfc1 ⟨w.heap.size + 1, 0, none⟩ (by show w.heap.size + 1 < _; omega)).trans hf0
          have g1 := (hfc1 ⟨w.heap.size + 1, 1, none⟩ (by show w.heap.size + 1 < _; omega)).trans hf1
          have g2 := (hfc1 ⟨w.heap.size + 1, 2, none⟩ (by show w.heap.size + 1 < _; omega)).trans hf2
          have hzz : w.heap.size + 1 < w1.heap.size := by omega
          clear hc1 hfc1 hp0 hq0 hq1 hq2 hf0 hf1 hf2 d0 d1 d2 d3 d4 d5 d6 d7
          by_cases hk0 : u.kind = 0
          · have hk0' : (u.kind == 0) = true := by simp [hk0]
            have Hres : RowKit.Hid (v = Vl.null) := by
              have := Hnext.out
              rw [if_pos hk0] at this
              have h := Hfin.out
              rw [this] at h
              show v = _
              simpa using h.symm
            clear hk0
            go_wp2
            refine bodyPost_ret (v := .agg #[.int .i64 0, .int .i64 0, .string ⟨#[]⟩]) (by simp [results, Tryd.results13, go_sem, e0, e1, e2, hzz]) rfl ?_
            refine ⟨by rw [Hres.out]; rfl, ?_⟩
            have hw1 : Below w.heap.size w w1 := (hbw.trans (((Below.refl _ _).alloc (Nat.le_refl _) _).mono hbw.size)).trans (hb1.mono (by omega))
            exact (((hw1.setCell (Nat.le_succ _) _).setCell (Nat.le_succ _) _).setCell (Nat.le_succ _) _).alloc (by simp; omega) _
          · have hk0' : (u.kind == 0) = false := by simp [hk0]
            have Hres : RowKit.Hid ((Ex.values R (args.drop (k + 1))).map (fun r => r.map ((vs ++ [u]) ++ ·)) = some rr) := by
              have := Hnext.out
              rw [if_neg hk0] at this
              exact this
            clear hk0
            have hown1 : w1.ownsRow (w.heap.size + 2) 23 3 u5 k (flat vs) := own_below (hown.alloc _) (hb1.mono (by simp))
            go_wp2_with (first
              | (at_builtin; refine wpList_append_own _ rfl _ _ 28 rfl (w.heap.size + 2) 23 i0 (.agg #[.int .i64 0, .int .i64 0, .string ⟨#[]⟩]) 3 32 Tryd.underlying28 ii iz0 iz1 iz2 rfl (by decide) _ _ _ rfl ((hown1.alloc _).alloc _) ⟨_, 0, none⟩ 1 1 [.int .i64 u.kind, .int .i64 u.int, .string u.text] rfl rfl ?c1 ?c2 ?c3 ?c4 ?c5 ?_))
            case c1 =>
              intro j u' hj
              match j, hj with
              | 0, hj => simp at hj; subst hj; simp [Addr.add]
              | 1, hj => simp at hj; subst hj; simp [Addr.add]
              | 2, hj => simp at hj; subst hj; simp [Addr.add]
            case c2 => intro u' hu'; simp at hu'; rcases hu' with rfl | rfl | rfl <;> rfl
            case c3 => unfold maxLen; omega
            case c4 => omega
            case c5 => simp; omega
            intro v' w' hown' hgrow _
            have hB : Below (w.heap.size + 2) ((w.alloc (.cells #[.int .i64 op, .string table, .string name, .int .i64 index, .int .i64 v0.kind, .int .i64 v0.int, .string v0.text, .slice (some ⟨b, o, none⟩) n cap] 26)).alloc (.cells #[.int .i64 0, .int .i64 0, .string ⟨#[]⟩] 23)) w' :=
              ((((hbr.trans (((Below.refl _ _).alloc (Nat.le_refl _) _).mono (by omega))).trans (hb1.mono (by omega))).alloc (by omega) _).alloc (by simp; omega) _).grown hgrow (by simp; omega) (fun g hg => (hown1.lt g hg).1)
            have hlen' := hlen.out
            rw [← flat_snoc] at hown'
            clear hown hown1 hgrow hb1 hbr hbw
            go_wp2
            go_roundw
            case rel => exact ⟨k + 1, vs ++ [u], by omega, by go_num, by show (vs ++ [u]).length = k + 1; simp [hlen'], Hres, hown', hB⟩
            case measure => simp [intOf]; omega
        · obtain rfl : n = k := by omega
          have hva : ValsAt wr vs u5 := vals_of_own hown hlen.out
          have hrr : rr = some vs := by
            have h := hpre.out
            rw [List.drop_of_length_le (by have := Hn.out; omega)] at h
            simpa [Ex.values] using h.symm
          have hfin := Hfin.out
          rw [hrr] at hfin
          obtain ⟨c, hc, hv⟩ := Option.map_eq_some_iff.1 hfin
          have Hc := Lib.hid hc
          have Hv := Lib.hid hv
          clear hfin hrr hc hv
          have hn1 : ¬ n < n := by omega
          have hzz : w.heap.size + 1 < wr.heap.size := by omega
          go_wp2_with fail
          refine (compute_calls op vs u5 _ hva c Hc.out).mono ?_
          rintro e w1 ⟨rfl, rfl⟩
          go_wp2
          refine bodyPost_ret (v := .agg #[.int .i64 1, .int .i64 c, .string ⟨#[]⟩]) (by simp [results, Tryd.results13, go_sem, hq0, hq1, hq2]) rfl ?_
          refine ⟨by rw [← Hv.out], ?_⟩
          exact ((hbw.setCell (Nat.le_succ _) _).setCell (Nat.le_succ _) _).setCell (Nat.le_succ _) _
end Go.Proofs.YtgaeabodofabmaaDoor
