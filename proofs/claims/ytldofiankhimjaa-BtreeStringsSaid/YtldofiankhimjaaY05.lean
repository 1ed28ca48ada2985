/- Part 5 of the proof: Rf, RfR, Tk, RfD, RfB, RfO, RfT, MxI, NwI, RfC -/
import Derived.Test.YtldofiankhimjaaY04
import Derived.Test.YtldofiankhimjaaY03
import Derived.IntWalk
import Derived.Laws.StructEq
import Derived.BigQuiet
import Derived.Deep.LoopGhost
import Derived.Test.YtldofiankhimjaaY00
import Derived.Shelf.Abstract
import Derived.Shelf.RegionOpen
import Derived.Deep.DeepCutAuto
/- The reference's lists: place, Get, Same. -/
namespace Go.Proofs.Ytldofiankhimjaa
open Go Go.RowKit
/-- A list of pairs that can be read. -/
def PrAt (w : World) (v : Value) (l : MI) : Prop :=
  l.length ≤ maxLen ∧ ∃ a c, v = .slice a l.length c ∧ l.length ≤ c ∧ ∀ i (hi : i < l.length), ∃ g o, a = some ⟨g, o, none⟩ ∧ g < w.heap.size ∧ w.cell? ⟨g, o + i * 2, none⟩ = some (.int .i64 l[i].1) ∧ w.cell? ⟨g, o + i * 2 + 1, none⟩ = some (.int .i64 l[i].2)
theorem PrAt.below {w w' : World} {v : Value} {l : MI} (h : PrAt w v l) (hb : Below w.heap.size w w') : PrAt w' v l := by
  obtain ⟨h1, a, c, h2, h3, h4⟩ := h
  refine ⟨h1, a, c, h2, h3, fun i hi => ?_⟩
  obtain ⟨g, o, e, hg, c0, c1⟩ := h4 i hi
  exact ⟨g, o, e, Nat.lt_of_lt_of_le hg hb.size, (hb.cell (p := ⟨g, _, none⟩) hg).trans c0, (hb.cell (p := ⟨g, _, none⟩) hg).trans c1⟩
theorem prA_at {w : World} {v : Value} {l : MI} {f : List Nat} (h : (prA v l).p w f) : PrAt w v l := by
  obtain ⟨a, c, e, hc, hm, hcell⟩ := row_shape h
  refine ⟨by omega, a, c, e, hc, fun i hi => ?_⟩
  obtain ⟨g, e1, hg, c0, -⟩ := hcell (i * 2) (by omega)
  obtain ⟨g', e2, -, c1, -⟩ := hcell (i * 2 + 1) (by omega)
  subst e1
  injection e2 with e2
  injection e2 with e2
  subst e2
  obtain ⟨t0, t1⟩ := entsI_at l i hi
  refine ⟨g, 0, rfl, hg, ?_, ?_⟩
  · rw [Nat.zero_add, c0, t0]; rfl
  · rw [Nat.zero_add, c1, t1]; rfl
theorem ltK_int (a b : Int) : ltK a b ↔ a < b := cmpS_neg
set_option maxHeartbeats 2000000 in
theorem place_calls (l : MI) (k : Int) (v : Value) (w : World) (hv : PrAt w v l) :
    Calls Try.prog 54 #[v, .int .i64 k] w fun e w' => e = .returned (.int .i64 (posK l k : Nat)) ∧ w = w' := by
  obtain ⟨hm, a, c, rfl, hc, hcell⟩ := hv
  obtain ⟨n, hn⟩ : ∃ n, l.length = n := ⟨_, rfl⟩
  have Hn := Lib.hid hn
  have Hcell := Lib.hid hcell
  have hm2 : n ≤ 9223372036854775807 := by unfold maxLen at hm; omega
  rw [hn]
  clear hcell hc hm hn
  go_enter Try.func54, Try.ntmps54
  go_wp2
  go_loop [5] (fun z => ∃ i : Nat, i ≤ n ∧ z = .int .i64 i ∧ RowKit.Hid (∀ j (h : j < l.length), j < i → ltK l[j].1 k)) (fun z => n - (intOf z).toNat)
  case atStart => exact ⟨0, Nat.zero_le _, rfl, fun j h h0 => by omega⟩
  case round =>
    obtain ⟨i, hi, rfl, H1⟩ := hrel
    by_cases hin : i < n
    · have hil : i < l.length := by have := Hn.out; omega
      obtain ⟨g, o, rfl, hg, c0, -⟩ := Hcell.out i hil
      have hin' : (i : Int) < n := by omega
      by_cases hlt : l[i].1 < k
      · have Hup : RowKit.Hid (∀ j (h : j < l.length), j < i + 1 → ltK l[j].1 k) := by
          intro j hj hji
          by_cases e : j = i
          · subst e; exact (ltK_int _ _).2 hlt
          · exact H1.out j hj (by omega)
        have ht : decide (l[i].1 < k) = true := by simp [hlt]
        generalize l[i].1 = X at *
        clear hil hlt
        go_wp2
        go_round
        case rel => exact ⟨i + 1, by omega, by go_num, Hup⟩
        case measure => simp [intOf]; omega
      · have Hp : RowKit.Hid (posK l k = i) := posK_eq (by omega) H1.out (fun h => by rw [ltK_int]; exact hlt)
        have ht : decide (l[i].1 < k) = false := by simp; omega
        generalize l[i].1 = X at *
        clear hil hlt
        go_wp2
        go_ret
        exact ⟨by rw [Hp.out]; rfl, rfl⟩
    · have Hp : RowKit.Hid (posK l k = i) := posK_eq (by have := Hn.out; omega) H1.out (fun h => absurd h (by have := Hn.out; omega))
      obtain rfl : i = n := by omega
      clear hin
      go_wp2
      go_ret
      exact ⟨by rw [Hp.out]; rfl, rfl⟩
theorem getM_posK {l : MI} (ha : AscM l) (k : Int) : getM l k = if hasK l k then (l[posK l k]?).map (·.2) else none := by
  have := getT_spec (o := l.length + 1) k 0 0 l.length (.node l []) ⟨Nat.zero_le _, Nat.le_refl _, rfl⟩ ha
  rw [show toL 0 (T.node l []) = l from rfl] at this
  rw [← this]
  rfl
set_option maxHeartbeats 2000000 in
theorem RGet_calls (l : MI) (ha : AscM l) (k : Int) (v : Value) (w : World) (hv : PrAt w v l) :
    Calls Try.prog 51 #[v, .int .i64 k] w fun e w' => e = .returned (.tuple #[((getM l k).map valI).getD (.int .i64 0), .bool (getM l k).isSome]) ∧ w = w' := by
  have HP := Lib.hid (place_calls l k v w hv)
  obtain ⟨hm, a, c, rfl, hc, hcell⟩ := hv
  have hg := getM_posK ha k
  have hple := posK_le l k
  have hht := hasK_at (es := l) (k := k) rfl
  obtain ⟨n, hn⟩ : ∃ n, l.length = n := ⟨_, rfl⟩
  rw [hn] at HP ⊢
  by_cases hin : posK l k < l.length
  · rw [dif_pos hin] at hht
    obtain ⟨g, o, rfl, hgl, c0, c1⟩ := hcell _ hin
    have hin' : ((posK l k : Nat) : Int) < n := by omega
    by_cases heq : l[posK l k].1 = k
    · have hh : hasK l k = true := by rw [hht]; simp [KOrd.zero.2 heq]
      rw [hh, if_pos rfl, List.getElem?_eq_getElem hin] at hg
      have ht : (l[posK l k].1 == k) = true := by simp [heq]
      have HG : RowKit.Hid (getM l k = some l[posK l k].2) := hg
      generalize l[posK l k].1 = X at *
      generalize l[posK l k].2 = Y at *
      generalize posK l k = i at *
      clear hg hht hh heq hin hcell hn hm hc hple ha
      go_enter Try.func51, Try.ntmps51
      go_wp2_with fail
      (with_reducible refine HP.out.mono ?_)
      rintro e w1 ⟨rfl, rfl⟩
      go_wp2
      go_ret2
      exact ⟨by rw [HG.out]; rfl, rfl⟩
    · have hh : hasK l k = false := by
        rw [hht]
        have : ¬ (KOrd.cmp l[posK l k].1 k = 0) := fun h => heq (KOrd.zero.1 h)
        simp [this]
      rw [hh] at hg
      simp only [Bool.false_eq_true, if_false] at hg
      have ht : (l[posK l k].1 == k) = false := by simp [heq]
      have HG : RowKit.Hid (getM l k = none) := hg
      generalize l[posK l k].1 = X at *
      generalize posK l k = i at *
      clear hg hht hh heq hin hcell hn hm hc hple ha c1
      go_enter Try.func51, Try.ntmps51
      go_wp2_with fail
      (with_reducible refine HP.out.mono ?_)
      rintro e w1 ⟨rfl, rfl⟩
      go_wp2
      go_ret2
      exact ⟨by rw [HG.out]; rfl, rfl⟩
  · rw [dif_neg hin] at hht
    rw [hht] at hg
    simp only [Bool.false_eq_true, if_false] at hg
    have HG : RowKit.Hid (getM l k = none) := hg
    have e : posK l k = n := by omega
    rw [e] at HP
    clear hg hht hin hcell hn hm hc hple ha e
    go_enter Try.func51, Try.ntmps51
    go_wp2_with fail
    (with_reducible refine HP.out.mono ?_)
    rintro e w1 ⟨rfl, rfl⟩
    go_wp2
    go_ret2
    exact ⟨by rw [HG.out]; rfl, rfl⟩
theorem fieldsPr : (Try.prog.fieldsOf 51).toList.map (fun f => (f.name, f.type, f.offset)) = [("Key", 3, 0), ("Value", 3, 1)] := by kernel_rfl
theorem run_neq_pr (X Y X' Y' : Int) (w : World) : (binOp .neq 51 (.agg #[.int .i64 X, .int .i64 Y]) (.agg #[.int .i64 X', .int .i64 Y'])).run Try.prog w = .ok (.bool (!(X == X' && Y == Y'))) w := by
  rw [run_neq_struct, run_equalIn_agg w 9999 51 _ _ (by kernel_rfl) (by kernel_rfl)]
  have hf := fieldsPr
  cases hl : (Try.prog.fieldsOf 51).toList with
  | nil => rw [hl] at hf; simp at hf
  | cons f1 r =>
    cases r with
    | nil => rw [hl] at hf; simp at hf
    | cons f2 r2 =>
      cases r2 with
      | cons => rw [hl] at hf; simp at hf
      | nil =>
        rw [hl] at hf
        simp at hf
        obtain ⟨⟨a1, a2, a3⟩, b1, b2, b3⟩ := hf
        have hp := fun xs i (w : World) => @run_equalIn_int Try.prog w 9998 3 .i64 .i64 xs i Try.underlying3
        have hq : ∀ (a b : Int) (w : World), (part 3 #[.int .i64 a, .int .i64 b] 0).run Try.prog w = .ok (.int .i64 a) w ∧ (part 3 #[.int .i64 a, .int .i64 b] 1).run Try.prog w = .ok (.int .i64 b) w := by
          intro a b w
          constructor <;> simp [part, go_sem]
        simp [Op.eqFields, a1, a2, a3, b1, b2, b3, hp, hq]
        by_cases e : X = X' <;> by_cases e2 : Y = Y' <;> simp [e, e2]
def EqU (l m : MI) (i : Nat) : Prop := ∀ j, j < i → l[j]? = m[j]?
set_option maxHeartbeats 2000000 in
theorem Same_calls (l m : MI) (v u : Value) (w : World) (hv : PrAt w v l) (hu : PrAt w u m) :
    Calls Try.prog 15 #[v, u] w fun e w' => e = .returned (.bool (decide (l = m))) ∧ Below w.heap.size w w' := by
  obtain ⟨hm, a, c, rfl, hc, hcell⟩ := hv
  obtain ⟨hm', a', c', rfl, hc', hcell'⟩ := hu
  by_cases hlen : l.length = m.length
  · obtain ⟨n, hn⟩ : ∃ n, l.length = n := ⟨_, rfl⟩
    have hn' : m.length = n := by omega
    have Hn := Lib.hid hn
    have Hn' := Lib.hid hn'
    have Hcell := Lib.hid hcell
    have Hcell' := Lib.hid hcell'
    have hm2 : n ≤ 9223372036854775807 := by unfold maxLen at hm; omega
    rw [hn, hn']
    have ht : ((n : Int) != n) = false := by simp
    have hneq := run_neq_pr
    have HB : RowKit.Hid (∀ q, Below w.heap.size w (w.drewN q)) := below_drewN w
    clear hcell hcell' hc hc' hm hm' hn hn' hlen
    go_enter Try.func15, Try.ntmps15
    go_wp2
    go_loopg [5] n (fun g z wr => ∃ i : Nat, g + i = n ∧ z = .int .i64 i ∧ RowKit.Hid (EqU l m i) ∧ RowKit.Hid (∃ q, wr = w.drewN q))
    case atStart => exact ⟨0, rfl, rfl, fun j h => by omega, 0, rfl⟩
    case round =>
      obtain ⟨i, hi, rfl, H1, Hw⟩ := hrel
      obtain ⟨q, hq⟩ := Hw.out
      clear Hw
      subst hq
      by_cases hin : i < n
      · have hil : i < l.length := by have := Hn.out; omega
        have hil' : i < m.length := by have := Hn'.out; omega
        obtain ⟨g, o, rfl, hg, c0, c1⟩ := Hcell.out i hil
        obtain ⟨g', o', rfl, hg', c0', c1'⟩ := Hcell'.out i hil'
        have hin' : (i : Int) < n := by omega
        have Hel : RowKit.Hid (l[i]? = some (l[i].1, l[i].2) ∧ m[i]? = some (m[i].1, m[i].2)) := ⟨List.getElem?_eq_getElem hil, List.getElem?_eq_getElem hil'⟩
        generalize l[i].1 = X at *
        generalize l[i].2 = Y at *
        generalize m[i].1 = X' at *
        generalize m[i].2 = Y' at *
        have Hi := Lib.hid hi
        have Hin := Lib.hid hin
        clear hil hil' hi hin
        obtain ⟨t, ht2⟩ : ∃ t, (X == X' && Y == Y') = t := ⟨_, rfl⟩
        have hq2 := fun w => hneq X Y X' Y' w
        rw [ht2] at hq2
        have Ht2 := Lib.hid ht2
        clear hneq ht2
        cases t with
        | true =>
          have Hup : RowKit.Hid (EqU l m (i + 1)) := by
            intro j hj
            by_cases e : j = i
            · subst e
              have h1 := Ht2.out
              simp only [Bool.and_eq_true, beq_iff_eq] at h1
              rw [Hel.out.1, Hel.out.2, h1.1, h1.2]
            · exact H1.out j (by omega)
          go_wp2
          go_quiet (fail)
          go_wp2
          go_roundg (n - (i + 1))
          case rel => exact ⟨i + 1, by have := Hin.out; omega, by go_num, Hup, _, rfl⟩
          case measure => have := Hi.out; have := Hin.out; omega
        | false =>
          have Hres : RowKit.Hid (decide (l = m) = false) := by
            show _ = _
            rw [decide_eq_false_iff_not]
            intro e
            have h1 := Hel.out
            rw [e, h1.2] at h1
            have h2 := Ht2.out
            injection h1.1 with h3
            injection h3 with h4 h5
            subst h4 h5
            simp at h2
          have HB2 : RowKit.Hid (∀ q', Below w.heap.size w ((w.drewN q).drewN q')) := by
            intro q'
            rw [World.drewN_drewN]
            exact HB.out _
          go_wp2
          go_quiet (fail)
          go_wp2
          go_ret
          exact ⟨by rw [Hres.out]; rfl, HB2.out _⟩
      · have Hres : RowKit.Hid (decide (l = m) = true) := by
          show _ = _
          rw [decide_eq_true_iff]
          apply List.ext_getElem?
          intro j
          by_cases hj : j < i
          · exact H1.out j hj
          · rw [List.getElem?_eq_none (by have := Hn.out; omega), List.getElem?_eq_none (by have := Hn'.out; omega)]
        obtain rfl : i = n := by omega
        clear hin hi
        go_wp2
        go_ret
        exact ⟨by rw [Hres.out]; rfl, HB.out _⟩
  · have Hres : RowKit.Hid (decide (l = m) = false) := by
      show _ = _
      rw [decide_eq_false_iff_not]
      exact fun e => hlen (by rw [e])
    have ht : ((l.length : Int) != m.length) = true := by simp; omega
    clear hcell hcell' hc hc' hm hm' hlen
    generalize l.length = n at *
    generalize m.length = n' at *
    go_enter Try.func15, Try.ntmps15
    go_wp2
    go_ret
    exact ⟨by rw [Hres.out]; rfl, Below.refl _ _⟩
end Go.Proofs.Ytldofiankhimjaa
/- the reference: regions that append. -/
namespace Go.Proofs.Ytldofiankhimjaa
open Go Go.RowKit
noncomputable def oRd6I : Array Oper := ((Try.f29.body).bind fun c => opsOf c 6).getD #[]
set_option maxHeartbeats 4000000 in
set_option maxRecDepth 100000 in
theorem rRd6I {Q : Exit → Act → World → Prop} {a : Act} {w w0 : World} {fp0 : List Nat} (sg n c i : Nat) (vo : Value) (xs l : MI) (y : Int × Int) (hn : n = xs.length) (hi : i < n) (hy : xs[i]? = some y) (hlen : l.length + 1 < 1099511627776) (R : List Asn) (ops : Array Oper) (hops : ops = oRd6I) (hsz : a.tmps.size = 28) (h0 : a.eval (.tmp 0) = .slice (some ⟨sg, 0, none⟩) n c) (h6 : a.eval (.tmp 6) = .int .i64 i) (_h5 : a.eval (.tmp 5) = vo)
    (hS : St w0 fp0 ([pick false (boxsA 51 (a.eval (.tmp 25)) #[.int .i64 y.1, .int .i64 y.2]) emp, pick false (prA (a.eval (.tmp 26)) (l ++ [y])) (prA vo l), pick false (pureA ((a.eval (.tmp 5)) = (a.eval (.tmp 26)))) (pureA ((a.eval (.tmp 5)) = vo)), prA (.slice (some ⟨sg, 0, none⟩) n c) xs] ++ R) w)
    (hQ : ∀ (u : Nat → Value) w1, St w0 fp0 ([pick true (boxsA 51 (u 25) #[.int .i64 y.1, .int .i64 y.2]) emp, pick true (prA (u 26) (l ++ [y])) (prA vo l), pick true (pureA ((u 5) = (u 26))) (pureA ((u 5) = vo)), prA (.slice (some ⟨sg, 0, none⟩) n c) xs] ++ R) w1 → Q .normal (putL a (([20, 21, 22, 23, 24, 25, 26, 5] : List Nat).map fun d => (d, u d))) w1) : (Code.region 6 ops false).wp Try.prog Q a w := by
  subst hops
  have hy0 : ∀ h, (xs[i]'h).1 = y.1 := by intro h; rw [(List.getElem?_eq_some_iff.1 hy).2]
  have hy1 : ∀ h, (xs[i]'h).2 = y.2 := by intro h; rw [(List.getElem?_eq_some_iff.1 hy).2]
  have hsize : oRd6I.size = 8 := by kernel_rfl
  have hE : Looks (fun L g w => St w0 fp0 ([pick (L 5) (boxsA 51 (g 25) #[.int .i64 y.1, .int .i64 y.2]) emp, pick (L 6) (prA (g 26) (l ++ [y])) (prA vo l), pick (L 7) (pureA ((g 5) = (g 26))) (pureA ((g 5) = vo)), prA (.slice (some ⟨sg, 0, none⟩) n c) xs] ++ R) w) [5, 6, 7] [25, 26, 5] := by
    intro L L' g g' w hL hg h
    simpa only [← hL 5 (by decide), ← hL 6 (by decide), ← hL 7 (by decide), ← hg 25 (by decide), ← hg 26 (by decide), ← hg 5 (by decide)] using h
  have hn1 : (([(0, 20, vo), (1, 21, .slice (some ⟨sg, 0, none⟩) n c), (2, 22, .int .i64 i), (3, 23, .pointer (some ⟨sg, i * 2, none⟩)), (4, 24, .agg #[.int .i64 y.1, .int .i64 y.2])] : List (Nat × Nat × Value)).map (·.1)).Nodup := by
    show List.Nodup [0, 1, 2, 3, 4]
    decide
  have hn2 : (([(0, 20, vo), (1, 21, .slice (some ⟨sg, 0, none⟩) n c), (2, 22, .int .i64 i), (3, 23, .pointer (some ⟨sg, i * 2, none⟩)), (4, 24, .agg #[.int .i64 y.1, .int .i64 y.2])] : List (Nat × Nat × Value)).map (·.2.1)).Nodup := by
    show List.Nodup [20, 21, 22, 23, 24]
    decide
  refine wp_region_vals0 (ops' := oRd6I) [20, 21, 22, 23, 24, 25, 26, 5] [(0, 20, vo), (1, 21, .slice (some ⟨sg, 0, none⟩) n c), (2, 22, .int .i64 i), (3, 23, .pointer (some ⟨sg, i * 2, none⟩)), (4, 24, .agg #[.int .i64 y.1, .int .i64 y.2])] (fun L g w => St w0 fp0 ([pick (L 5) (boxsA 51 (g 25) #[.int .i64 y.1, .int .i64 y.2]) emp, pick (L 6) (prA (g 26) (l ++ [y])) (prA vo l), pick (L 7) (pureA ((g 5) = (g 26))) (pureA ((g 5) = vo)), prA (.slice (some ⟨sg, 0, none⟩) n c) xs] ++ R) w) rfl (by kernel_rfl) hS ?_ ?_
  · intro oi o L a1 w1 ho hL hdep hI
    have hoi : oi < 8 := by have := (Array.getElem?_eq_some_iff.1 ho).1; omega
    have h1sz : a1.tmps.size = 28 := hI.frame.size.trans hsz
    rcases (by omega : oi = 0 ∨ oi = 1 ∨ oi = 2 ∨ oi = 3 ∨ oi = 4 ∨ oi = 5 ∨ oi = 6 ∨ oi = 7) with rfl | rfl | rfl | rfl | rfl | rfl | rfl | rfl
    · have hl : oRd6I[0]? = some ⟨some 20, Op.move (Operand.tmp 5), _, _, _, none⟩ := rfl
      obtain rfl := oI ho hl
      have hS1 := hI.eff
      have e6 : L 6 = false := hI.no hL (by kernel_rfl : waitsB oRd6I 6 0 = true)
      have e7 : L 7 = false := hI.no hL (by kernel_rfl : waitsB oRd6I 7 0 = true)
      simp only [e6, e7, pick_false] at hS1
      obtain ⟨_, hP, _⟩ := hS1.has 2 rfl
      have hcell := eval_spell hP
      exact hI.rd hE hsz 0 20 (vo) ho rfl rfl hdep (by decide) (vals_at hn1 hn2 0 rfl) (by simp [go_sem, execOp, Act.eval, hcell])
    · have hl : oRd6I[1]? = some ⟨some 21, Op.move (Operand.tmp 0), _, _, _, none⟩ := rfl
      obtain rfl := oI ho hl
      have x0 := hI.old 0 (.slice (some ⟨sg, 0, none⟩) n c) (by decide) h0
      exact hI.rd hE hsz 1 21 (.slice (some ⟨sg, 0, none⟩) n c) ho rfl rfl hdep (by decide) (vals_at hn1 hn2 1 rfl) (by simp [go_sem, execOp, Act.eval, x0])
    · have hl : oRd6I[2]? = some ⟨some 22, Op.move (Operand.tmp 6), _, _, _, none⟩ := rfl
      obtain rfl := oI ho hl
      have x6 := hI.old 6 (.int .i64 i) (by decide) h6
      exact hI.rd hE hsz 2 22 (.int .i64 i) ho rfl rfl hdep (by decide) (vals_at hn1 hn2 2 rfl) (by simp [go_sem, execOp, Act.eval, x6])
    · have hl : oRd6I[3]? = some ⟨some 23, Op.indexAddr _ (Operand.tmp 21) (Operand.tmp 22), _, _, _, none⟩ := rfl
      obtain rfl := oI ho hl
      have x21 := hI.val 1 21 (.slice (some ⟨sg, 0, none⟩) n c) (mG (i := 1) rfl) (dK ho hdep (by kernel_rfl : waitsB oRd6I 3 1 = true))
      have x22 := hI.val 2 22 (.int .i64 i) (mG (i := 2) rfl) (dK ho hdep (by kernel_rfl : waitsB oRd6I 3 2 = true))
      exact hI.rd hE hsz 3 23 (.pointer (some ⟨sg, i * 2, none⟩)) ho rfl rfl hdep (by decide) (vals_at hn1 hn2 3 rfl) (by simp [go_sem, execOp, Act.eval, x21, x22, hi])
    · have hl : oRd6I[4]? = some ⟨some 24, Op.load _ (Operand.tmp 23), _, _, _, none⟩ := rfl
      obtain rfl := oI ho hl
      have x23 := hI.val 3 23 (.pointer (some ⟨sg, i * 2, none⟩)) (mG (i := 3) rfl) (dK ho hdep (by kernel_rfl : waitsB oRd6I 4 3 = true))
      have hS1 := hI.eff
      have e5 : L 5 = false := hI.no hL (by kernel_rfl : waitsB oRd6I 5 4 = true)
      have e6 : L 6 = false := hI.no (hI.no hL (by kernel_rfl : waitsB oRd6I 5 4 = true)) (by kernel_rfl : waitsB oRd6I 6 5 = true)
      have e7 : L 7 = false := hI.no hL (by kernel_rfl : waitsB oRd6I 7 4 = true)
      simp only [e5, e6, e7, pick_false] at hS1
      obtain ⟨_, hp⟩ := hS1.has 3 rfl
      obtain ⟨_, _, hv3, _, _, hcs⟩ := row_shape hp
      injection hv3 with hv4
      obtain ⟨g0, hg0, hlt, c0, -⟩ := hcs (i * 2) (by omega)
      obtain ⟨g1, hg1, -, c1, -⟩ := hcs (i * 2 + 1) (by omega)
      rw [← hv4] at hg0 hg1
      injection hg0 with hg0
      injection hg0 with hg0
      injection hg1 with hg1
      injection hg1 with hg1
      subst hg0 hg1
      obtain ⟨t0, t1⟩ := entsI_at xs i (by omega)
      rw [t0, hy0] at c0
      rw [t1, hy1] at c1
      have hcell := c0
      exact hI.rd hE hsz 4 24 (.agg #[.int .i64 y.1, .int .i64 y.2]) ho rfl rfl hdep (by decide) (vals_at hn1 hn2 4 rfl) (by simp [go_sem, execOp, Act.eval, x23, hcell, c1, encI, valI])
    · have hl : oRd6I[5]? = some ⟨some 25, Op.buildSlice _ 1 #[(0, Operand.tmp 24)], _, _, _, none⟩ := rfl
      obtain rfl := oI ho hl
      have x24 := hI.val 4 24 (.agg #[.int .i64 y.1, .int .i64 y.2]) (mG (i := 4) rfl) (dK ho hdep (by kernel_rfl : waitsB oRd6I 5 4 = true))
      have hS1 := hI.eff
      have e5 : L 5 = false := hL
      have e6 : L 6 = false := hI.no hL (by kernel_rfl : waitsB oRd6I 6 5 = true)
      have e7 : L 7 = false := hI.no hL (by kernel_rfl : waitsB oRd6I 7 5 = true)
      simp only [e5, e6, e7, pick_false] at hS1
      refine inv_value ho rfl (v := .slice (some ⟨w1.heap.size, 0, none⟩) 1 1) (w' := w1.alloc (.cells #[.int .i64 y.1, .int .i64 y.2] 51)) (by simp [go_sem, execOp, Act.eval, x24]) (hI.put 5 25 _ ho hdep (by decide) (by intro t ht; exact vals_ne2 rfl rfl (by decide : 5 ∉ [0, 1, 2, 3, 4]) (by decide : 25 ∉ [20, 21, 22, 23, 24]) ht) ?_)
      have hS2 := St.boxs hS1 0 rfl 51 #[.int .i64 y.1, .int .i64 y.2]
      simp only [e5, e6, e7, Bool.or_false, Bool.or_true, Nat.reduceEqDiff, decide_true, decide_false, pick_true, pick_false, eval_put_same (by rw [h1sz]; decide : 25 < a1.tmps.size), eval_put_ne (by decide : 25 ≠ 26), eval_put_ne (by decide : 25 ≠ 5)]
      exact hS2
    · have hl : oRd6I[6]? = some ⟨some 26, Op.call ⟨Callee.builtin Builtin.append, #[Operand.tmp 20, Operand.tmp 25], _⟩, _, _, _, none⟩ := rfl
      obtain rfl := oI ho hl
      have x20 := hI.val 0 20 (vo) (mG (i := 0) rfl) (dK ho hdep (by kernel_rfl : waitsB oRd6I 6 0 = true))
      have hS1 := hI.eff
      have e5 : L 5 = true := dK ho hdep (by kernel_rfl : waitsB oRd6I 6 5 = true)
      have e6 : L 6 = false := hL
      have e7 : L 7 = false := hI.no hL (by kernel_rfl : waitsB oRd6I 7 6 = true)
      simp only [e5, e6, e7, pick_true, pick_false] at hS1
      obtain ⟨f, g, hbx, hrw, _, _, hset⟩ := hS1.two 0 1 (by decide) rfl rfl
      obtain ⟨vb, hgb, hvb, rfl⟩ := hbx
      obtain ⟨v2, w2, f2, hr2, ho2, ht2⟩ := runPr w1 _ hrw vb y _ hvb hlen
      refine inv_value ho rfl (v := v2) (w' := w2) (run_append_op (s := .tmp 20) (x := .tmp 25) (t := 31) rfl (spell_eval x20) hgb hr2) (hI.put 6 26 _ ho hdep (by decide) (by intro t ht; exact vals_ne2 rfl rfl (by decide : 6 ∉ [0, 1, 2, 3, 4]) (by decide : 26 ∉ [20, 21, 22, 23, 24]) ht) ?_)
      have hS2 := hset _ _ _ ho2 ht2
      simp only [e5, e6, e7, Bool.or_false, Bool.or_true, Nat.reduceEqDiff, decide_true, decide_false, pick_true, pick_false, eval_put_same (by rw [h1sz]; decide : 26 < a1.tmps.size), eval_put_ne (by decide : 26 ≠ 25), eval_put_ne (by decide : 26 ≠ 5)]
      exact hS2
    · have hl : oRd6I[7]? = some ⟨some 5, Op.assign (Operand.tmp 26), _, _, _, none⟩ := rfl
      obtain rfl := oI ho hl
      have hS1 := hI.eff
      have e5 : L 5 = true := dK ho hdep (by kernel_rfl : waitsB oRd6I 7 5 = true)
      have e6 : L 6 = true := dK ho hdep (by kernel_rfl : waitsB oRd6I 7 6 = true)
      have e7 : L 7 = false := hL
      simp only [e5, e6, e7, pick_true, pick_false] at hS1
      refine inv_value ho rfl (v := a1.eval (.tmp 26)) (w' := w1) (by simp [go_sem, execOp, Act.eval]) (hI.put 7 5 _ ho hdep (by decide) (by intro t ht; exact vals_ne2 rfl rfl (by decide : 7 ∉ [0, 1, 2, 3, 4]) (by decide : 5 ∉ [20, 21, 22, 23, 24]) ht) ?_)
      have hS2 := hS1.setP' 2 rfl True trivial
      simp only [e5, e6, e7, Bool.or_false, Bool.or_true, Nat.reduceEqDiff, decide_true, decide_false, pick_true, eval_put_same (by rw [h1sz]; decide : 5 < a1.tmps.size), eval_put_ne (by decide : 5 ≠ 25), eval_put_ne (by decide : 5 ≠ 26)]
      exact hS2
  · intro L a1 w1 hL hI
    have hS1 := hI.eff
    simp only [hL 5 (by rw [hsize]; decide), hL 6 (by rw [hsize]; decide), hL 7 (by rw [hsize]; decide), pick_true] at hS1
    have := hQ (fun d => a1.eval (.tmp d)) w1  hS1
    have e := hI.frame.eq
    rw [e]
    exact this
noncomputable def oRb6I : Array Oper := ((Try.f30.body).bind fun c => opsOf c 6).getD #[]
set_option maxHeartbeats 4000000 in
set_option maxRecDepth 100000 in
theorem rRb6I {Q : Exit → Act → World → Prop} {a : Act} {w w0 : World} {fp0 : List Nat} (sg n c i : Nat) (vo : Value) (xs l : MI) (y : Int × Int) (hn : n = xs.length) (hi : i < n) (hy : xs[i]? = some y) (hlen : l.length + 1 < 1099511627776) (R : List Asn) (ops : Array Oper) (hops : ops = oRb6I) (hsz : a.tmps.size = 39) (h0 : a.eval (.tmp 0) = .slice (some ⟨sg, 0, none⟩) n c) (h8 : a.eval (.tmp 8) = .int .i64 i) (_h7 : a.eval (.tmp 7) = vo)
    (hS : St w0 fp0 ([pick false (boxsA 51 (a.eval (.tmp 36)) #[.int .i64 y.1, .int .i64 y.2]) emp, pick false (prA (a.eval (.tmp 37)) (l ++ [y])) (prA vo l), pick false (pureA ((a.eval (.tmp 7)) = (a.eval (.tmp 37)))) (pureA ((a.eval (.tmp 7)) = vo)), prA (.slice (some ⟨sg, 0, none⟩) n c) xs] ++ R) w)
    (hQ : ∀ (u : Nat → Value) w1, St w0 fp0 ([pick true (boxsA 51 (u 36) #[.int .i64 y.1, .int .i64 y.2]) emp, pick true (prA (u 37) (l ++ [y])) (prA vo l), pick true (pureA ((u 7) = (u 37))) (pureA ((u 7) = vo)), prA (.slice (some ⟨sg, 0, none⟩) n c) xs] ++ R) w1 → Q .normal (putL a (([31, 32, 33, 34, 35, 36, 37, 7] : List Nat).map fun d => (d, u d))) w1) : (Code.region 6 ops false).wp Try.prog Q a w := by
  subst hops
  have hy0 : ∀ h, (xs[i]'h).1 = y.1 := by intro h; rw [(List.getElem?_eq_some_iff.1 hy).2]
  have hy1 : ∀ h, (xs[i]'h).2 = y.2 := by intro h; rw [(List.getElem?_eq_some_iff.1 hy).2]
  have hsize : oRb6I.size = 8 := by kernel_rfl
  have hE : Looks (fun L g w => St w0 fp0 ([pick (L 5) (boxsA 51 (g 36) #[.int .i64 y.1, .int .i64 y.2]) emp, pick (L 6) (prA (g 37) (l ++ [y])) (prA vo l), pick (L 7) (pureA ((g 7) = (g 37))) (pureA ((g 7) = vo)), prA (.slice (some ⟨sg, 0, none⟩) n c) xs] ++ R) w) [5, 6, 7] [36, 37, 7] := by
    intro L L' g g' w hL hg h
    simpa only [← hL 5 (by decide), ← hL 6 (by decide), ← hL 7 (by decide), ← hg 36 (by decide), ← hg 37 (by decide), ← hg 7 (by decide)] using h
  have hn1 : (([(0, 31, vo), (1, 32, .slice (some ⟨sg, 0, none⟩) n c), (2, 33, .int .i64 i), (3, 34, .pointer (some ⟨sg, i * 2, none⟩)), (4, 35, .agg #[.int .i64 y.1, .int .i64 y.2])] : List (Nat × Nat × Value)).map (·.1)).Nodup := by
    show List.Nodup [0, 1, 2, 3, 4]
    decide
  have hn2 : (([(0, 31, vo), (1, 32, .slice (some ⟨sg, 0, none⟩) n c), (2, 33, .int .i64 i), (3, 34, .pointer (some ⟨sg, i * 2, none⟩)), (4, 35, .agg #[.int .i64 y.1, .int .i64 y.2])] : List (Nat × Nat × Value)).map (·.2.1)).Nodup := by
    show List.Nodup [31, 32, 33, 34, 35]
    decide
  refine wp_region_vals0 (ops' := oRb6I) [31, 32, 33, 34, 35, 36, 37, 7] [(0, 31, vo), (1, 32, .slice (some ⟨sg, 0, none⟩) n c), (2, 33, .int .i64 i), (3, 34, .pointer (some ⟨sg, i * 2, none⟩)), (4, 35, .agg #[.int .i64 y.1, .int .i64 y.2])] (fun L g w => St w0 fp0 ([pick (L 5) (boxsA 51 (g 36) #[.int .i64 y.1, .int .i64 y.2]) emp, pick (L 6) (prA (g 37) (l ++ [y])) (prA vo l), pick (L 7) (pureA ((g 7) = (g 37))) (pureA ((g 7) = vo)), prA (.slice (some ⟨sg, 0, none⟩) n c) xs] ++ R) w) rfl (by kernel_rfl) hS ?_ ?_
  · intro oi o L a1 w1 ho hL hdep hI
    have hoi : oi < 8 := by have := (Array.getElem?_eq_some_iff.1 ho).1; omega
    have h1sz : a1.tmps.size = 39 := hI.frame.size.trans hsz
    rcases (by omega : oi = 0 ∨ oi = 1 ∨ oi = 2 ∨ oi = 3 ∨ oi = 4 ∨ oi = 5 ∨ oi = 6 ∨ oi = 7) with rfl | rfl | rfl | rfl | rfl | rfl | rfl | rfl
    · have hl : oRb6I[0]? = some ⟨some 31, Op.move (Operand.tmp 7), _, _, _, none⟩ := rfl
      obtain rfl := oI ho hl
      have hS1 := hI.eff
      have e6 : L 6 = false := hI.no hL (by kernel_rfl : waitsB oRb6I 6 0 = true)
      have e7 : L 7 = false := hI.no hL (by kernel_rfl : waitsB oRb6I 7 0 = true)
      simp only [e6, e7, pick_false] at hS1
      obtain ⟨_, hP, _⟩ := hS1.has 2 rfl
      have hcell := eval_spell hP
      exact hI.rd hE hsz 0 31 (vo) ho rfl rfl hdep (by decide) (vals_at hn1 hn2 0 rfl) (by simp [go_sem, execOp, Act.eval, hcell])
    · have hl : oRb6I[1]? = some ⟨some 32, Op.move (Operand.tmp 0), _, _, _, none⟩ := rfl
      obtain rfl := oI ho hl
      have x0 := hI.old 0 (.slice (some ⟨sg, 0, none⟩) n c) (by decide) h0
      exact hI.rd hE hsz 1 32 (.slice (some ⟨sg, 0, none⟩) n c) ho rfl rfl hdep (by decide) (vals_at hn1 hn2 1 rfl) (by simp [go_sem, execOp, Act.eval, x0])
    · have hl : oRb6I[2]? = some ⟨some 33, Op.move (Operand.tmp 8), _, _, _, none⟩ := rfl
      obtain rfl := oI ho hl
      have x8 := hI.old 8 (.int .i64 i) (by decide) h8
      exact hI.rd hE hsz 2 33 (.int .i64 i) ho rfl rfl hdep (by decide) (vals_at hn1 hn2 2 rfl) (by simp [go_sem, execOp, Act.eval, x8])
    · have hl : oRb6I[3]? = some ⟨some 34, Op.indexAddr _ (Operand.tmp 32) (Operand.tmp 33), _, _, _, none⟩ := rfl
      obtain rfl := oI ho hl
      have x32 := hI.val 1 32 (.slice (some ⟨sg, 0, none⟩) n c) (mG (i := 1) rfl) (dK ho hdep (by kernel_rfl : waitsB oRb6I 3 1 = true))
      have x33 := hI.val 2 33 (.int .i64 i) (mG (i := 2) rfl) (dK ho hdep (by kernel_rfl : waitsB oRb6I 3 2 = true))
      exact hI.rd hE hsz 3 34 (.pointer (some ⟨sg, i * 2, none⟩)) ho rfl rfl hdep (by decide) (vals_at hn1 hn2 3 rfl) (by simp [go_sem, execOp, Act.eval, x32, x33, hi])
    · have hl : oRb6I[4]? = some ⟨some 35, Op.load _ (Operand.tmp 34), _, _, _, none⟩ := rfl
      obtain rfl := oI ho hl
      have x34 := hI.val 3 34 (.pointer (some ⟨sg, i * 2, none⟩)) (mG (i := 3) rfl) (dK ho hdep (by kernel_rfl : waitsB oRb6I 4 3 = true))
      have hS1 := hI.eff
      have e5 : L 5 = false := hI.no hL (by kernel_rfl : waitsB oRb6I 5 4 = true)
      have e6 : L 6 = false := hI.no (hI.no hL (by kernel_rfl : waitsB oRb6I 5 4 = true)) (by kernel_rfl : waitsB oRb6I 6 5 = true)
      have e7 : L 7 = false := hI.no hL (by kernel_rfl : waitsB oRb6I 7 4 = true)
      simp only [e5, e6, e7, pick_false] at hS1
      obtain ⟨_, hp⟩ := hS1.has 3 rfl
      obtain ⟨_, _, hv3, _, _, hcs⟩ := row_shape hp
      injection hv3 with hv4
      obtain ⟨g0, hg0, hlt, c0, -⟩ := hcs (i * 2) (by omega)
      obtain ⟨g1, hg1, -, c1, -⟩ := hcs (i * 2 + 1) (by omega)
      rw [← hv4] at hg0 hg1
      injection hg0 with hg0
      injection hg0 with hg0
      injection hg1 with hg1
      injection hg1 with hg1
      subst hg0 hg1
      obtain ⟨t0, t1⟩ := entsI_at xs i (by omega)
      rw [t0, hy0] at c0
      rw [t1, hy1] at c1
      have hcell := c0
      exact hI.rd hE hsz 4 35 (.agg #[.int .i64 y.1, .int .i64 y.2]) ho rfl rfl hdep (by decide) (vals_at hn1 hn2 4 rfl) (by simp [go_sem, execOp, Act.eval, x34, hcell, c1, encI, valI])
    · have hl : oRb6I[5]? = some ⟨some 36, Op.buildSlice _ 1 #[(0, Operand.tmp 35)], _, _, _, none⟩ := rfl
      obtain rfl := oI ho hl
      have x35 := hI.val 4 35 (.agg #[.int .i64 y.1, .int .i64 y.2]) (mG (i := 4) rfl) (dK ho hdep (by kernel_rfl : waitsB oRb6I 5 4 = true))
      have hS1 := hI.eff
      have e5 : L 5 = false := hL
      have e6 : L 6 = false := hI.no hL (by kernel_rfl : waitsB oRb6I 6 5 = true)
      have e7 : L 7 = false := hI.no hL (by kernel_rfl : waitsB oRb6I 7 5 = true)
      simp only [e5, e6, e7, pick_false] at hS1
      refine inv_value ho rfl (v := .slice (some ⟨w1.heap.size, 0, none⟩) 1 1) (w' := w1.alloc (.cells #[.int .i64 y.1, .int .i64 y.2] 51)) (by simp [go_sem, execOp, Act.eval, x35]) (hI.put 5 36 _ ho hdep (by decide) (by intro t ht; exact vals_ne2 rfl rfl (by decide : 5 ∉ [0, 1, 2, 3, 4]) (by decide : 36 ∉ [31, 32, 33, 34, 35]) ht) ?_)
      have hS2 := St.boxs hS1 0 rfl 51 #[.int .i64 y.1, .int .i64 y.2]
      simp only [e5, e6, e7, Bool.or_false, Bool.or_true, Nat.reduceEqDiff, decide_true, decide_false, pick_true, pick_false, eval_put_same (by rw [h1sz]; decide : 36 < a1.tmps.size), eval_put_ne (by decide : 36 ≠ 37), eval_put_ne (by decide : 36 ≠ 7)]
      exact hS2
    · have hl : oRb6I[6]? = some ⟨some 37, Op.call ⟨Callee.builtin Builtin.append, #[Operand.tmp 31, Operand.tmp 36], _⟩, _, _, _, none⟩ := rfl
      obtain rfl := oI ho hl
      have x31 := hI.val 0 31 (vo) (mG (i := 0) rfl) (dK ho hdep (by kernel_rfl : waitsB oRb6I 6 0 = true))
      have hS1 := hI.eff
      have e5 : L 5 = true := dK ho hdep (by kernel_rfl : waitsB oRb6I 6 5 = true)
      have e6 : L 6 = false := hL
      have e7 : L 7 = false := hI.no hL (by kernel_rfl : waitsB oRb6I 7 6 = true)
      simp only [e5, e6, e7, pick_true, pick_false] at hS1
      obtain ⟨f, g, hbx, hrw, _, _, hset⟩ := hS1.two 0 1 (by decide) rfl rfl
      obtain ⟨vb, hgb, hvb, rfl⟩ := hbx
      obtain ⟨v2, w2, f2, hr2, ho2, ht2⟩ := runPr w1 _ hrw vb y _ hvb hlen
      refine inv_value ho rfl (v := v2) (w' := w2) (run_append_op (s := .tmp 31) (x := .tmp 36) (t := 31) rfl (spell_eval x31) hgb hr2) (hI.put 6 37 _ ho hdep (by decide) (by intro t ht; exact vals_ne2 rfl rfl (by decide : 6 ∉ [0, 1, 2, 3, 4]) (by decide : 37 ∉ [31, 32, 33, 34, 35]) ht) ?_)
      have hS2 := hset _ _ _ ho2 ht2
      simp only [e5, e6, e7, Bool.or_false, Bool.or_true, Nat.reduceEqDiff, decide_true, decide_false, pick_true, pick_false, eval_put_same (by rw [h1sz]; decide : 37 < a1.tmps.size), eval_put_ne (by decide : 37 ≠ 36), eval_put_ne (by decide : 37 ≠ 7)]
      exact hS2
    · have hl : oRb6I[7]? = some ⟨some 7, Op.assign (Operand.tmp 37), _, _, _, none⟩ := rfl
      obtain rfl := oI ho hl
      have hS1 := hI.eff
      have e5 : L 5 = true := dK ho hdep (by kernel_rfl : waitsB oRb6I 7 5 = true)
      have e6 : L 6 = true := dK ho hdep (by kernel_rfl : waitsB oRb6I 7 6 = true)
      have e7 : L 7 = false := hL
      simp only [e5, e6, e7, pick_true, pick_false] at hS1
      refine inv_value ho rfl (v := a1.eval (.tmp 37)) (w' := w1) (by simp [go_sem, execOp, Act.eval]) (hI.put 7 7 _ ho hdep (by decide) (by intro t ht; exact vals_ne2 rfl rfl (by decide : 7 ∉ [0, 1, 2, 3, 4]) (by decide : 7 ∉ [31, 32, 33, 34, 35]) ht) ?_)
      have hS2 := hS1.setP' 2 rfl True trivial
      simp only [e5, e6, e7, Bool.or_false, Bool.or_true, Nat.reduceEqDiff, decide_true, decide_false, pick_true, eval_put_same (by rw [h1sz]; decide : 7 < a1.tmps.size), eval_put_ne (by decide : 7 ≠ 36), eval_put_ne (by decide : 7 ≠ 37)]
      exact hS2
  · intro L a1 w1 hL hI
    have hS1 := hI.eff
    simp only [hL 5 (by rw [hsize]; decide), hL 6 (by rw [hsize]; decide), hL 7 (by rw [hsize]; decide), pick_true] at hS1
    have := hQ (fun d => a1.eval (.tmp d)) w1  hS1
    have e := hI.frame.eq
    rw [e]
    exact this
end Go.Proofs.Ytldofiankhimjaa
/- taken: the first pairs of an iterator. -/
namespace Go.Proofs.Ytldofiankhimjaa
open Go Go.RowKit Go.Shelf
attribute [local go_sem] Oper.semAt_some
theorem iterF_ne_nil (bt bl bh : Nat) (w : World) : (binOp .eql 34 (iterFI bt bl bh) .nilFunc).run Try.prog w = .ok (.bool false) w := run_eql_func_nil Try.underlying34 w
def takeM (most : Int) (l : MI) : MI := if most < 1 then [] else l.take most.toNat
def tkI (bo bm : Nat) (most : Int) (L : List Asn) (pre : MI) : List Asn := prVar bo pre :: blkA bm 3 #[.int .i64 most] :: pureA ((pre.length : Int) < most) :: L
def tkX (bo : Nat) (most : Int) (L : List Asn) (c : Code) (pre : MI) : List Asn := pureA (c = .exit 0) :: prVar bo pre :: pureA (pre.length = most.toNat) :: L
set_option maxHeartbeats 4000000 in
set_option maxRecDepth 20000 in
theorem taken_calls {o h : Nat} (ho' : o ≤ 1024) (lo hi : Option Int) (pl ph : Value) (l : MI) (tb bt bl bh : Nat) (hlen : l.length < 1099511627775) (most : Int) (w0 w : World) (fp0 : List Nat) (R : List Asn) (hS : St w0 fp0 (objI o h l tb :: (iterLI tb bt bl bh pl ph lo hi ++ R)) w) :
    Calls Try.prog 16 #[iterFI bt bl bh, .int .i64 most] w fun e w' => ∃ v, e = .returned v ∧ St w0 fp0 (prA v (takeM most (selM lo hi l)) :: objI o h l tb :: (iterLI tb bt bl bh pl ph lo hi ++ R)) w' := by
  have HS := Lib.hid hS
  have hsel : (selM lo hi l).length < 1099511627775 := Nat.lt_of_le_of_lt (List.length_filter_le _ _) hlen
  have Hsel := Lib.hid hsel
  have Hlen := Lib.hid hlen
  have Ho' := Lib.hid ho'
  by_cases hm : most < 1
  · have hT : RowKit.Hid (takeM most (selM lo hi l) = []) := by show _ = _; simp [takeM, hm]
    clear hS hsel hlen ho'
    have hnn := iterF_ne_nil bt bl bh
    unfold iterFI at *
    refine calls_of_wp_m Try.func16 rfl ?_
    simp only [Try.ntmps16, List.size_toArray, List.length_cons, List.length_nil, Nat.reduceAdd, Nat.reduceSub, Array.replicate_succ, Array.replicate_zero, List.push_toArray, List.append_toArray, List.nil_append, List.cons_append]
    go_wp2
    refine bodyPostM_ret (results_tmp rfl _ _ _) rfl ?_
    refine ⟨_, rfl, ?_⟩
    rw [hT.out]
    refine St.nilR 51 2 (HS.out.mono ?_)
    exact ((Below.refl _ _).alloc (Nat.le_refl _) _).alloc (by simp) _
  · have hT : RowKit.Hid (takeM most (selM lo hi l) = (selM lo hi l).take most.toNat) := by show _ = _; simp [takeM, hm]
    have hm1 : decide (most < 1) = false := by simp; omega
    have HM : RowKit.Hid (1 ≤ most) := by show _ ≤ _; omega
    have HSEQ := Lib.hid (betw1I_seq (h := h) ho' lo hi pl ph l tb bt bl bh (by omega) (2 - 1))
    rw [betLI_eq] at HSEQ
    have HS0 : RowKit.Hid (St w0 fp0 ((objI o h l tb :: iterLI tb bt bl bh pl ph lo hi) ++ (blkA (w.heap.size + 1) 31 #[.slice none 0 0] :: prA (.slice none 0 0) [] :: blkA w.heap.size 3 #[.int .i64 most] :: R)) ((w.alloc (.cells #[.int .i64 most] 3)).alloc (.cells #[.slice none 0 0] 31))) := by
      have h1 := ((hS.newblk 3 #[.int .i64 most]).newblk 31 #[.slice none 0 0]).nilR 51 2
      simp only [World.size_alloc] at h1
      refine h1.perm ?_
      exact (by classical exact List.perm_iff_count.2 fun a => by simp only [List.cons_append, List.count_append, List.count_cons, prA, List.length_nil, entsI, List.flatMap_nil] <;> omega)
    generalize selM lo hi l = xs at *
    clear hS hsel hlen ho' hm
    have hnn := iterF_ne_nil bt bl bh
    unfold iterFI at *
    refine calls_of_wp_m Try.func16 rfl ?_
    simp only [Try.ntmps16, List.size_toArray, List.length_cons, List.length_nil, Nat.reduceAdd, Nat.reduceSub, Array.replicate_succ, Array.replicate_zero, List.push_toArray, List.append_toArray, List.nil_append, List.cons_append]
    go_wp2_with fail
    generalize hWW : (w.alloc _).alloc _ = W0 at *
    have hWL : w.heap.size < W0.heap.size ∧ w.heap.size + 1 < W0.heap.size := by rw [← hWW]; simp; omega
    clear hWW
    obtain ⟨bm, hbm⟩ : ∃ bm, w.heap.size = bm := ⟨_, rfl⟩
    rw [hbm] at HS0 ⊢
    clear hbm hWL
    generalize bm + 1 = bo at *
    refine wp_rangeFunc_st (n := 2) rfl (enters_of Try.func64 (by kernel_rfl) rfl) HSEQ.out (fun _ => rfl)
      (tkI bo bm most (objI o h l tb :: (iterLI tb bt bl bh pl ph lo hi ++ R))) (tkX bo most (objI o h l tb :: (iterLI tb bt bl bh pl ph lo hi ++ R))) _ HS0.out ?h0 ?round ?done ?stop
    case h0 =>
      intro Own W hW
      have h1 : St w0 fp0 (blkA bo 31 #[.slice none 0 0] :: prA (.slice none 0 0) [] :: (blkA bm 3 #[.int .i64 most] :: (objI o h l tb :: (iterLI tb bt bl bh pl ph lo hi ++ R)) ++ Own)) W := by
        refine hW.perm ?_
        exact (by classical exact List.perm_iff_count.2 fun a => by simp only [List.cons_append, List.count_append, List.count_cons] <;> omega)
      have h2 := St.prv.2 ⟨_, h1⟩
      have h3 : St w0 fp0 (pureA ((([] : MI).length : Int) < most) :: prVar bo [] :: (blkA bm 3 #[.int .i64 most] :: (objI o h l tb :: (iterLI tb bt bl bh pl ph lo hi ++ R)) ++ Own)) W := St.pure.2 ⟨by have := HM.out; simp; omega, h2⟩
      refine h3.perm ?_
      unfold tkI
      exact (by classical exact List.perm_iff_count.2 fun a => by simp only [List.cons_append, List.count_append, List.count_cons] <;> omega)
    case round =>
      intro l0 pre x rest Own W hxs hs
      gi_wp2
      refine ⟨hs, fun Own2 W2 hs2 => ?_⟩
      clear hs Own W
      have hpre : pre.length + 1 ≤ xs.length := by rw [hxs]; simp
      have hpre2 : pre.length + 1 < 1099511627776 := by have := Hsel.out; omega
      obtain ⟨v0, h1⟩ := St.prv.1 (show St w0 fp0 (prVar bo pre :: (blkA bm 3 #[.int .i64 most] :: pureA ((pre.length : Int) < most) :: (objI o h l tb :: (iterLI tb bt bl bh pl ph lo hi ++ R)) ++ Own2)) W2 from hs2)
      obtain ⟨_, hb⟩ := h1.has 0 rfl
      obtain ⟨_, hp⟩ := h1.has 1 rfl
      obtain ⟨ga, gc, rfl, -⟩ := row_shape hp
      have d0 := (blk_get hb).1 0
      have dl := (blk_get hb).2.2
      simp only [List.getElem?_toArray, List.getElem?_cons_zero] at d0
      obtain ⟨v', w', hr, ⟨a', c', rfl⟩, e0, e1, e2, h2⟩ := h1.appPr 31 x hpre2
      generalize hW3 : w'.setCell ⟨bo, 0, none⟩ (.slice a' (pre.length + 1) c') = W3 at h2
      obtain ⟨_, hb3⟩ := h2.has 0 rfl
      obtain ⟨_, hm3⟩ := h2.has 2 rfl
      have f0 := (blk_get hb3).1 0
      have f0l := (blk_get hb3).2.2
      have f1 := (blk_get hm3).1 0
      have f1l := (blk_get hm3).2.2
      simp only [List.getElem?_toArray, List.getElem?_cons_zero] at f0 f1
      have h3 := St.prv.2 ⟨_, h2⟩
      have h4 : St w0 fp0 (pureA ((pre.length : Int) < most) :: prVar bo (pre ++ [x]) :: (blkA bm 3 #[.int .i64 most] :: (objI o h l tb :: (iterLI tb bt bl bh pl ph lo hi ++ R)) ++ Own2)) W3 := by
        refine h3.perm ?_
        exact (by classical exact List.perm_iff_count.2 fun a => by simp only [List.cons_append, List.count_append, List.count_cons] <;> omega)
      obtain ⟨hlt, h5⟩ := St.pure.1 h4
      have H5 := Lib.hid h5
      have Hlt := Lib.hid hlt
      have hl : (pre ++ [x]).length = pre.length + 1 := by simp
      have Hl := Lib.hid hl
      have Hxs := Lib.hid hxs
      obtain ⟨n, hn⟩ : ∃ n, pre.length + 1 = n := ⟨_, rfl⟩
      rw [hn] at hr hW3 f0
      have Hn := Lib.hid hn
      clear hs2 hpre hpre2 h1 hb hp h2 hb3 hm3 h3 h4 h5 hlt hl hxs hn
      unfold encI valI
      by_cases hge : most ≤ n
      · have hge' : decide (most ≤ (n : Int)) = true := by simp [hge]
        have Hge := Lib.hid hge
        have HR := Lib.hid hr
        clear hge hr
        gi_wp2_with (gi_at_builtin; refine wpListIn_append_run rfl _ _ _ rfl rfl rfl HR.out ?_)
        show St w0 fp0 (tkX bo most (objI o h l tb :: (iterLI tb bt bl bh pl ph lo hi ++ R)) (.exit 0) (pre ++ [x]) ++ Own2) W3
        have e3 : (pre ++ [x]).length = most.toNat := by have := Hl.out; have := Hn.out; have := Hlt.out; have := Hge.out; omega
        have h6 : St w0 fp0 (blkA bm 3 #[.int .i64 most] :: prVar bo (pre ++ [x]) :: ((objI o h l tb :: (iterLI tb bt bl bh pl ph lo hi ++ R)) ++ Own2)) W3 := H5.out.perm (List.Perm.swap _ _ _)
        have h7 : St w0 fp0 (pureA ((pre ++ [x]).length = most.toNat) :: prVar bo (pre ++ [x]) :: ((objI o h l tb :: (iterLI tb bt bl bh pl ph lo hi ++ R)) ++ Own2)) W3 := St.pure.2 ⟨e3, h6.drop⟩
        exact St.pure.2 ⟨rfl, h7.perm (List.Perm.swap _ _ _)⟩
      · have hge' : decide (most ≤ (n : Int)) = false := by simp; omega
        have Hge := Lib.hid hge
        have HR := Lib.hid hr
        clear hge hr
        gi_wp2_with (gi_at_builtin; refine wpListIn_append_run rfl _ _ _ rfl rfl rfl HR.out ?_)
        show St w0 fp0 (tkI bo bm most (objI o h l tb :: (iterLI tb bt bl bh pl ph lo hi ++ R)) (pre ++ [x]) ++ Own2) W3
        have e3 : ((pre ++ [x]).length : Int) < most := by have := Hl.out; have := Hn.out; have := Hge.out; omega
        have h6 : St w0 fp0 (pureA (((pre ++ [x]).length : Int) < most) :: prVar bo (pre ++ [x]) :: (blkA bm 3 #[.int .i64 most] :: (objI o h l tb :: (iterLI tb bt bl bh pl ph lo hi ++ R)) ++ Own2)) W3 := St.pure.2 ⟨e3, H5.out⟩
        refine h6.perm ?_
        unfold tkI
        exact (by classical exact List.perm_iff_count.2 fun a => by simp only [List.cons_append, List.count_append, List.count_cons] <;> omega)
    case done =>
      intro D W hW
      have h1 : St w0 fp0 (pureA ((xs.length : Int) < most) :: prVar bo xs :: blkA bm 3 #[.int .i64 most] :: defA D :: (objI o h l tb :: (iterLI tb bt bl bh pl ph lo hi ++ R))) W := by
        refine hW.perm ?_
        unfold tkI
        exact (by classical exact List.perm_iff_count.2 fun a => by simp only [List.count_cons] <;> omega)
      obtain ⟨hlt, h2⟩ := St.pure.1 h1
      obtain ⟨v0, h3⟩ := St.prv.1 h2
      have e : takeM most xs = xs := by rw [hT.out]; exact List.take_of_length_le (by omega)
      have E := Lib.hid e
      obtain ⟨_, hb⟩ := h3.has 0 rfl
      obtain ⟨_, hp⟩ := h3.has 1 rfl
      obtain ⟨ga, gc, rfl, -⟩ := row_shape hp
      have d0 := (blk_get hb).1 0
      have dl := (blk_get hb).2.2
      simp only [List.getElem?_toArray, List.getElem?_cons_zero] at d0
      have h4 : St w0 fp0 (defA D :: prA (.slice ga xs.length gc) xs :: (objI o h l tb :: (iterLI tb bt bl bh pl ph lo hi ++ R))) W := by
        refine St.dropAll (A := [blkA bo 31 #[.slice ga xs.length gc], blkA bm 3 #[.int .i64 most]]) (h3.perm ?_)
        exact (by classical exact List.perm_iff_count.2 fun a => by simp only [List.cons_append, List.nil_append, List.count_cons] <;> omega)
      have H4 := Lib.hid h4
      clear hW h1 h2 h3 h4 hb hp hlt e
      dsimp only
      go_wp2
      exact bodyPostM_mark H4.out rfl fun w' hw' => ⟨_, results_tmp rfl _ _ _, _, rfl, by rw [E.out]; exact hw'⟩
    case stop =>
      intro D c pre x rest W hxs hW
      have h1 : St w0 fp0 (pureA (c = .exit 0) :: pureA ((pre ++ [x]).length = most.toNat) :: prVar bo (pre ++ [x]) :: defA D :: (objI o h l tb :: (iterLI tb bt bl bh pl ph lo hi ++ R))) W := by
        refine hW.perm ?_
        unfold tkX
        exact (by classical exact List.perm_iff_count.2 fun a => by simp only [List.count_cons] <;> omega)
      obtain ⟨rfl, h2⟩ := St.pure.1 h1
      obtain ⟨hlt, h2⟩ := St.pure.1 h2
      obtain ⟨v0, h3⟩ := St.prv.1 h2
      have e : takeM most xs = pre ++ [x] := by
        rw [hT.out, hxs, ← hlt, show pre ++ x :: rest = (pre ++ [x]) ++ rest by simp, List.take_left]
      have E := Lib.hid e
      obtain ⟨_, hb⟩ := h3.has 0 rfl
      obtain ⟨_, hp⟩ := h3.has 1 rfl
      obtain ⟨ga, gc, rfl, -⟩ := row_shape hp
      have d0 := (blk_get hb).1 0
      have dl := (blk_get hb).2.2
      simp only [List.getElem?_toArray, List.getElem?_cons_zero] at d0
      have h4 : St w0 fp0 (defA D :: prA (.slice ga (pre ++ [x]).length gc) (pre ++ [x]) :: (objI o h l tb :: (iterLI tb bt bl bh pl ph lo hi ++ R))) W := by
        refine St.dropAll (A := [blkA bo 31 #[.slice ga (pre ++ [x]).length gc]]) (h3.perm ?_)
        exact (by classical exact List.perm_iff_count.2 fun a => by simp only [List.cons_append, List.nil_append, List.count_cons] <;> omega)
      have H4 := Lib.hid h4
      generalize (pre ++ [x]).length = n at *
      clear hW h1 h2 h3 h4 hb hp hlt e hxs
      dsimp only
      go_wp2
      exact bodyPostM_mark H4.out rfl fun w' hw' => ⟨_, results_tmp rfl _ _ _, _, rfl, by rw [E.out]; exact hw'⟩
end Go.Proofs.Ytldofiankhimjaa
/- The reference's Delete. -/
namespace Go.Proofs.Ytldofiankhimjaa
open Go Go.RowKit
def delF (k : Int) (l : MI) : MI := l.filter fun y => y.1 != k
theorem delF_snoc (k : Int) (l : MI) (y : Int × Int) : delF k (l ++ [y]) = if y.1 != k then delF k l ++ [y] else delF k l := by
  unfold delF
  rw [List.filter_append]
  by_cases h : y.1 = k <;> simp [h]
theorem take_snoc {l : MI} {i : Nat} {y : Int × Int} (h : l[i]? = some y) : l.take (i + 1) = l.take i ++ [y] := by
  rw [List.take_add_one, h]; rfl
set_option maxHeartbeats 4000000 in
set_option maxRecDepth 20000 in
theorem RDelete_calls (l : MI) (k : Int) (v : Value) (hlen : l.length < 1099511627775) (w0 w : World) (fp0 : List Nat) (R : List Asn) (hS : St w0 fp0 (prA v l :: R) w) :
    Calls Try.prog 29 #[v, .int .i64 k] w fun e w' => ∃ v', e = .returned v' ∧ St w0 fp0 (prA v' (delF k l) :: prA v l :: R) w' := by
  obtain ⟨_, hp⟩ := hS.has 0 rfl
  obtain ⟨a, c, rfl, hc, hm, -⟩ := row_shape hp
  obtain ⟨n, hn⟩ : ∃ n, l.length = n := ⟨_, rfl⟩
  rw [hn] at hS ⊢
  have Hn := Lib.hid hn
  have HS := Lib.hid hS
  have hm2 : n ≤ 9223372036854775807 := by unfold maxLen at hm; omega
  have Hlen := Lib.hid hlen
  clear hp hc hm hn hS hlen
  go_enter Try.func29, Try.ntmps29
  go_wp2
  go_loopg [5, 6] n (fun g z1 z2 wr => ∃ i : Nat, g + i = n ∧ z2 = .int .i64 i ∧ RowKit.Hid (St w0 fp0 (prA z1 (delF k (l.take i)) :: prA (.slice a n c) l :: R) wr))
  case atStart => exact ⟨0, rfl, rfl, HS.out.nilR 51 2⟩
  case round =>
    obtain ⟨i, hi, rfl, H1⟩ := hrel
    by_cases hin : i < n
    · have hil : i < l.length := by have := Hn.out; omega
      obtain ⟨_, hp⟩ := H1.out.has 1 rfl
      obtain ⟨_, _, e1, -, -, hcs⟩ := row_shape hp
      replace e1 := (Value.slice.inj e1).1
      obtain ⟨g0, e2, hg, c0, -⟩ := hcs (i * 2) (by omega)
      rw [← e1] at e2
      subst e2
      clear e1 hcs hp
      obtain ⟨y, hy⟩ : ∃ y, l[i]? = some y := ⟨_, List.getElem?_eq_getElem hil⟩
      obtain ⟨t0, -⟩ := entsI_at l i hil
      rw [t0, (List.getElem?_eq_some_iff.1 hy).2, show encI y.1 = .int .i64 y.1 from rfl] at c0
      have hin' : (i : Int) < n := by omega
      have Hy := Lib.hid hy
      have Hi := Lib.hid hi
      have Hin := Lib.hid hin
      clear hil hi hin t0 hy
      obtain ⟨X, hX⟩ : ∃ X, y.1 = X := ⟨_, rfl⟩
      rw [hX] at c0
      obtain ⟨t, ht⟩ : ∃ t, (X != k) = t := ⟨_, rfl⟩
      have Ht := Lib.hid ht
      have HX := Lib.hid hX
      clear hX
      cases t with
      | true =>
        have Hup : RowKit.Hid (delF k (l.take (i + 1)) = delF k (l.take i) ++ [y]) := by
          show _ = _
          rw [take_snoc Hy.out, delF_snoc, HX.out, Ht.out]; rfl
        have hl2 : (delF k (l.take i)).length + 1 < 1099511627776 := by
          have h1 : (delF k (l.take i)).length ≤ (l.take i).length := List.length_filter_le _ _
          have h2 := List.length_take_le i l
          have := Hin.out
          have := Hn.out
          have := Hlen.out
          omega
        have Hl2 := Lib.hid hl2
        clear hl2
        go_upto_region 6 with (fail)
        refine rRd6I (w0 := w0) (fp0 := fp0) g0 n c i u5 l (delF k (l.take i)) y Hn.out.symm Hin.out Hy.out Hl2.out R _ (by kernel_rfl) rfl rfl rfl rfl ?_ ?_
        · have h0 : St w0 fp0 (emp :: pureA (u5 = u5) :: prA u5 (delF k (l.take i)) :: prA (.slice (some ⟨g0, 0, none⟩) n c) l :: R) wr := St.emp.2 (St.pure.2 ⟨rfl, H1.out⟩)
          exact h0.perm (List.Perm.cons _ (List.Perm.swap _ _ _))
        intro u w3 h3
        have h4 : St w0 fp0 (boxsA 51 (u 25) #[.int .i64 y.1, .int .i64 y.2] :: pureA (u 5 = u 26) :: prA (u 26) (delF k (l.take i) ++ [y]) :: prA (.slice (some ⟨g0, 0, none⟩) n c) l :: R) w3 := h3.perm (List.Perm.cons _ (List.Perm.swap _ _ _))
        obtain ⟨eu, h5⟩ := St.pure.1 h4.drop
        rw [← eu, ← Hup.out] at h5
        have H5 := Lib.hid h5
        clear h3 h4 h5 eu
        simp only [putL, List.map, List.foldl, Act.put, List.setIfInBounds_toArray, List.set_cons_succ, List.set_cons_zero]
        go_wp2
        go_roundg (n - (i + 1))
        case rel => exact ⟨i + 1, by have := Hin.out; omega, by go_num, H5⟩
        case measure => have := Hi.out; have := Hin.out; omega
      | false =>
        have Hup : RowKit.Hid (delF k (l.take (i + 1)) = delF k (l.take i)) := by
          show _ = _
          rw [take_snoc Hy.out, delF_snoc, HX.out, Ht.out]; rfl
        go_wp2
        go_roundg (n - (i + 1))
        case rel => exact ⟨i + 1, by have := Hin.out; omega, by go_num, by rw [Hup.out]; exact H1.out⟩
        case measure => have := Hi.out; have := Hin.out; omega
    · obtain rfl : i = n := by omega
      have hfin : RowKit.Hid (delF k (l.take i) = delF k l) := by
        show _ = _
        rw [List.take_of_length_le (by have := Hn.out; omega)]
      clear hin hi
      go_wp2
      go_ret
      exact ⟨_, rfl, by rw [← hfin.out]; exact H1.out⟩
end Go.Proofs.Ytldofiankhimjaa
/- The reference's Between. -/
namespace Go.Proofs.Ytldofiankhimjaa
open Go Go.RowKit
def betF (a b : Int) (l : MI) : MI := l.filter fun y => decide (y.1 ≥ a) && decide (y.1 < b)
theorem betF_snoc (a b : Int) (l : MI) (y : Int × Int) : betF a b (l ++ [y]) = if decide (y.1 ≥ a) && decide (y.1 < b) then betF a b l ++ [y] else betF a b l := by
  unfold betF
  rw [List.filter_append]
  cases h : decide (y.1 ≥ a) && decide (y.1 < b) <;> simp only [List.filter_cons, h] <;> simp
set_option maxHeartbeats 4000000 in
set_option maxRecDepth 20000 in
theorem RBetween_calls (l : MI) (a0 b0 : Int) (v : Value) (hlen : l.length < 1099511627775) (w0 w : World) (fp0 : List Nat) (R : List Asn) (hS : St w0 fp0 (prA v l :: R) w) :
    Calls Try.prog 30 #[v, .int .i64 a0, .int .i64 b0] w fun e w' => ∃ v', e = .returned v' ∧ St w0 fp0 (prA v' (betF a0 b0 l) :: prA v l :: R) w' := by
  obtain ⟨_, hp⟩ := hS.has 0 rfl
  obtain ⟨a, c, rfl, hc, hm, -⟩ := row_shape hp
  obtain ⟨n, hn⟩ : ∃ n, l.length = n := ⟨_, rfl⟩
  rw [hn] at hS ⊢
  have Hn := Lib.hid hn
  have HS := Lib.hid hS
  have hm2 : n ≤ 9223372036854775807 := by unfold maxLen at hm; omega
  have Hlen := Lib.hid hlen
  clear hp hc hm hn hS hlen
  go_enter Try.func30, Try.ntmps30
  go_wp2
  go_loopg [7, 8] n (fun g z1 z2 wr => ∃ i : Nat, g + i = n ∧ z2 = .int .i64 i ∧ RowKit.Hid (St w0 fp0 (prA z1 (betF a0 b0 (l.take i)) :: prA (.slice a n c) l :: R) wr))
  case atStart => exact ⟨0, rfl, rfl, HS.out.nilR 51 2⟩
  case round =>
    obtain ⟨i, hi, rfl, H1⟩ := hrel
    by_cases hin : i < n
    · have hil : i < l.length := by have := Hn.out; omega
      obtain ⟨_, hp⟩ := H1.out.has 1 rfl
      obtain ⟨_, _, e1, -, -, hcs⟩ := row_shape hp
      replace e1 := (Value.slice.inj e1).1
      obtain ⟨g0, e2, hg, c0, -⟩ := hcs (i * 2) (by omega)
      rw [← e1] at e2
      subst e2
      clear e1 hcs hp
      obtain ⟨y, hy⟩ : ∃ y, l[i]? = some y := ⟨_, List.getElem?_eq_getElem hil⟩
      obtain ⟨t0, -⟩ := entsI_at l i hil
      rw [t0, (List.getElem?_eq_some_iff.1 hy).2, show encI y.1 = .int .i64 y.1 from rfl] at c0
      have hin' : (i : Int) < n := by omega
      have Hy := Lib.hid hy
      have Hi := Lib.hid hi
      have Hin := Lib.hid hin
      clear hil hi hin t0 hy
      obtain ⟨X, hX⟩ : ∃ X, y.1 = X := ⟨_, rfl⟩
      rw [hX] at c0
      obtain ⟨t, ht⟩ : ∃ t, (decide (X ≥ a0)) = t := ⟨_, rfl⟩
      obtain ⟨t2, ht2⟩ : ∃ t2, (decide (X < b0)) = t2 := ⟨_, rfl⟩
      have Ht : RowKit.Hid ((decide (X ≥ a0) && decide (X < b0)) = (t && t2)) := by show _ = _; rw [ht, ht2]
      have HX := Lib.hid hX
      clear hX
      cases t with
      | true =>
        cases t2 with
        | true =>
          have Hup : RowKit.Hid (betF a0 b0 (l.take (i + 1)) = betF a0 b0 (l.take i) ++ [y]) := by
            show _ = _
            rw [take_snoc Hy.out, betF_snoc, HX.out, Ht.out]; rfl
          have hl2 : (betF a0 b0 (l.take i)).length + 1 < 1099511627776 := by
            have h1 : (betF a0 b0 (l.take i)).length ≤ (l.take i).length := List.length_filter_le _ _
            have h2 := List.length_take_le i l
            have := Hin.out
            have := Hn.out
            have := Hlen.out
            omega
          have Hl2 := Lib.hid hl2
          clear hl2
          go_upto_region 6 with (fail)
          refine rRb6I (w0 := w0) (fp0 := fp0) g0 n c i u7 l (betF a0 b0 (l.take i)) y Hn.out.symm Hin.out Hy.out Hl2.out R _ (by kernel_rfl) rfl rfl rfl rfl ?_ ?_
          · have h0 : St w0 fp0 (emp :: pureA (u7 = u7) :: prA u7 (betF a0 b0 (l.take i)) :: prA (.slice (some ⟨g0, 0, none⟩) n c) l :: R) wr := St.emp.2 (St.pure.2 ⟨rfl, H1.out⟩)
            exact h0.perm (List.Perm.cons _ (List.Perm.swap _ _ _))
          intro u w3 h3
          have h4 : St w0 fp0 (boxsA 51 (u 36) #[.int .i64 y.1, .int .i64 y.2] :: pureA (u 7 = u 37) :: prA (u 37) (betF a0 b0 (l.take i) ++ [y]) :: prA (.slice (some ⟨g0, 0, none⟩) n c) l :: R) w3 := h3.perm (List.Perm.cons _ (List.Perm.swap _ _ _))
          obtain ⟨eu, h5⟩ := St.pure.1 h4.drop
          rw [← eu, ← Hup.out] at h5
          have H5 := Lib.hid h5
          clear h3 h4 h5 eu
          simp only [putL, List.map, List.foldl, Act.put, List.setIfInBounds_toArray, List.set_cons_succ, List.set_cons_zero]
          go_wp2
          go_roundg (n - (i + 1))
          case rel => exact ⟨i + 1, by have := Hin.out; omega, by go_num, H5⟩
          case measure => have := Hi.out; have := Hin.out; omega
        | false =>
          have Hup : RowKit.Hid (betF a0 b0 (l.take (i + 1)) = betF a0 b0 (l.take i)) := by
            show _ = _
            rw [take_snoc Hy.out, betF_snoc, HX.out, Ht.out]; rfl
          go_wp2
          go_roundg (n - (i + 1))
          case rel => exact ⟨i + 1, by have := Hin.out; omega, by go_num, by rw [Hup.out]; exact H1.out⟩
          case measure => have := Hi.out; have := Hin.out; omega
      | false =>
        have Hup : RowKit.Hid (betF a0 b0 (l.take (i + 1)) = betF a0 b0 (l.take i)) := by
          show _ = _
          rw [take_snoc Hy.out, betF_snoc, HX.out, Ht.out]; rfl
        go_wp2
        go_roundg (n - (i + 1))
        case rel => exact ⟨i + 1, by have := Hin.out; omega, by go_num, by rw [Hup.out]; exact H1.out⟩
        case measure => have := Hi.out; have := Hin.out; omega
    · obtain rfl : i = n := by omega
      have hfin : RowKit.Hid (betF a0 b0 (l.take i) = betF a0 b0 l) := by
        show _ = _
        rw [List.take_of_length_le (by have := Hn.out; omega)]
      clear hin hi
      go_wp2
      go_ret
      exact ⟨_, rfl, by rw [← hfin.out]; exact H1.out⟩
end Go.Proofs.Ytldofiankhimjaa
/- The reference's Order; Delete's list is the map without the key. -/
namespace Go.Proofs.Ytldofiankhimjaa
open Go Go.RowKit
/-- The order that New makes of its argument. -/
def ordR (n : Int) : Int := if n < 3 then 3 else if n > 1024 then 1024 else n
theorem Order_calls (n : Int) (w : World) : Calls Try.prog 55 #[.int .i64 n] w fun e w' => e = .returned (.int .i64 (ordR n)) ∧ w = w' := by
  by_cases h1 : n < 3
  · have ht : decide (n < 3) = true := by simp [h1]
    have Hr : RowKit.Hid (ordR n = 3) := by show _ = _; simp [ordR, h1]
    clear h1
    go_enter Try.func55, Try.ntmps55
    go_wp2
    go_ret
    exact ⟨by rw [Hr.out]; rfl, rfl⟩
  · by_cases h2 : n > 1024
    · have ht : decide (n < 3) = false := by simp; omega
      have ht2 : decide (n > 1024) = true := by simp; omega
      have Hr : RowKit.Hid (ordR n = 1024) := by show _ = _; simp [ordR, h1, h2]
      clear h1 h2
      go_enter Try.func55, Try.ntmps55
      go_wp2
      go_ret
      exact ⟨by rw [Hr.out]; rfl, rfl⟩
    · have ht : decide (n < 3) = false := by simp; omega
      have ht2 : decide (n > 1024) = false := by simp; omega
      have Hr : RowKit.Hid (ordR n = n) := by show _ = _; simp [ordR, h1, h2]
      clear h1 h2
      go_enter Try.func55, Try.ntmps55
      go_wp2
      go_ret
      exact ⟨by rw [Hr.out]; rfl, rfl⟩
theorem delF_delM {l : MI} (ha : AscM l) (k : Int) : delF k l = delM l k := by
  induction l with
  | nil => rfl
  | cons y l ih =>
    obtain ⟨h1, h2⟩ := AscM.cons.1 ha
    have hk : delF k (y :: l) = if y.1 = k then delF k l else y :: delF k l := by
      unfold delF
      by_cases h : y.1 = k <;> simp [h]
    rw [hk]
    by_cases h : y.1 = k
    · rw [if_pos h]
      have e : delM (y :: l) k = l := by
        have := delM_here (l := []) (m := l) (x := y) (k := k) (AllLt.nil k) h
        simpa using this
      rw [e]
      unfold delF
      rw [List.filter_eq_self]
      intro x hx
      have := ltK_ne (h1 x hx)
      rw [h] at this
      simp
      exact fun e => this e.symm
    · rw [if_neg h, ih h2]
      have : delM (y :: l) k = y :: delM l k := by
        rcases ltK_tri y.1 k with h3 | h3 | h3
        · have := delM_lt (l := [y]) (k := k) (by intro x hx; rw [List.mem_singleton.1 hx]; exact h3) l
          simpa using this
        · exact absurd h3 h
        · have h4 : AllGt k l := fun x hx => ltK_trans h3 (h1 x hx)
          have h5 : AllGt k (y :: l) := by
            intro x hx
            rcases List.mem_cons.1 hx with rfl | hx
            · exact h3
            · exact h4 x hx
          have e1 := delM_none (l := []) (m := y :: l) (AllLt.nil k) h5
          have e2 := delM_none (l := []) (m := l) (AllLt.nil k) h4
          simp only [List.nil_append] at e1 e2
          rw [e1, e2]
      rw [this]
theorem betF_selM (a b : Int) (l : MI) : betF a b l = selM (some a) (some b) l := by
  unfold betF selM
  congr 1
  funext y
  have h1 : ∀ u v : Int, decide (ltK u v) = decide (u < v) := fun u v => by rw [decide_eq_decide]; exact ltK_int u v
  simp only [inR, h1]
  congr 1
  rw [← decide_not]
  simp
end Go.Proofs.Ytldofiankhimjaa
/- The reference's Fits: a number of keys that fits an order and a height. -/
namespace Go.Proofs.Ytldofiankhimjaa
open Go Go.RowKit
/-- low and high after i rounds. -/
def loF (h : Nat) : Nat → Nat | 0 => 1 | i + 1 => if i = 0 then loF h i else loF h i * h
def hiF (o : Nat) : Nat → Nat | 0 => 1 | i + 1 => min (hiF o i * o) 2000000
theorem loF_mono {h : Nat} (hh : 1 ≤ h) (i : Nat) : ∀ d, loF h i ≤ loF h (i + d)
  | 0 => Nat.le_refl _
  | d + 1 => by
    refine Nat.le_trans (loF_mono hh i d) ?_
    show _ ≤ if i + d = 0 then _ else _
    split
    · exact Nat.le_refl _
    · exact Nat.le_mul_of_pos_right _ hh
theorem hiF_le (o i : Nat) : hiF o i ≤ 2000000 := by cases i <;> simp [hiF]; omega
theorem loF_pow (h i : Nat) : loF h (i + 1) = h ^ i := by
  induction i with
  | zero => rfl
  | succ i ih => show (if i + 1 = 0 then _ else _) = _; rw [if_neg (by omega), ih, Nat.pow_succ]
theorem hiF_pow {o : Nat} (ho : 1 ≤ o) (i : Nat) : hiF o i = min (o ^ i) 2000000 := by
  induction i with
  | zero => rfl
  | succ i ih =>
    show min (hiF o i * o) 2000000 = _
    rw [ih, Nat.pow_succ]
    by_cases h : o ^ i ≤ 2000000
    · rw [Nat.min_eq_left h]
    · have h1 : 2000000 ≤ o ^ i * o := Nat.le_trans (by omega) (Nat.le_mul_of_pos_right _ ho)
      have h2 : 2000000 ≤ 2000000 * o := Nat.le_mul_of_pos_right _ ho
      rw [Nat.min_eq_right (by omega : 2000000 ≤ o ^ i), Nat.min_eq_right h1, Nat.min_eq_right h2]
theorem ordR_nat (n : Int) : ∃ o : Nat, ordR n = o ∧ 3 ≤ o ∧ o ≤ 1024 := by
  have h : 3 ≤ ordR n ∧ ordR n ≤ 1024 := by
    unfold ordR
    split
    · omega
    · split <;> omega
  exact ⟨(ordR n).toNat, by omega, by omega, by omega⟩
set_option maxHeartbeats 4000000 in
theorem Fits_calls (n : Int) (o l h : Nat) (ho : ordR n = o) (h1 : 2 * ((o + 1) / 2) ^ h ≤ l + 1) (h2 : l + 1 ≤ o ^ (h + 1)) (hl : l < 1000000) (hl0 : 0 < l) (hH : h < 1000000) (w : World) :
    Calls Try.prog 32 #[.int .i64 n, .int .i64 l, .int .i64 (h + 1 : Nat)] w fun e w' => e = .returned (.bool true) ∧ w = w' := by
  obtain ⟨o', ho', h3, h4⟩ := ordR_nat n
  obtain rfl : o' = o := by omega
  clear ho'
  obtain ⟨H, hH'⟩ : ∃ H, H = h + 1 := ⟨_, rfl⟩
  have Hh : RowKit.Hid (H = h + 1) := hH'
  have HO : RowKit.Hid (∀ w, Calls Try.prog 55 #[.int .i64 n] w fun e w' => e = .returned (.int .i64 o') ∧ w = w') := fun w => by
    have := Order_calls n w
    rw [ho] at this
    exact this
  have hlo : RowKit.Hid (∀ i, i ≤ H → 2 * loF ((o' + 1) / 2) i ≤ l + 1) := by
    intro i hi
    have e := loF_mono (h := (o' + 1) / 2) (by omega) i (H - i)
    rw [show i + (H - i) = h + 1 by omega, loF_pow] at e
    omega
  have hfin : RowKit.Hid (2 * loF ((o' + 1) / 2) H ≤ l + 1 ∧ l + 1 ≤ hiF o' H) := by
    refine ⟨hlo.out H (Nat.le_refl _), ?_⟩
    rw [hiF_pow (by omega), hH', Nat.le_min]
    exact ⟨h2, by omega⟩
  have hH0 : 0 < H := by omega
  have hHb : H ≤ 1000000 := by omega
  rw [← hH']
  clear h1 h2 hH hH' ho
  obtain ⟨q, hq⟩ : ∃ q, (o' + 1) / 2 = q := ⟨_, rfl⟩
  rw [hq] at hlo hfin
  have Hq := Lib.hid hq
  have hq1 : ((o' : Int) + 1).tdiv 2 = q := by rw [Int.tdiv_eq_ediv_of_nonneg (by omega)]; omega
  have hq2 : q ≤ 512 := by omega
  have Hb3 := Lib.hid h3
  clear hq h3
  go_enter Try.func32, Try.ntmps32
  have hg1 : ((l : Int) == 0) = false := beq_false_of_ne (by omega)
  have hg2 : decide ((H : Int) < 1) = false := by simp; omega
  go_wp2_with fail
  (with_reducible refine (HO.out w).mono ?_)
  rintro e w1 ⟨rfl, rfl⟩
  go_wp2
  clear hg1 hg2
  go_loopg [8, 9, 10] H (fun g z8 z9 z10 wr => ∃ i : Nat, i + g = H ∧ z8 = .int .i64 (loF q i : Nat) ∧ z9 = .int .i64 (hiF o' i : Nat) ∧ z10 = .int .i64 i ∧ w = wr)
  case atStart => exact ⟨0, Nat.zero_add _, rfl, rfl, rfl, rfl⟩
  case round =>
    obtain ⟨i, hi, rfl, rfl, rfl, rfl⟩ := hrel
    have hy : hiF o' i ≤ 2000000 := hiF_le o' i
    by_cases hiH : i < H
    · have hX : 2 * loF q i ≤ l + 1 := hlo.out i (by omega)
      have hX' : 2 * loF q (i + 1) ≤ l + 1 := hlo.out (i + 1) (by omega)
      have hY' : hiF o' (i + 1) = min (hiF o' i * o') 2000000 := rfl
      have hlt : decide ((i : Int) < H) = true := by simp; omega
      obtain ⟨P, hP⟩ : ∃ P, hiF o' i * o' = P := ⟨_, rfl⟩
      have hPb : P ≤ 2000000 * 1024 := by rw [← hP]; exact Nat.mul_le_mul hy h4
      have hPi : ((hiF o' i : Nat) : Int) * (o' : Int) = (P : Nat) := by rw [← hP, Int.natCast_mul]
      rw [hP] at hY'
      have HE : RowKit.Hid (hiF o' (i + 1) = min P 2000000) := hY'
      have HI : RowKit.Hid (i + gk = H) := hi
      obtain ⟨Z, hZ⟩ : ∃ Z, loF q (i + 1) = Z := ⟨_, rfl⟩
      have HZ := Lib.hid hZ
      rw [hZ] at hX'
      have hz2 : decide ((Z : Int) > 2000000) = false := by simp; omega
      by_cases h0 : i = 0
      · have hXe : loF q i = Z := by rw [← hZ, h0]; rfl
        rw [hXe] at hX ⊢
        generalize hiF o' i = Y at *
        have hg : ¬ 0 < i := by omega
        clear hP hY' hi hZ hXe h0 hX hX' hlo hfin
        by_cases hp : P ≤ 2000000
        · have hq3 : decide ((P : Int) > 2000000) = false := by simp; omega
          have HE2 : RowKit.Hid (hiF o' (i + 1) = P) := by show _ = _; rw [HE.out]; omega
          clear HE hp
          go_wp2_with fail
          (with_reducible refine (HO.out _).mono ?_)
          rintro e w1 ⟨rfl, rfl⟩
          go_wp2
          go_roundg (gk - 1)
          case rel => exact ⟨i + 1, by have := HI.out; omega, by rw [HZ.out], by rw [HE2.out], by go_num, rfl⟩
          case measure => have := HI.out; omega
        · have hq3 : decide ((P : Int) > 2000000) = true := by simp; omega
          have HE2 : RowKit.Hid (hiF o' (i + 1) = 2000000) := by show _ = _; rw [HE.out]; omega
          clear HE hp
          go_wp2_with fail
          (with_reducible refine (HO.out _).mono ?_)
          rintro e w1 ⟨rfl, rfl⟩
          go_wp2
          go_roundg (gk - 1)
          case rel => exact ⟨i + 1, by have := HI.out; omega, by rw [HZ.out], by rw [HE2.out]; rfl, by go_num, rfl⟩
          case measure => have := HI.out; omega
      · have hXe : loF q i * q = Z := by rw [← hZ]; show _ = if i = 0 then _ else _; rw [if_neg h0]
        have hXi : ((loF q i : Nat) : Int) * (q : Int) = (Z : Nat) := by rw [← hXe, Int.natCast_mul]
        generalize hiF o' i = Y at *
        generalize loF q i = X at *
        have hg : 0 < i := by omega
        clear hP hY' hi hZ hXe h0 hlo hfin
        by_cases hp : P ≤ 2000000
        · have hq3 : decide ((P : Int) > 2000000) = false := by simp; omega
          have HE2 : RowKit.Hid (hiF o' (i + 1) = P) := by show _ = _; rw [HE.out]; omega
          clear HE hp
          go_wp2_with fail
          (with_reducible refine (HO.out _).mono ?_)
          rintro e w1 ⟨rfl, rfl⟩
          go_wp2
          go_roundg (gk - 1)
          case rel => exact ⟨i + 1, by have := HI.out; omega, by rw [HZ.out], by rw [HE2.out], by go_num, rfl⟩
          case measure => have := HI.out; omega
        · have hq3 : decide ((P : Int) > 2000000) = true := by simp; omega
          have HE2 : RowKit.Hid (hiF o' (i + 1) = 2000000) := by show _ = _; rw [HE.out]; omega
          clear HE hp
          go_wp2_with fail
          (with_reducible refine (HO.out _).mono ?_)
          rintro e w1 ⟨rfl, rfl⟩
          go_wp2
          go_roundg (gk - 1)
          case rel => exact ⟨i + 1, by have := HI.out; omega, by rw [HZ.out], by rw [HE2.out]; rfl, by go_num, rfl⟩
          case measure => have := HI.out; omega
    · obtain rfl : i = H := by omega
      obtain ⟨f1, f2⟩ := hfin.out
      have hlt : decide ((i : Int) < i) = false := by simp
      generalize loF q i = X at *
      generalize hiF o' i = Y at *
      have hc1 : decide ((l : Int) ≥ 2 * (X : Int) - 1) = true := by simp; omega
      have hc2 : decide ((l : Int) ≤ (Y : Int) - 1) = true := by simp; omega
      clear hlo hfin
      go_wp2
      go_ret
      exact ⟨by simp [], rfl⟩
end Go.Proofs.Ytldofiankhimjaa
/- max, Min, Max, Height (I). -/
namespace Go.Proofs.Ytldofiankhimjaa
open Go.RowKit
/-- A node with entries that is looked at. -/
structure PosI (w : World) (o : Nat) (P : Nat → TI → Prop) (h : Nat) (x : TI) (b : Nat) : Prop where
  sees : SeesI w h x b
  body : ∃ lo, Body o h lo (o - 1) x
  pos : 0 < x.es.length
  prop : P h x
theorem PosI.below {w w' : World} {o : Nat} {P : Nat → TI → Prop} {h : Nat} {x : TI} {b : Nat} (hs : PosI w o P h x b) (hb : Below w.heap.size w w') : PosI w' o P h x b := ⟨hs.sees.below hb, hs.body, hs.pos, hs.prop⟩
theorem last_at {α : Type} {l : List α} {m : α} (h : l.getLast? = some m) : l[l.length - 1]? = some m := by rw [← h, List.getLast?_eq_getElem?]
set_option maxHeartbeats 4000000 in
theorem maxI_calls {o : Nat} (ho : 3 ≤ o) (ho' : o ≤ 1024) (h : Nat) (x : TI) (b : Nat) (m : Int × Int) (w : World) (hS : PosI w o (fun h x => maxT h x = some m) h x b) :
    Calls Try.prog 74 #[.pointer (some ⟨b, 0, none⟩)] w fun e w' => e = .returned (.tuple #[encI m.1, valI m.2]) ∧ Below w.heap.size w w' := by
  have HS := Lib.hid hS
  have Ho := Lib.hid ho
  have Ho' := Lib.hid ho'
  obtain ⟨kk, hkk⟩ : ∃ kk, encI m.1 = kk := ⟨_, rfl⟩
  obtain ⟨vv, hvv⟩ : ∃ vv, valI m.2 = vv := ⟨_, rfl⟩
  have Hkk := Lib.hid hkk
  have Hvv := Lib.hid hvv
  rw [hkk, hvv]
  clear hS ho ho' hkk hvv
  go_enter Try.func74, Try.ntmps74
  go_wp2
  go_loopg [0] h (fun n z wr => ∃ x b, z = .pointer (some ⟨b, 0, none⟩) ∧ RowKit.Hid (PosI wr o (fun h x => maxT h x = some m) n x b) ∧ RowKit.Hid (Below w.heap.size w wr))
  case atStart => exact ⟨x, b, rfl, HS, Below.refl _ _⟩
  case round =>
    obtain ⟨y, b, rfl, Ha, Hb⟩ := hrel
    clear HS
    obtain ⟨lo, hbd⟩ := Ha.out.body
    have hpos := Ha.out.pos
    have hmx := Ha.out.prop
    obtain ⟨ks, va, vc, pa, pc, hn⟩ := Ha.out.sees.node
    obtain ⟨c0, c1, c2, cl⟩ := hn.cells
    obtain ⟨_, hbk⟩ := hn.blk
    have HL := Lib.hid (leafI_calls b ks _ pa y.cs.length pc wr hbk)
    unfold ptrI at HL
    have hn40 : y.es.length < 1099511627776 := by have := hbd.hi; have := Ho'.out; omega
    cases gk with
    | zero =>
      have hcs : y.cs.length = 0 := by rw [hbd.2.2]; rfl
      rw [hcs] at HL c2
      have hm := last_at (show y.es.getLast? = some m from hmx)
      have hi := (List.getElem?_eq_some_iff.1 hm).1
      obtain ⟨gv, rfl, hgv, hcv⟩ := hn.vals _ hi
      obtain ⟨ka, kc, rfl, hkm, hcells⟩ := hn.keys.shape
      obtain ⟨gk, rfl, hgk, hck⟩ := hcells _ hi
      rw [(List.getElem?_eq_some_iff.1 hm).2] at hcv hck
      rw [Hkk.out] at hck
      rw [Hvv.out] at hcv
      obtain ⟨i, hi'⟩ : ∃ i, y.es.length - 1 = i := ⟨_, rfl⟩
      rw [hi'] at hcv hck hi
      obtain ⟨n, hn'⟩ : ∃ n, y.es.length = n := ⟨_, rfl⟩
      rw [hn'] at hi hi' c0 c1 hn40
      have e1 : IntKind.i64.wrap ((n : Int) - 1) = i := by rw [IntWalk.i64_in _ (by omega)]; omega
      have e2 : (i : Int) < n := by omega
      have Hb1 : RowKit.Hid (∀ n, Below w.heap.size w (wr.drewN n)) := fun n => Hb.out.trans ((below_drewN wr n).mono Hb.out.size)
      clear hbd hpos hmx hn hbk hcs hm hkm hcells hi' hn' Ha
      go_wp2_with fail
      (with_reducible refine HL.out.mono ?_)
      rintro e w1 ⟨rfl, rfl⟩
      clear HL
      go_wp2
      go_quiet (fail)
      go_wp2
      exact bodyPost_ret (v := .tuple #[kk, vv]) (by simp [results, Try.results74, go_sem]) rfl ⟨rfl, Hb1.out _⟩
    | succ g =>
      obtain ⟨b1, b2, b3, b4⟩ := hbd
      obtain ⟨c, hc⟩ : ∃ c, y.cs.getLast? = some c := ⟨_, List.getLast?_eq_some_getLast (ne_nil (by omega))⟩
      have hcl := last_at hc
      have hi := (List.getElem?_eq_some_iff.1 hcl).1
      obtain ⟨gp, cb, rfl, hgp, hcp, hkid⟩ := hn.kids _ _ hcl
      have hz : (y.cs.length == 0) = false := beq_false_of_ne (by omega)
      rw [hz] at HL
      have hcb := b4 c (List.mem_of_getLast? hc)
      have HA2 : RowKit.Hid (∀ n, PosI (wr.drewN n) o (fun h x => maxT h x = some m) g c cb) := fun n => ⟨(hkid _ rfl).below (below_drewN _ _), ⟨_, hcb⟩, by have := hcb.lo; have := (least_two Ho.out).1; omega, by show maxT g c = _; rw [← hmx]; simp [maxT, hc]⟩
      obtain ⟨i, hi'⟩ : ∃ i, y.cs.length - 1 = i := ⟨_, rfl⟩
      rw [hi'] at hcp hi
      have hn41 : y.cs.length < 1099511627777 := by omega
      obtain ⟨n, hn'⟩ : ∃ n, y.cs.length = n := ⟨_, rfl⟩
      rw [hn'] at hi hi' c2 hn41
      have e1 : IntKind.i64.wrap ((n : Int) - 1) = i := by rw [IntWalk.i64_in _ (by omega)]; omega
      have e2 : (i : Int) < n := by omega
      have Hb1 : RowKit.Hid (∀ n, Below w.heap.size w (wr.drewN n)) := fun n => Hb.out.trans ((below_drewN wr n).mono Hb.out.size)
      clear b1 b2 b3 b4 hpos hmx hn hbk hc hcl hkid hz hcb hi' hn' Ha
      go_wp2_with fail
      (with_reducible refine HL.out.mono ?_)
      rintro e w1 ⟨rfl, rfl⟩
      clear HL
      go_wp2
      go_quiet (fail)
      go_wp2
      go_roundg g
      case rel => exact ⟨c, cb, rfl, HA2.out _, Hb1.out _⟩
      case measure => omega
theorem toL_pos {κ ν : Type} {o h lo hi : Nat} {x : T κ ν} (_ : Body o h lo hi x) (hp : 0 < x.es.length) : 0 < (toL h x).length := Nat.lt_of_lt_of_le hp (sub_toL h x).length_le
theorem toL_kid0 {κ ν : Type} {o h lo hi : Nat} {x : T κ ν} (ho : 3 ≤ o) (hb : Body o (h + 1) lo hi x) (hp : 0 < x.es.length) : ∃ c C, x.cs = c :: C ∧ Body o h (least o) (o - 1) c ∧ 0 < c.es.length ∧ (toL h c).head? = (toL (h + 1) x).head? ∧ (toL h c).length + 1 ≤ (toL (h + 1) x).length := by
  obtain ⟨b1, b2, b3, b4⟩ := hb
  obtain ⟨es, cs⟩ := x
  cases cs with
  | nil => simp [es_node, cs_node] at b3
  | cons c C =>
    have hc := b4 c (by simp [cs_node])
    have hcp : 0 < c.es.length := by have := hc.lo; have := (least_two ho).1; omega
    have hl := toL_pos hc hcp
    refine ⟨c, C, rfl, hc, hcp, ?_, ?_⟩
    · rw [toL_cons]
      cases hh : toL h c with
      | nil => rw [hh] at hl; simp at hl
      | cons a b => rfl
    · rw [toL_cons, List.length_append]
      have := (sub_post (f := toL h) es C).length_le
      simp only [es_node] at hp
      omega
theorem height_le {κ ν : Type} {o : Nat} (ho : 3 ≤ o) : ∀ {h lo hi : Nat} {x : T κ ν}, Body o h lo hi x → 0 < x.es.length → h + 1 ≤ (toL h x).length
  | 0, lo, hi, x, hb, hp => toL_pos hb hp
  | h + 1, lo, hi, x, hb, hp => by
    obtain ⟨c, C, _, h2, h3, _, h5⟩ := toL_kid0 ho hb hp
    have := height_le ho h2 h3
    omega
theorem GoodI.pos {o h : Nat} {l : M Int Int} {x : TI} (_ho : 3 ≤ o) (hg : GoodI o h l x) (hl : 0 < l.length) : 0 < x.es.length := by
  obtain ⟨g1, g2, g3⟩ := hg
  cases h with
  | zero => rw [← g3] at hl; exact hl
  | succ h => have := g1.lo; simp [rootB] at this; omega
def minR (l : M Int Int) : Value := match l.head? with
  | none => .tuple #[(.int .i64 0), (.int .i64 0), .bool false]
  | some m => .tuple #[encI m.1, valI m.2, .bool true]
def maxR (l : M Int Int) : Value := match l.getLast? with
  | none => .tuple #[(.int .i64 0), (.int .i64 0), .bool false]
  | some m => .tuple #[encI m.1, valI m.2, .bool true]
set_option maxHeartbeats 4000000 in
theorem MaxI_calls {o h : Nat} {l : M Int Int} (ho : 3 ≤ o) (ho' : o ≤ 1024) (tb : Nat) (w : World) {f : List Nat} (hS : (objI o h l tb).p w f) :
    Calls Try.prog 56 #[.pointer (some ⟨tb, 0, none⟩)] w fun e w' => e = .returned (maxR l) ∧ Below w.heap.size w w' := by
  obtain ⟨x, rb, hg, hs, _, hb⟩ := obj_seesI hS
  have c0 := (blk_get hb).1 0
  have c2 := (blk_get hb).1 2
  have cl := (blk_get hb).2.2
  simp only [List.getElem?_toArray, List.getElem?_cons_zero, List.getElem?_cons_succ] at c0 c2
  cases l with
  | nil =>
    have hR : RowKit.Hid (maxR [] = .tuple #[(.int .i64 0), (.int .i64 0), .bool false]) := rfl
    replace c2 : w.cell? ⟨tb, 2, none⟩ = some (.int .i64 0) := c2
    clear hb hS hs hg
    go_enter Try.func56, Try.ntmps56
    go_wp2
    exact bodyPost_ret (v := .tuple #[(.int .i64 0), (.int .i64 0), .bool false]) (by simp [results, Try.results56, go_sem]) rfl ⟨by rw [hR.out], Below.refl _ _⟩
  | cons e l =>
    have hp := hg.pos ho (by simp)
    obtain ⟨g1, g2, g3⟩ := hg
    obtain ⟨L, m, hm, hL⟩ := max_spec ho g1 hp
    have HM := Lib.hid (maxI_calls ho ho' h x rb m w ⟨hs, ⟨_, g1⟩, hp, hm⟩)
    have hR : RowKit.Hid (maxR (e :: l) = .tuple #[encI m.1, valI m.2, .bool true]) := by
      show _ = _
      unfold maxR
      rw [← g3, hL, List.getLast?_concat]
    obtain ⟨n, hn⟩ : ∃ n, (e :: l).length = n := ⟨_, rfl⟩
    have hn0 : ((n : Int) == 0) = false := by
      have : 0 < n := by rw [← hn]; simp
      exact beq_false_of_ne (by omega)
    rw [hn] at c2
    obtain ⟨kk, hkk⟩ : ∃ kk, encI m.1 = kk := ⟨_, rfl⟩
    obtain ⟨vv, hvv⟩ : ∃ vv, valI m.2 = vv := ⟨_, rfl⟩
    rw [hkk, hvv] at HM hR
    clear hb hS hs g1 g2 g3 hm hL hp hn hkk hvv
    go_enter Try.func56, Try.ntmps56
    go_wp2_with fail
    (with_reducible refine HM.out.mono ?_)
    rintro e w1 ⟨rfl, hb1⟩
    have Hb1 := Lib.hid hb1
    clear hb1 c0 c2 cl
    go_wp2
    exact bodyPost_ret (v := .tuple #[kk, vv, .bool true]) (by simp [results, Try.results56, go_sem]) rfl ⟨by rw [hR.out], Hb1.out⟩
set_option maxHeartbeats 4000000 in
theorem MinI_calls {o h : Nat} {l : M Int Int} (ho : 3 ≤ o) (ho' : o ≤ 1024) (tb : Nat) (w : World) {f : List Nat} (hS : (objI o h l tb).p w f) :
    Calls Try.prog 34 #[.pointer (some ⟨tb, 0, none⟩)] w fun e w' => e = .returned (minR l) ∧ Below w.heap.size w w' := by
  obtain ⟨x, rb, hg, hs, _, hb⟩ := obj_seesI hS
  have c0 := (blk_get hb).1 0
  have c2 := (blk_get hb).1 2
  have cl := (blk_get hb).2.2
  simp only [List.getElem?_toArray, List.getElem?_cons_zero, List.getElem?_cons_succ] at c0 c2
  cases l with
  | nil =>
    have hR : RowKit.Hid (minR [] = .tuple #[(.int .i64 0), (.int .i64 0), .bool false]) := rfl
    replace c2 : w.cell? ⟨tb, 2, none⟩ = some (.int .i64 0) := c2
    clear hb hS hs hg
    go_enter Try.func34, Try.ntmps34
    go_wp2
    exact bodyPost_ret (v := .tuple #[(.int .i64 0), (.int .i64 0), .bool false]) (by simp [results, Try.results34, go_sem]) rfl ⟨by rw [hR.out], Below.refl _ _⟩
  | cons m l =>
    have hp := hg.pos ho (by simp)
    obtain ⟨g1, g2, g3⟩ := hg
    have HS : RowKit.Hid (PosI w o (fun h x => (toL h x).head? = some m) h x rb) := ⟨hs, ⟨_, g1⟩, hp, by rw [g3]; rfl⟩
    have hR : RowKit.Hid (minR (m :: l) = .tuple #[encI m.1, valI m.2, .bool true]) := rfl
    obtain ⟨n, hn⟩ : ∃ n, (m :: l).length = n := ⟨_, rfl⟩
    have hn0 : ((n : Int) == 0) = false := by
      have : 0 < n := by rw [← hn]; simp
      exact beq_false_of_ne (by omega)
    rw [hn] at c2
    obtain ⟨kk, hkk⟩ : ∃ kk, encI m.1 = kk := ⟨_, rfl⟩
    obtain ⟨vv, hvv⟩ : ∃ vv, valI m.2 = vv := ⟨_, rfl⟩
    rw [hkk, hvv] at hR
    have Hkk := Lib.hid hkk
    have Hvv := Lib.hid hvv
    have Ho := Lib.hid ho
    have Ho' := Lib.hid ho'
    clear hb hS hs g1 g2 g3 hp hn hkk hvv ho ho'
    go_enter Try.func34, Try.ntmps34
    go_wp2
    go_loopg [7] h (fun n z wr => ∃ x b, z = .pointer (some ⟨b, 0, none⟩) ∧ RowKit.Hid (PosI wr o (fun h x => (toL h x).head? = some m) n x b) ∧ RowKit.Hid (Below w.heap.size w wr))
    case atStart => exact ⟨x, rb, rfl, HS, Below.refl _ _⟩
    case round =>
      obtain ⟨y, b, rfl, Ha, Hb⟩ := hrel
      clear HS c0 c2 cl hn0
      obtain ⟨lo, hbd⟩ := Ha.out.body
      have hpos := Ha.out.pos
      have hmx := Ha.out.prop
      obtain ⟨ks, va, vc, pa, pc, hn⟩ := Ha.out.sees.node
      obtain ⟨c0, c1, c2, cl⟩ := hn.cells
      obtain ⟨_, hbk⟩ := hn.blk
      have HL := Lib.hid (leafI_calls b ks _ pa y.cs.length pc wr hbk)
      unfold ptrI at HL
      have hn40 : y.es.length < 1099511627776 := by have := hbd.hi; have := Ho'.out; omega
      cases gk with
      | zero =>
        have hcs : y.cs.length = 0 := by rw [hbd.2.2]; rfl
        rw [hcs] at HL c2
        obtain ⟨gv, rfl, hgv, hcv⟩ := hn.vals _ hpos
        obtain ⟨ka, kc, rfl, hkm, hcells⟩ := hn.keys.shape
        obtain ⟨gk, rfl, hgk, hck⟩ := hcells _ hpos
        have h0 : y.es[0] = m := by
          have h1 : y.es.head? = some m := hmx
          rw [List.head?_eq_getElem?, List.getElem?_eq_getElem hpos] at h1
          exact Option.some.inj h1
        rw [h0] at hcv hck
        rw [Hkk.out] at hck
        rw [Hvv.out] at hcv
        obtain ⟨n, hn'⟩ : ∃ n, y.es.length = n := ⟨_, rfl⟩
        rw [hn'] at c0 c1 hn40 hpos
        have e2 : (0 : Int) < n := by omega
        have Hb1 : RowKit.Hid (∀ n, Below w.heap.size w (wr.drewN n)) := fun n => Hb.out.trans ((below_drewN wr n).mono Hb.out.size)
        clear hbd hmx hn hbk hcs hkm hcells hn' Ha h0
        go_wp2_with fail
        (with_reducible refine HL.out.mono ?_)
        rintro e w1 ⟨rfl, rfl⟩
        clear HL
        go_wp2
        go_quiet (fail)
        go_wp2
        exact bodyPost_ret (v := .tuple #[kk, vv, .bool true]) (by simp [results, Try.results34, go_sem]) rfl ⟨by rw [hR.out], Hb1.out _⟩
      | succ g =>
        obtain ⟨c, C, hc, hcb, hcp2, hch, _⟩ := toL_kid0 Ho.out hbd hpos
        have hc0 : y.cs[0]? = some c := by rw [hc]; rfl
        have hi := (List.getElem?_eq_some_iff.1 hc0).1
        obtain ⟨gp, cb, rfl, hgp, hcp, hkid⟩ := hn.kids _ _ hc0
        have hz : (y.cs.length == 0) = false := beq_false_of_ne (by omega)
        rw [hz] at HL
        have HA2 : RowKit.Hid (∀ w', Below wr.heap.size wr w' → PosI w' o (fun h x => (toL h x).head? = some m) g c cb) := fun w' hb => ⟨(hkid _ rfl).below hb, ⟨_, hcb⟩, hcp2, by show (toL g c).head? = _; rw [hch]; exact hmx⟩
        have HB : RowKit.Hid (∀ w', Below wr.heap.size wr w' → Below w.heap.size w w') := fun w' hb => Hb.out.trans (hb.mono Hb.out.size)
        obtain ⟨n, hn'⟩ : ∃ n, y.cs.length = n := ⟨_, rfl⟩
        rw [hn'] at hi c2
        have e2 : (0 : Int) < n := by omega
        clear hbd hpos hmx hn hbk hc hc0 hkid hz hcb hch hn' Ha
        go_wp2_with fail
        (with_reducible refine HL.out.mono ?_)
        rintro e w1 ⟨rfl, rfl⟩
        clear HL
        go_wp2
        go_roundg g
        case rel => exact ⟨c, cb, rfl, HA2.out _ (Below.refl _ _), HB.out _ (Below.refl _ _)⟩
        case measure => omega
def heightR (h : Nat) (l : M Int Int) : Nat := if l = [] then 0 else h + 1
set_option maxHeartbeats 4000000 in
theorem HeightI_calls {o h : Nat} {l : M Int Int} (ho : 3 ≤ o) (ho' : o ≤ 1024) (hlen : l.length < 1099511627776) (tb : Nat) (w : World) {f : List Nat} (hS : (objI o h l tb).p w f) :
    Calls Try.prog 33 #[.pointer (some ⟨tb, 0, none⟩)] w fun e w' => e = .returned (.int .i64 (heightR h l)) ∧ Below w.heap.size w w' := by
  obtain ⟨x, rb, hg, hs, _, hb⟩ := obj_seesI hS
  have c0 := (blk_get hb).1 0
  have c2 := (blk_get hb).1 2
  have cl := (blk_get hb).2.2
  simp only [List.getElem?_toArray, List.getElem?_cons_zero, List.getElem?_cons_succ] at c0 c2
  cases l with
  | nil =>
    have hR : RowKit.Hid (heightR h [] = 0) := rfl
    replace c2 : w.cell? ⟨tb, 2, none⟩ = some (.int .i64 0) := c2
    clear hb hS hs hg
    go_enter Try.func33, Try.ntmps33
    go_wp2
    go_ret
    exact ⟨by rw [hR.out]; rfl, Below.refl _ _⟩
  | cons m l =>
    have hp := hg.pos ho (by simp)
    obtain ⟨g1, g2, g3⟩ := hg
    have HS : RowKit.Hid (PosI w o (fun _ _ => True) h x rb) := ⟨hs, ⟨_, g1⟩, hp, trivial⟩
    have hR : RowKit.Hid (heightR h (m :: l) = h + 1) := rfl
    have hh := height_le ho g1 hp
    rw [g3] at hh
    obtain ⟨n, hn⟩ : ∃ n, (m :: l).length = n := ⟨_, rfl⟩
    have hn0 : ((n : Int) == 0) = false := by
      have : 0 < n := by rw [← hn]; simp
      exact beq_false_of_ne (by omega)
    rw [hn] at c2
    have hh40 : h + 1 < 1099511627776 := by omega
    have Ho := Lib.hid ho
    have Ho' := Lib.hid ho'
    clear hb hS hs g1 g2 g3 hp hn ho ho' hh hlen
    go_enter Try.func33, Try.ntmps33
    go_wp2
    go_loopg [3, 4] h (fun n q z wr => ∃ x b, z = .pointer (some ⟨b, 0, none⟩) ∧ (∃ k : Nat, q = .int .i64 k ∧ k + n = h + 1) ∧ RowKit.Hid (PosI wr o (fun _ _ => True) n x b) ∧ RowKit.Hid (Below w.heap.size w wr))
    case atStart => exact ⟨x, rb, rfl, ⟨1, rfl, by omega⟩, HS, Below.refl _ _⟩
    case round =>
      obtain ⟨y, b, rfl, ⟨k, rfl, hk⟩, Ha, Hb⟩ := hrel
      clear HS c0 c2 cl hn0
      obtain ⟨lo, hbd⟩ := Ha.out.body
      have hpos := Ha.out.pos
      obtain ⟨ks, va, vc, pa, pc, hn⟩ := Ha.out.sees.node
      obtain ⟨c0, c1, c2, cl⟩ := hn.cells
      obtain ⟨_, hbk⟩ := hn.blk
      have HL := Lib.hid (leafI_calls b ks _ pa y.cs.length pc wr hbk)
      unfold ptrI at HL
      cases gk with
      | zero =>
        have hcs : y.cs.length = 0 := by rw [hbd.2.2]; rfl
        rw [hcs] at HL c2
        have Hk := Lib.hid hk
        clear hbd hn hbk hcs Ha hk hpos
        go_wp2_with fail
        (with_reducible refine HL.out.mono ?_)
        rintro e w1 ⟨rfl, rfl⟩
        clear HL
        go_wp2
        go_ret
        exact ⟨by rw [hR.out, ← Hk.out]; rfl, Hb.out⟩
      | succ g =>
        obtain ⟨c, C, hc, hcb, hcp2, hch, _⟩ := toL_kid0 Ho.out hbd hpos
        have hc0 : y.cs[0]? = some c := by rw [hc]; rfl
        have hi := (List.getElem?_eq_some_iff.1 hc0).1
        obtain ⟨gp, cb, rfl, hgp, hcp, hkid⟩ := hn.kids _ _ hc0
        have hz : (y.cs.length == 0) = false := beq_false_of_ne (by omega)
        rw [hz] at HL
        have HA2 : RowKit.Hid (∀ w', Below wr.heap.size wr w' → PosI w' o (fun _ _ => True) g c cb) := fun w' hb => ⟨(hkid _ rfl).below hb, ⟨_, hcb⟩, hcp2, trivial⟩
        have HB : RowKit.Hid (∀ w', Below wr.heap.size wr w' → Below w.heap.size w w') := fun w' hb => Hb.out.trans (hb.mono Hb.out.size)
        obtain ⟨n, hn'⟩ : ∃ n, y.cs.length = n := ⟨_, rfl⟩
        rw [hn'] at hi c2
        have e2 : (0 : Int) < n := by omega
        have e3 : (k : Int) + 1 ≤ 1099511627776 := by omega
        have Hk := Lib.hid hk
        clear hbd hpos hn hbk hc hc0 hkid hz hcb hch hn' Ha hk
        go_wp2_with fail
        (with_reducible refine HL.out.mono ?_)
        rintro e w1 ⟨rfl, rfl⟩
        clear HL
        go_wp2
        go_roundg g
        case rel => exact ⟨c, cb, rfl, ⟨k + 1, by go_num, by have := Hk.out; omega⟩, HA2.out _ (Below.refl _ _), HB.out _ (Below.refl _ _)⟩
        case measure => omega
end Go.Proofs.Ytldofiankhimjaa
/- New, Len, Get (I). -/
namespace Go.Proofs.Ytldofiankhimjaa
open Go.RowKit
def clampO (n : Int) : Nat := (min (max n 3) 1024).toNat
theorem clampO_lo (n : Int) : 3 ≤ clampO n := by unfold clampO; omega
theorem clampO_hi (n : Int) : clampO n ≤ 1024 := by unfold clampO; omega
theorem St.new2I {w0 w : World} {fp0 : List Nat} {R : List Asn} (hS : St w0 fp0 R w) (o : Nat) (_ho : 3 ≤ o) (c : Int) (hc : (o : Int) = c) :
    St w0 fp0 (objI o 0 [] (w.heap.size + 1) :: R) ((w.alloc (.cells #[.slice none 0 0, .slice none 0 0, .slice none 0 0] 70)).alloc (.cells #[.pointer (some ⟨w.heap.size, 0, none⟩), .int .i64 c, .int .i64 0] 72)) := by
  subst hc
  have h1 := St.atN (St.emp.2 hS) 0 rfl 70 #[.slice none 0 0, .slice none 0 0, .slice none 0 0]
  obtain ⟨b, e, h2⟩ := St.at_open h1
  injection e with e
  injection e with e
  injection e with e
  subst e
  have h3 := St.atN (St.emp.2 h2) 0 rfl 72 #[.pointer (some ⟨w.heap.size, 0, none⟩), .int .i64 o, .int .i64 0]
  obtain ⟨b, e, h4⟩ := St.at_open h3
  injection e with e
  injection e with e
  injection e with e
  have hsz : (w.alloc (.cells #[.slice none 0 0, .slice none 0 0, .slice none 0 0] 70 (0, 0))).heap.size = w.heap.size + 1 := by simp
  rw [hsz] at e
  subst e
  have h5 : St w0 fp0 (blkA w.heap.size 70 #[.slice none 0 0, .slice none 0 0, .slice none 0 0] :: slA 3 (.slice none 0 0) (keysI []) :: slA 3 (.slice none 0 0) (valsI []) :: slA 67 (.slice none 0 0) (([] : List Nat).map ptrI) :: starA (List.zipWith (kidI 0) [] []) :: blkA (w.heap.size + 1) 72 #[.pointer (some ⟨w.heap.size, 0, none⟩), .int .i64 o, .int .i64 0] :: R)
      ((w.alloc (.cells #[.slice none 0 0, .slice none 0 0, .slice none 0 0] 70)).alloc (.cells #[.pointer (some ⟨w.heap.size, 0, none⟩), .int .i64 o, .int .i64 0] 72)) := by
    have h7 : St w0 fp0 (starA [] :: (blkA (w.heap.size + 1) 72 #[.pointer (some ⟨w.heap.size, 0, none⟩), .int .i64 o, .int .i64 0] :: blkA w.heap.size 70 #[.slice none 0 0, .slice none 0 0, .slice none 0 0] :: R)) _ := St.star.2 h4
    have h6 := ((h7.nilA 67).nilA 3).nilA 3
    refine h6.perm ?_
    classical
    refine List.perm_iff_count.2 fun a => ?_
    simp only [List.count_cons, keysI, valsI, List.map_nil, List.zipWith]
    omega
  refine St.shutOI (x := .node [] []) (rb := w.heap.size) ⟨⟨Nat.zero_le _, Nat.zero_le _, rfl⟩, List.Pairwise.nil, rfl⟩ ?_
  exact St.shutNI (bs := []) rfl h5
set_option maxHeartbeats 4000000 in
theorem NewI_calls (n : Int) (w0 w : World) (fp0 : List Nat) (R : List Asn) (hS : St w0 fp0 R w) :
    Calls Try.prog 11 #[.int .i64 n] w fun e w' => ∃ tb, e = .returned (ptrI tb) ∧ St w0 fp0 (objI (clampO n) 0 [] tb :: R) w' := by
  have HS := Lib.hid (fun c hc => hS.new2I (clampO n) (clampO_lo n) c hc)
  have hc : ((clampO n : Nat) : Int) = min (max n 3) 1024 := by unfold clampO; omega
  have Hc := Lib.hid hc
  clear hS hc
  go_enter Try.func11, Try.ntmps11
  go_wp2
  all_goals
    refine bodyPost_ret (results_tmp rfl _ _ _) rfl ?_
    exact ⟨_, rfl, HS.out _ (by rw [Hc.out]; omega)⟩
end Go.Proofs.Ytldofiankhimjaa
/- A tree's number of keys fits its order and height; Fits of a tree. -/
namespace Go.Proofs.Ytldofiankhimjaa
open Go Go.RowKit
theorem post_count {f : T Int Int → MI} {a b : Nat} : ∀ (B : MI) (C : List (T Int Int)), B.length = C.length → (∀ c ∈ C, a ≤ (f c).length + 1 ∧ (f c).length + 1 ≤ b) → B.length * a ≤ (post f B C).length ∧ (post f B C).length ≤ B.length * b
  | [], [], _, _ => by simp [post]
  | x :: B, c :: C, hl, h => by
    obtain ⟨h1, h2⟩ := h c (by simp)
    obtain ⟨h3, h4⟩ := post_count (f := f) (a := a) (b := b) B C (by simpa using hl) fun c hc => h c (by simp [hc])
    have e : (post f (x :: B) (c :: C)).length = (f c).length + 1 + (post f B C).length := by
      show (x :: (f c ++ post f B C)).length = _
      rw [List.length_cons, List.length_append]
      omega
    rw [e, List.length_cons, Nat.add_mul, Nat.add_mul, Nat.one_mul, Nat.one_mul]
    omega
theorem body_count {o : Nat} (ho : 3 ≤ o) : ∀ (h lo : Nat) (x : T Int Int), Body o h lo (o - 1) x → (lo + 1) * ((o + 1) / 2) ^ h ≤ (toL h x).length + 1 ∧ (toL h x).length + 1 ≤ o ^ (h + 1)
  | 0, lo, x, hb => by
    have h1 := hb.1
    have h2 := hb.2.1
    have e : (toL 0 x).length = x.es.length := rfl
    rw [e, Nat.pow_zero, Nat.mul_one, Nat.zero_add, Nat.pow_one]
    omega
  | h + 1, lo, x, hb => by
    obtain ⟨h1, h2, h3, h4⟩ := hb
    have hk : ∀ c ∈ x.cs, ((o + 1) / 2) ^ (h + 1) ≤ (toL h c).length + 1 ∧ (toL h c).length + 1 ≤ o ^ (h + 1) := by
      intro c hc
      obtain ⟨q1, q2⟩ := body_count ho h _ c (h4 c hc)
      refine ⟨?_, q2⟩
      rw [show least o + 1 = (o + 1) / 2 by unfold least; omega] at q1
      rw [Nat.pow_succ, Nat.mul_comm]
      exact q1
    obtain ⟨c, C, hcs⟩ : ∃ c C, x.cs = c :: C := by
      cases hx : x.cs with
      | nil => rw [hx] at h3; simp at h3
      | cons c C => exact ⟨c, C, rfl⟩
    rw [hcs] at hk h3
    obtain ⟨k1, k2⟩ := hk c (by simp)
    obtain ⟨k3, k4⟩ := post_count (f := toL h) x.es C (by simpa using h3.symm) fun c hc => hk c (by simp [hc])
    have e : (toL (h + 1) x).length = (toL h c).length + (post (toL h) x.es C).length := by
      rw [← T.eta x, hcs]
      show (toL h c ++ post (toL h) x.es C).length = _
      rw [List.length_append]
      rfl
    have m1 : lo * ((o + 1) / 2) ^ (h + 1) ≤ x.es.length * ((o + 1) / 2) ^ (h + 1) := Nat.mul_le_mul_right _ h1
    have m2 : x.es.length * o ^ (h + 1) ≤ (o - 1) * o ^ (h + 1) := Nat.mul_le_mul_right _ h2
    have m3 : (o - 1) * o ^ (h + 1) + o ^ (h + 1) = o ^ (h + 1 + 1) := by
      rw [← Nat.succ_mul, show (o - 1).succ = o by omega, Nat.pow_succ o (h + 1), Nat.mul_comm]
    rw [e, Nat.add_mul, Nat.one_mul]
    omega
theorem ordR_clamp (n : Int) : ordR n = (clampO n : Nat) := by
  unfold ordR clampO
  split
  · omega
  · split <;> omega
set_option maxHeartbeats 4000000 in
theorem Fits0_calls (n : Int) (w : World) :
    Calls Try.prog 32 #[.int .i64 n, .int .i64 (0 : Nat), .int .i64 (0 : Nat)] w fun e w' => e = .returned (.bool true) ∧ w = w' := by
  go_enter Try.func32, Try.ntmps32
  go_wp2
  go_ret
  exact ⟨rfl, rfl⟩
theorem FitsO_calls (n : Int) (h : Nat) (l : MI) (x : T Int Int) (hg : GoodI (clampO n) h l x) (hl : l.length < 1000000) (w : World) :
    Calls Try.prog 32 #[.int .i64 n, .int .i64 l.length, .int .i64 (heightR h l : Nat)] w fun e w' => e = .returned (.bool true) ∧ w = w' := by
  cases hl0 : l with
  | nil => exact Fits0_calls n w
  | cons y l' =>
    obtain ⟨g1, g2, g3⟩ := hg
    have ho := clampO_lo n
    obtain ⟨c1, c2⟩ := body_count ho h _ x g1
    rw [g3] at c1 c2
    have h2 : 2 * ((clampO n + 1) / 2) ^ h ≤ l.length + 1 := by
      cases h with
      | zero => rw [hl0]; simp
      | succ h => exact c1
    have hp : ((clampO n + 1) / 2) ^ h < 1000000 := by omega
    have hh : h < 1000000 := by
      have h5 : 2 ^ h ≤ ((clampO n + 1) / 2) ^ h := Nat.pow_le_pow_left (by omega) h
      have h6 : h < 2 ^ h := Nat.lt_two_pow_self
      omega
    have hr : heightR h (y :: l') = h + 1 := by simp [heightR]
    rw [← hl0, show heightR h l = h + 1 by rw [hl0, hr]]
    exact Fits_calls n (clampO n) l.length h (ordR_clamp n) h2 c2 hl (by rw [hl0]; simp) hh w
end Go.Proofs.Ytldofiankhimjaa
