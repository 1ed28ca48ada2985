/- EvaluateMonotone returns true at every case and every second row. -/
import Derived.Test.YtgaeabodofabmaaDoorL3
import Derived.Test.YtgaeabodofabmaaDoorMono
import Derived.Laws.OwnMore
import Derived.Laws.AppendOwnNone
import Derived.Deep.AppendLies
namespace Go.Proofs.YtgaeabodofabmaaDoor
open Go.RowKit

theorem flat_set (l : List Vl) (k : Nat) (hk : k < l.length) (v : Vl) : (((flat l).set (k * 3) (.int .i64 v.kind)).set (k * 3 + 1) (.int .i64 v.int)).set (k * 3 + 2) (.string v.text) = flat (l.set k v) := by
  induction l generalizing k with
  | nil => simp at hk
  | cons x l ih =>
    cases k with
    | zero => simp [flat, Vl.cells]
    | succ k =>
      have := ih k (by simpa using hk)
      simp only [flat, List.flatMap_cons, List.set_cons_succ] at this ⊢
      rw [← this]
      rw [List.set_append_right _ _ (by simp [Vl.cells]; omega), List.set_append_right _ _ (by simp [Vl.cells]; omega), List.set_append_right _ _ (by simp [Vl.cells]; omega)]
      congr 1
      simp only [Vl.cells, List.length_cons, List.length_nil]
      rw [show (k + 1) * 3 - (0 + 1 + 1 + 1) = k * 3 by omega, show (k + 1) * 3 + 1 - (0 + 1 + 1 + 1) = k * 3 + 1 by omega, show (k + 1) * 3 + 2 - (0 + 1 + 1 + 1) = k * 3 + 2 by omega]
theorem length_flat (l : List Vl) : (flat l).length = l.length * 3 := by
  induction l with
  | nil => rfl
  | cons x l ih => simp only [flat, List.flatMap_cons, List.length_append, List.length_cons] at ih ⊢; rw [ih]; simp [Vl.cells]; omega
theorem one_flat (l : List Vl) : ∀ u ∈ flat l, u.oneCell' = true := by
  intro u hu
  simp only [flat, List.mem_flatMap] at hu
  obtain ⟨v, _, hv⟩ := hu
  simp [Vl.cells] at hv
  rcases hv with rfl | rfl | rfl <;> rfl
/-- An owned row of values: an element is written anew. -/
theorem own_set {w : World} {B g n cap k : Nat} {l : List Vl} {v : Vl} (h : w.ownsRow B 23 3 (.slice (some ⟨g, 0, none⟩) n cap) n (flat l)) (hk : k < l.length) :
    (((w.setCell ⟨g, k * 3, none⟩ (.int .i64 v.kind)).setCell ⟨g, k * 3 + 1, none⟩ (.int .i64 v.int)).setCell ⟨g, k * 3 + 2, none⟩ (.string v.text)).ownsRow B 23 3 (.slice (some ⟨g, 0, none⟩) n cap) n (flat (l.set k v)) := by
  have h1 := (h.stored (k * 3) (.int .i64 v.kind)).1
  have h2 := (h1.stored (k * 3 + 1) (.int .i64 v.int)).1
  have h3 := (h2.stored (k * 3 + 2) (.string v.text)).1
  rwa [flat_set l k hk v] at h3
theorem ValsAt.flat {w : World} {R : List Vl} {b o n c : Nat} (h : ValsAt w R (.slice (some ⟨b, o, none⟩) n c)) : ∀ j u, (Go.Proofs.YtgaeabodofabmaaDoor.flat R)[j]? = some u → w.cell? ((⟨b, o, none⟩ : Addr).add j) = some u := by
  intro j u hu
  have hj := (List.getElem?_eq_some_iff.1 hu).1
  rw [length_flat] at hj
  have hi : j / 3 < R.length := by omega
  have e : (⟨b, o, none⟩ : Addr).add j = ⟨b, o + j, none⟩ := by unfold Addr.add; split <;> simp_all
  rw [e]
  cases h with
  | mt => simp at hi
  | lie _ b o n cap hn hlt hm hc =>
    have := hc (j / 3) hi (j % 3) (Nat.mod_lt _ (by omega))
    rw [show o + j = o + j / 3 * 3 + j % 3 by omega, this, ← flat_get R (j / 3) hi (j % 3) (Nat.mod_lt _ (by omega)), show j / 3 * 3 + j % 3 = j by omega]
    exact hu

theorem vals_src {w : World} {R : List Vl} {a : Option Addr} {n c : Nat} (h : ValsAt w R (.slice a n c)) : (a = none ∧ n = 0 ∧ c = 0 ∧ R = []) ∨ ∃ ad, a = some ad ∧ ∀ j u, (flat R)[j]? = some u → w.cell? (ad.add j) = some u := by
  cases a with
  | none => cases h; exact .inl ⟨rfl, rfl, rfl, rfl⟩
  | some ad =>
    refine .inr ⟨ad, rfl, ?_⟩
    cases h with
    | mt => intro j u hu; simp [flat] at hu
    | lie _ b o n cap hn hlt hm hc => exact (ValsAt.lie _ b o n c hn hlt hm hc).flat

set_option maxHeartbeats 8000000 in
set_option maxRecDepth 20000 in
theorem emono_calls {L : List Int} {R S : List Vl} (E : Ex) (a : Option Addr) (n c : Nat) (s r q : Value) (w : World) (hs : ArgsAt w E.args (.slice a n c)) (hl : VarsAt w L s) (hr : ValsAt w R r) (hq : ValsAt w S q) (ht : Tab w) :
    Calls Tryd.prog 9 #[.agg #[.int .i64 E.op, .string E.table, .string E.name, .int .i64 E.index, .int .i64 E.v.kind, .int .i64 E.v.int, .string E.v.text, .slice a n c, s, r], q] w (LawPost w) := by
  have Hs := Lib.hid hs
  have Hl := Lib.hid hl
  have Hr := Lib.hid hr
  have Hq := Lib.hid hq
  have Ht := Lib.hid ht
  have Hv := Lib.hid (VarIs.new w #[.int .i64 E.op, .string E.table, .string E.name, .int .i64 E.index, .int .i64 E.v.kind, .int .i64 E.v.int, .string E.v.text, .slice a n c, s, r] 31)
  have Hb0 : RowKit.Hid (∀ o, Below w.heap.size w (w.alloc o)) := fun o => (Below.refl _ _).alloc (Nat.le_refl _) o
  clear hs hl hr hq ht
  go_enter Tryd.func9, Tryd.ntmps9
  go_upto_region 1 with (fail)
  go_cut [26] (fun x wx => ∃ b : Bool, x = .bool b ∧ RowKit.Hid (b = false → CT L E ∧ RowOf L R ∧ RowOf L S ∧ E.nulls = false ∧ L.length ≤ 12) ∧ RowKit.Hid (Below (w.heap.size + 1) (w.alloc (.cells #[.int .i64 E.op, .string E.table, .string E.name, .int .i64 E.index, .int .i64 E.v.kind, .int .i64 E.v.int, .string E.v.text, .slice a n c, s, r] 31)) wx))
  case first =>
    go_wp2_with fail
    refine (awake_calls _ (Ht.out.mono (Hb0.out _))).mono ?_
    rintro e w1 ⟨rfl, hb1⟩
    have Hb1 := Lib.hid hb1
    simp only [World.size_alloc] at Hb1
    have Hbw := Lib.hid ((Hb0.out _).trans (Hb1.out.mono (Nat.le_succ _)))
    clear hb1
    obtain ⟨v1, v2, -⟩ := Hv.out.below Hb1.out (Nat.lt_succ_self _)
    go_wp2_with fail
    refine (case_calls 3 E _ _ _ _ _ _ (Hs.out.mono Hbw.out) (Hl.out.mono Hbw.out) (Hr.out.mono Hbw.out)).mono ?_
    rintro e w2 ⟨b, rfl, hb, hb2⟩
    have HB := Lib.hid hb
    have Hb2 := Lib.hid (Hb1.out.trans (hb2.mono (by have := Hb1.out.size; simp at this; omega)))
    have Hbw2 := Lib.hid ((Hb0.out _).trans (Hb2.out.mono (Nat.le_succ _)))
    clear hb2 hb v1 v2
    obtain ⟨v1, v2, -⟩ := Hv.out.below Hb2.out (Nat.lt_succ_self _)
    cases b
    · go_wp2
      go_meet
      exact ⟨true, rfl, (fun h => nomatch h), Hb2⟩
    · go_wp2_with fail
      refine (nulls_calls _ E (Nat.le_refl _) _ _ _ _ (Hs.out.mono Hbw2.out)).mono ?_
      rintro e w3 ⟨rfl, hb3⟩
      have Hb3 := Lib.hid (Hb2.out.trans (hb3.mono (by have := Hb2.out.size; simp at this; omega)))
      have Hbw3 := Lib.hid ((Hb0.out _).trans (Hb3.out.mono (Nat.le_succ _)))
      clear hb3 v1 v2
      obtain ⟨v1, v2, -⟩ := Hv.out.below Hb3.out (Nat.lt_succ_self _)
      cases hnu : E.nulls
      · have Hnu := Lib.hid hnu
        clear hnu
        go_wp2_with fail
        refine (row_calls L S _ _ _ (Hl.out.mono Hbw3.out) (Hq.out.mono Hbw3.out)).mono ?_
        rintro e w4 ⟨p, rfl, hp, hb4⟩
        have Hp := Lib.hid hp
        have Hb4 := Lib.hid (Hb3.out.trans (hb4.mono (by have := Hb3.out.size; simp at this; omega)))
        clear hb4 hp v1 v2
        cases p
        · go_wp2
          go_meet
          exact ⟨true, rfl, (fun h => nomatch h), Hb4⟩
        · go_wp2
          go_meet
          exact ⟨false, rfl, fun _ => ⟨(HB.out (by simp)).1.2.2 rfl, (HB.out (by simp)).2.2, Hp.out (by simp), Hnu.out, (HB.out (by simp)).2.1⟩, Hb4⟩
      · go_wp2
        go_meet
        exact ⟨true, rfl, (fun h => nomatch h), Hb3⟩
  case rest =>
    obtain ⟨b, rfl, HB, Hb⟩ := hcut
    have Hbw := Lib.hid ((Hb0.out _).trans (Hb.out.mono (Nat.le_succ _)))
    cases b
    · obtain ⟨hE, hR, hS, hnu, hL⟩ := HB.out rfl
      have Hv1 := Lib.hid (Hv.out.below Hb.out (Nat.lt_succ_self _))
      obtain ⟨v1, v2, -⟩ := Hv1.out
      have Hs1 := Lib.hid (Hs.out.mono Hbw.out)
      have Hr1 := Lib.hid (Hr.out.mono Hbw.out)
      have Hq1 := Lib.hid (Hq.out.mono Hbw.out)
      have Ht1 := Lib.hid (Ht.out.mono Hbw.out)
      obtain ⟨ar, nr, cr, rfl, hnr, -⟩ := Hr.out.shape
      obtain ⟨aq, nq, cq, rfl, hnq, -⟩ := Hq.out.shape
      have HN := Lib.hid (show nr = R.length ∧ nq = R.length ∧ R.length ≤ 12 by have h1 := hR.1; have h2 := hS.1; omega)
      have HE := Lib.hid hE
      have HR := Lib.hid hR
      have HS := Lib.hid hS
      have HNU := Lib.hid hnu
      clear hE hR hS hnu hL hnr hnq HB Hs Hr Hq
      obtain ⟨i0, ii, iz0, iz1, iz2⟩ := info_parts Tryd.info23'
      obtain ⟨W, rfl⟩ : ∃ W : World, W = wc := ⟨_, rfl⟩
      go_upto_region 3 with (fail)
      go_cut [5] (fun t wx => ∃ (av : Option Addr) (cv : Nat), t = .slice av nr cv ∧ RowKit.Hid (wx.ownsRow W.heap.size 23 3 (.slice av nr cv) nr (flat R)) ∧ RowKit.Hid (Below W.heap.size W wx))
      case first =>
        have hsrc := vals_src Hr1.out
        have HNL := Lib.hid HN.out.1
        rcases hsrc with ⟨rfl, rfl, rfl, hR0⟩ | ⟨ad, rfl, hsrc⟩
        · have hown0 := World.ownsRow_lit (e := 23) (size := 3) W #[] 0 (Nat.le_refl _) (by simp) (by simp)
          have HF : RowKit.Hid (flat R = []) := by show _ = _; rw [hR0]; rfl
          clear hR0
          go_wp2_with (at_builtin; go_loud (refine wpList_append_own_none rfl _ _ 29 rfl W.heap.size 23 i0 3 Tryd.underlying29 ii _ 0 [] rfl hown0 rfl ?_))
          have H1 := Lib.hid hown0
          clear hown0
          go_wp2
          go_meet
          exact ⟨_, _, rfl, by show World.ownsRow _ _ _ _ _ _ _; rw [HF.out]; exact H1.out, (Below.refl _ _).alloc (Nat.le_refl _) _⟩
        · have hown0 := World.ownsRow_lit (e := 23) (size := 3) W #[] 0 (Nat.le_refl _) (by simp) (by simp)
          have hone := one_flat R

          have hsrc' : ∀ j u, (flat R)[j]? = some u → (W.alloc (.cells #[] 23)).cell? (ad.add j) = some u := by
            intro j u hu
            have h1 := hsrc j u hu
            rw [World.cell?_alloc_lt _ _ _ (World.block_lt_of_cell? W _ h1)]
            exact h1
          have HSRC := Lib.hid hsrc'
          clear hsrc hsrc'
          go_wp2_with (at_builtin; go_loud (refine wpList_append_own _ rfl _ _ 29 rfl W.heap.size 23 i0 (.agg #[.int .i64 0, .int .i64 0, .string ⟨#[]⟩]) 3 32 Tryd.underlying29 ii iz0 iz1 iz2 rfl (by decide) _ 0 [] rfl hown0 ad nr cr (flat R) rfl ?c0 ?c1 ?c2 ?c3 ?c4 ?c5 ?_))
          case c0 => rw [length_flat]; have := HN.out; omega
          case c1 => exact HSRC.out
          case c2 => exact hone
          case c3 => unfold maxLen; have := HN.out; omega
          case c4 => have := HN.out; omega
          intro v' w' hown' hgrow _
          have H1 : RowKit.Hid (∃ av cv, v' = .slice av nr cv) := by
            obtain ⟨_, ⟨h, h0⟩ | ⟨g, cap, cur, h, _⟩⟩ := hown'
            · exact ⟨none, 0, by rw [h]; congr 1; first | done | omega⟩
            · exact ⟨some ⟨g, 0, none⟩, cap, by rw [h]⟩
          obtain ⟨av, cv, rfl⟩ := H1.out
          have H2 : RowKit.Hid (w'.ownsRow W.heap.size 23 3 (.slice av nr cv) nr (flat R)) := by
            show World.ownsRow _ _ _ _ _ _ _
            simpa using hown'
          have H3 : RowKit.Hid (Below W.heap.size W w') := ((Below.refl _ _).alloc (Nat.le_refl _) _).grown hgrow (by simp) (fun g hg => (hown0.lt g hg).1)
          clear hown' hgrow hown0 hone H1
          go_wp2
          go_meet
          exact ⟨_, _, rfl, H2, H3⟩
      case rest =>
        obtain ⟨av, cv, rfl, Hown, Hbt⟩ := hcut
        go_wp2_with fail
        go_loopw [34] (fun i wr => ∃ k : Nat, k ≤ nr ∧ i = .int .i64 k ∧ RowKit.Hid (wr.ownsRow W.heap.size 23 3 (.slice av nr cv) nr (flat (mix R S k))) ∧ RowKit.Hid (Below W.heap.size W wr)) (fun i _ => nr - (intOf i).toNat)
        case atStart => exact ⟨0, Nat.zero_le _, rfl, by show World.ownsRow _ _ _ _ _ _ _; rw [mix_zero]; exact Hown.out, Hbt⟩
        case round =>
          obtain ⟨k, hk, rfl, Ho, Hbr⟩ := hrel
          obtain ⟨hn1, hn2, hn3⟩ := HN.out
          by_cases hlt : k < nr
          · have hkR : k < R.length := by omega
            have hkS : k < S.length := by have := HR.out.1; have := HS.out.1; omega
            obtain ⟨g, rfl, hbg⟩ : ∃ g, av = some ⟨g, 0, none⟩ ∧ W.heap.size ≤ g := by
              obtain ⟨_, ⟨h, h0⟩ | ⟨g, cap, cur, h, hb, _⟩⟩ := Ho.out
              · omega
              · injection h with h1 h2 h3; exact ⟨g, h1, hb⟩
            obtain ⟨b, o, rfl⟩ := Hq1.out.has k (by omega)
            obtain ⟨d0, d1, d2⟩ := (Hq1.out.mono Hbr.out).cell k hkS
            have hml := length_mix R S k
            have hcell : ∀ j, j < 3 → wr.cell? ⟨g, k * 3 + j, none⟩ = R[k].cells[j]? := by
              intro j hj
              rw [Ho.out.cellAt (k * 3 + j) (by omega), flat_get _ k (by rw [hml]; exact hkR) j hj, mix_get R S k k hkR (Nat.le_refl _)]
            have e0 : wr.cell? ⟨g, k * 3, none⟩ = some (.int .i64 R[k].kind) := hcell 0 (by omega)
            have e1 : wr.cell? ⟨g, k * 3 + 1, none⟩ = some (.int .i64 R[k].int) := hcell 1 (by omega)
            have e2 : wr.cell? ⟨g, k * 3 + 2, none⟩ = some (.string R[k].text) := hcell 2 (by omega)
            have f0 := Ho.out.frozenAt (k * 3)
            have f1 := Ho.out.frozenAt (k * 3 + 1)
            have f2 := Ho.out.frozenAt (k * 3 + 2)
            have Hset : RowKit.Hid (R[k].kind = 0 → (((wr.setCell ⟨g, k * 3, none⟩ (.int .i64 S[k].kind)).setCell ⟨g, k * 3 + 1, none⟩ (.int .i64 S[k].int)).setCell ⟨g, k * 3 + 2, none⟩ (.string S[k].text)).ownsRow W.heap.size 23 3 (.slice (some ⟨g, 0, none⟩) nr cv) nr (flat (mix R S (k + 1)))) := by
              intro h0
              rw [mix_hit R S k hkR hkS h0]
              exact own_set Ho.out (by rw [hml]; exact hkR)
            have Hmiss : RowKit.Hid (R[k].kind ≠ 0 → mix R S (k + 1) = mix R S k) := mix_miss R S k hkR
            have Hbs : RowKit.Hid (∀ x y z, Below W.heap.size W (((wr.setCell ⟨g, k * 3, none⟩ x).setCell ⟨g, k * 3 + 1, none⟩ y).setCell ⟨g, k * 3 + 2, none⟩ z)) := fun x y z => ((Hbr.out.setCell hbg _).setCell hbg _).setCell hbg _
            have hlq : k < nq := by omega
            clear hcell hml
            generalize R[k] = u at *
            generalize S[k] = v at *
            have hb12 : nr ≤ 12 := by omega
            clear hn1 hn2 hn3 hkR hkS
            by_cases h0 : u.kind = 0
            · have h0' : (u.kind == 0) = true := by simp [h0]
              have Hset' := Lib.hid (Hset.out h0)
              clear h0 Hset Hmiss
              go_wp2
              go_roundw
              case rel => exact ⟨k + 1, by omega, by go_num, Hset', Hbs.out _ _ _⟩
              case measure => simp [intOf]; omega
            · have h0' : (u.kind == 0) = false := by simp [h0]
              have Hm := Lib.hid (Hmiss.out h0)
              clear h0 Hset Hmiss
              go_wp2
              go_roundw
              case rel => exact ⟨k + 1, by omega, by go_num, by show World.ownsRow _ _ _ _ _ _ _; rw [Hm.out]; exact Ho.out, Hbr⟩
              case measure => simp [intOf]; omega
          · obtain rfl : k = nr := by omega
            have Hw := Lib.hid (Hbw.out.trans (Hbr.out.mono Hbw.out.size))
            have HT := Lib.hid (vals_of_own Ho.out (by rw [length_mix]; omega))
            have HX := ct_cond HR.out HE.out
            obtain ⟨x, hx⟩ := HX
            have Hx := Lib.hid hx
            have Hkeep := Lib.hid (cond_keeps HR.out (row_mix HR.out HS.out k) (keeps_mix R S k) HE.out HNU.out x hx)
            have Hv2 := Lib.hid (Hv1.out.below Hbr.out Hv1.out.lt)
            have Hs2 := Lib.hid (Hs1.out.mono Hbr.out)
            have Hr2 := Lib.hid (Hr1.out.mono Hbr.out)
            have Ht2 := Lib.hid (Ht1.out.mono Hbr.out)
            clear hx hn1 hn2 hn3 v1 v2
            obtain ⟨v1, v2, -⟩ := Hv2.out
            go_wp2_with fail
            refine (cond_calls _ E (Nat.le_refl _) R _ _ _ _ _ x Hs2.out Hr2.out Ht2.out Hx.out).mono ?_
            rintro e w1 ⟨rfl, hb1⟩
            have Hw1 := Lib.hid (Hw.out.trans (hb1.mono Hw.out.size))
            have Hv3 := Lib.hid (Hv2.out.below hb1 Hv2.out.lt)
            have Hs3 := Lib.hid (Hs2.out.mono hb1)
            have Ht3 := Lib.hid (Ht2.out.mono hb1)
            have HT3 := Lib.hid (HT.out.mono hb1)
            clear hb1 v1 v2
            obtain ⟨v1, v2, -⟩ := Hv3.out
            by_cases hu : x = .u
            · subst hu
              simp only [T3.val, T3.num]
              go_wp2
              go_ret
              exact ⟨rfl, Hw1.out⟩
            · have hx2 : (x.num == 2) = false := by cases x <;> simp_all [T3.num]
              have Hk := Lib.hid (Hkeep.out hu)
              clear hu
              simp only [T3.val]
              go_wp2_with fail
              refine (cond_calls _ E (Nat.le_refl _) (mix R S k) _ _ _ _ _ x Hs3.out HT3.out Ht3.out Hk.out).mono ?_
              rintro e w2 ⟨rfl, hb2⟩
              have Hw2 := Lib.hid (Hw1.out.trans (hb2.mono Hw1.out.size))
              clear hb2 v1 v2
              simp only [T3.val]
              go_wp2
              go_ret
              exact ⟨rfl, Hw2.out⟩
    · go_wp2_with fail
      refine (awake_later Ht.out _ Hbw.out).mono ?_
      rintro e w1 ⟨rfl, hb1⟩
      have Hb1 := Lib.hid hb1
      clear hb1
      go_wp2
      go_ret
      exact ⟨rfl, Hb1.out⟩
end Go.Proofs.YtgaeabodofabmaaDoor
