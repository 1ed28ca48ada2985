/- Part 13 of the proof: Sm, La, Lb -/
import Derived.Test.YtldofiankhimjaaZ12
/- same: a tree agrees with its reference. -/
namespace Go.Proofs.Ytldofiankhimjaa
open Go Go.RowKit
theorem St.itin {w0 w : World} {fp0 : List Nat} {A : Asn} {I R : List Asn} (h : St w0 fp0 (I ++ A :: R) w) : St w0 fp0 (A :: (I ++ R)) w := h.perm List.perm_middle
theorem St.itout {w0 w : World} {fp0 : List Nat} {A B : Asn} {I R : List Asn} (h : St w0 fp0 (A :: B :: (I ++ R)) w) : St w0 fp0 (A :: B :: R) w := by
  have h2 : St w0 fp0 (I ++ (A :: B :: R)) w := by
    refine h.perm ?_
    have e1 : (A :: (I ++ (B :: R))).Perm (I ++ (A :: B :: R)) := List.perm_middle.symm
    have e2 : (A :: B :: (I ++ R)).Perm (A :: (I ++ (B :: R))) := List.Perm.cons A List.perm_middle.symm
    exact e2.trans e1
  exact St.dropAll h2
theorem takeM_all {l : MI} {m : Int} (h : (l.length : Int) < m) : takeM m l = l := by
  unfold takeM
  rw [if_neg (by omega), List.take_of_length_le (by omega)]
set_option maxHeartbeats 8000000 in
set_option maxRecDepth 20000 in
theorem same_calls (n : Int) (h : Nat) (l : MI) (v : Value) (tb : Nat) (w0 w : World) (fp0 : List Nat) (R : List Asn) (hlen : l.length < 1000000) (hS : St w0 fp0 (objI (clampO n) h l tb :: prA v l :: R) w) :
    Calls Try.prog 35 #[ptrI tb, v, .int .i64 n] w fun e w' => e = .returned (.bool true) ∧ St w0 fp0 (objI (clampO n) h l tb :: prA v l :: R) w' := by
  have ho := clampO_lo n
  have ho' := clampO_hi n
  have Ho := Lib.hid ho
  have Ho' := Lib.hid ho'
  have Hlen := Lib.hid hlen
  have HS := Lib.hid hS
  obtain ⟨_, hob⟩ := hS.has 0 rfl
  obtain ⟨_, hpr⟩ := hS.has 1 rfl
  have hpa := prA_at hpr
  have HMin := Lib.hid (MinI_calls ho ho' tb w hob)
  have HMax : RowKit.Hid (∀ w', Below w.heap.size w w' → Calls Try.prog 56 #[.pointer (some ⟨tb, 0, none⟩)] w' fun e w'' => e = .returned (maxR l) ∧ Below w'.heap.size w' w'') := by
    intro w' hb
    obtain ⟨_, hob⟩ := (HS.out.mono hb).has 0 rfl
    exact MaxI_calls ho ho' tb w' hob
  -- what the last region computes
  have HLast : RowKit.Hid (∀ w', Below w.heap.size w w' → St w0 fp0 (objI (clampO n) h l tb :: prA v l :: R) w') := fun w' hb => HS.out.mono hb
  have HLen : RowKit.Hid (∀ w', Below w.heap.size w w' → Calls Try.prog 14 #[.pointer (some ⟨tb, 0, none⟩)] w' fun e w'' => e = .returned (.int .i64 l.length) ∧ w' = w'') := by
    intro w' hb
    obtain ⟨_, hob⟩ := (HS.out.mono hb).has 0 rfl
    exact LenI_calls tb w' hob
  have HVal : RowKit.Hid (∀ w', Below w.heap.size w w' → Calls Try.prog 13 #[.pointer (some ⟨tb, 0, none⟩)] w' fun e w'' => e = .returned (.bool true) ∧ St w0 fp0 (objI (clampO n) h l tb :: prA v l :: R) w'') := fun w' hb => ValidI_calls ho ho' h l tb w0 w' fp0 _ (by omega) (HS.out.mono hb)
  have HHei : RowKit.Hid (∀ w', St w0 fp0 (objI (clampO n) h l tb :: prA v l :: R) w' → Calls Try.prog 33 #[.pointer (some ⟨tb, 0, none⟩)] w' fun e w'' => e = .returned (.int .i64 (heightR h l)) ∧ St w0 fp0 (objI (clampO n) h l tb :: prA v l :: R) w'') := by
    intro w' hs
    obtain ⟨_, hob⟩ := hs.has 0 rfl
    refine (HeightI_calls ho ho' (by omega) tb w' hob).mono ?_
    rintro e w'' ⟨rfl, hb⟩
    exact ⟨rfl, hs.mono hb⟩
  have HFit : RowKit.Hid (∀ w', Calls Try.prog 32 #[.int .i64 n, .int .i64 l.length, .int .i64 (heightR h l : Nat)] w' fun e w'' => e = .returned (.bool true) ∧ w' = w'') := by
    intro w'
    obtain ⟨x, rb, hg, -⟩ := obj_seesI hob
    exact FitsO_calls n h l x hg hlen w'
  have HAll : RowKit.Hid (∀ w', St w0 fp0 (objI (clampO n) h l tb :: prA v l :: R) w' → Calls Try.prog 17 #[.pointer (some ⟨tb, 0, none⟩)] w' fun e w' => ∃ bt bl bh, e = .returned (iterFI bt bl bh) ∧ Calls Try.prog 16 #[iterFI bt bl bh, .int .i64 ((l.length : Int) + 1)] w' fun e w' => ∃ v', e = .returned v' ∧ St w0 fp0 (prA v' l :: objI (clampO n) h l tb :: prA v l :: R) w') := by
    intro w' hs
    refine (AllI_calls tb w0 w' fp0 _ hs).mono ?_
    rintro e w2 ⟨bt, bl, bh, rfl, h2⟩
    refine ⟨bt, bl, bh, rfl, (taken_calls ho' none none _ _ l tb bt bl bh (by omega) ((l.length : Int) + 1) w0 w2 fp0 _ h2.itin).mono ?_⟩
    rintro e w3 ⟨v', rfl, h3⟩
    rw [selM_all, takeM_all (by omega)] at h3
    exact ⟨v', rfl, h3.itout⟩
  have HSame : RowKit.Hid (∀ w' v', St w0 fp0 (prA v' l :: objI (clampO n) h l tb :: prA v l :: R) w' → Calls Try.prog 15 #[v', v] w' fun e w'' => e = .returned (.bool true) ∧ St w0 fp0 (objI (clampO n) h l tb :: prA v l :: R) w'') := by
    intro w' v' hs
    obtain ⟨_, hp⟩ := hs.has 0 rfl
    obtain ⟨_, hp2⟩ := hs.has 2 rfl
    refine (Same_calls l l v' v w' (prA_at hp) (prA_at hp2)).mono ?_
    rintro e w'' ⟨rfl, hb⟩
    exact ⟨by simp, (hs.mono hb).drop⟩
  unfold ptrI
  obtain ⟨hm, a, c, rfl, hc, hcell⟩ := hpa
  have Hcell := Lib.hid hcell
  obtain ⟨H, hH⟩ : ∃ H, heightR h l = H := ⟨_, rfl⟩
  rw [hH] at HHei HFit
  obtain ⟨N, hN⟩ : ∃ N, l.length = N := ⟨_, rfl⟩
  have HN := Lib.hid hN
  have hNb : N < 1000000 := by omega
  rw [hN] at HLen HFit HAll HSame HLast HVal HHei ⊢
  clear hS hob hpr hm hc hcell hlen ho ho' hH HS hN
  generalize clampO n = O at *
  by_cases hN0 : N = 0
  · subst hN0
    obtain rfl : l = [] := List.length_eq_zero_iff.1 HN.out
    have e1 : minR ([] : MI) = .tuple #[.int .i64 0, .int .i64 0, .bool false] := rfl
    have e2 : maxR ([] : MI) = .tuple #[.int .i64 0, .int .i64 0, .bool false] := rfl
    rw [e1] at HMin
    rw [e2] at HMax
    have e3 : ((0 : Nat) : Int) + 1 = 1 := rfl
    have e4 : ((0 : Nat) : Int) = 0 := rfl
    rw [e3] at HAll
    rw [e4] at HLen
    simp only [e4] at HFit
    clear e1 e2 e3 e4 Hcell
    go_enter Try.func35, Try.ntmps35
    go_wp2_with fail
    (with_reducible refine HMin.out.mono ?_)
    rintro e w1 ⟨rfl, hb1⟩
    have HM := Lib.hid (HMax.out _ hb1)
    have HB1 := Lib.hid hb1
    clear HMin HMax hb1
    go_wp2_with fail
    (with_reducible refine HM.out.mono ?_)
    rintro e w2 ⟨rfl, hb2⟩
    have HB2 := Lib.hid (HB1.out.trans (hb2.mono HB1.out.size))
    clear HM HB1 hb2
    have HL := Lib.hid (HLen.out _ HB2.out)
    have HV := Lib.hid (HVal.out _ HB2.out)
    go_wp2_with fail
    (with_reducible refine HL.out.mono ?_)
    rintro e w3 ⟨rfl, rfl⟩
    clear HL
    go_wp2_with fail
    (with_reducible refine HV.out.mono ?_)
    rintro e w4 ⟨rfl, h4⟩
    have HHe := Lib.hid (HHei.out _ h4)
    clear HV h4
    go_wp2_with fail
    (with_reducible refine HHe.out.mono ?_)
    rintro e w5 ⟨rfl, h5⟩
    have HF := Lib.hid (HFit.out w5)
    have HA := Lib.hid (HAll.out _ h5)
    clear HHe h5
    go_wp2_with fail
    (with_reducible refine HF.out.mono ?_)
    rintro e w6 ⟨rfl, rfl⟩
    clear HF
    go_wp2_with fail
    (with_reducible refine HA.out.mono ?_)
    rintro e w7 ⟨bt, bl, bh, rfl, ht⟩
    have HT := Lib.hid ht
    clear HA ht
    go_wp2_with fail
    (with_reducible refine HT.out.mono ?_)
    rintro e w8 ⟨v', rfl, h8⟩
    have HSs := Lib.hid (HSame.out _ _ h8)
    clear HT h8
    go_wp2_with fail
    (with_reducible refine HSs.out.mono ?_)
    rintro e w9 ⟨rfl, h9⟩
    have H9 := Lib.hid h9
    clear HSs h9
    go_wp2
    go_ret
    exact ⟨rfl, H9.out⟩
  · have hl0 : l ≠ [] := fun e => hN0 (by rw [← HN.out, e]; rfl)
    obtain ⟨m, l', hl⟩ := List.exists_cons_of_ne_nil hl0
    obtain ⟨z, hz⟩ : ∃ z, l.getLast? = some z := ⟨_, List.getLast?_eq_some_getLast hl0⟩
    have e1 : minR l = .tuple #[.int .i64 m.1, .int .i64 m.2, .bool true] := by rw [hl]; rfl
    have e2 : maxR l = .tuple #[.int .i64 z.1, .int .i64 z.2, .bool true] := by unfold maxR; rw [hz]; rfl
    rw [e1] at HMin
    rw [e2] at HMax
    obtain ⟨M, hM⟩ : ∃ M, N - 1 = M := ⟨_, rfl⟩
    have q1 : l[0]? = some m := by rw [hl]; rfl
    have q2 : l[M]? = some z := by rw [← hz, List.getLast?_eq_getElem?, HN.out, hM]
    have j1 := (List.getElem?_eq_some_iff.1 q1)
    have j2 := (List.getElem?_eq_some_iff.1 q2)
    obtain ⟨g, o, rfl, hg, c0, c1⟩ := Hcell.out 0 j1.1
    obtain ⟨g', o', e', -, c2, c3⟩ := Hcell.out M j2.1
    injection e' with e'
    injection e' with e' e''
    subst e' e''
    rw [j1.2] at c0 c1
    rw [j2.2] at c2 c3
    rw [Nat.zero_mul, Nat.add_zero] at c0 c1
    obtain ⟨mk, mv⟩ := m
    obtain ⟨zk, zv⟩ := z
    simp only at HMin HMax c0 c1 c2 c3
    have r1 : decide ((N : Int) > 0) = true := by simp; omega
    have r2 : IntKind.i64.wrap ((N : Int) - 1) = M := by rw [IntWalk.i64_in _ (by omega)]; omega
    have r3 : (M : Int) < N := by omega
    have r4 : 0 < N := by omega
    have n1 := run_neq_pr mk mv mk mv
    have n2 := run_neq_pr zk zv zk zv
    have n0 : ∀ a b : Int, (!(a == a && b == b)) = false := fun a b => by simp
    rw [n0] at n1 n2
    clear e1 e2 hl hz q1 q2 j1 j2 hl0 hM Hcell n0
    go_enter Try.func35, Try.ntmps35
    go_wp2_with fail
    (with_reducible refine HMin.out.mono ?_)
    rintro e w1 ⟨rfl, hb1⟩
    have HM := Lib.hid (HMax.out _ hb1)
    have HB1 := Lib.hid hb1
    clear HMin HMax hb1
    go_wp2_with fail
    (with_reducible refine HM.out.mono ?_)
    rintro e w2 ⟨rfl, hb2⟩
    have HB2 := Lib.hid (HB1.out.trans (hb2.mono HB1.out.size))
    clear HM HB1 hb2
    have HL := Lib.hid (HLen.out _ HB2.out)
    have HV := Lib.hid (HVal.out _ HB2.out)
    replace c0 := (HB2.out.cell (p := ⟨g, o, none⟩) hg).trans c0
    replace c1 := (HB2.out.cell (p := ⟨g, o + 1, none⟩) hg).trans c1
    replace c2 := (HB2.out.cell (p := ⟨g, o + M * 2, none⟩) hg).trans c2
    replace c3 := (HB2.out.cell (p := ⟨g, o + M * 2 + 1, none⟩) hg).trans c3
    replace hg := Nat.lt_of_lt_of_le hg HB2.out.size
    go_wp2_with fail
    (with_reducible refine HL.out.mono ?_)
    rintro e w3 ⟨rfl, rfl⟩
    clear HL
    go_wp2_with fail
    (with_reducible refine HV.out.mono ?_)
    rintro e w4 ⟨rfl, h4⟩
    have HHe := Lib.hid (HHei.out _ h4)
    clear HV h4
    go_wp2_with fail
    (with_reducible refine HHe.out.mono ?_)
    rintro e w5 ⟨rfl, h5⟩
    have HF := Lib.hid (HFit.out w5)
    have HA := Lib.hid (HAll.out _ h5)
    clear HHe h5
    go_wp2_with fail
    (with_reducible refine HF.out.mono ?_)
    rintro e w6 ⟨rfl, rfl⟩
    clear HF
    go_wp2_with fail
    (with_reducible refine HA.out.mono ?_)
    rintro e w7 ⟨bt, bl, bh, rfl, ht⟩
    have HT := Lib.hid ht
    clear HA ht
    go_wp2_with fail
    (with_reducible refine HT.out.mono ?_)
    rintro e w8 ⟨v', rfl, h8⟩
    have HSs := Lib.hid (HSame.out _ _ h8)
    clear HT h8
    go_wp2_with fail
    (with_reducible refine HSs.out.mono ?_)
    rintro e w9 ⟨rfl, h9⟩
    have H9 := Lib.hid h9
    clear HSs h9
    go_wp2
    go_ret
    exact ⟨rfl, H9.out⟩
end Go.Proofs.Ytldofiankhimjaa
/- The laws BtreeLarge and BtreeMatchesMap, as walks. -/
namespace Go.Proofs.Ytldofiankhimjaa
open Go Go.RowKit
theorem St.start0 (w : World) : St w [] [] w := ⟨[], rfl, Tr.refl w []⟩
set_option maxHeartbeats 4000000 in
set_option maxRecDepth 20000 in
theorem large_calls (n : Int) (ops : List (Int × Int × Int)) (v : Value) (W : World) (hv : OpsAt W v ops) :
    Calls Try.prog 9 #[.int .i64 n, v] W fun e w' => e = .returned (.bool true) ∧ Below W.heap.size W w' := by
  have HA := Lib.hid (awake_calls W W [] [] (St.start0 W))
  have HP : RowKit.Hid (ops.length < 1000000 → ∀ w, St W [] [] w → Calls Try.prog 24 #[.int .i64 n, v] w fun e w' => ∃ tb h v', e = .returned (.tuple #[ptrI tb, v', .bool true]) ∧ St W [] (objI (clampO n) h (playM ops) tb :: prA v' (playM ops) :: []) w') := fun h1 w hs => play_calls n ops v W w [] hv h1 hs
  obtain ⟨hm, a, c, rfl, hc, -⟩ := hv
  have hpl := playM_len ops
  obtain ⟨N, hN⟩ : ∃ N, ops.length = N := ⟨_, rfl⟩
  have HN := Lib.hid hN
  have HPL : RowKit.Hid ((playM ops).length ≤ N) := by rw [← hN]; exact hpl
  rw [hN] at HP ⊢
  clear hm hc hpl hN
  go_enter Try.func9, Try.ntmps9
  go_wp2_with fail
  (with_reducible refine HA.out.mono ?_)
  rintro e w1 ⟨rfl, h1⟩
  have H1 := Lib.hid h1
  clear h1 HA
  by_cases hb : N > 600
  · have ht : decide ((N : Int) > 600) = true := by simp; omega
    clear hb
    go_wp2
    go_ret
    exact ⟨rfl, H1.out.below0⟩
  · have ht : decide ((N : Int) > 600) = false := by simp; omega
    have HP1 := Lib.hid (HP.out (by omega) w1 H1.out)
    have HB := Lib.hid hb
    unfold ptrI at HP1
    clear hb HP H1
    go_wp2_with fail
    (with_reducible refine HP1.out.mono ?_)
    rintro e w2 ⟨tb, h, v', rfl, h2⟩
    have HSm := Lib.hid (same_calls n h (playM ops) v' tb W w2 [] [] (by have := HPL.out; have := HB.out; omega) h2)
    unfold ptrI at HSm
    clear h2 HP1
    go_wp2_with fail
    (with_reducible refine HSm.out.mono ?_)
    rintro e w3 ⟨rfl, h3⟩
    have H3 := Lib.hid h3
    clear h3 HSm
    go_wp2
    go_ret
    exact ⟨rfl, H3.out.below0⟩
theorem OpsAt.take {w : World} {a : Option Addr} {n c : Nat} {ops : List (Int × Int × Int)} (h : OpsAt w (.slice a n c) ops) (i : Nat) (hi : i ≤ ops.length) : OpsAt w (.slice a i c) (ops.take i) := by
  obtain ⟨h1, a', c', e, h2, h3⟩ := h
  injection e with e1 e2 e3
  subst e1 e3
  have hl : (ops.take i).length = i := by rw [List.length_take, Nat.min_eq_left hi]
  refine ⟨by omega, a, c, by rw [hl], by omega, fun j hj => ?_⟩
  obtain ⟨g, o, e, hg, c0, c1, c2, c3⟩ := h3 j (by omega)
  have ej : (ops.take i)[j] = ops[j]'(by omega) := List.getElem_take
  rw [ej]
  exact ⟨g, o, e, hg, c0, c1, c2, c3⟩
set_option maxHeartbeats 4000000 in
set_option maxRecDepth 20000 in
theorem matches_calls (n : Int) (ops : List (Int × Int × Int)) (v : Value) (W : World) (hv : OpsAt W v ops) :
    Calls Try.prog 8 #[.int .i64 n, v] W fun e w' => e = .returned (.bool true) ∧ Below W.heap.size W w' := by
  have HA := Lib.hid (awake_calls W W [] [] (St.start0 W))
  have HV := Lib.hid hv
  obtain ⟨hm, a, c, rfl, hc, hcell⟩ := hv
  have HP : RowKit.Hid (ops.length < 1000000 → ∀ i, i ≤ ops.length → ∀ w, St W [] [] w → Calls Try.prog 24 #[.int .i64 n, .slice a i c] w fun e w' => ∃ tb h v', e = .returned (.tuple #[ptrI tb, v', .bool true]) ∧ St W [] (objI (clampO n) h (playM (ops.take i)) tb :: prA v' (playM (ops.take i)) :: []) w') := fun h1 i hi w hs => play_calls n (ops.take i) _ W w [] (HV.out.take i hi) (by rw [List.length_take]; omega) hs
  have HPL : RowKit.Hid (∀ i, (playM (ops.take i)).length ≤ ops.length) := fun i => by
    have := playM_len (ops.take i)
    rw [List.length_take] at this
    omega
  have Hcell : RowKit.Hid (0 < ops.length → ∃ g o, a = some ⟨g, o, none⟩) := fun h0 => by
    obtain ⟨g, o, e, -⟩ := hcell 0 h0
    exact ⟨g, o, e⟩
  obtain ⟨N, hN⟩ : ∃ N, ops.length = N := ⟨_, rfl⟩
  rw [hN] at HP HPL Hcell hc ⊢
  clear hm hcell HV hN
  go_enter Try.func8, Try.ntmps8
  go_wp2_with fail
  (with_reducible refine HA.out.mono ?_)
  rintro e w1 ⟨rfl, h1⟩
  have H1 := Lib.hid h1
  clear h1 HA
  by_cases hb : N > 80
  · have ht : decide ((N : Int) > 80) = true := by simp; omega
    clear hb
    go_wp2
    go_ret
    exact ⟨rfl, H1.out.below0⟩
  · have ht : decide ((N : Int) > 80) = false := by simp; omega
    have HB := Lib.hid hb
    clear hb
    go_wp2
    go_loopg [16] N (fun g z wr => ∃ k : Nat, z = .int .i64 k ∧ g + k = N ∧ RowKit.Hid (St W [] [] wr))
    case atStart => exact ⟨0, rfl, rfl, H1⟩
    case round =>
      clear H1
      obtain ⟨k, rfl, hgk, Hs⟩ := hrel
      by_cases hk : k < N
      · have HP1 := Lib.hid (HP.out (by have := HB.out; omega) (k + 1) (by omega) wr Hs.out)
        obtain ⟨g, o, rfl⟩ := Hcell.out (by omega)
        have hkn : (k : Int) < N := by omega
        have hNb : N ≤ 80 := by have := HB.out; omega
        have Hgk := Lib.hid hgk
        unfold ptrI at HP1
        clear HP Hs hgk
        go_wp2_with fail
        (with_reducible refine HP1.out.mono ?_)
        rintro e w2 ⟨tb, h, v', rfl, h2⟩
        have HSm := Lib.hid (same_calls n h (playM (ops.take (k + 1))) v' tb W w2 [] [] (by have := HPL.out (k + 1); have := HB.out; omega) h2)
        unfold ptrI at HSm
        clear h2 HP1
        go_wp2_with fail
        (with_reducible refine HSm.out.mono ?_)
        rintro e w3 ⟨rfl, h3⟩
        have H3 : RowKit.Hid (St W [] [] w3) := h3.drop.drop
        clear h3 HSm
        go_wp2
        go_roundg (gk - 1)
        case rel => exact ⟨k + 1, by go_num, by have := Hgk.out; omega, H3⟩
        case measure => have := Hgk.out; omega
      · obtain rfl : k = N := by omega
        clear hgk hk
        go_wp2
        go_ret
        exact ⟨rfl, Hs.out.below0⟩
end Go.Proofs.Ytldofiankhimjaa
/- The law BtreeEmpties, as a walk. -/
namespace Go.Proofs.Ytldofiankhimjaa
open Go Go.RowKit
theorem getM_at {l : MI} (ha : AscM l) {j : Nat} {k x : Int} (h : l[j]? = some (k, x)) : getM l k = some x := by
  have e := split_at h
  rw [e] at ha ⊢
  obtain ⟨-, -, h1, -⟩ := ha.mid
  exact getM_here h1 rfl
theorem delM_lenSome {l : MI} {k : Int} {x : Int} (h : getM l k = some x) : (delM l k).length + 1 = l.length := by
  induction l with
  | nil => cases h
  | cons y l ih =>
    unfold getM at h
    unfold delM
    by_cases hy : eqK y.1 k = true
    · rw [if_pos hy]; rfl
    · rw [if_neg hy] at h ⊢
      rw [List.length_cons, List.length_cons, ih h]
set_option maxHeartbeats 8000000 in
set_option maxRecDepth 20000 in
theorem empties_calls (n : Int) (ops : List (Int × Int × Int)) (v : Value) (st : Nat) (hst : st < 256) (W : World) (hv : OpsAt W v ops) :
    Calls Try.prog 7 #[.int .i64 n, v, .int .u8 st] W fun e w' => e = .returned (.bool true) ∧ Below W.heap.size W w' := by
  have HA := Lib.hid (awake_calls W W [] [] (St.start0 W))
  have HP : RowKit.Hid (ops.length < 1000000 → ∀ w, St W [] [] w → Calls Try.prog 24 #[.int .i64 n, v] w fun e w' => ∃ tb h v', e = .returned (.tuple #[ptrI tb, v', .bool true]) ∧ St W [] (objI (clampO n) h (playM ops) tb :: prA v' (playM ops) :: []) w') := fun h1 w hs => play_calls n ops v W w [] hv h1 hs
  obtain ⟨hm, a, c, rfl, hc, -⟩ := hv
  have hpl := playM_len ops
  obtain ⟨N, hN⟩ : ∃ N, ops.length = N := ⟨_, rfl⟩
  have HPL : RowKit.Hid ((playM ops).length ≤ N) := by rw [← hN]; exact hpl
  rw [hN] at HP ⊢
  have Ho := Lib.hid (clampO_lo n)
  have Ho' := Lib.hid (clampO_hi n)
  clear hm hc hpl hN
  go_enter Try.func7, Try.ntmps7
  go_wp2_with fail
  (with_reducible refine HA.out.mono ?_)
  rintro e w1 ⟨rfl, h1⟩
  have H1 := Lib.hid h1
  clear h1 HA
  by_cases hb : N > 120
  · have ht : decide ((N : Int) > 120) = true := by simp; omega
    clear hb
    go_wp2
    go_ret
    exact ⟨rfl, H1.out.below0⟩
  · have ht : decide ((N : Int) > 120) = false := by simp; omega
    have HP1 := Lib.hid (HP.out (by omega) w1 H1.out)
    have HB := Lib.hid hb
    unfold ptrI at HP1
    clear hb HP H1
    go_wp2_with fail
    (with_reducible refine HP1.out.mono ?_)
    rintro e w2 ⟨tb, h, v', rfl, h2⟩
    have H2 := Lib.hid h2
    have HPb : RowKit.Hid ((playM ops).length < 1000) := by have := HPL.out; have := HB.out; show _ < _; omega
    clear h2 HP1 HPL HB
    generalize playM ops = l0 at *
    go_wp2
    go_loopg [8, 10] l0.length (fun g z8 z10 wr => ∃ i : Nat, z10 = .int .i64 i ∧ i < 1000000 ∧ RowKit.Hid (∃ l h, l.length = g ∧ g < 1000 ∧ St W [] (objI (clampO n) h l tb :: prA z8 l :: []) wr))
    case atStart => exact ⟨0, rfl, by omega, ⟨l0, h, rfl, HPb.out, H2.out⟩⟩
    case round =>
      clear H2 HPb
      obtain ⟨i, rfl, hi, Hs⟩ := hrel
      obtain ⟨l, h, hl, hg, hs⟩ := Hs.out
      clear Hs
      have Hl := Lib.hid hl
      have Hs := Lib.hid hs
      have hasc := hs.asc
      obtain ⟨_, hpr⟩ := hs.has 1 rfl
      obtain ⟨hm, a8, c8, rfl, hc8, hcell⟩ := prA_at hpr
      by_cases h0 : gk = 0
      · subst h0
        obtain rfl : l = [] := List.length_eq_zero_iff.1 hl
        obtain ⟨_, hob⟩ := hs.has 0 rfl
        have HMin := Lib.hid (MinI_calls Ho.out Ho'.out tb wr hob)
        rw [show minR ([] : MI) = .tuple #[.int .i64 0, .int .i64 0, .bool false] from rfl] at HMin
        have HLen : RowKit.Hid (∀ w', Below wr.heap.size wr w' → Calls Try.prog 14 #[.pointer (some ⟨tb, 0, none⟩)] w' fun e w'' => e = .returned (.int .i64 0) ∧ w' = w'') := fun w' hb => by
          obtain ⟨_, hob⟩ := (Hs.out.mono hb).has 0 rfl
          exact LenI_calls tb w' hob
        have HHei : RowKit.Hid (∀ w', Below wr.heap.size wr w' → Calls Try.prog 33 #[.pointer (some ⟨tb, 0, none⟩)] w' fun e w'' => e = .returned (.int .i64 0) ∧ Below w'.heap.size w' w'') := fun w' hb => by
          obtain ⟨_, hob⟩ := (Hs.out.mono hb).has 0 rfl
          exact HeightI_calls Ho.out Ho'.out (by simp) tb w' hob
        rw [List.length_nil]
        clear hl hs hasc hpr hm hcell hob hc8
        go_wp2_with fail
        (with_reducible refine HMin.out.mono ?_)
        rintro e w3 ⟨rfl, hb3⟩
        have HL := Lib.hid (HLen.out _ hb3)
        have HH := Lib.hid (HHei.out _ hb3)
        have HB3 := Lib.hid (Hs.out.mono hb3)
        clear hb3 HMin HLen HHei Hs
        go_wp2_with fail
        (with_reducible refine HL.out.mono ?_)
        rintro e w4 ⟨rfl, rfl⟩
        go_wp2_with fail
        (with_reducible refine HH.out.mono ?_)
        rintro e w5 ⟨rfl, hb5⟩
        have HB5 := Lib.hid (HB3.out.mono hb5)
        clear hb5 HH HL HB3
        go_wp2
        go_ret
        exact ⟨rfl, HB5.out.below0⟩
      · obtain ⟨j, hj⟩ : ∃ j, (i + st) % gk = j := ⟨_, rfl⟩
        have hjl : j < gk := by rw [← hj]; exact Nat.mod_lt _ (by omega)
        have hjt : Int.tmod ((i : Int) + st) gk = j := by
          rw [← Int.natCast_add, Int.tmod_eq_emod_of_nonneg (by omega), ← Int.natCast_emod, hj]
        obtain ⟨g, o, rfl, hgs, c0, c1⟩ := hcell j (by omega)
        obtain ⟨k, x, hkx⟩ : ∃ k x, l[j]'(by omega) = (k, x) := ⟨_, _, rfl⟩
        rw [hkx] at c0 c1
        have hjl3 : j < l.length := by omega
        have hget : getM l k = some x := getM_at hasc ((List.getElem?_eq_getElem hjl3).trans (congrArg some hkx))
        have hdl := delM_lenSome hget
        have hlb : l.length < 1099511627775 := by omega
        have HD := Lib.hid (DeleteI_calls Ho.out Ho'.out h l tb k W wr [] _ hlb hs)
        rw [hget, show ((some x).map valI).getD (.int .i64 0) = .int .i64 x from rfl, show (some x).isSome = true from rfl] at HD
        unfold ptrI encI at HD
        have Hdl : RowKit.Hid ((delM l k).length = gk - 1) := Nat.eq_sub_of_add_eq (hdl.trans hl)
        have Hkx : RowKit.Hid (l[j]? = some (k, x)) := (List.getElem?_eq_getElem hjl3).trans (congrArg some hkx)
        have Hdf := Lib.hid (delF_delM hasc k)
        have Hgk : RowKit.Hid (gk < 1000) := hg
        have hg0 : 0 < gk := by omega
        rw [hl]
        rw [hl] at hc8
        have hjg : (j : Int) < gk := by omega
        have hgp : decide ((gk : Int) > 0) = true := by simp; omega
        clear hl hs hasc hpr hm hcell hj hkx hget hdl Hs h0 hlb hjl3
        go_wp2_with fail
        (with_reducible refine HD.out.mono ?_)
        rintro e w3 ⟨rfl, h', h3⟩
        have H3 := Lib.hid h3
        obtain ⟨_, hpr⟩ := h3.has 1 rfl
        obtain ⟨hm, a9, c9, e9, hc9, hcell⟩ := prA_at hpr
        obtain ⟨hjl2, hkx⟩ := List.getElem?_eq_some_iff.1 Hkx.out
        obtain ⟨g', o', e', hgs3, -, c3⟩ := hcell j hjl2
        rw [hkx] at c3
        have e9' := (Value.slice.inj e9).1
        rw [e'] at e9'
        injection e9' with e9'
        injection e9' with eg eo
        subst eg eo
        have HVal := Lib.hid (ValidI_calls Ho.out Ho'.out h' (delM l k) tb W w3 [] _ (by have := Hdl.out; have := Hgk.out; omega) h3)
        clear h3 hpr hm hcell hjl2 hkx e' e9 hc9 H3 HD c0 c1 hgs
        go_wp2_with fail
        (with_reducible refine HVal.out.mono ?_)
        rintro e w4 ⟨rfl, h4⟩
        have HRD := Lib.hid (RDelete_calls l k _ (by have := Hl.out; have := Hgk.out; omega) W w4 [] [objI (clampO n) h' (delM l k) tb] (h4.perm (List.Perm.swap _ _ _)))
        rw [Hdf.out, Hl.out] at HRD
        clear h4 HVal c3 hgs3
        go_wp2_with fail
        (with_reducible refine HRD.out.mono ?_)
        rintro e w5 ⟨v5, rfl, h5⟩
        have h6 : St W [] (objI (clampO n) h' (delM l k) tb :: prA v5 (delM l k) :: []) w5 := by
          have h7 : St W [] ([prA (.slice (some ⟨g, o, none⟩) gk c8) l] ++ [objI (clampO n) h' (delM l k) tb, prA v5 (delM l k)]) w5 := by
            refine h5.perm ?_
            classical
            refine List.perm_iff_count.2 fun a => ?_
            simp only [List.cons_append, List.nil_append, List.count_cons]
            omega
          exact St.dropAll h7
        have H6 := Lib.hid h6
        obtain ⟨_, hob⟩ := h6.has 0 rfl
        obtain ⟨_, hpr⟩ := h6.has 1 rfl
        have HHei := Lib.hid (HeightI_calls Ho.out Ho'.out (by have := Hdl.out; have := Hgk.out; omega) tb w5 hob)
        have HFit : RowKit.Hid (∀ w', Calls Try.prog 32 #[.int .i64 n, .int .i64 (gk - 1 : Nat), .int .i64 (heightR h' (delM l k) : Nat)] w' fun e w'' => e = .returned (.bool true) ∧ w' = w'') := by
          intro w'
          obtain ⟨x', rb, hg', -⟩ := obj_seesI hob
          have h8 := FitsO_calls n h' (delM l k) x' hg' (by have := Hdl.out; have := Hgk.out; omega) w'
          rw [Hdl.out] at h8
          exact h8
        obtain ⟨-, a5, c5, e5, -, -⟩ := prA_at hpr
        rw [Hdl.out] at e5
        subst e5
        generalize heightR h' (delM l k) = HH at *
        obtain ⟨gq, hgq⟩ : ∃ gq, gk - 1 = gq := ⟨_, rfl⟩
        rw [hgq] at HFit H6
        rw [hgq]
        have Hgq := Lib.hid hgq
        clear h5 h6 hob hpr HRD hgq Hdf
        go_wp2_with fail
        (with_reducible refine HHei.out.mono ?_)
        rintro e w6 ⟨rfl, hb6⟩
        have HF := Lib.hid (HFit.out w6)
        have H7 := Lib.hid (H6.out.mono hb6)
        clear hb6 HHei HFit H6
        go_wp2_with fail
        (with_reducible refine HF.out.mono ?_)
        rintro e w7 ⟨rfl, rfl⟩
        clear HF
        go_wp2
        go_roundg gq
        case rel => exact ⟨j, rfl, by have := Hgk.out; omega, ⟨delM l k, h', by rw [Hdl.out, Hgq.out], by have := Hgk.out; have := Hgq.out; omega, H7.out⟩⟩
        case measure => have := Hgq.out; omega
end Go.Proofs.Ytldofiankhimjaa
