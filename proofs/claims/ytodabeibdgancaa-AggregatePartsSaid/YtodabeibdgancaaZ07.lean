/- Part 7 of the proof: Lq, Lv, Lp -/
import Derived.Test.YtodabeibdgancaaZ04
import Derived.Test.YtodabeibdgancaaZ06
/- The plain law of AggregateParts. -/
namespace Go.Proofs.Ytodabeibdgancaa
open Go Go.RowKit
theorem pick_assoc (lt : Vl → Vl → Bool) (ht : ∀ a b c, lt a b = true → lt b c = true → lt a c = true) (h3 : ∀ a b, lt a b = false → lt b a = true ∨ a = b) (m y t : Vl) :
    (if lt t (if lt y m then y else m) then t else (if lt y m then y else m)) = (if lt (if lt t y then t else y) m then (if lt t y then t else y) else m) := by
  cases h1 : lt y m <;> cases h2 : lt t y <;> simp only [if_true, Bool.false_eq_true, if_false, h1, h2]
  · cases h4 : lt t m
    · simp
    · exfalso
      rcases h3 t y h2 with h5 | rfl
      · rw [ht _ _ _ h5 h4] at h1; cases h1
      · rw [h4] at h1; cases h1
  · rw [ht _ _ _ h2 h1]
    simp
theorem foldl_pick (lt : Vl → Vl → Bool) (ht : ∀ a b c, lt a b = true → lt b c = true → lt a c = true) (h3 : ∀ a b, lt a b = false → lt b a = true ∨ a = b) : ∀ (s : Rw) (m y : Vl),
    (y :: s).foldl (fun m v => if lt v m then v else m) m = if lt (s.foldl (fun m v => if lt v m then v else m) y) m then s.foldl (fun m v => if lt v m then v else m) y else m
  | [], m, y => rfl
  | z :: s, m, y => by
    rw [List.foldl_cons, foldl_pick lt ht h3 s _ z, foldl_pick lt ht h3 s y z]
    exact pick_assoc lt ht h3 m y _
theorem minV_app (x y : Vl) (r s : Rw) : minV x (r ++ y :: s) = minV (minV x r) [minV y s] := by
  have h := foldl_pick (fun a b => decide (cmpV a b < 0)) (fun a b c h1 h2 => by
    simp only [decide_eq_true_eq] at h1 h2 ⊢
    exact cmpV_trans h1 h2) (fun a b h => by
    simp only [decide_eq_false_iff_not, decide_eq_true_eq] at h ⊢
    rcases cmpV_range a b with e | e | e
    · omega
    · exact .inr (cmpV_zero.1 e)
    · left; rw [cmpV_swap]; omega) s (minV x r) y
  simp only [decide_eq_true_eq] at h
  unfold minV at h ⊢
  rw [List.foldl_append, h]
  rfl
theorem maxV_app (x y : Vl) (r s : Rw) : maxV x (r ++ y :: s) = maxV (maxV x r) [maxV y s] := by
  have h := foldl_pick (fun a b => decide (0 < cmpV a b)) (fun a b c h1 h2 => by
    simp only [decide_eq_true_eq] at h1 h2 ⊢
    have := cmpV_trans (a := c) (b := b) (c := a) (by rw [cmpV_swap]; omega) (by rw [cmpV_swap]; omega)
    rw [cmpV_swap]; omega) (fun a b h => by
    simp only [decide_eq_false_iff_not, decide_eq_true_eq] at h ⊢
    rcases cmpV_range a b with e | e | e
    · left; rw [cmpV_swap]; omega
    · exact .inr (cmpV_zero.1 e)
    · omega) s (maxV x r) y
  simp only [decide_eq_true_eq] at h
  unfold maxV at h ⊢
  rw [List.foldl_append, h]
  rfl
theorem nnV_app (a b : Rw) : nnV (a ++ b) = nnV a ++ nnV b := by simp [nnV]
theorem nnV_kind {l : Rw} {v : Vl} (h : v ∈ nnV l) : (v.kind != 0) = true := (List.mem_filter.1 h).2
theorem wrap_small (x : Int) (h0 : 0 ≤ x) (h1 : x < 9223372036854775808) : wrap64 x = x := by
  unfold wrap64
  omega
theorem agg_three (l : Rw) (x : Vl) (r : Rw) (h : nnV l = x :: r) : aggV 3 l = intV (sumV (x :: r)) := by
  unfold aggV
  rw [if_neg (by decide), if_neg (by decide), h]
  dsimp only
  rw [if_neg (by decide), if_neg (by decide), if_pos rfl]
theorem sumV_two (m n : Int) (h : 0 ≤ m ∧ m ≤ 40) (h2 : 0 ≤ n ∧ n ≤ 40) : sumV [intV m, intV n] = m + n := by
  have k1 : (intV m).kind = 1 := rfl
  have k2 : (intV n).kind = 1 := rfl
  have i1 : (intV m).int = m := rfl
  have i2 : (intV n).int = n := rfl
  unfold sumV
  rw [List.foldl_cons, List.foldl_cons, List.foldl_nil, if_pos k1, if_pos k2, i1, i2, wrap_small (0 + m) (by omega) (by omega), wrap_small (0 + m + n) (by omega) (by omega)]
  omega
theorem sum_two (m n : Nat) (hm : m ≤ 40) (hn : n ≤ 40) : aggV 3 [intV m, intV n] = intV ((m + n : Nat) : Int) := by
  rw [agg_three _ (intV m) [intV n] rfl, sumV_two m n (by omega) (by omega)]
  rw [Int.natCast_add]
theorem partsV (k : Int) (hk : k = 1 ∨ k = 2 ∨ k = 4 ∨ k = 5) (a b : Rw) (ha : a.length ≤ 40) (hb : b.length ≤ 40) : aggV (if k = 1 ∨ k = 2 then 3 else k) [aggV k a, aggV k b] = aggV k (a ++ b) := by
  have hna : (nnV a).length ≤ 40 := Nat.le_trans (List.length_filter_le _ _) ha
  have hnb : (nnV b).length ≤ 40 := Nat.le_trans (List.length_filter_le _ _) hb
  have hs : ∀ m n : Nat, m ≤ 40 → n ≤ 40 → aggV 3 [intV m, intV n] = intV ((m + n : Nat) : Int) := by
    intro m n hm hn
    exact sum_two m n hm hn
  rcases hk with rfl | rfl | rfl | rfl
  · simp only [true_or, if_true]
    have e1 : ∀ l : Rw, aggV 1 l = intV l.length := fun l => by unfold aggV; rw [if_pos rfl]
    rw [e1, e1, e1, hs _ _ ha hb, List.length_append]
  · simp only [or_true, if_true]
    have e1 : ∀ l : Rw, aggV 2 l = intV (nnV l).length := fun l => by unfold aggV; rw [if_neg (by decide), if_pos rfl]
    rw [e1, e1, e1, hs _ _ hna hnb, nnV_app, List.length_append]
  · have e1 : ∀ l : Rw, aggV 4 l = match nnV l with | [] => nilV | x :: r => minV x r := fun l => by
      unfold aggV
      rw [if_neg (by decide), if_neg (by decide)]
      cases nnV l <;> simp
    rw [if_neg (by decide), e1 (a ++ b), e1 [aggV 4 a, aggV 4 b], nnV_app]
    cases h1 : nnV a with
    | nil =>
      have f1 : aggV 4 a = nilV := by rw [e1, h1]
      cases h2 : nnV b with
      | nil =>
        have f2 : aggV 4 b = nilV := by rw [e1, h2]
        rw [f1, f2]; rfl
      | cons y s =>
        have f2 : aggV 4 b = minV y s := by rw [e1, h2]
        have g : (minV y s).kind != 0 := nnV_kind (by rw [h2]; exact minV_mem y s)
        rw [f1, f2]
        have : nnV [nilV, minV y s] = [minV y s] := by simp [nnV, nilV, show (minV y s).kind ≠ 0 by simpa using g]
        rw [this]; rfl
    | cons x r =>
      have f1 : aggV 4 a = minV x r := by rw [e1, h1]
      have g1 : (minV x r).kind != 0 := nnV_kind (by rw [h1]; exact minV_mem x r)
      cases h2 : nnV b with
      | nil =>
        have f2 : aggV 4 b = nilV := by rw [e1, h2]
        rw [f1, f2]
        have : nnV [minV x r, nilV] = [minV x r] := by simp [nnV, nilV, show (minV x r).kind ≠ 0 by simpa using g1]
        rw [this, List.append_nil]; rfl
      | cons y s =>
        have f2 : aggV 4 b = minV y s := by rw [e1, h2]
        have g2 : (minV y s).kind != 0 := nnV_kind (by rw [h2]; exact minV_mem y s)
        rw [f1, f2]
        have : nnV [minV x r, minV y s] = [minV x r, minV y s] := by simp [nnV, show (minV x r).kind ≠ 0 by simpa using g1, show (minV y s).kind ≠ 0 by simpa using g2]
        rw [this]
        exact (minV_app x y r s).symm
  · have e1 : ∀ l : Rw, aggV 5 l = match nnV l with | [] => nilV | x :: r => maxV x r := fun l => by
      unfold aggV
      rw [if_neg (by decide), if_neg (by decide)]
      cases nnV l <;> simp
    rw [if_neg (by decide), e1 (a ++ b), e1 [aggV 5 a, aggV 5 b], nnV_app]
    cases h1 : nnV a with
    | nil =>
      have f1 : aggV 5 a = nilV := by rw [e1, h1]
      cases h2 : nnV b with
      | nil =>
        have f2 : aggV 5 b = nilV := by rw [e1, h2]
        rw [f1, f2]; rfl
      | cons y s =>
        have f2 : aggV 5 b = maxV y s := by rw [e1, h2]
        have g : (maxV y s).kind != 0 := nnV_kind (by rw [h2]; exact maxV_mem y s)
        rw [f1, f2]
        have : nnV [nilV, maxV y s] = [maxV y s] := by simp [nnV, nilV, show (maxV y s).kind ≠ 0 by simpa using g]
        rw [this]; rfl
    | cons x r =>
      have f1 : aggV 5 a = maxV x r := by rw [e1, h1]
      have g1 : (maxV x r).kind != 0 := nnV_kind (by rw [h1]; exact maxV_mem x r)
      cases h2 : nnV b with
      | nil =>
        have f2 : aggV 5 b = nilV := by rw [e1, h2]
        rw [f1, f2]
        have : nnV [maxV x r, nilV] = [maxV x r] := by simp [nnV, nilV, show (maxV x r).kind ≠ 0 by simpa using g1]
        rw [this, List.append_nil]; rfl
      | cons y s =>
        have f2 : aggV 5 b = maxV y s := by rw [e1, h2]
        have g2 : (maxV y s).kind != 0 := nnV_kind (by rw [h2]; exact maxV_mem y s)
        rw [f1, f2]
        have : nnV [maxV x r, maxV y s] = [maxV x r, maxV y s] := by simp [nnV, show (maxV x r).kind ≠ 0 by simpa using g1, show (maxV y s).kind ≠ 0 by simpa using g2]
        rw [this]
        exact (maxV_app x y r s).symm
end Go.Proofs.Ytodabeibdgancaa
/- append of many values to a row of one's own. -/
namespace Go.Proofs.Ytodabeibdgancaa
open Go Go.RowKit
theorem wpList_vals {w : World} {ops : Array Oper} {rest : List Oper} {o : Oper} {a : Act} {Q : Exit → Act → World → Prop} (hgd : o.guard = none) (s x : Operand)
    (ho : o.op = .call { callee := .builtin .append, args := #[s, x], argTypes := #[22, 22] })
    (B : Nat) (R M : Rw) (v : Value) (hs : a.eval s = v) (hown : RowO w B R v) (ad : Addr) (m c : Nat) (hx : a.eval x = .slice (some ad) m c) (hm : m = M.length)
    (hsrc : ∀ j u, (flat M)[j]? = some u → w.cell? (ad.add j) = some u) (htx : ∀ v ∈ M, v.text.size ≤ maxLen)
    (hlen : R.length + m ≤ 1099511627776) (hB : B ≤ w.heap.size)
    (h : ∀ v' w', RowO w' B (R ++ M) v' → Below B w w' → wpList Try.prog ops Q rest (a.put o.dst v') w') : wpList Try.prog ops Q (o :: rest) a w := by
  obtain ⟨i0, ii, iz0, iz1, iz2⟩ := info_parts Try.info26'
  refine wpList_append_own w hgd s x 22 ho B 26 i0 (.agg #[.int .i64 0, .int .i64 0, .string ⟨#[]⟩]) 3 32 Try.underlying22 ii iz0 iz1 iz2 rfl (by decide) v _ (flat R) hs hown.1 ad m c (flat M) hx (by rw [length_flat, hm]) hsrc (one_flat M) (by unfold maxLen; omega) (by omega) hB ?_
  intro v' w' ho' hg _
  refine h v' w' ⟨?_, ?_⟩ ((Below.refl _ _).grown hg hB fun g hg' => (hown.1.lt g hg').1)
  · have e : flat (R ++ M) = flat R ++ flat M := by simp [flat]
    rw [List.length_append, e, ← hm]; exact ho'
  · intro u hu
    rcases List.mem_append.1 hu with hu | hu
    · exact hown.2 u hu
    · exact htx u hu
theorem rowO_lit (w : World) : RowO (w.alloc (.cells #[] 26)) w.heap.size [] (.slice (some ⟨w.heap.size, 0, none⟩) 0 0) :=
  ⟨World.ownsRow_lit (e := 26) (size := 3) w #[] 0 (Nat.le_refl _) (by simp) (by simp), by simp⟩
end Go.Proofs.Ytodabeibdgancaa
/- AggregateParts: the walk. -/
namespace Go.Proofs.Ytodabeibdgancaa
open Go Go.RowKit
set_option maxHeartbeats 8000000 in
set_option maxRecDepth 20000 in
theorem partsLaw_calls (a b : Rw) (s t : Value) (w : World) (hs : ValsAt w a s) (ht : ValsAt w b t) :
    Calls Try.prog 3 #[s, t] w fun e w' => e = .returned (.bool true) ∧ Below w.heap.size w w' := by
  have HS := Lib.hid hs
  have HT := Lib.hid ht
  obtain ⟨a0, n, c, rfl, hn, -⟩ := hs.shape
  obtain ⟨b0, m, d, rfl, hm, -⟩ := ht.shape
  have Hn := Lib.hid hn
  have Hm := Lib.hid hm
  have HA := Lib.hid (awake_calls w)
  clear hs ht hn hm
  go_enter Try.func3, Try.ntmps3
  go_wp2_with fail
  (with_reducible refine HA.out.mono ?_)
  rintro e w1 ⟨rfl, hb1⟩
  have HS1 := Lib.hid (HS.out.mono hb1)
  have HT1 := Lib.hid (HT.out.mono hb1)
  have Hb1 := Lib.hid hb1
  clear hb1 HA HS HT
  by_cases h1 : (40 : Int) < n
  · go_wp2_with fail
    go_ret
    exact ⟨rfl, Hb1.out⟩
  by_cases h2 : (40 : Int) < m
  · go_wp2_with fail
    go_ret
    exact ⟨rfl, Hb1.out⟩
  go_upto_region 5 with (fail)
  have hE := rowO_lit w1
  have hb0 : Below w1.heap.size w1 (w1.alloc (.cells #[] 26)) := (Below.refl _ _).alloc (Nat.le_refl _) _
  have HE := Lib.hid (And.intro hE hb0)
  clear hE hb0
  go_cut [5] from 20 to 24 (fun z5 wx => RowKit.Hid (ValsAt wx (a ++ b) z5 ∧ Below w1.heap.size w1 wx))
  case first =>
    rcases vals_src HS1.out with ⟨rfl, rfl, rfl, rfl⟩ | ⟨ad, rfl, hsa⟩
    · rcases vals_src HT1.out with ⟨rfl, rfl, rfl, rfl⟩ | ⟨bd, rfl, hsb⟩
      · go_wp2
        go_meet
        exact Lib.hid ⟨HE.out.1.vals, HE.out.2⟩
      · have HB := Lib.hid (fun j u hj => (HE.out.2.cell (World.block_lt_of_cell? _ _ (hsb j u hj))).trans (hsb j u hj))
        clear hsb
        go_wp2_with (at_builtin; refine wpList_vals rfl _ _ rfl w1.heap.size [] b _ rfl HE.out.1 bd m d rfl Hm.out HB.out HT1.out.txt (by simp; omega) HE.out.2.size ?_)
        intro v' w' ho' hb'
        have HF := Lib.hid (show ValsAt w' ([] ++ b) v' ∧ Below w1.heap.size w1 w' from ⟨ho'.vals, HE.out.2.trans hb'⟩)
        clear ho' hb'
        go_wp2
        go_meet
        exact HF
    · have HAs := Lib.hid (fun j u hj => (HE.out.2.cell (World.block_lt_of_cell? _ _ (hsa j u hj))).trans (hsa j u hj))
      clear hsa
      go_wp2_with (at_builtin; refine wpList_vals rfl _ _ rfl w1.heap.size [] a _ rfl HE.out.1 ad n c rfl Hn.out HAs.out HS1.out.txt (by simp; omega) HE.out.2.size ?_)
      intro v' w' ho' hb'
      rcases ho'.1.2 with ⟨rfl, -⟩ | ⟨vg, vc, vcur, rfl, -, -, hle, hmx, -⟩
      · have HV := Lib.hid (And.intro ho' (HE.out.2.trans hb'))
        clear ho' hb'
        rcases vals_src HT1.out with ⟨rfl, rfl, rfl, rfl⟩ | ⟨bd, rfl, hsb⟩
        · go_wp2
          go_meet
          exact Lib.hid ⟨by rw [List.append_nil]; exact HV.out.1.vals, HV.out.2⟩
        · have HB := Lib.hid (fun j u hj => (HV.out.2.cell (World.block_lt_of_cell? _ _ (hsb j u hj))).trans (hsb j u hj))
          clear hsb
          go_wp2_with (at_builtin; refine wpList_vals rfl _ _ rfl w1.heap.size a b _ rfl HV.out.1 bd m d rfl Hm.out HB.out HT1.out.txt (by have := Hn.out; omega) HV.out.2.size ?_)
          intro v2 w2 ho2 hb2
          have HF := Lib.hid (show ValsAt w2 (a ++ b) v2 ∧ Below w1.heap.size w1 w2 from ⟨ho2.vals, HV.out.2.trans hb2⟩)
          clear ho2 hb2
          go_wp2
          go_meet
          exact HF
      · have hmx' : vc ≤ 9223372036854775807 := by unfold maxLen at hmx; omega
        clear hmx
        have HV := Lib.hid (And.intro ho' (HE.out.2.trans hb'))
        clear ho' hb'
        rcases vals_src HT1.out with ⟨rfl, rfl, rfl, rfl⟩ | ⟨bd, rfl, hsb⟩
        · go_wp2
          go_meet
          exact Lib.hid ⟨by rw [List.append_nil]; exact HV.out.1.vals, HV.out.2⟩
        · have HB := Lib.hid (fun j u hj => (HV.out.2.cell (World.block_lt_of_cell? _ _ (hsb j u hj))).trans (hsb j u hj))
          clear hsb
          go_wp2_with (at_builtin; refine wpList_vals rfl _ _ rfl w1.heap.size a b _ rfl HV.out.1 bd m d rfl Hm.out HB.out HT1.out.txt (by have := Hn.out; omega) HV.out.2.size ?_)
          intro v2 w2 ho2 hb2
          have HF := Lib.hid (show ValsAt w2 (a ++ b) v2 ∧ Below w1.heap.size w1 w2 from ⟨ho2.vals, HV.out.2.trans hb2⟩)
          clear ho2 hb2
          go_wp2
          go_meet
          exact HF
  obtain ⟨sa, sn, sc, rfl, -⟩ := hcut.out.1.shape
  have HC := hcut
  clear hcut HE
  have Hb2 := Lib.hid (Hb1.out.trans (HC.out.2.mono Hb1.out.size))
  have HKd := Lib.hid (show ∀ k : Nat, k < 4 → (wc.alloc (.cells #[.int .i64 1, .int .i64 2, .int .i64 4, .int .i64 5] 3)).cell? ⟨wc.heap.size, k, none⟩ = some (.int .i64 (([1, 2, 4, 5] : List Int).getD k 0)) from fun k hk => by
    rcases (by omega : k = 0 ∨ k = 1 ∨ k = 2 ∨ k = 3) with rfl | rfl | rfl | rfl <;> simp)
  have Hb3 := Lib.hid (show Below wc.heap.size wc (wc.alloc (.cells #[.int .i64 1, .int .i64 2, .int .i64 4, .int .i64 5] 3)) from (Below.refl _ _).alloc (Nat.le_refl _) _)
  have Hs3 := Lib.hid (show (wc.alloc (.cells #[.int .i64 1, .int .i64 2, .int .i64 4, .int .i64 5] 3)).heap.size = wc.heap.size + 1 by simp)
  go_wp2
  generalize wc.alloc (.cells #[.int .i64 1, .int .i64 2, .int .i64 4, .int .i64 5] 3) = W3 at *
  have HAg := Lib.hid (fun (k : Int) (R : Rw) (s : Value) (w' : World) (hs : ValsAt w' R s) (hl : R.length < 1099511627776) => aggregate_calls k R s w' hs hl)
  go_loopw [27] (fun z wr => ∃ k : Nat, k ≤ 4 ∧ z = .int .i64 k ∧ RowKit.Hid (Below W3.heap.size W3 wr)) (fun z _ => 4 - (intOf z).toNat)
  case atStart => exact ⟨0, by omega, rfl, Lib.hid (Below.refl _ _)⟩
  case round =>
    obtain ⟨k, hk, rfl, HW⟩ := hrel
    by_cases hlt : k < 4
    · obtain ⟨kk, hkk, hkd⟩ : ∃ kk : Int, W3.cell? ⟨wc.heap.size, k, none⟩ = some (.int .i64 kk) ∧ (kk = 1 ∨ kk = 2 ∨ kk = 4 ∨ kk = 5) := by
        refine ⟨_, HKd.out k hlt, ?_⟩
        rcases (by omega : k = 0 ∨ k = 1 ∨ k = 2 ∨ k = 3) with rfl | rfl | rfl | rfl <;> simp
      have hg3 : wc.heap.size < W3.heap.size := by have := Hs3.out; omega
      have hkr := (HW.out.cell (p := ⟨wc.heap.size, k, none⟩) hg3).trans hkk
      have hgl := Nat.lt_of_lt_of_le hg3 HW.out.size
      have hwr : Below w1.heap.size w1 wr := HC.out.2.trans ((Hb3.out.trans (HW.out.mono Hb3.out.size)).mono HC.out.2.size)
      have Ha := Lib.hid (HS1.out.mono hwr)
      have Hb := Lib.hid (HT1.out.mono hwr)
      have Hab := Lib.hid (HC.out.1.mono (Hb3.out.trans (HW.out.mono Hb3.out.size)))
      have Hkd := Lib.hid hkd
      have hi4 : (k : Int) < 4 := by omega
      clear hkk hg3 hwr hkd
      go_wp2_with fail
      (with_reducible refine (HAg.out kk a _ wr Ha.out (by have := Hn.out; omega)).mono ?_)
      rintro e p1 ⟨rfl, q1⟩
      have Hp1 := Lib.hid q1
      clear q1
      go_wp2_with fail
      (with_reducible refine (HAg.out kk b _ p1 (Hb.out.mono Hp1.out) (by have := Hm.out; omega)).mono ?_)
      rintro e p2 ⟨rfl, q2⟩
      have Hp2 := Lib.hid (Hp1.out.trans (q2.mono Hp1.out.size))
      clear q2
      have HP := Lib.hid (partsV kk Hkd.out a b (by have := Hn.out; omega) (by have := Hm.out; omega))
      have Hx1 := Lib.hid (aggV_text kk a Ha.out.txt)
      have Hx2 := Lib.hid (aggV_text kk b Hb.out.txt)
      generalize aggV kk a = A1 at *
      generalize aggV kk b = A2 at *
      have H2v := Lib.hid (two_vals p2 A1 A2 26 Hx1.out Hx2.out)
      obtain ⟨k1, i1, t1⟩ := A1
      obtain ⟨k2, i2, t2⟩ := A2
      simp only [Vl.val]
      have Hp3 := Lib.hid (show Below wr.heap.size wr (p2.alloc (.cells #[.int .i64 k1, .int .i64 i1, .string t1, .int .i64 k2, .int .i64 i2, .string t2] 26)) from Hp2.out.trans (((Below.refl _ _).alloc (Nat.le_refl _) _).mono Hp2.out.size))
      have Hv3 := Lib.hid (show ValsAt (p2.alloc (.cells #[.int .i64 k1, .int .i64 i1, .string t1, .int .i64 k2, .int .i64 i2, .string t2] 26)) [⟨k1, i1, t1⟩, ⟨k2, i2, t2⟩] (.slice (some ⟨p2.heap.size, 0, none⟩) 2 2) from H2v.out)
      clear H2v Hp1 Hx1 Hx2
      go_upto_region 10 with (fail)
      generalize p2.alloc (.cells #[.int .i64 k1, .int .i64 i1, .string t1, .int .i64 k2, .int .i64 i2, .string t2] 26) = p3 at *
      generalize p2.heap.size = gp at *
      rcases Hkd.out with rfl | rfl | rfl | rfl
      · have HQ := Lib.hid (show aggV 3 [⟨k1, i1, t1⟩, ⟨k2, i2, t2⟩] = aggV 1 (a ++ b) by have := HP.out; simpa using this)
        clear HP Hkd
        go_wp2_with fail
        (with_reducible refine (HAg.out 3 [⟨k1, i1, t1⟩, ⟨k2, i2, t2⟩] _ p3 Hv3.out (by simp)).mono ?_)
        rintro e p4 ⟨rfl, q4⟩
        have Hp4 := Lib.hid (Hp3.out.trans (q4.mono Hp3.out.size))
        clear q4
        rw [HQ.out]
        clear HQ
        go_wp2_with fail
        (with_reducible refine (HAg.out 1 (a ++ b) _ p4 (Hab.out.mono Hp4.out) (by have := Hn.out; have := Hm.out; rw [List.length_append]; omega)).mono ?_)
        rintro e p5 ⟨rfl, q5⟩
        have Hp5 := Lib.hid (Hp4.out.trans (q5.mono Hp4.out.size))
        clear q5
        generalize aggV 1 (a ++ b) = X at *
        obtain ⟨kx, ix, tx⟩ := X
        simp only [Vl.val]
        go_wp2
        exact ⟨⟨k + 1, by omega, by simp, Lib.hid (HW.out.trans (Hp5.out.mono HW.out.size))⟩, by simp only [intOf]; omega⟩
      · have HQ := Lib.hid (show aggV 3 [⟨k1, i1, t1⟩, ⟨k2, i2, t2⟩] = aggV 2 (a ++ b) by have := HP.out; simpa using this)
        clear HP Hkd
        go_wp2_with fail
        (with_reducible refine (HAg.out 3 [⟨k1, i1, t1⟩, ⟨k2, i2, t2⟩] _ p3 Hv3.out (by simp)).mono ?_)
        rintro e p4 ⟨rfl, q4⟩
        have Hp4 := Lib.hid (Hp3.out.trans (q4.mono Hp3.out.size))
        clear q4
        rw [HQ.out]
        clear HQ
        go_wp2_with fail
        (with_reducible refine (HAg.out 2 (a ++ b) _ p4 (Hab.out.mono Hp4.out) (by have := Hn.out; have := Hm.out; rw [List.length_append]; omega)).mono ?_)
        rintro e p5 ⟨rfl, q5⟩
        have Hp5 := Lib.hid (Hp4.out.trans (q5.mono Hp4.out.size))
        clear q5
        generalize aggV 2 (a ++ b) = X at *
        obtain ⟨kx, ix, tx⟩ := X
        simp only [Vl.val]
        go_wp2
        exact ⟨⟨k + 1, by omega, by simp, Lib.hid (HW.out.trans (Hp5.out.mono HW.out.size))⟩, by simp only [intOf]; omega⟩
      · have HQ := Lib.hid (show aggV 4 [⟨k1, i1, t1⟩, ⟨k2, i2, t2⟩] = aggV 4 (a ++ b) by have := HP.out; simpa using this)
        clear HP Hkd
        go_wp2_with fail
        (with_reducible refine (HAg.out 4 [⟨k1, i1, t1⟩, ⟨k2, i2, t2⟩] _ p3 Hv3.out (by simp)).mono ?_)
        rintro e p4 ⟨rfl, q4⟩
        have Hp4 := Lib.hid (Hp3.out.trans (q4.mono Hp3.out.size))
        clear q4
        rw [HQ.out]
        clear HQ
        go_wp2_with fail
        (with_reducible refine (HAg.out 4 (a ++ b) _ p4 (Hab.out.mono Hp4.out) (by have := Hn.out; have := Hm.out; rw [List.length_append]; omega)).mono ?_)
        rintro e p5 ⟨rfl, q5⟩
        have Hp5 := Lib.hid (Hp4.out.trans (q5.mono Hp4.out.size))
        clear q5
        generalize aggV 4 (a ++ b) = X at *
        obtain ⟨kx, ix, tx⟩ := X
        simp only [Vl.val]
        go_wp2
        exact ⟨⟨k + 1, by omega, by simp, Lib.hid (HW.out.trans (Hp5.out.mono HW.out.size))⟩, by simp only [intOf]; omega⟩
      · have HQ := Lib.hid (show aggV 5 [⟨k1, i1, t1⟩, ⟨k2, i2, t2⟩] = aggV 5 (a ++ b) by have := HP.out; simpa using this)
        clear HP Hkd
        go_wp2_with fail
        (with_reducible refine (HAg.out 5 [⟨k1, i1, t1⟩, ⟨k2, i2, t2⟩] _ p3 Hv3.out (by simp)).mono ?_)
        rintro e p4 ⟨rfl, q4⟩
        have Hp4 := Lib.hid (Hp3.out.trans (q4.mono Hp3.out.size))
        clear q4
        rw [HQ.out]
        clear HQ
        go_wp2_with fail
        (with_reducible refine (HAg.out 5 (a ++ b) _ p4 (Hab.out.mono Hp4.out) (by have := Hn.out; have := Hm.out; rw [List.length_append]; omega)).mono ?_)
        rintro e p5 ⟨rfl, q5⟩
        have Hp5 := Lib.hid (Hp4.out.trans (q5.mono Hp4.out.size))
        clear q5
        generalize aggV 5 (a ++ b) = X at *
        obtain ⟨kx, ix, tx⟩ := X
        simp only [Vl.val]
        go_wp2
        exact ⟨⟨k + 1, by omega, by simp, Lib.hid (HW.out.trans (Hp5.out.mono HW.out.size))⟩, by simp only [intOf]; omega⟩
    · obtain rfl : k = 4 := by omega
      have HF := Lib.hid (Hb2.out.trans ((Hb3.out.trans (HW.out.mono Hb3.out.size)).mono Hb2.out.size))
      clear HW
      go_wp2
      go_ret
      exact ⟨rfl, HF.out⟩
end Go.Proofs.Ytodabeibdgancaa
