/- Part 2 of the proof: RfB, RfO, RfT, MxI, NwI, RfC, InsI -/
import Derived.Test.YtldofiankhimjaaZ01
import Derived.Deep.LoopGhost
import Derived.IntWalk
import Derived.Test.YtldofiankhimjaaZ00
import Derived.Deep.DeepCutAuto
/- The reference's Between. -/
namespace Go.Proofs.Ytldofiankhimjaa
open Go Go.RowKit
def betF (a b : Int) (l : MI) : MI := l.filter fun y => decide (y.1 ≥ a) && decide (y.1 < b)
theorem betF_snoc (a b : Int) (l : MI) (y : Int × Int) : betF a b (l ++ [y]) = if decide (y.1 ≥ a) && decide (y.1 < b) then betF a b l ++ [y] else betF a b l := by
  unfold betF
  rw [List.filter_append]
  cases h : decide (y.1 ≥ a) && decide (y.1 < b) <;> simp only [List.filter_cons, h] <;> simp
set_option maxHeartbeats 4000000 in
set_option maxRecDepth 20000 in
theorem RBetween_calls (l : MI) (a0 b0 : Int) (v : Value) (hlen : l.length < 1099511627775) (w0 w : World) (fp0 : List Nat) (R : List Asn) (hS : St w0 fp0 (prA v l :: R) w) :
    Calls Try.prog 30 #[v, .int .i64 a0, .int .i64 b0] w fun e w' => ∃ v', e = .returned v' ∧ St w0 fp0 (prA v' (betF a0 b0 l) :: prA v l :: R) w' := by
  obtain ⟨_, hp⟩ := hS.has 0 rfl
  obtain ⟨a, c, rfl, hc, hm, -⟩ := row_shape hp
  obtain ⟨n, hn⟩ : ∃ n, l.length = n := ⟨_, rfl⟩
  rw [hn] at hS ⊢
  have Hn := Lib.hid hn
  have HS := Lib.hid hS
  have hm2 : n ≤ 9223372036854775807 := by unfold maxLen at hm; omega
  have Hlen := Lib.hid hlen
  clear hp hc hm hn hS hlen
  go_enter Try.func30, Try.ntmps30
  go_wp2
  go_loopg [7, 8] n (fun g z1 z2 wr => ∃ i : Nat, g + i = n ∧ z2 = .int .i64 i ∧ RowKit.Hid (St w0 fp0 (prA z1 (betF a0 b0 (l.take i)) :: prA (.slice a n c) l :: R) wr))
  case atStart => exact ⟨0, rfl, rfl, HS.out.nilR 51 2⟩
  case round =>
    obtain ⟨i, hi, rfl, H1⟩ := hrel
    by_cases hin : i < n
    · have hil : i < l.length := by have := Hn.out; omega
      obtain ⟨_, hp⟩ := H1.out.has 1 rfl
      obtain ⟨_, _, e1, -, -, hcs⟩ := row_shape hp
      replace e1 := (Value.slice.inj e1).1
      obtain ⟨g0, e2, hg, c0, -⟩ := hcs (i * 2) (by omega)
      rw [← e1] at e2
      subst e2
      clear e1 hcs hp
      obtain ⟨y, hy⟩ : ∃ y, l[i]? = some y := ⟨_, List.getElem?_eq_getElem hil⟩
      obtain ⟨t0, -⟩ := entsI_at l i hil
      rw [t0, (List.getElem?_eq_some_iff.1 hy).2, show encI y.1 = .int .i64 y.1 from rfl] at c0
      have hin' : (i : Int) < n := by omega
      have Hy := Lib.hid hy
      have Hi := Lib.hid hi
      have Hin := Lib.hid hin
      clear hil hi hin t0 hy
      obtain ⟨X, hX⟩ : ∃ X, y.1 = X := ⟨_, rfl⟩
      rw [hX] at c0
      obtain ⟨t, ht⟩ : ∃ t, (decide (X ≥ a0)) = t := ⟨_, rfl⟩
      obtain ⟨t2, ht2⟩ : ∃ t2, (decide (X < b0)) = t2 := ⟨_, rfl⟩
      have Ht : RowKit.Hid ((decide (X ≥ a0) && decide (X < b0)) = (t && t2)) := by show _ = _; rw [ht, ht2]
      have HX := Lib.hid hX
      clear hX
      cases t with
      | true =>
        cases t2 with
        | true =>
          have Hup : RowKit.Hid (betF a0 b0 (l.take (i + 1)) = betF a0 b0 (l.take i) ++ [y]) := by
            show _ = _
            rw [take_snoc Hy.out, betF_snoc, HX.out, Ht.out]; rfl
          have hl2 : (betF a0 b0 (l.take i)).length + 1 < 1099511627776 := by
            have h1 : (betF a0 b0 (l.take i)).length ≤ (l.take i).length := List.length_filter_le _ _
            have h2 := List.length_take_le i l
            have := Hin.out
            have := Hn.out
            have := Hlen.out
            omega
          have Hl2 := Lib.hid hl2
          clear hl2
          go_upto_region 6 with (fail)
          refine rRb6I (w0 := w0) (fp0 := fp0) g0 n c i u7 l (betF a0 b0 (l.take i)) y Hn.out.symm Hin.out Hy.out Hl2.out R _ (by kernel_rfl) rfl rfl rfl rfl ?_ ?_
          · have h0 : St w0 fp0 (emp :: pureA (u7 = u7) :: prA u7 (betF a0 b0 (l.take i)) :: prA (.slice (some ⟨g0, 0, none⟩) n c) l :: R) wr := St.emp.2 (St.pure.2 ⟨rfl, H1.out⟩)
            exact h0.perm (List.Perm.cons _ (List.Perm.swap _ _ _))
          intro u w3 h3
          have h4 : St w0 fp0 (boxsA 51 (u 36) #[.int .i64 y.1, .int .i64 y.2] :: pureA (u 7 = u 37) :: prA (u 37) (betF a0 b0 (l.take i) ++ [y]) :: prA (.slice (some ⟨g0, 0, none⟩) n c) l :: R) w3 := h3.perm (List.Perm.cons _ (List.Perm.swap _ _ _))
          obtain ⟨eu, h5⟩ := St.pure.1 h4.drop
          rw [← eu, ← Hup.out] at h5
          have H5 := Lib.hid h5
          clear h3 h4 h5 eu
          simp only [putL, List.map, List.foldl, Act.put, List.setIfInBounds_toArray, List.set_cons_succ, List.set_cons_zero]
          go_wp2
          go_roundg (n - (i + 1))
          case rel => exact ⟨i + 1, by have := Hin.out; omega, by go_num, H5⟩
          case measure => have := Hi.out; have := Hin.out; omega
        | false =>
          have Hup : RowKit.Hid (betF a0 b0 (l.take (i + 1)) = betF a0 b0 (l.take i)) := by
            show _ = _
            rw [take_snoc Hy.out, betF_snoc, HX.out, Ht.out]; rfl
          go_wp2
          go_roundg (n - (i + 1))
          case rel => exact ⟨i + 1, by have := Hin.out; omega, by go_num, by rw [Hup.out]; exact H1.out⟩
          case measure => have := Hi.out; have := Hin.out; omega
      | false =>
        have Hup : RowKit.Hid (betF a0 b0 (l.take (i + 1)) = betF a0 b0 (l.take i)) := by
          show _ = _
          rw [take_snoc Hy.out, betF_snoc, HX.out, Ht.out]; rfl
        go_wp2
        go_roundg (n - (i + 1))
        case rel => exact ⟨i + 1, by have := Hin.out; omega, by go_num, by rw [Hup.out]; exact H1.out⟩
        case measure => have := Hi.out; have := Hin.out; omega
    · obtain rfl : i = n := by omega
      have hfin : RowKit.Hid (betF a0 b0 (l.take i) = betF a0 b0 l) := by
        show _ = _
        rw [List.take_of_length_le (by have := Hn.out; omega)]
      clear hin hi
      go_wp2
      go_ret
      exact ⟨_, rfl, by rw [← hfin.out]; exact H1.out⟩
end Go.Proofs.Ytldofiankhimjaa
/- The reference's Order; Delete's list is the map without the key. -/
namespace Go.Proofs.Ytldofiankhimjaa
open Go Go.RowKit
/-- The order that New makes of its argument. -/
def ordR (n : Int) : Int := if n < 3 then 3 else if n > 1024 then 1024 else n
theorem Order_calls (n : Int) (w : World) : Calls Try.prog 55 #[.int .i64 n] w fun e w' => e = .returned (.int .i64 (ordR n)) ∧ w = w' := by
  by_cases h1 : n < 3
  · have ht : decide (n < 3) = true := by simp [h1]
    have Hr : RowKit.Hid (ordR n = 3) := by show _ = _; simp [ordR, h1]
    clear h1
    go_enter Try.func55, Try.ntmps55
    go_wp2
    go_ret
    exact ⟨by rw [Hr.out]; rfl, rfl⟩
  · by_cases h2 : n > 1024
    · have ht : decide (n < 3) = false := by simp; omega
      have ht2 : decide (n > 1024) = true := by simp; omega
      have Hr : RowKit.Hid (ordR n = 1024) := by show _ = _; simp [ordR, h1, h2]
      clear h1 h2
      go_enter Try.func55, Try.ntmps55
      go_wp2
      go_ret
      exact ⟨by rw [Hr.out]; rfl, rfl⟩
    · have ht : decide (n < 3) = false := by simp; omega
      have ht2 : decide (n > 1024) = false := by simp; omega
      have Hr : RowKit.Hid (ordR n = n) := by show _ = _; simp [ordR, h1, h2]
      clear h1 h2
      go_enter Try.func55, Try.ntmps55
      go_wp2
      go_ret
      exact ⟨by rw [Hr.out]; rfl, rfl⟩
theorem delF_delM {l : MI} (ha : AscM l) (k : Int) : delF k l = delM l k := by
  induction l with
  | nil => rfl
  | cons y l ih =>
    obtain ⟨h1, h2⟩ := AscM.cons.1 ha
    have hk : delF k (y :: l) = if y.1 = k then delF k l else y :: delF k l := by
      unfold delF
      by_cases h : y.1 = k <;> simp [h]
    rw [hk]
    by_cases h : y.1 = k
    · rw [if_pos h]
      have e : delM (y :: l) k = l := by
        have := delM_here (l := []) (m := l) (x := y) (k := k) (AllLt.nil k) h
        simpa using this
      rw [e]
      unfold delF
      rw [List.filter_eq_self]
      intro x hx
      have := ltK_ne (h1 x hx)
      rw [h] at this
      simp
      exact fun e => this e.symm
    · rw [if_neg h, ih h2]
      have : delM (y :: l) k = y :: delM l k := by
        rcases ltK_tri y.1 k with h3 | h3 | h3
        · have := delM_lt (l := [y]) (k := k) (by intro x hx; rw [List.mem_singleton.1 hx]; exact h3) l
          simpa using this
        · exact absurd h3 h
        · have h4 : AllGt k l := fun x hx => ltK_trans h3 (h1 x hx)
          have h5 : AllGt k (y :: l) := by
            intro x hx
            rcases List.mem_cons.1 hx with rfl | hx
            · exact h3
            · exact h4 x hx
          have e1 := delM_none (l := []) (m := y :: l) (AllLt.nil k) h5
          have e2 := delM_none (l := []) (m := l) (AllLt.nil k) h4
          simp only [List.nil_append] at e1 e2
          rw [e1, e2]
      rw [this]
theorem betF_selM (a b : Int) (l : MI) : betF a b l = selM (some a) (some b) l := by
  unfold betF selM
  congr 1
  funext y
  have h1 : ∀ u v : Int, decide (ltK u v) = decide (u < v) := fun u v => by rw [decide_eq_decide]; exact ltK_int u v
  simp only [inR, h1]
  congr 1
  rw [← decide_not]
  simp
end Go.Proofs.Ytldofiankhimjaa
/- The reference's Fits: a number of keys that fits an order and a height. -/
namespace Go.Proofs.Ytldofiankhimjaa
open Go Go.RowKit
/-- low and high after i rounds. -/
def loF (h : Nat) : Nat → Nat | 0 => 1 | i + 1 => if i = 0 then loF h i else loF h i * h
def hiF (o : Nat) : Nat → Nat | 0 => 1 | i + 1 => min (hiF o i * o) 2000000
theorem loF_mono {h : Nat} (hh : 1 ≤ h) (i : Nat) : ∀ d, loF h i ≤ loF h (i + d)
  | 0 => Nat.le_refl _
  | d + 1 => by
    refine Nat.le_trans (loF_mono hh i d) ?_
    show _ ≤ if i + d = 0 then _ else _
    split
    · exact Nat.le_refl _
    · exact Nat.le_mul_of_pos_right _ hh
theorem hiF_le (o i : Nat) : hiF o i ≤ 2000000 := by cases i <;> simp [hiF]; omega
theorem loF_pow (h i : Nat) : loF h (i + 1) = h ^ i := by
  induction i with
  | zero => rfl
  | succ i ih => show (if i + 1 = 0 then _ else _) = _; rw [if_neg (by omega), ih, Nat.pow_succ]
theorem hiF_pow {o : Nat} (ho : 1 ≤ o) (i : Nat) : hiF o i = min (o ^ i) 2000000 := by
  induction i with
  | zero => rfl
  | succ i ih =>
    show min (hiF o i * o) 2000000 = _
    rw [ih, Nat.pow_succ]
    by_cases h : o ^ i ≤ 2000000
    · rw [Nat.min_eq_left h]
    · have h1 : 2000000 ≤ o ^ i * o := Nat.le_trans (by omega) (Nat.le_mul_of_pos_right _ ho)
      have h2 : 2000000 ≤ 2000000 * o := Nat.le_mul_of_pos_right _ ho
      rw [Nat.min_eq_right (by omega : 2000000 ≤ o ^ i), Nat.min_eq_right h1, Nat.min_eq_right h2]
theorem ordR_nat (n : Int) : ∃ o : Nat, ordR n = o ∧ 3 ≤ o ∧ o ≤ 1024 := by
  have h : 3 ≤ ordR n ∧ ordR n ≤ 1024 := by
    unfold ordR
    split
    · omega
    · split <;> omega
  exact ⟨(ordR n).toNat, by omega, by omega, by omega⟩
set_option maxHeartbeats 4000000 in
theorem Fits_calls (n : Int) (o l h : Nat) (ho : ordR n = o) (h1 : 2 * ((o + 1) / 2) ^ h ≤ l + 1) (h2 : l + 1 ≤ o ^ (h + 1)) (hl : l < 1000000) (hl0 : 0 < l) (hH : h < 1000000) (w : World) :
    Calls Try.prog 32 #[.int .i64 n, .int .i64 l, .int .i64 (h + 1 : Nat)] w fun e w' => e = .returned (.bool true) ∧ w = w' := by
  obtain ⟨o', ho', h3, h4⟩ := ordR_nat n
  obtain rfl : o' = o := by omega
  clear ho'
  obtain ⟨H, hH'⟩ : ∃ H, H = h + 1 := ⟨_, rfl⟩
  have Hh : RowKit.Hid (H = h + 1) := hH'
  have HO : RowKit.Hid (∀ w, Calls Try.prog 55 #[.int .i64 n] w fun e w' => e = .returned (.int .i64 o') ∧ w = w') := fun w => by
    have := Order_calls n w
    rw [ho] at this
    exact this
  have hlo : RowKit.Hid (∀ i, i ≤ H → 2 * loF ((o' + 1) / 2) i ≤ l + 1) := by
    intro i hi
    have e := loF_mono (h := (o' + 1) / 2) (by omega) i (H - i)
    rw [show i + (H - i) = h + 1 by omega, loF_pow] at e
    omega
  have hfin : RowKit.Hid (2 * loF ((o' + 1) / 2) H ≤ l + 1 ∧ l + 1 ≤ hiF o' H) := by
    refine ⟨hlo.out H (Nat.le_refl _), ?_⟩
    rw [hiF_pow (by omega), hH', Nat.le_min]
    exact ⟨h2, by omega⟩
  have hH0 : 0 < H := by omega
  have hHb : H ≤ 1000000 := by omega
  rw [← hH']
  clear h1 h2 hH hH' ho
  obtain ⟨q, hq⟩ : ∃ q, (o' + 1) / 2 = q := ⟨_, rfl⟩
  rw [hq] at hlo hfin
  have Hq := Lib.hid hq
  have hq1 : ((o' : Int) + 1).tdiv 2 = q := by rw [Int.tdiv_eq_ediv_of_nonneg (by omega)]; omega
  have hq2 : q ≤ 512 := by omega
  have Hb3 := Lib.hid h3
  clear hq h3
  go_enter Try.func32, Try.ntmps32
  have hg1 : ((l : Int) == 0) = false := beq_false_of_ne (by omega)
  have hg2 : decide ((H : Int) < 1) = false := by simp; omega
  go_wp2_with fail
  (with_reducible refine (HO.out w).mono ?_)
  rintro e w1 ⟨rfl, rfl⟩
  go_wp2
  clear hg1 hg2
  go_loopg [8, 9, 10] H (fun g z8 z9 z10 wr => ∃ i : Nat, i + g = H ∧ z8 = .int .i64 (loF q i : Nat) ∧ z9 = .int .i64 (hiF o' i : Nat) ∧ z10 = .int .i64 i ∧ w = wr)
  case atStart => exact ⟨0, Nat.zero_add _, rfl, rfl, rfl, rfl⟩
  case round =>
    obtain ⟨i, hi, rfl, rfl, rfl, rfl⟩ := hrel
    have hy : hiF o' i ≤ 2000000 := hiF_le o' i
    by_cases hiH : i < H
    · have hX : 2 * loF q i ≤ l + 1 := hlo.out i (by omega)
      have hX' : 2 * loF q (i + 1) ≤ l + 1 := hlo.out (i + 1) (by omega)
      have hY' : hiF o' (i + 1) = min (hiF o' i * o') 2000000 := rfl
      have hlt : decide ((i : Int) < H) = true := by simp; omega
      obtain ⟨P, hP⟩ : ∃ P, hiF o' i * o' = P := ⟨_, rfl⟩
      have hPb : P ≤ 2000000 * 1024 := by rw [← hP]; exact Nat.mul_le_mul hy h4
      have hPi : ((hiF o' i : Nat) : Int) * (o' : Int) = (P : Nat) := by rw [← hP, Int.natCast_mul]
      rw [hP] at hY'
      have HE : RowKit.Hid (hiF o' (i + 1) = min P 2000000) := hY'
      have HI : RowKit.Hid (i + gk = H) := hi
      obtain ⟨Z, hZ⟩ : ∃ Z, loF q (i + 1) = Z := ⟨_, rfl⟩
      have HZ := Lib.hid hZ
      rw [hZ] at hX'
      have hz2 : decide ((Z : Int) > 2000000) = false := by simp; omega
      by_cases h0 : i = 0
      · have hXe : loF q i = Z := by rw [← hZ, h0]; rfl
        rw [hXe] at hX ⊢
        generalize hiF o' i = Y at *
        have hg : ¬ 0 < i := by omega
        clear hP hY' hi hZ hXe h0 hX hX' hlo hfin
        by_cases hp : P ≤ 2000000
        · have hq3 : decide ((P : Int) > 2000000) = false := by simp; omega
          have HE2 : RowKit.Hid (hiF o' (i + 1) = P) := by show _ = _; rw [HE.out]; omega
          clear HE hp
          go_wp2_with fail
          (with_reducible refine (HO.out _).mono ?_)
          rintro e w1 ⟨rfl, rfl⟩
          go_wp2
          go_roundg (gk - 1)
          case rel => exact ⟨i + 1, by have := HI.out; omega, by rw [HZ.out], by rw [HE2.out], by go_num, rfl⟩
          case measure => have := HI.out; omega
        · have hq3 : decide ((P : Int) > 2000000) = true := by simp; omega
          have HE2 : RowKit.Hid (hiF o' (i + 1) = 2000000) := by show _ = _; rw [HE.out]; omega
          clear HE hp
          go_wp2_with fail
          (with_reducible refine (HO.out _).mono ?_)
          rintro e w1 ⟨rfl, rfl⟩
          go_wp2
          go_roundg (gk - 1)
          case rel => exact ⟨i + 1, by have := HI.out; omega, by rw [HZ.out], by rw [HE2.out]; rfl, by go_num, rfl⟩
          case measure => have := HI.out; omega
      · have hXe : loF q i * q = Z := by rw [← hZ]; show _ = if i = 0 then _ else _; rw [if_neg h0]
        have hXi : ((loF q i : Nat) : Int) * (q : Int) = (Z : Nat) := by rw [← hXe, Int.natCast_mul]
        generalize hiF o' i = Y at *
        generalize loF q i = X at *
        have hg : 0 < i := by omega
        clear hP hY' hi hZ hXe h0 hlo hfin
        by_cases hp : P ≤ 2000000
        · have hq3 : decide ((P : Int) > 2000000) = false := by simp; omega
          have HE2 : RowKit.Hid (hiF o' (i + 1) = P) := by show _ = _; rw [HE.out]; omega
          clear HE hp
          go_wp2_with fail
          (with_reducible refine (HO.out _).mono ?_)
          rintro e w1 ⟨rfl, rfl⟩
          go_wp2
          go_roundg (gk - 1)
          case rel => exact ⟨i + 1, by have := HI.out; omega, by rw [HZ.out], by rw [HE2.out], by go_num, rfl⟩
          case measure => have := HI.out; omega
        · have hq3 : decide ((P : Int) > 2000000) = true := by simp; omega
          have HE2 : RowKit.Hid (hiF o' (i + 1) = 2000000) := by show _ = _; rw [HE.out]; omega
          clear HE hp
          go_wp2_with fail
          (with_reducible refine (HO.out _).mono ?_)
          rintro e w1 ⟨rfl, rfl⟩
          go_wp2
          go_roundg (gk - 1)
          case rel => exact ⟨i + 1, by have := HI.out; omega, by rw [HZ.out], by rw [HE2.out]; rfl, by go_num, rfl⟩
          case measure => have := HI.out; omega
    · obtain rfl : i = H := by omega
      obtain ⟨f1, f2⟩ := hfin.out
      have hlt : decide ((i : Int) < i) = false := by simp
      generalize loF q i = X at *
      generalize hiF o' i = Y at *
      have hc1 : decide ((l : Int) ≥ 2 * (X : Int) - 1) = true := by simp; omega
      have hc2 : decide ((l : Int) ≤ (Y : Int) - 1) = true := by simp; omega
      clear hlo hfin
      go_wp2
      go_ret
      exact ⟨by simp [], rfl⟩
end Go.Proofs.Ytldofiankhimjaa
/- max, Min, Max, Height (I). -/
namespace Go.Proofs.Ytldofiankhimjaa
open Go.RowKit
/-- A node with entries that is looked at. -/
structure PosI (w : World) (o : Nat) (P : Nat → TI → Prop) (h : Nat) (x : TI) (b : Nat) : Prop where
  sees : SeesI w h x b
  body : ∃ lo, Body o h lo (o - 1) x
  pos : 0 < x.es.length
  prop : P h x
theorem PosI.below {w w' : World} {o : Nat} {P : Nat → TI → Prop} {h : Nat} {x : TI} {b : Nat} (hs : PosI w o P h x b) (hb : Below w.heap.size w w') : PosI w' o P h x b := ⟨hs.sees.below hb, hs.body, hs.pos, hs.prop⟩
theorem last_at {α : Type} {l : List α} {m : α} (h : l.getLast? = some m) : l[l.length - 1]? = some m := by rw [← h, List.getLast?_eq_getElem?]
set_option maxHeartbeats 4000000 in
theorem maxI_calls {o : Nat} (ho : 3 ≤ o) (ho' : o ≤ 1024) (h : Nat) (x : TI) (b : Nat) (m : Int × Int) (w : World) (hS : PosI w o (fun h x => maxT h x = some m) h x b) :
    Calls Try.prog 74 #[.pointer (some ⟨b, 0, none⟩)] w fun e w' => e = .returned (.tuple #[encI m.1, valI m.2]) ∧ Below w.heap.size w w' := by
  have HS := Lib.hid hS
  have Ho := Lib.hid ho
  have Ho' := Lib.hid ho'
  obtain ⟨kk, hkk⟩ : ∃ kk, encI m.1 = kk := ⟨_, rfl⟩
  obtain ⟨vv, hvv⟩ : ∃ vv, valI m.2 = vv := ⟨_, rfl⟩
  have Hkk := Lib.hid hkk
  have Hvv := Lib.hid hvv
  rw [hkk, hvv]
  clear hS ho ho' hkk hvv
  go_enter Try.func74, Try.ntmps74
  go_wp2
  go_loopg [0] h (fun n z wr => ∃ x b, z = .pointer (some ⟨b, 0, none⟩) ∧ RowKit.Hid (PosI wr o (fun h x => maxT h x = some m) n x b) ∧ RowKit.Hid (Below w.heap.size w wr))
  case atStart => exact ⟨x, b, rfl, HS, Below.refl _ _⟩
  case round =>
    obtain ⟨y, b, rfl, Ha, Hb⟩ := hrel
    clear HS
    obtain ⟨lo, hbd⟩ := Ha.out.body
    have hpos := Ha.out.pos
    have hmx := Ha.out.prop
    obtain ⟨ks, va, vc, pa, pc, hn⟩ := Ha.out.sees.node
    obtain ⟨c0, c1, c2, cl⟩ := hn.cells
    obtain ⟨_, hbk⟩ := hn.blk
    have HL := Lib.hid (leafI_calls b ks _ pa y.cs.length pc wr hbk)
    unfold ptrI at HL
    have hn40 : y.es.length < 1099511627776 := by have := hbd.hi; have := Ho'.out; omega
    cases gk with
    | zero =>
      have hcs : y.cs.length = 0 := by rw [hbd.2.2]; rfl
      rw [hcs] at HL c2
      have hm := last_at (show y.es.getLast? = some m from hmx)
      have hi := (List.getElem?_eq_some_iff.1 hm).1
      obtain ⟨gv, rfl, hgv, hcv⟩ := hn.vals _ hi
      obtain ⟨ka, kc, rfl, hkm, hcells⟩ := hn.keys.shape
      obtain ⟨gk, rfl, hgk, hck⟩ := hcells _ hi
      rw [(List.getElem?_eq_some_iff.1 hm).2] at hcv hck
      rw [Hkk.out] at hck
      rw [Hvv.out] at hcv
      obtain ⟨i, hi'⟩ : ∃ i, y.es.length - 1 = i := ⟨_, rfl⟩
      rw [hi'] at hcv hck hi
      obtain ⟨n, hn'⟩ : ∃ n, y.es.length = n := ⟨_, rfl⟩
      rw [hn'] at hi hi' c0 c1 hn40
      have e1 : IntKind.i64.wrap ((n : Int) - 1) = i := by rw [IntWalk.i64_in _ (by omega)]; omega
      have e2 : (i : Int) < n := by omega
      have Hb1 : RowKit.Hid (∀ n, Below w.heap.size w (wr.drewN n)) := fun n => Hb.out.trans ((below_drewN wr n).mono Hb.out.size)
      clear hbd hpos hmx hn hbk hcs hm hkm hcells hi' hn' Ha
      go_wp2_with fail
      (with_reducible refine HL.out.mono ?_)
      rintro e w1 ⟨rfl, rfl⟩
      clear HL
      go_wp2
      go_quiet (fail)
      go_wp2
      exact bodyPost_ret (v := .tuple #[kk, vv]) (by simp [results, Try.results74, go_sem]) rfl ⟨rfl, Hb1.out _⟩
    | succ g =>
      obtain ⟨b1, b2, b3, b4⟩ := hbd
      obtain ⟨c, hc⟩ : ∃ c, y.cs.getLast? = some c := ⟨_, List.getLast?_eq_some_getLast (ne_nil (by omega))⟩
      have hcl := last_at hc
      have hi := (List.getElem?_eq_some_iff.1 hcl).1
      obtain ⟨gp, cb, rfl, hgp, hcp, hkid⟩ := hn.kids _ _ hcl
      have hz : (y.cs.length == 0) = false := beq_false_of_ne (by omega)
      rw [hz] at HL
      have hcb := b4 c (List.mem_of_getLast? hc)
      have HA2 : RowKit.Hid (∀ n, PosI (wr.drewN n) o (fun h x => maxT h x = some m) g c cb) := fun n => ⟨(hkid _ rfl).below (below_drewN _ _), ⟨_, hcb⟩, by have := hcb.lo; have := (least_two Ho.out).1; omega, by show maxT g c = _; rw [← hmx]; simp [maxT, hc]⟩
      obtain ⟨i, hi'⟩ : ∃ i, y.cs.length - 1 = i := ⟨_, rfl⟩
      rw [hi'] at hcp hi
      have hn41 : y.cs.length < 1099511627777 := by omega
      obtain ⟨n, hn'⟩ : ∃ n, y.cs.length = n := ⟨_, rfl⟩
      rw [hn'] at hi hi' c2 hn41
      have e1 : IntKind.i64.wrap ((n : Int) - 1) = i := by rw [IntWalk.i64_in _ (by omega)]; omega
      have e2 : (i : Int) < n := by omega
      have Hb1 : RowKit.Hid (∀ n, Below w.heap.size w (wr.drewN n)) := fun n => Hb.out.trans ((below_drewN wr n).mono Hb.out.size)
      clear b1 b2 b3 b4 hpos hmx hn hbk hc hcl hkid hz hcb hi' hn' Ha
      go_wp2_with fail
      (with_reducible refine HL.out.mono ?_)
      rintro e w1 ⟨rfl, rfl⟩
      clear HL
      go_wp2
      go_quiet (fail)
      go_wp2
      go_roundg g
      case rel => exact ⟨c, cb, rfl, HA2.out _, Hb1.out _⟩
      case measure => omega
theorem toL_pos {κ ν : Type} {o h lo hi : Nat} {x : T κ ν} (_ : Body o h lo hi x) (hp : 0 < x.es.length) : 0 < (toL h x).length := Nat.lt_of_lt_of_le hp (sub_toL h x).length_le
theorem toL_kid0 {κ ν : Type} {o h lo hi : Nat} {x : T κ ν} (ho : 3 ≤ o) (hb : Body o (h + 1) lo hi x) (hp : 0 < x.es.length) : ∃ c C, x.cs = c :: C ∧ Body o h (least o) (o - 1) c ∧ 0 < c.es.length ∧ (toL h c).head? = (toL (h + 1) x).head? ∧ (toL h c).length + 1 ≤ (toL (h + 1) x).length := by
  obtain ⟨b1, b2, b3, b4⟩ := hb
  obtain ⟨es, cs⟩ := x
  cases cs with
  | nil => simp [es_node, cs_node] at b3
  | cons c C =>
    have hc := b4 c (by simp [cs_node])
    have hcp : 0 < c.es.length := by have := hc.lo; have := (least_two ho).1; omega
    have hl := toL_pos hc hcp
    refine ⟨c, C, rfl, hc, hcp, ?_, ?_⟩
    · rw [toL_cons]
      cases hh : toL h c with
      | nil => rw [hh] at hl; simp at hl
      | cons a b => rfl
    · rw [toL_cons, List.length_append]
      have := (sub_post (f := toL h) es C).length_le
      simp only [es_node] at hp
      omega
theorem height_le {κ ν : Type} {o : Nat} (ho : 3 ≤ o) : ∀ {h lo hi : Nat} {x : T κ ν}, Body o h lo hi x → 0 < x.es.length → h + 1 ≤ (toL h x).length
  | 0, lo, hi, x, hb, hp => toL_pos hb hp
  | h + 1, lo, hi, x, hb, hp => by
    obtain ⟨c, C, _, h2, h3, _, h5⟩ := toL_kid0 ho hb hp
    have := height_le ho h2 h3
    omega
theorem GoodI.pos {o h : Nat} {l : M Int Int} {x : TI} (_ho : 3 ≤ o) (hg : GoodI o h l x) (hl : 0 < l.length) : 0 < x.es.length := by
  obtain ⟨g1, g2, g3⟩ := hg
  cases h with
  | zero => rw [← g3] at hl; exact hl
  | succ h => have := g1.lo; simp [rootB] at this; omega
def minR (l : M Int Int) : Value := match l.head? with
  | none => .tuple #[(.int .i64 0), (.int .i64 0), .bool false]
  | some m => .tuple #[encI m.1, valI m.2, .bool true]
def maxR (l : M Int Int) : Value := match l.getLast? with
  | none => .tuple #[(.int .i64 0), (.int .i64 0), .bool false]
  | some m => .tuple #[encI m.1, valI m.2, .bool true]
set_option maxHeartbeats 4000000 in
theorem MaxI_calls {o h : Nat} {l : M Int Int} (ho : 3 ≤ o) (ho' : o ≤ 1024) (tb : Nat) (w : World) {f : List Nat} (hS : (objI o h l tb).p w f) :
    Calls Try.prog 56 #[.pointer (some ⟨tb, 0, none⟩)] w fun e w' => e = .returned (maxR l) ∧ Below w.heap.size w w' := by
  obtain ⟨x, rb, hg, hs, _, hb⟩ := obj_seesI hS
  have c0 := (blk_get hb).1 0
  have c2 := (blk_get hb).1 2
  have cl := (blk_get hb).2.2
  simp only [List.getElem?_toArray, List.getElem?_cons_zero, List.getElem?_cons_succ] at c0 c2
  cases l with
  | nil =>
    have hR : RowKit.Hid (maxR [] = .tuple #[(.int .i64 0), (.int .i64 0), .bool false]) := rfl
    replace c2 : w.cell? ⟨tb, 2, none⟩ = some (.int .i64 0) := c2
    clear hb hS hs hg
    go_enter Try.func56, Try.ntmps56
    go_wp2
    exact bodyPost_ret (v := .tuple #[(.int .i64 0), (.int .i64 0), .bool false]) (by simp [results, Try.results56, go_sem]) rfl ⟨by rw [hR.out], Below.refl _ _⟩
  | cons e l =>
    have hp := hg.pos ho (by simp)
    obtain ⟨g1, g2, g3⟩ := hg
    obtain ⟨L, m, hm, hL⟩ := max_spec ho g1 hp
    have HM := Lib.hid (maxI_calls ho ho' h x rb m w ⟨hs, ⟨_, g1⟩, hp, hm⟩)
    have hR : RowKit.Hid (maxR (e :: l) = .tuple #[encI m.1, valI m.2, .bool true]) := by
      show _ = _
      unfold maxR
      rw [← g3, hL, List.getLast?_concat]
    obtain ⟨n, hn⟩ : ∃ n, (e :: l).length = n := ⟨_, rfl⟩
    have hn0 : ((n : Int) == 0) = false := by
      have : 0 < n := by rw [← hn]; simp
      exact beq_false_of_ne (by omega)
    rw [hn] at c2
    obtain ⟨kk, hkk⟩ : ∃ kk, encI m.1 = kk := ⟨_, rfl⟩
    obtain ⟨vv, hvv⟩ : ∃ vv, valI m.2 = vv := ⟨_, rfl⟩
    rw [hkk, hvv] at HM hR
    clear hb hS hs g1 g2 g3 hm hL hp hn hkk hvv
    go_enter Try.func56, Try.ntmps56
    go_wp2_with fail
    (with_reducible refine HM.out.mono ?_)
    rintro e w1 ⟨rfl, hb1⟩
    have Hb1 := Lib.hid hb1
    clear hb1 c0 c2 cl
    go_wp2
    exact bodyPost_ret (v := .tuple #[kk, vv, .bool true]) (by simp [results, Try.results56, go_sem]) rfl ⟨by rw [hR.out], Hb1.out⟩
set_option maxHeartbeats 4000000 in
theorem MinI_calls {o h : Nat} {l : M Int Int} (ho : 3 ≤ o) (ho' : o ≤ 1024) (tb : Nat) (w : World) {f : List Nat} (hS : (objI o h l tb).p w f) :
    Calls Try.prog 34 #[.pointer (some ⟨tb, 0, none⟩)] w fun e w' => e = .returned (minR l) ∧ Below w.heap.size w w' := by
  obtain ⟨x, rb, hg, hs, _, hb⟩ := obj_seesI hS
  have c0 := (blk_get hb).1 0
  have c2 := (blk_get hb).1 2
  have cl := (blk_get hb).2.2
  simp only [List.getElem?_toArray, List.getElem?_cons_zero, List.getElem?_cons_succ] at c0 c2
  cases l with
  | nil =>
    have hR : RowKit.Hid (minR [] = .tuple #[(.int .i64 0), (.int .i64 0), .bool false]) := rfl
    replace c2 : w.cell? ⟨tb, 2, none⟩ = some (.int .i64 0) := c2
    clear hb hS hs hg
    go_enter Try.func34, Try.ntmps34
    go_wp2
    exact bodyPost_ret (v := .tuple #[(.int .i64 0), (.int .i64 0), .bool false]) (by simp [results, Try.results34, go_sem]) rfl ⟨by rw [hR.out], Below.refl _ _⟩
  | cons m l =>
    have hp := hg.pos ho (by simp)
    obtain ⟨g1, g2, g3⟩ := hg
    have HS : RowKit.Hid (PosI w o (fun h x => (toL h x).head? = some m) h x rb) := ⟨hs, ⟨_, g1⟩, hp, by rw [g3]; rfl⟩
    have hR : RowKit.Hid (minR (m :: l) = .tuple #[encI m.1, valI m.2, .bool true]) := rfl
    obtain ⟨n, hn⟩ : ∃ n, (m :: l).length = n := ⟨_, rfl⟩
    have hn0 : ((n : Int) == 0) = false := by
      have : 0 < n := by rw [← hn]; simp
      exact beq_false_of_ne (by omega)
    rw [hn] at c2
    obtain ⟨kk, hkk⟩ : ∃ kk, encI m.1 = kk := ⟨_, rfl⟩
    obtain ⟨vv, hvv⟩ : ∃ vv, valI m.2 = vv := ⟨_, rfl⟩
    rw [hkk, hvv] at hR
    have Hkk := Lib.hid hkk
    have Hvv := Lib.hid hvv
    have Ho := Lib.hid ho
    have Ho' := Lib.hid ho'
    clear hb hS hs g1 g2 g3 hp hn hkk hvv ho ho'
    go_enter Try.func34, Try.ntmps34
    go_wp2
    go_loopg [7] h (fun n z wr => ∃ x b, z = .pointer (some ⟨b, 0, none⟩) ∧ RowKit.Hid (PosI wr o (fun h x => (toL h x).head? = some m) n x b) ∧ RowKit.Hid (Below w.heap.size w wr))
    case atStart => exact ⟨x, rb, rfl, HS, Below.refl _ _⟩
    case round =>
      obtain ⟨y, b, rfl, Ha, Hb⟩ := hrel
      clear HS c0 c2 cl hn0
      obtain ⟨lo, hbd⟩ := Ha.out.body
      have hpos := Ha.out.pos
      have hmx := Ha.out.prop
      obtain ⟨ks, va, vc, pa, pc, hn⟩ := Ha.out.sees.node
      obtain ⟨c0, c1, c2, cl⟩ := hn.cells
      obtain ⟨_, hbk⟩ := hn.blk
      have HL := Lib.hid (leafI_calls b ks _ pa y.cs.length pc wr hbk)
      unfold ptrI at HL
      have hn40 : y.es.length < 1099511627776 := by have := hbd.hi; have := Ho'.out; omega
      cases gk with
      | zero =>
        have hcs : y.cs.length = 0 := by rw [hbd.2.2]; rfl
        rw [hcs] at HL c2
        obtain ⟨gv, rfl, hgv, hcv⟩ := hn.vals _ hpos
        obtain ⟨ka, kc, rfl, hkm, hcells⟩ := hn.keys.shape
        obtain ⟨gk, rfl, hgk, hck⟩ := hcells _ hpos
        have h0 : y.es[0] = m := by
          have h1 : y.es.head? = some m := hmx
          rw [List.head?_eq_getElem?, List.getElem?_eq_getElem hpos] at h1
          exact Option.some.inj h1
        rw [h0] at hcv hck
        rw [Hkk.out] at hck
        rw [Hvv.out] at hcv
        obtain ⟨n, hn'⟩ : ∃ n, y.es.length = n := ⟨_, rfl⟩
        rw [hn'] at c0 c1 hn40 hpos
        have e2 : (0 : Int) < n := by omega
        have Hb1 : RowKit.Hid (∀ n, Below w.heap.size w (wr.drewN n)) := fun n => Hb.out.trans ((below_drewN wr n).mono Hb.out.size)
        clear hbd hmx hn hbk hcs hkm hcells hn' Ha h0
        go_wp2_with fail
        (with_reducible refine HL.out.mono ?_)
        rintro e w1 ⟨rfl, rfl⟩
        clear HL
        go_wp2
        go_quiet (fail)
        go_wp2
        exact bodyPost_ret (v := .tuple #[kk, vv, .bool true]) (by simp [results, Try.results34, go_sem]) rfl ⟨by rw [hR.out], Hb1.out _⟩
      | succ g =>
        obtain ⟨c, C, hc, hcb, hcp2, hch, _⟩ := toL_kid0 Ho.out hbd hpos
        have hc0 : y.cs[0]? = some c := by rw [hc]; rfl
        have hi := (List.getElem?_eq_some_iff.1 hc0).1
        obtain ⟨gp, cb, rfl, hgp, hcp, hkid⟩ := hn.kids _ _ hc0
        have hz : (y.cs.length == 0) = false := beq_false_of_ne (by omega)
        rw [hz] at HL
        have HA2 : RowKit.Hid (∀ w', Below wr.heap.size wr w' → PosI w' o (fun h x => (toL h x).head? = some m) g c cb) := fun w' hb => ⟨(hkid _ rfl).below hb, ⟨_, hcb⟩, hcp2, by show (toL g c).head? = _; rw [hch]; exact hmx⟩
        have HB : RowKit.Hid (∀ w', Below wr.heap.size wr w' → Below w.heap.size w w') := fun w' hb => Hb.out.trans (hb.mono Hb.out.size)
        obtain ⟨n, hn'⟩ : ∃ n, y.cs.length = n := ⟨_, rfl⟩
        rw [hn'] at hi c2
        have e2 : (0 : Int) < n := by omega
        clear hbd hpos hmx hn hbk hc hc0 hkid hz hcb hch hn' Ha
        go_wp2_with fail
        (with_reducible refine HL.out.mono ?_)
        rintro e w1 ⟨rfl, rfl⟩
        clear HL
        go_wp2
        go_roundg g
        case rel => exact ⟨c, cb, rfl, HA2.out _ (Below.refl _ _), HB.out _ (Below.refl _ _)⟩
        case measure => omega
def heightR (h : Nat) (l : M Int Int) : Nat := if l = [] then 0 else h + 1
set_option maxHeartbeats 4000000 in
theorem HeightI_calls {o h : Nat} {l : M Int Int} (ho : 3 ≤ o) (ho' : o ≤ 1024) (hlen : l.length < 1099511627776) (tb : Nat) (w : World) {f : List Nat} (hS : (objI o h l tb).p w f) :
    Calls Try.prog 33 #[.pointer (some ⟨tb, 0, none⟩)] w fun e w' => e = .returned (.int .i64 (heightR h l)) ∧ Below w.heap.size w w' := by
  obtain ⟨x, rb, hg, hs, _, hb⟩ := obj_seesI hS
  have c0 := (blk_get hb).1 0
  have c2 := (blk_get hb).1 2
  have cl := (blk_get hb).2.2
  simp only [List.getElem?_toArray, List.getElem?_cons_zero, List.getElem?_cons_succ] at c0 c2
  cases l with
  | nil =>
    have hR : RowKit.Hid (heightR h [] = 0) := rfl
    replace c2 : w.cell? ⟨tb, 2, none⟩ = some (.int .i64 0) := c2
    clear hb hS hs hg
    go_enter Try.func33, Try.ntmps33
    go_wp2
    go_ret
    exact ⟨by rw [hR.out]; rfl, Below.refl _ _⟩
  | cons m l =>
    have hp := hg.pos ho (by simp)
    obtain ⟨g1, g2, g3⟩ := hg
    have HS : RowKit.Hid (PosI w o (fun _ _ => True) h x rb) := ⟨hs, ⟨_, g1⟩, hp, trivial⟩
    have hR : RowKit.Hid (heightR h (m :: l) = h + 1) := rfl
    have hh := height_le ho g1 hp
    rw [g3] at hh
    obtain ⟨n, hn⟩ : ∃ n, (m :: l).length = n := ⟨_, rfl⟩
    have hn0 : ((n : Int) == 0) = false := by
      have : 0 < n := by rw [← hn]; simp
      exact beq_false_of_ne (by omega)
    rw [hn] at c2
    have hh40 : h + 1 < 1099511627776 := by omega
    have Ho := Lib.hid ho
    have Ho' := Lib.hid ho'
    clear hb hS hs g1 g2 g3 hp hn ho ho' hh hlen
    go_enter Try.func33, Try.ntmps33
    go_wp2
    go_loopg [3, 4] h (fun n q z wr => ∃ x b, z = .pointer (some ⟨b, 0, none⟩) ∧ (∃ k : Nat, q = .int .i64 k ∧ k + n = h + 1) ∧ RowKit.Hid (PosI wr o (fun _ _ => True) n x b) ∧ RowKit.Hid (Below w.heap.size w wr))
    case atStart => exact ⟨x, rb, rfl, ⟨1, rfl, by omega⟩, HS, Below.refl _ _⟩
    case round =>
      obtain ⟨y, b, rfl, ⟨k, rfl, hk⟩, Ha, Hb⟩ := hrel
      clear HS c0 c2 cl hn0
      obtain ⟨lo, hbd⟩ := Ha.out.body
      have hpos := Ha.out.pos
      obtain ⟨ks, va, vc, pa, pc, hn⟩ := Ha.out.sees.node
      obtain ⟨c0, c1, c2, cl⟩ := hn.cells
      obtain ⟨_, hbk⟩ := hn.blk
      have HL := Lib.hid (leafI_calls b ks _ pa y.cs.length pc wr hbk)
      unfold ptrI at HL
      cases gk with
      | zero =>
        have hcs : y.cs.length = 0 := by rw [hbd.2.2]; rfl
        rw [hcs] at HL c2
        have Hk := Lib.hid hk
        clear hbd hn hbk hcs Ha hk hpos
        go_wp2_with fail
        (with_reducible refine HL.out.mono ?_)
        rintro e w1 ⟨rfl, rfl⟩
        clear HL
        go_wp2
        go_ret
        exact ⟨by rw [hR.out, ← Hk.out]; rfl, Hb.out⟩
      | succ g =>
        obtain ⟨c, C, hc, hcb, hcp2, hch, _⟩ := toL_kid0 Ho.out hbd hpos
        have hc0 : y.cs[0]? = some c := by rw [hc]; rfl
        have hi := (List.getElem?_eq_some_iff.1 hc0).1
        obtain ⟨gp, cb, rfl, hgp, hcp, hkid⟩ := hn.kids _ _ hc0
        have hz : (y.cs.length == 0) = false := beq_false_of_ne (by omega)
        rw [hz] at HL
        have HA2 : RowKit.Hid (∀ w', Below wr.heap.size wr w' → PosI w' o (fun _ _ => True) g c cb) := fun w' hb => ⟨(hkid _ rfl).below hb, ⟨_, hcb⟩, hcp2, trivial⟩
        have HB : RowKit.Hid (∀ w', Below wr.heap.size wr w' → Below w.heap.size w w') := fun w' hb => Hb.out.trans (hb.mono Hb.out.size)
        obtain ⟨n, hn'⟩ : ∃ n, y.cs.length = n := ⟨_, rfl⟩
        rw [hn'] at hi c2
        have e2 : (0 : Int) < n := by omega
        have e3 : (k : Int) + 1 ≤ 1099511627776 := by omega
        have Hk := Lib.hid hk
        clear hbd hpos hn hbk hc hc0 hkid hz hcb hch hn' Ha hk
        go_wp2_with fail
        (with_reducible refine HL.out.mono ?_)
        rintro e w1 ⟨rfl, rfl⟩
        clear HL
        go_wp2
        go_roundg g
        case rel => exact ⟨c, cb, rfl, ⟨k + 1, by go_num, by have := Hk.out; omega⟩, HA2.out _ (Below.refl _ _), HB.out _ (Below.refl _ _)⟩
        case measure => omega
end Go.Proofs.Ytldofiankhimjaa
/- New, Len, Get (I). -/
namespace Go.Proofs.Ytldofiankhimjaa
open Go.RowKit
def clampO (n : Int) : Nat := (min (max n 3) 1024).toNat
theorem clampO_lo (n : Int) : 3 ≤ clampO n := by unfold clampO; omega
theorem clampO_hi (n : Int) : clampO n ≤ 1024 := by unfold clampO; omega
theorem St.new2I {w0 w : World} {fp0 : List Nat} {R : List Asn} (hS : St w0 fp0 R w) (o : Nat) (_ho : 3 ≤ o) (c : Int) (hc : (o : Int) = c) :
    St w0 fp0 (objI o 0 [] (w.heap.size + 1) :: R) ((w.alloc (.cells #[.slice none 0 0, .slice none 0 0, .slice none 0 0] 70)).alloc (.cells #[.pointer (some ⟨w.heap.size, 0, none⟩), .int .i64 c, .int .i64 0] 72)) := by
  subst hc
  have h1 := St.atN (St.emp.2 hS) 0 rfl 70 #[.slice none 0 0, .slice none 0 0, .slice none 0 0]
  obtain ⟨b, e, h2⟩ := St.at_open h1
  injection e with e
  injection e with e
  injection e with e
  subst e
  have h3 := St.atN (St.emp.2 h2) 0 rfl 72 #[.pointer (some ⟨w.heap.size, 0, none⟩), .int .i64 o, .int .i64 0]
  obtain ⟨b, e, h4⟩ := St.at_open h3
  injection e with e
  injection e with e
  injection e with e
  have hsz : (w.alloc (.cells #[.slice none 0 0, .slice none 0 0, .slice none 0 0] 70 (0, 0))).heap.size = w.heap.size + 1 := by simp
  rw [hsz] at e
  subst e
  have h5 : St w0 fp0 (blkA w.heap.size 70 #[.slice none 0 0, .slice none 0 0, .slice none 0 0] :: slA 3 (.slice none 0 0) (keysI []) :: slA 3 (.slice none 0 0) (valsI []) :: slA 67 (.slice none 0 0) (([] : List Nat).map ptrI) :: starA (List.zipWith (kidI 0) [] []) :: blkA (w.heap.size + 1) 72 #[.pointer (some ⟨w.heap.size, 0, none⟩), .int .i64 o, .int .i64 0] :: R)
      ((w.alloc (.cells #[.slice none 0 0, .slice none 0 0, .slice none 0 0] 70)).alloc (.cells #[.pointer (some ⟨w.heap.size, 0, none⟩), .int .i64 o, .int .i64 0] 72)) := by
    have h7 : St w0 fp0 (starA [] :: (blkA (w.heap.size + 1) 72 #[.pointer (some ⟨w.heap.size, 0, none⟩), .int .i64 o, .int .i64 0] :: blkA w.heap.size 70 #[.slice none 0 0, .slice none 0 0, .slice none 0 0] :: R)) _ := St.star.2 h4
    have h6 := ((h7.nilA 67).nilA 3).nilA 3
    refine h6.perm ?_
    classical
    refine List.perm_iff_count.2 fun a => ?_
    simp only [List.count_cons, keysI, valsI, List.map_nil, List.zipWith]
    omega
  refine St.shutOI (x := .node [] []) (rb := w.heap.size) ⟨⟨Nat.zero_le _, Nat.zero_le _, rfl⟩, List.Pairwise.nil, rfl⟩ ?_
  exact St.shutNI (bs := []) rfl h5
set_option maxHeartbeats 4000000 in
theorem NewI_calls (n : Int) (w0 w : World) (fp0 : List Nat) (R : List Asn) (hS : St w0 fp0 R w) :
    Calls Try.prog 11 #[.int .i64 n] w fun e w' => ∃ tb, e = .returned (ptrI tb) ∧ St w0 fp0 (objI (clampO n) 0 [] tb :: R) w' := by
  have HS := Lib.hid (fun c hc => hS.new2I (clampO n) (clampO_lo n) c hc)
  have hc : ((clampO n : Nat) : Int) = min (max n 3) 1024 := by unfold clampO; omega
  have Hc := Lib.hid hc
  clear hS hc
  go_enter Try.func11, Try.ntmps11
  go_wp2
  all_goals
    refine bodyPost_ret (results_tmp rfl _ _ _) rfl ?_
    exact ⟨_, rfl, HS.out _ (by rw [Hc.out]; omega)⟩
end Go.Proofs.Ytldofiankhimjaa
/- A tree's number of keys fits its order and height; Fits of a tree. -/
namespace Go.Proofs.Ytldofiankhimjaa
open Go Go.RowKit
theorem post_count {f : T Int Int → MI} {a b : Nat} : ∀ (B : MI) (C : List (T Int Int)), B.length = C.length → (∀ c ∈ C, a ≤ (f c).length + 1 ∧ (f c).length + 1 ≤ b) → B.length * a ≤ (post f B C).length ∧ (post f B C).length ≤ B.length * b
  | [], [], _, _ => by simp [post]
  | x :: B, c :: C, hl, h => by
    obtain ⟨h1, h2⟩ := h c (by simp)
    obtain ⟨h3, h4⟩ := post_count (f := f) (a := a) (b := b) B C (by simpa using hl) fun c hc => h c (by simp [hc])
    have e : (post f (x :: B) (c :: C)).length = (f c).length + 1 + (post f B C).length := by
      show (x :: (f c ++ post f B C)).length = _
      rw [List.length_cons, List.length_append]
      omega
    rw [e, List.length_cons, Nat.add_mul, Nat.add_mul, Nat.one_mul, Nat.one_mul]
    omega
theorem body_count {o : Nat} (ho : 3 ≤ o) : ∀ (h lo : Nat) (x : T Int Int), Body o h lo (o - 1) x → (lo + 1) * ((o + 1) / 2) ^ h ≤ (toL h x).length + 1 ∧ (toL h x).length + 1 ≤ o ^ (h + 1)
  | 0, lo, x, hb => by
    have h1 := hb.1
    have h2 := hb.2.1
    have e : (toL 0 x).length = x.es.length := rfl
    rw [e, Nat.pow_zero, Nat.mul_one, Nat.zero_add, Nat.pow_one]
    omega
  | h + 1, lo, x, hb => by
    obtain ⟨h1, h2, h3, h4⟩ := hb
    have hk : ∀ c ∈ x.cs, ((o + 1) / 2) ^ (h + 1) ≤ (toL h c).length + 1 ∧ (toL h c).length + 1 ≤ o ^ (h + 1) := by
      intro c hc
      obtain ⟨q1, q2⟩ := body_count ho h _ c (h4 c hc)
      refine ⟨?_, q2⟩
      rw [show least o + 1 = (o + 1) / 2 by unfold least; omega] at q1
      rw [Nat.pow_succ, Nat.mul_comm]
      exact q1
    obtain ⟨c, C, hcs⟩ : ∃ c C, x.cs = c :: C := by
      cases hx : x.cs with
      | nil => rw [hx] at h3; simp at h3
      | cons c C => exact ⟨c, C, rfl⟩
    rw [hcs] at hk h3
    obtain ⟨k1, k2⟩ := hk c (by simp)
    obtain ⟨k3, k4⟩ := post_count (f := toL h) x.es C (by simpa using h3.symm) fun c hc => hk c (by simp [hc])
    have e : (toL (h + 1) x).length = (toL h c).length + (post (toL h) x.es C).length := by
      rw [← T.eta x, hcs]
      show (toL h c ++ post (toL h) x.es C).length = _
      rw [List.length_append]
      rfl
    have m1 : lo * ((o + 1) / 2) ^ (h + 1) ≤ x.es.length * ((o + 1) / 2) ^ (h + 1) := Nat.mul_le_mul_right _ h1
    have m2 : x.es.length * o ^ (h + 1) ≤ (o - 1) * o ^ (h + 1) := Nat.mul_le_mul_right _ h2
    have m3 : (o - 1) * o ^ (h + 1) + o ^ (h + 1) = o ^ (h + 1 + 1) := by
      rw [← Nat.succ_mul, show (o - 1).succ = o by omega, Nat.pow_succ o (h + 1), Nat.mul_comm]
    rw [e, Nat.add_mul, Nat.one_mul]
    omega
theorem ordR_clamp (n : Int) : ordR n = (clampO n : Nat) := by
  unfold ordR clampO
  split
  · omega
  · split <;> omega
set_option maxHeartbeats 4000000 in
theorem Fits0_calls (n : Int) (w : World) :
    Calls Try.prog 32 #[.int .i64 n, .int .i64 (0 : Nat), .int .i64 (0 : Nat)] w fun e w' => e = .returned (.bool true) ∧ w = w' := by
  go_enter Try.func32, Try.ntmps32
  go_wp2
  go_ret
  exact ⟨rfl, rfl⟩
theorem FitsO_calls (n : Int) (h : Nat) (l : MI) (x : T Int Int) (hg : GoodI (clampO n) h l x) (hl : l.length < 1000000) (w : World) :
    Calls Try.prog 32 #[.int .i64 n, .int .i64 l.length, .int .i64 (heightR h l : Nat)] w fun e w' => e = .returned (.bool true) ∧ w = w' := by
  cases hl0 : l with
  | nil => exact Fits0_calls n w
  | cons y l' =>
    obtain ⟨g1, g2, g3⟩ := hg
    have ho := clampO_lo n
    obtain ⟨c1, c2⟩ := body_count ho h _ x g1
    rw [g3] at c1 c2
    have h2 : 2 * ((clampO n + 1) / 2) ^ h ≤ l.length + 1 := by
      cases h with
      | zero => rw [hl0]; simp
      | succ h => exact c1
    have hp : ((clampO n + 1) / 2) ^ h < 1000000 := by omega
    have hh : h < 1000000 := by
      have h5 : 2 ^ h ≤ ((clampO n + 1) / 2) ^ h := Nat.pow_le_pow_left (by omega) h
      have h6 : h < 2 ^ h := Nat.lt_two_pow_self
      omega
    have hr : heightR h (y :: l') = h + 1 := by simp [heightR]
    rw [← hl0, show heightR h l = h + 1 by rw [hl0, hr]]
    exact Fits_calls n (clampO n) l.length h (ordR_clamp n) h2 c2 hl (by rw [hl0]; simp) hh w
end Go.Proofs.Ytldofiankhimjaa
/- slices.Insert and slices.Delete at elements of one cell (I). -/
namespace Go.Proofs.Ytldofiankhimjaa
open Go.RowKit

theorem infoI : (Try.prog.info? 3).map (fun i => (i.zero, i.size, i.bytes)) = some (some (.int .i64 0), 1, 8) := by kernel_rfl
theorem zeroI : ∀ u ∈ (Builtin.zeroCells ((.int .i64 0) : Value).cells 1).toList, u.oneCell' = true := by
  intro u hu
  simp only [Builtin.zeroCells, Array.mem_toList_iff, Array.mem_map, Array.mem_range] at hu
  obtain ⟨a, ha, rfl⟩ := hu
  have : a = 0 := by simp [Value.cells] at ha; omega
  subst this
  rfl
/-- What Insert leaves. -/
def InsI (w : World) (B : Nat) (s : Value) (n i : Nat) (cs vs : List Value) (e : Ending) (w' : World) : Prop :=
  ∃ s', e = .returned s' ∧ w'.ownsRow B 3 1 s' (n + 1) (cs.take (i) ++ vs ++ cs.drop (i)) ∧ w.grownBy w' s.ownBlock ∧ ∀ k, s'.ownBlock = some k → s.ownBlock = some k ∨ w.heap.size ≤ k

set_option maxHeartbeats 2000000 in
set_option maxRecDepth 100000 in
theorem ins_I_end (B : Nat) (s : Value) (n vb : Nat) (cs : List Value) (x : Value) (w : World) (hs : w.ownsRow B 3 1 s n cs) (hn : n < 1099511627776) (hB : B ≤ w.heap.size)
    (hv : w.heap[vb]? = some (.cells #[x] 3 (0, 0))) (hx : x.oneCell' = true) :
    Calls Try.prog 58 #[s, .int .i64 n, .slice (some ⟨vb, 0, none⟩) 1 1] w (InsI w B s n n cs [x]) := by
  obtain ⟨i0, ii, iz0, iz1, iz2⟩ := info_parts infoI
  have Hs := Lib.hid hs
  have Hv : RowKit.Hid (∀ j u, [x][j]? = some u → w.cell? ((⟨vb, 0, none⟩ : Addr).add j) = some u) := by
    intro j u hu
    rw [Addr.add_lit, Nat.zero_add, cell_of_row w vb j _ 3 (0, 0) hv]
    simpa using hu
  have H1 : RowKit.Hid (∀ u ∈ [x], u.oneCell' = true) := by
    intro u hu
    simp at hu
    subst hu
    exact hx
  have Hfin : RowKit.Hid (∀ v' w', w'.ownsRow B 3 1 v' (n + 1) (cs ++ [x]) → w.grownBy w' s.ownBlock → (∀ k, v'.ownBlock = some k → s.ownBlock = some k ∨ w.heap.size ≤ k) → InsI w B s n n cs [x] (.returned v') w') := by
    intro v' w' h1 h2 h3
    refine ⟨v', rfl, ?_, h2, h3⟩
    have hl := hs.1
    rw [List.take_of_length_le (by omega), List.drop_of_length_le (by omega), List.append_nil]
    exact h1
  obtain ⟨a, c, hsl, hcn⟩ : ∃ a c, s = .slice a n c ∧ n ≤ c := by
    rcases hs.2 with ⟨rfl, rfl⟩ | ⟨g, cap, cur, rfl, _, _, h, _⟩
    · exact ⟨_, _, rfl, Nat.le_refl _⟩
    · exact ⟨_, _, rfl, h⟩
  subst hsl
  have hc63 : c ≤ maxLen := by
    rcases hs.2 with ⟨h, rfl⟩ | ⟨g, cap, cur, h, _, _, _, h2, _⟩
    · injection h with _ _ h; subst h; decide
    · injection h with _ _ h; subst h; exact h2
  unfold maxLen at hc63
  have Hsl : RowKit.Hid (a = none → n = 0 ∧ c = 0) := by
    intro ha
    rcases hs.2 with ⟨h, rfl⟩ | ⟨g, cap, cur, h, _⟩
    · injection h with _ _ h; exact ⟨rfl, h⟩
    · injection h with h; rw [ha] at h; cases h
  clear hs hv hx
  go_enter Try.func58, Try.ntmps58
  cases a with
  | none =>
    obtain ⟨rfl, rfl⟩ := Hsl.out rfl
    go_wp2_with (at_builtin; go_loud (refine wpList_append_block _ rfl _ _ 22 rfl B 3 i0 (.int .i64 0) 1 8 Try.underlying22 ii iz0 iz1 iz2 rfl (by decide) _ _ _ rfl Hs.out ⟨vb, 0, none⟩ 1 1 [x] rfl rfl Hv.out H1.out (by decide) ?c1 ?c2 hB ?_))
    case c1 => unfold maxLen; omega
    intro v' w' h1 h2 h3
    have Hr := Lib.hid (Hfin.out v' w' h1 h2 h3.out)
    clear h1 h2 h3
    go_wp2
    go_ret
    exact Hr.out
  | some ad =>
    obtain ⟨ab, ao, asp⟩ := ad
    go_wp2_with (at_builtin; refine wpList_append_block _ rfl _ _ 22 rfl B 3 i0 (.int .i64 0) 1 8 Try.underlying22 ii iz0 iz1 iz2 rfl (by decide) _ _ _ rfl Hs.out ⟨vb, 0, none⟩ 1 1 [x] rfl rfl Hv.out H1.out (by decide) (by unfold maxLen; omega) (by omega) hB ?_)
    all_goals
      intro v' w' h1 h2 h3
      have Hr := Lib.hid (Hfin.out v' w' h1 h2 h3.out)
      clear h1 h2 h3
      go_wp2
      go_ret
      exact Hr.out

set_option maxHeartbeats 2000000 in
set_option maxRecDepth 100000 in
theorem ins_I_shift (B : Nat) (g n c i vb : Nat) (cs : List Value) (cur : Array Value) (x : Value) (w : World) (hn : n < 1099511627776) (hin : i < n) (hnc : n < c) (hcm : c ≤ maxLen)
    (hg : w.heap[g]? = some (.cells cur 3 (0, 0))) (hbg : B ≤ g) (hcur : cur.size = c) (htk : cur.toList.take (n) = cs) (h1 : ∀ u ∈ cs, u.oneCell' = true)
    (hv : w.heap[vb]? = some (.cells #[x] 3 (0, 0))) (hx : x.oneCell' = true) (hne : vb ≠ g) :
    Calls Try.prog 58 #[.slice (some ⟨g, 0, none⟩) n c, .int .i64 i, .slice (some ⟨vb, 0, none⟩) 1 1] w (InsI w B (.slice (some ⟨g, 0, none⟩) n c) n i cs [x]) := by
  obtain ⟨i0, ii, iz0, iz1, iz2⟩ := info_parts infoI
  have hov : ∀ lb cb, (callFunc 77 #[.slice (some ⟨vb, 0, none⟩) 1 1, .slice (some ⟨g, (i + 1), none⟩) lb cb]).run Try.prog w = .ok (.value (.bool false)) w := fun lb cb => by
    rw [run_callFunc_extern Try.func77 (by kernel_rfl) (by kernel_rfl) (by kernel_rfl) (e := Extern.SlicesOverlaps.overlaps #[22, 22] #[4]) (by kernel_rfl),
      Lib.run_overlaps_apart w 22 4 3 Try.underlying22 1 (fun w => by simp [sizeOf, typeInfo, ii, iz1]) ⟨vb, 0, none⟩ ⟨g, (i + 1), none⟩ 1 1 lb cb hne 3 3 1 c (by simp [World.shape?, hv]) (by simp [World.shape?, hg, hcur]) (by omega) (by simp [World.frozen?, hv]) (by simp [World.frozen?, hv])]
    rfl
  have hsz : (Try.prog.info? 3).map (·.size) = some 1 := by rw [ii]; simp [iz1]
  have hl : cs.length = n := by rw [← htk]; simp; omega
  unfold maxLen at hcm
  have Hsrc : RowKit.Hid (∀ j u, (cs.drop (i))[j]? = some u → w.cell? ((⟨g, i, none⟩ : Addr).add j) = some u) := by
    intro j u hu
    rw [Addr.add_lit, cell_of_row w g _ cur 3 (0, 0) hg]
    rw [List.getElem?_drop, ← htk, List.getElem?_take] at hu
    split at hu
    · simpa using hu
    · cases hu
  have Hv : RowKit.Hid (∀ w', w.grownBy w' (some g) → ∀ j u, [x][j]? = some u → w'.cell? ((⟨vb, 0, none⟩ : Addr).add j) = some u) := by
    intro w' hw j u hu
    have hv' : w'.heap[vb]? = some (.cells #[x] 3 (0, 0)) := (hw.block vb (Array.getElem?_eq_some_iff.1 hv).1 (by simpa using hne)).trans hv
    rw [Addr.add_lit, Nat.zero_add, cell_of_row w' vb j _ 3 (0, 0) hv']
    simpa using hu
  have H1 : RowKit.Hid (∀ u ∈ [x], u.oneCell' = true) := by
    intro u hu
    simp at hu
    subst hu
    exact hx
  have H1c : RowKit.Hid (∀ u ∈ cs.drop (i), u.oneCell' = true) := fun u hu => h1 u (List.mem_of_mem_drop hu)
  have Hg : RowKit.Hid (w.heap[g]? = some (.cells cur.toList.toArray 3 (0, 0))) := hg
  have Hfit : RowKit.Hid ((i + 1) + (cs.drop (i)).length ≤ cur.toList.length) := by show _ ≤ _; simp; omega
  have Hmin : RowKit.Hid ((cs.drop (i)).length = Nat.min (n + 1 - i) (n - i) * 1) := by show _ = _; simp only [List.length_drop, Nat.min_def]; split <;> omega
  have Hfit2 : RowKit.Hid (i + [x].length ≤ (splice cur.toList ((i + 1)) (cs.drop (i))).length) := by show _ ≤ _; rw [splice_length _ _ _ Hfit.out]; simp; omega
  have Hmin2 : RowKit.Hid ([x].length = Nat.min 1 (n + 1 - i) * 1) := by show _ = _; simp only [List.length_cons, List.length_nil, Nat.min_def]; split <;> omega
  have Hfin : RowKit.Hid (∀ w' w'', w.grownBy w' (some g) → w'.grownBy w'' (some g) → w''.heap[g]? = some (.cells (splice (splice cur.toList ((i + 1)) (cs.drop (i))) (i) [x]).toArray 3 (0, 0)) →
      InsI w B (.slice (some ⟨g, 0, none⟩) n c) n i cs [x] (.returned (.slice (some ⟨g, 0, none⟩) (n + 1) c)) w'') := by
    intro w' w'' g1 g2 hw
    refine ⟨_, rfl, ⟨by simp; omega, .inr ⟨g, c, _, rfl, hbg, hw, by omega, by unfold maxLen; omega, ?_, ?_⟩⟩, ?_, fun k hk => .inl hk⟩
    · have := Hfit2.out
      have hh := Hfit.out
      simp only [List.size_toArray, splice_length _ _ _ this, splice_length _ _ _ hh, Array.length_toList, hcur, Nat.mul_one]
    · have := row_shift cur.toList (i) (n) [x] (by simp; omega) (by omega)
      rw [htk] at this
      rw [Nat.mul_one, show (n + 1) = n + [x].length from rfl, show (i + 1) = i + [x].length from rfl]
      simpa using this
    · exact ⟨g2.os.trans g1.os, g2.tape.trans g1.tape, g2.output.trans g1.output, Nat.le_trans g1.size g2.size, fun k hk hk' => (g2.block k (Nat.lt_of_lt_of_le hk g1.size) hk').trans (g1.block k hk hk')⟩
  have hw1 : IntKind.i64.wrap ((i : Int) + (1 : Int)) = (i : Int) + (1 : Int) := by rw [IntKind.wrap_i64]; omega
  have hb1 : (0 : Int) ≤ (i : Int) + (1 : Int) := by omega
  have htn : ((i : Int) + (1 : Int)).toNat = i + 1 := by omega
  have hb2 : ¬ (c = i + 1) := by omega
  have hb4 : ¬ (c = i) := by omega
  have hin' : i ≤ n := by omega
  have hi0 : (0 : Int) ≤ (i : Int) := by omega
  have hi1 : (i : Int) < (n : Int) := by omega
  have hi2 : (i : Int) ≤ (n : Int) + 1 := by omega
  have hz2 : ¬ ((i : Int) = (n : Int)) := by omega
  have hn0 : (n : Int) + 1 ≤ c := by omega
  clear hv hx h1 hg htk hl hcur hne
  go_enter Try.func58, Try.ntmps58
  go_wp2_with (simp only [hov])
  go_region_law ((refine step_copy2 rfl _ _ 22 22 rfl 3 1 Try.underlying22 hsz g ((i + 1)) (n - i) (c - (i + 1)) ⟨g, i, none⟩ (n + 1 - i) (c - i) (by simp [Act.eval, Act.put, *]) (by simp [Act.eval, Act.put, *]) cur.toList 3 Hg.out (cs.drop (i)) Hmin.out Hsrc.out Hfit.out H1c.out ?_; intro W1 hW1 hG1))
  go_wp2_with (first | (refine wpList_copy2 rfl _ _ 22 22 rfl 3 1 Try.underlying22 hsz g (i) (n + 1 - i) (c - i) ⟨vb, 0, none⟩ 1 1 rfl rfl (splice cur.toList ((i + 1)) (cs.drop (i))) 3 hW1.out [x] Hmin2.out ?e1 Hfit2.out H1.out ?_))
  case e1 => exact Hv.out W1 (grown_drew hG1.out)
  intro W2 hW2 hG2
  have Hr := Lib.hid (Hfin.out W1 W2 (grown_drew hG1.out) hG2.out hW2.out)
  clear hG1 hG2 hW1 hW2
  go_wp2
  go_ret
  exact Hr.out

set_option maxHeartbeats 2000000 in
set_option maxRecDepth 100000 in
theorem ins_I_grow (B : Nat) (g n i vb : Nat) (cs : List Value) (cur : Array Value) (x : Value) (w : World) (hn : n < 1099511627776) (hin : i < n) (hB : B ≤ w.heap.size)
    (hg : w.heap[g]? = some (.cells cur 3 (0, 0))) (hcur : cur.size = n) (htk : cur.toList.take (n) = cs) (h1 : ∀ u ∈ cs, u.oneCell' = true)
    (hv : w.heap[vb]? = some (.cells #[x] 3 (0, 0))) (hx : x.oneCell' = true) :
    Calls Try.prog 58 #[.slice (some ⟨g, 0, none⟩) n n, .int .i64 i, .slice (some ⟨vb, 0, none⟩) 1 1] w (InsI w B (.slice (some ⟨g, 0, none⟩) n n) n i cs [x]) := by
  obtain ⟨i0, ii, iz0, iz1, iz2⟩ := info_parts infoI
  have hsz : (Try.prog.info? 3).map (·.size) = some 1 := by rw [ii]; simp [iz1]
  have hl : cs.length = n := by rw [← htk]; simp; omega
  have hgl : g < w.heap.size := (Array.getElem?_eq_some_iff.1 hg).1
  have hvl : vb < w.heap.size := (Array.getElem?_eq_some_iff.1 hv).1
  have Hold : RowKit.Hid (∀ j u, (cs.take (i))[j]? = some u → w.cell? ⟨g, j, none⟩ = some u) := by
    intro j u hu
    rw [cell_of_row w g _ cur 3 (0, 0) hg]
    rw [List.getElem?_take] at hu
    split at hu
    · rw [← htk, List.getElem?_take] at hu
      split at hu
      · simpa using hu
      · cases hu
    · cases hu
  have Hsrc : RowKit.Hid (∀ w', Below w.heap.size w w' → ∀ j u, (cs.drop (i))[j]? = some u → w'.cell? ((⟨g, i, none⟩ : Addr).add j) = some u) := by
    intro w' hb j u hu
    rw [Addr.add_lit, cell_of_row w' g _ cur 3 (0, 0) ((hb.block g hgl).trans hg)]
    rw [List.getElem?_drop, ← htk, List.getElem?_take] at hu
    split at hu
    · simpa using hu
    · cases hu
  have Hv : RowKit.Hid (∀ w', Below w.heap.size w w' → ∀ j u, [x][j]? = some u → w'.cell? ((⟨vb, 0, none⟩ : Addr).add j) = some u) := by
    intro w' hb j u hu
    rw [Addr.add_lit, Nat.zero_add, cell_of_row w' vb j _ 3 (0, 0) ((hb.block vb hvl).trans hv)]
    simpa using hu
  have H1 : RowKit.Hid (∀ u ∈ [x], u.oneCell' = true) := by
    intro u hu
    simp at hu
    subst hu
    exact hx
  have H1c : RowKit.Hid (∀ u ∈ cs.drop (i), u.oneCell' = true) := fun u hu => h1 u (List.mem_of_mem_drop hu)
  have Hlt : RowKit.Hid ((cs.take (i)).length = i * 1) := by show _ = _; simp; omega
  have Hmin2 : RowKit.Hid (∀ m, 1 ≤ m → [x].length = Nat.min 1 m * 1) := by intro m hm; simp only [List.length_cons, List.length_nil, Nat.min_def]; split <;> omega
  have Hmin : RowKit.Hid ((cs.drop (i)).length = Nat.min (n - i) (n - i) * 1) := by show _ = _; simp only [List.length_drop, Nat.min_def]; split <;> omega
  have Hfit : RowKit.Hid (∀ G Z, Z.length = G - i → n + 1 ≤ G → i + [x].length ≤ (cs.take (i) ++ Z).length) := by intro G Z h1 h2; simp; omega
  have Hfit2 : RowKit.Hid (∀ G Z, Z.length = G - i → n + 1 ≤ G → (i + 1) + (cs.drop (i)).length ≤ (splice (cs.take (i) ++ Z) (i) [x]).length) := by
    intro G Z h1 h2; rw [splice_length _ _ _ (Hfit.out G Z h1 h2)]; simp; omega
  have Hfin : RowKit.Hid (∀ w1 w2 w3 G Z, Z.length = G - i → n + 1 ≤ G → G ≤ maxLen → w.grownBy w1 none → w1.grownBy w2 (some w.heap.size) → w2.grownBy w3 (some w.heap.size) → w3.heap[w.heap.size]? = some (.cells (splice (splice (cs.take (i) ++ Z) (i) [x]) ((i + 1)) (cs.drop (i))).toArray 3 (0, 0)) →
      InsI w B (.slice (some ⟨g, 0, none⟩) n n) n i cs [x] (.returned (.slice (some ⟨w.heap.size, 0, none⟩) (n + 1) G)) w3) := by
    intro w1 w2 w3 G Z hZ hG hGm g1 g2 g3 hw
    have f1 := Hfit.out G Z hZ hG
    have f2 := Hfit2.out G Z hZ hG
    refine ⟨_, rfl, ⟨by simp; omega, .inr ⟨w.heap.size, G, _, rfl, hB, hw, hG, hGm, ?_, ?_⟩⟩, ?_, fun k hk => .inr ?_⟩
    · simp only [List.size_toArray, splice_length _ _ _ f2, splice_length _ _ _ f1]
      simp; omega
    · have := row_grow cs Z (i) [x] (by omega) (by simp; omega)
      rw [Nat.mul_one, show (n + 1) = cs.length + [x].length by simp; omega, show (i + 1) = i + [x].length from rfl]
      simpa using this
    · refine ⟨g3.os.trans (g2.os.trans g1.os), g3.tape.trans (g2.tape.trans g1.tape), g3.output.trans (g2.output.trans g1.output), Nat.le_trans g1.size (Nat.le_trans g2.size g3.size), fun k hk hk' => ?_⟩
      have a1 : some k ≠ some w.heap.size := by intro e; injection e; omega
      have := g1.size
      have := g2.size
      exact (g3.block k (by omega) a1).trans ((g2.block k (by omega) a1).trans (g1.block k hk (by simp)))
    · simp [Value.ownBlock] at hk; omega
  have Hb1 : RowKit.Hid (∀ w1, w.grownBy w1 none → Below w.heap.size w w1) := fun w1 g1 => (Below.refl _ _).grown g1 (Nat.le_refl _) (by simp)
  have Hb2 : RowKit.Hid (∀ w1 w2, w.grownBy w1 none → w1.grownBy w2 (some w.heap.size) → Below w.heap.size w w2) := fun w1 w2 g1 g2 => (Hb1.out w1 g1).grown g2 g1.size (by intro k hk; injection hk; omega)
  have hw1 : IntKind.i64.wrap ((i : Int) + (1 : Int)) = (i : Int) + (1 : Int) := by rw [IntKind.wrap_i64]; omega
  have hb1 : (0 : Int) ≤ (i : Int) + (1 : Int) := by omega
  have htn : ((i : Int) + (1 : Int)).toNat = i + 1 := by omega
  have hb4 : ¬ (n = i) := by omega
  have hin' : i ≤ n := by omega
  have hi0 : (0 : Int) ≤ (i : Int) := by omega
  have hi1 : (i : Int) < (n : Int) := by omega
  have hi2 : (i : Int) ≤ (n : Int) + 1 := by omega
  have hi3 : (i : Int) ≤ (n : Int) := by omega
  have hz2 : ¬ ((i : Int) = (n : Int)) := by omega
  have hk1 : (n : Int) + 1 - (i : Int) = ((n + 1 - i : Nat) : Int) := by omega
  have Hk2 : RowKit.Hid (i + (n + 1 - i) = n + 1) := by show _ = _; omega
  clear hv hx h1 hg htk hl hcur hgl hvl
  go_enter Try.func58, Try.ntmps58
  go_wp2_with (at_builtin; refine wpList_append_zeros rfl _ _ 22 3 rfl 3 i0 (.int .i64 0) 1 8 .i64 .i64 Try.underlying22 (by kernel_rfl) ii iz0 iz1 iz2 rfl (by decide) g i n rfl (n + 1 - i) rfl (cs.take (i)) Hlt.out Hold.out (by omega) (by omega) hin' (by omega) (by omega) ?_)
  intro w1 G Z hw1' hZ hGn hGm hg1
  rw [Hk2.out] at hGn ⊢
  have Hb3 := Lib.hid (Hb1.out w1 hg1.out)
  have hG1 : ¬ (G = i) := by omega
  have hG2 : ¬ (G = i + 1) := by omega
  go_wp2_with (first | (refine wpList_copy2 rfl _ _ 22 22 rfl 3 1 Try.underlying22 hsz w.heap.size (i) (n + 1 - i) (G - i) ⟨vb, 0, none⟩ 1 1 rfl rfl (cs.take (i) ++ Z) 3 hw1'.out [x] (Hmin2.out _ (by omega)) (Hv.out _ Hb3.out) (Hfit.out G Z hZ.out hGn) H1.out ?_))
  intro w2 hw2' hg2
  have Hb4 := Lib.hid (Hb2.out w1 w2 hg1.out hg2.out)
  go_wp2
  go_region_law ((refine step_copy2 rfl _ _ 22 22 rfl 3 1 Try.underlying22 hsz w.heap.size ((i + 1)) (n - i) (G - (i + 1)) ⟨g, i, none⟩ (n - i) (n - i) (by simp [Act.eval, Act.put, *]) (by simp [Act.eval, Act.put, *]) (splice (cs.take (i) ++ Z) (i) [x]) 3 hw2'.out (cs.drop (i)) Hmin.out (Hsrc.out _ (Below.drew Hb4.out)) (Hfit2.out G Z hZ.out hGn) H1c.out ?_; intro w3 hw3' hg3))
  have Hr := Lib.hid (Hfin.out w1 w2 w3 G Z hZ.out hGn hGm.out hg1.out hg2.out (grown_drew hg3.out) hw3'.out)
  clear hg1 hg2 hg3 hw1' hw2' hw3' hZ hGm
  go_wp2
  go_ret
  exact Hr.out

theorem ins_I_calls (B : Nat) (s : Value) (n i vb : Nat) (cs : List Value) (x : Value) (w : World) (hs : w.ownsRow B 3 1 s n cs) (h1 : ∀ u ∈ cs, u.oneCell' = true) (hn : n < 1099511627776) (hi : i ≤ n) (hB : B ≤ w.heap.size)
    (hv : w.heap[vb]? = some (.cells #[x] 3 (0, 0))) (hx : x.oneCell' = true) (hne : s.ownBlock ≠ some vb) :
    Calls Try.prog 58 #[s, .int .i64 i, .slice (some ⟨vb, 0, none⟩) 1 1] w (InsI w B s n i cs [x]) := by
  by_cases he : i = n
  · subst he
    exact ins_I_end B s i vb cs x w hs hn hB hv hx
  · obtain ⟨hl, ⟨rfl, h0⟩ | ⟨g, c, cur, rfl, hbg, hg, hnc, hcm, hcur, htk⟩⟩ := hs
    · omega
    · have hne' : vb ≠ g := by intro e; subst e; exact hne rfl
      by_cases hc : n = c
      · subst hc
        exact ins_I_grow B g n i vb cs cur x w hn (by omega) hB hg (by simpa using hcur) (by simpa using htk) h1 hv hx
      · exact ins_I_shift B g n c i vb cs cur x w hn (by omega) (by omega) hcm hg hbg (by simpa using hcur) (by simpa using htk) h1 hv hx hne'
/-- Insert, at a piece. -/
theorem insI_calls (v : Value) (xs : List Value) (i vb : Nat) (x : Value) (w : World) {f : List Nat} (h : (slA 3 v xs).p w f) (hi : i ≤ xs.length) (hlen : xs.length < 1099511627776) (h1 : ∀ u ∈ xs, u.oneCell' = true) (hx : x.oneCell' = true)
    (hv : w.heap[vb]? = some (.cells #[x] 3 (0, 0))) (hne : vb ∉ f) :
    Calls Try.prog 58 #[v, .int .i64 i, .slice (some ⟨vb, 0, none⟩) 1 1] w fun e w' => ∃ a n c f', e = .returned (.slice a n c) ∧ (slA 3 (.slice a n c) (xs.take i ++ x :: xs.drop i)).p w' f' ∧ Tr w w' f f' := by
  obtain ⟨ho, rfl⟩ := h
  refine (ins_I_calls 0 v xs.length i vb xs x w ho h1 hlen hi (Nat.zero_le _) hv hx (fun e => hne (by rw [e]; simp))).mono ?_
  rintro e w' ⟨s', rfl, h2, h3, h4⟩
  have hsh : ∃ a n c, s' = .slice a n c := by rcases h2.2 with ⟨rfl, _⟩ | ⟨g, cap, cur, rfl, _⟩ <;> exact ⟨_, _, _, rfl⟩
  obtain ⟨a, n, c, rfl⟩ := hsh
  refine ⟨a, n, c, _, rfl, ⟨?_, rfl⟩, Tr.of_grown h3 h4⟩
  have e : (xs.take i ++ x :: xs.drop i).length = xs.length + 1 := by simp; omega
  rw [e]
  simpa using h2
end Go.Proofs.Ytldofiankhimjaa
