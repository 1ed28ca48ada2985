/- Part 4 of the proof: FiI, N1I, O0I, RdI, EnI, CoRI, CoI, BtRI, Rg, BtI, ItI, Pr -/
import Derived.Test.YtldofiankhimjaaY03
import Derived.Test.YtldofiankhimjaaY00
import Derived.Deep.LoopGhost
import Derived.Deep.DeepCutAuto
import Derived.BigQuiet
import Derived.Deep.CutRange
import Derived.RangeFuncIn
import Derived.RangeFuncRecord
import Derived.RangeFuncLeaves
import Derived.RangeFuncSeq
import Derived.RangeFuncCalls
import Derived.OwnWalkIn
import Derived.TacticsInMore
import Derived.LoopIn
import Derived.LoopNIn
/- find, leaf, least (I). -/
namespace Go.Proofs.Ytldofiankhimjaa
open Go.RowKit

/-- Keys as they are read. -/
def KeysI (w : World) (es : M Int Int) (v : Value) : Prop := ∃ f, (slA 3 v (keysI es)).p w f
theorem KeysI.mono {w w' : World} {es : M Int Int} {v : Value} (h : KeysI w es v) (hb : Below w.heap.size w w') : KeysI w' es v := by
  obtain ⟨f, h⟩ := h
  exact ⟨f, (slA 3 v (keysI es)).loc h fun k hk => hb.block k ((slA 3 v (keysI es)).lt h k hk)⟩
theorem KeysI.shape {w : World} {es : M Int Int} {v : Value} (h : KeysI w es v) : ∃ a c, v = .slice a es.length c ∧ es.length ≤ maxLen ∧ ∀ i (hi : i < es.length), ∃ g, a = some ⟨g, 0, none⟩ ∧ g < w.heap.size ∧ w.cell? ⟨g, i, none⟩ = some (encI es[i].1) := by
  obtain ⟨f, h⟩ := h
  obtain ⟨a, c, hv, h1, h2, h3⟩ := sl_get h
  rw [keysI_length] at hv h1 h3
  refine ⟨a, c, hv, by omega, fun i hi => ?_⟩
  rcases h3 with ⟨_, h4, _⟩ | ⟨g, h4, h5, h6, _⟩
  · have := congrArg List.length h4; rw [keysI_length] at this; simp at this; omega
  · refine ⟨g, h4, h5, ?_⟩
    rw [h6 i hi]
    simp [keysI, hi]

set_option maxHeartbeats 2000000 in
theorem bsfI_calls (es : M Int Int) (k : Int) (s : Value) (w : World) (hs : KeysI w es s) (ha : AscM es) (hlen : es.length < 1099511627776) :
    Calls Try.prog 76 #[s, encI k, .func (.func 40) #[] #[]] w fun e w' => e = .returned (.tuple #[.int .i64 (posK es k), .bool (hasK es k)]) ∧ Below w.heap.size w w' := by
  obtain ⟨a, c, rfl, hm, Hc0⟩ := hs.shape
  obtain ⟨n, hn⟩ : ∃ n, es.length = n := ⟨_, rfl⟩
  have Hs := Lib.hid hs
  have Hn := Lib.hid hn
  have Hw := Lib.hid ha
  have Hc : RowKit.Hid (∀ i (hi : i < es.length), ∃ g, a = some ⟨g, 0, none⟩ ∧ ∀ w', Below w.heap.size w w' → g < w'.heap.size ∧ w'.cell? ⟨g, i, none⟩ = some (encI es[i].1)) := by
    intro i hi
    obtain ⟨g, h1, h2, h3⟩ := Hc0 i hi
    exact ⟨g, h1, fun w' hb => ⟨Nat.lt_of_lt_of_le h2 hb.size, (hb.cell (p := ⟨g, i, none⟩) h2).trans h3⟩⟩
  have hn40 : n < 1099511627776 := by omega
  obtain ⟨kk, hkk⟩ : ∃ kk, encI k = kk := ⟨_, rfl⟩
  have Hkk := Lib.hid hkk
  rw [hn, hkk]
  clear hs hm ha Hc0 hlen hn hkk
  go_enter Try.func76, Try.ntmps76
  go_wp2
  go_loopw [9, 10] (fun i j wr => ∃ (lo hi : Nat), lo ≤ hi ∧ hi ≤ n ∧ i = .int .i64 lo ∧ j = .int .i64 hi ∧ RowKit.Hid (Below w.heap.size w wr) ∧ RowKit.Hid (∀ j (h : j < es.length), j < lo → ltK es[j].1 k) ∧ RowKit.Hid (∀ j (h : j < es.length), hi ≤ j → ¬ ltK es[j].1 k)) (fun i j _ => (intOf j).toNat - (intOf i).toNat)
  case atStart => exact ⟨0, n, Nat.zero_le _, Nat.le_refl _, rfl, rfl, Below.refl _ _, fun j h h0 => by omega, fun j h h0 => by have := Hn.out; omega⟩
  case round =>
    obtain ⟨lo, hi, hlh, hhn, rfl, rfl, Hb, H1, H2⟩ := hrel
    by_cases hlt : lo < hi
    · obtain ⟨m, hm⟩ : ∃ m : Nat, m = (lo + hi) / 2 := ⟨_, rfl⟩
      have hm1 : lo ≤ m := by omega
      have hm2 : m < hi := by omega
      have hk1 : m < es.length := by have := Hn.out; omega
      have hmn : m < n := by omega
      obtain ⟨g, rfl, hcell⟩ := Hc.out m hk1
      obtain ⟨hbl, hc⟩ := hcell _ Hb.out
      have HC := Lib.hid (cmpI_calls es[m].1 k wr)
      rw [Hkk.out] at HC
      have Hup : RowKit.Hid (ltK es[m].1 k → ∀ j (h : j < es.length), j < m + 1 → ltK es[j].1 k) := by
        intro h j hj hjm
        by_cases e : j = m
        · subst e; exact h
        · exact ltK_trans ((List.pairwise_iff_getElem.1 Hw.out) j m hj hk1 (by omega)) h
      have Hdn : RowKit.Hid (¬ ltK es[m].1 k → ∀ j (h : j < es.length), m ≤ j → ¬ ltK es[j].1 k) := by
        intro h j hj hjm h2
        by_cases e : j = m
        · subst e; exact h h2
        · exact h (ltK_trans ((List.pairwise_iff_getElem.1 Hw.out) m j hk1 hj (by omega)) h2)
      generalize es[m].1 = X at *
      have Hlt : RowKit.Hid (ltK X k ↔ KOrd.cmp X k < 0) := Iff.rfl
      generalize (KOrd.cmp X k : Int) = r at *
      generalize encI X = ex at *
      have i1 : (0 : Int) ≤ m := by omega
      have i2 : (m : Int) < n := by omega
      clear hk1 hcell
      have Hm := Lib.hid hm
      clear hm
      go_upto_region 4 with (fail)
      go_cut [11] (fun z wx => z = .int .i64 m ∧ wx = wr)
      case first =>
        go_wp2_with fail
        go_meet
        exact ⟨by have := Hm.out; congr 1; omega, rfl⟩
      obtain ⟨rfl, rfl⟩ := hcut
      go_upto_region 5 with (fail)
      go_cut [31] (fun z wx => ∃ q : Bool, z = .bool q ∧ RowKit.Hid (q = decide (r < 0)) ∧ RowKit.Hid (Below w.heap.size w wx))
      case first =>
        go_wp2_with (go_at_call 40; (with_reducible refine HC.out.mono ?_); rintro e w1 ⟨rfl, hb1⟩)
        all_goals
          have Hb1 := Lib.hid (Hb.out.trans (hb1.mono Hb.out.size))
          go_meet
          exact ⟨_, rfl, rfl, Hb1⟩
      obtain ⟨q, rfl, Hq, Hb1⟩ := hcut
      clear hc hbl HC Hb
      cases q
      · have Hd1 := Lib.hid (Hdn.out (by have := Hq.out; rw [Hlt.out]; simpa using this))
        clear Hup Hdn Hq
        go_wp2
        go_roundw
        case rel => exact ⟨lo, m, hm1, by omega, rfl, rfl, Hb1, H1, Hd1⟩
        case measure => simp [intOf]; omega
      · have Hd1 := Lib.hid (Hup.out (by have := Hq.out; rw [Hlt.out]; simpa using this))
        clear Hup Hdn Hq
        go_wp2
        go_roundw
        case rel => exact ⟨m + 1, hi, by omega, hhn, by go_num, rfl, Hb1, Hd1, H2⟩
        case measure => simp [intOf]; omega
    · obtain rfl : lo = hi := by omega
      have Hp : RowKit.Hid (posK es k = lo) := posK_eq (by have := Hn.out; omega) H1.out (fun h => H2.out lo h (Nat.le_refl _))
      have Hh := Lib.hid (hasK_at (es := es) (k := k) Hp.out)
      by_cases hlt' : lo < n
      · have hk1 : lo < es.length := by have := Hn.out; omega
        obtain ⟨g, rfl, hcell⟩ := Hc.out lo hk1
        obtain ⟨hbl, hc⟩ := hcell _ Hb.out
        have HC := Lib.hid (cmpI_calls es[lo].1 k wr)
        rw [Hkk.out] at HC
        have Hres : RowKit.Hid (hasK es k = (KOrd.cmp es[lo].1 k == 0)) := by show _ = _; rw [Hh.out, dif_pos hk1]; rfl
        clear Hh H1 H2 hcell
        generalize es[lo].1 = X at *
        generalize (KOrd.cmp X k : Int) = r at *
        generalize encI X = ex at *
        have i1 : (0 : Int) ≤ lo := by omega
        have i2 : (lo : Int) < n := by omega
        clear hk1
        go_wp2_with (go_at_call 40; (with_reducible refine HC.out.mono ?_); rintro e w1 ⟨rfl, hb1⟩)
        all_goals
          have Hb1 := Lib.hid (Hb.out.trans (hb1.mono Hb.out.size))
          exact bodyPost_ret (v := .tuple #[.int .i64 lo, .bool (r == 0)]) (by simp [results, Try.results76, go_sem, *]) rfl ⟨by rw [Hp.out, Hres.out], Hb1.out⟩
      · have Hres : RowKit.Hid (hasK es k = false) := by show _ = _; rw [Hh.out, dif_neg (by have := Hn.out; omega)]
        clear Hh H1 H2
        go_wp2
        exact bodyPost_ret (v := .tuple #[.int .i64 lo, .bool false]) (by simp [results, Try.results76, go_sem, *]) rfl ⟨by rw [Hp.out, Hres.out], Hb.out⟩

theorem findI_calls (b : Nat) (ks vs ps : Value) (es : M Int Int) (k : Int) (w : World) {f : List Nat} (hb : (blkA b 70 #[ks, vs, ps]).p w f) (hk : KeysI w es ks) (ha : AscM es) (hlen : es.length < 1099511627776) :
    Calls Try.prog 57 #[ptrI b, encI k] w fun e w' => e = .returned (.tuple #[.int .i64 (posK es k), .bool (hasK es k)]) ∧ Below w.heap.size w w' := by
  obtain ⟨c, _, hlt⟩ := blk_get hb
  have c0 := c 0
  simp only [List.getElem?_toArray, List.getElem?_cons_zero] at c0
  have HC := Lib.hid (bsfI_calls es k ks w hk ha hlen)
  obtain ⟨a, cp, rfl, _, _⟩ := hk.shape
  obtain ⟨kk, hkk⟩ : ∃ kk, encI k = kk := ⟨_, rfl⟩
  rw [hkk] at HC ⊢
  clear hkk hb hk c hlen
  unfold ptrI
  go_enter Try.func57, Try.ntmps57
  go_wp2_with fail
  (with_reducible refine HC.out.mono ?_)
  rintro e w1 ⟨rfl, hb1⟩
  have Hb1 := Lib.hid hb1
  clear hb1 c0 hlt
  go_wp2
  exact bodyPost_ret (v := .tuple #[.int .i64 (posK es k), .bool (hasK es k)]) (by simp [results, Try.results57, go_sem]) rfl ⟨rfl, Hb1.out⟩

theorem leafI_calls (b : Nat) (ks vs : Value) (a : Option Addr) (n c : Nat) (w : World) {f : List Nat} (hb : (blkA b 70 #[ks, vs, .slice a n c]).p w f) :
    Calls Try.prog 53 #[ptrI b] w fun e w' => e = .returned (.bool (n == 0)) ∧ w = w' := by
  obtain ⟨cl, _, hlt⟩ := blk_get hb
  have c2 := cl 2
  simp only [List.getElem?_toArray, List.getElem?_cons_zero, List.getElem?_cons_succ] at c2
  clear hb cl
  unfold ptrI
  go_enter Try.func53, Try.ntmps53
  go_wp2
  go_ret
  have e : ((n : Int) == 0) = (n == 0) := by rw [Bool.eq_iff_iff]; simp
  exact ⟨by rw [← e]; rfl, rfl⟩
theorem leastI_calls (b : Nat) (r : Value) (o : Nat) (n : Value) (w : World) {f : List Nat} (ho : 3 ≤ o) (ho' : o ≤ 1024) (hb : (blkA b 72 #[r, .int .i64 o, n]).p w f) :
    Calls Try.prog 63 #[.pointer (some ⟨b, 0, none⟩)] w fun e w' => e = .returned (.int .i64 (least o)) ∧ w = w' := by
  obtain ⟨cl, _, hlt⟩ := blk_get hb
  have c1 := cl 1
  simp only [List.getElem?_toArray, List.getElem?_cons_zero, List.getElem?_cons_succ] at c1
  have Hl : RowKit.Hid (((o : Int) + 1) / 2 - 1 = (least o : Nat)) := by show _ = _; unfold least; omega
  have i1 : (0 : Int) ≤ (o : Int) + 1 := by omega
  have i2 : (0 : Int) ≤ ((o : Int) + 1) / 2 := by omega
  have i3 : ((o : Int) + 1) / 2 ≤ 1024 := by omega
  clear hb cl
  go_enter Try.func63, Try.ntmps63
  go_wp2
  go_ret
  exact ⟨by rw [← Hl.out]; rfl, rfl⟩
end Go.Proofs.Ytldofiankhimjaa
/- A node with some of its kids in view (I). -/
namespace Go.Proofs.Ytldofiankhimjaa
open Go.RowKit
/-- The kids outside [i, j). -/
def restI (h i j : Nat) (cs : List TI) (bs : List Nat) : Asn := starA (List.zipWith (treeI h) (cs.take i) (bs.take i) ++ List.zipWith (treeI h) (cs.drop j) (bs.drop j))
theorem restI_eq (h i j : Nat) (cs cs' : List TI) (bs bs' : List Nat) (h1 : cs.take i = cs'.take i) (h2 : cs.drop j = cs'.drop j) (h3 : bs.take i = bs'.take i) (h4 : bs.drop j = bs'.drop j) : restI h i j cs bs = restI h i j cs' bs' := by
  unfold restI
  rw [h1, h2, h3, h4]
theorem zip3I (h i j : Nat) (hij : i ≤ j) (cs : List TI) (bs : List Nat) (hl : bs.length = cs.length) :
    List.zipWith (treeI h) cs bs = List.zipWith (treeI h) (cs.take i) (bs.take i) ++ (List.zipWith (treeI h) ((cs.take j).drop i) ((bs.take j).drop i) ++ List.zipWith (treeI h) (cs.drop j) (bs.drop j)) := by
  conv => lhs; rw [← List.take_append_drop j cs, ← List.take_append_drop j bs]
  rw [zipWith_app _ _ _ _ _ (by simp [hl])]
  conv => lhs; lhs; rw [← List.take_append_drop i (cs.take j), ← List.take_append_drop i (bs.take j)]
  rw [zipWith_app _ _ _ _ _ (by simp [hl]), List.take_take, List.take_take, Nat.min_eq_left hij, List.append_assoc]
theorem St.kidsI {w0 w : World} {fp0 : List Nat} {R : List Asn} {h : Nat} {x : TI} {b : Nat} (i j : Nat) (hij : i ≤ j) (hs : St w0 fp0 (treeI (h + 1) x b :: R) w) : ∃ ks vs ps bs, bs.length = x.cs.length ∧
    St w0 fp0 (blkA b 70 #[ks, vs, ps] :: slA 3 ks (keysI x.es) :: slA 3 vs (valsI x.es) :: slA 67 ps (bs.map ptrI) :: restI h i j x.cs bs :: (List.zipWith (treeI h) ((x.cs.take j).drop i) ((bs.take j).drop i) ++ R)) w := by
  obtain ⟨⟨ks, vs, ps, bs⟩, h1⟩ := hs.openI
  obtain ⟨h2, h3⟩ := St.pure.1 h1
  simp only at h2 h3
  refine ⟨ks, vs, ps, bs, h2, ?_⟩
  rw [show kidI (h + 1) = treeI h from rfl, zip3I h i j hij _ _ h2] at h3
  have h4 : St w0 fp0 ((List.zipWith (treeI h) (x.cs.take i) (bs.take i) ++ List.zipWith (treeI h) (x.cs.drop j) (bs.drop j)) ++ (blkA b 70 #[ks, vs, ps] :: slA 3 ks (keysI x.es) :: slA 3 vs (valsI x.es) :: slA 67 ps (bs.map ptrI) :: (List.zipWith (treeI h) ((x.cs.take j).drop i) ((bs.take j).drop i) ++ R))) w := by
    refine h3.perm ?_
    classical
    refine List.perm_iff_count.2 fun a => ?_
    simp only [List.append_eq, List.cons_append, List.count_append, List.count_cons]
    omega
  refine (St.star.2 h4).perm ?_
  classical
  refine List.perm_iff_count.2 fun a => ?_
  simp only [List.count_append, List.count_cons, restI]
  omega
theorem St.joinI {w0 w : World} {fp0 : List Nat} {R : List Asn} {h : Nat} {cs mid : List TI} {es : M Int Int} {b : Nat} {ks vs ps : Value} {bs mb : List Nat} (i j : Nat) (hl : bs.length = cs.length) (hm : mb.length = mid.length)
    (hs : St w0 fp0 (blkA b 70 #[ks, vs, ps] :: slA 3 ks (keysI es) :: slA 3 vs (valsI es) :: slA 67 ps ((bs.take i ++ (mb ++ bs.drop j)).map ptrI) :: restI h i j cs bs :: (List.zipWith (treeI h) mid mb ++ R)) w) :
    St w0 fp0 (treeI (h + 1) (.node es (cs.take i ++ (mid ++ cs.drop j))) b :: R) w := by
  refine St.shutI (ks, vs, ps, bs.take i ++ (mb ++ bs.drop j)) ?_
  refine St.pure.2 ⟨by simp [cs_node, hl, hm], ?_⟩
  rw [show kidI (h + 1) = treeI h from rfl, es_node, cs_node, zipWith_app _ _ _ _ _ (by simp [hl]), zipWith_app _ _ _ _ _ hm.symm]
  have h4 : St w0 fp0 (restI h i j cs bs :: (blkA b 70 #[ks, vs, ps] :: slA 3 ks (keysI es) :: slA 3 vs (valsI es) :: slA 67 ps ((bs.take i ++ (mb ++ bs.drop j)).map ptrI) :: (List.zipWith (treeI h) mid mb ++ R))) w := by
    refine hs.perm ?_
    classical
    refine List.perm_iff_count.2 fun a => ?_
    simp only [List.count_append, List.count_cons]
    omega
  refine (St.star.1 h4).perm ?_
  classical
  refine List.perm_iff_count.2 fun a => ?_
  simp only [List.append_eq, List.cons_append, List.count_append, List.count_cons]
  omega
theorem mid1 {α : Type} {l : List α} {i : Nat} {c : α} (h : l[i]? = some c) : (l.take (i + 1)).drop i = [c] := by
  obtain ⟨h1, h2⟩ := List.getElem?_eq_some_iff.1 h
  rw [List.take_succ_eq_append_getElem h1, List.drop_append_of_le_length (by simp; omega), List.drop_of_length_le (by simp; omega), h2]
  rfl
/-- One kid in view. -/
theorem St.viewI {w0 w : World} {fp0 : List Nat} {R : List Asn} {h : Nat} {x : TI} {b : Nat} (i : Nat) {c : TI} (hc : x.cs[i]? = some c) (hs : St w0 fp0 (treeI (h + 1) x b :: R) w) : ∃ ks vs ps bs cb, bs.length = x.cs.length ∧ bs[i]? = some cb ∧
    St w0 fp0 (blkA b 70 #[ks, vs, ps] :: slA 3 ks (keysI x.es) :: slA 3 vs (valsI x.es) :: slA 67 ps (bs.map ptrI) :: restI h i (i + 1) x.cs bs :: treeI h c cb :: R) w := by
  obtain ⟨ks, vs, ps, bs, h1, h2⟩ := hs.kidsI i (i + 1) (Nat.le_succ i)
  have hi : i < bs.length := by rw [h1]; exact (List.getElem?_eq_some_iff.1 hc).1
  refine ⟨ks, vs, ps, bs, bs[i], h1, List.getElem?_eq_getElem hi, ?_⟩
  rw [mid1 hc, mid1 (List.getElem?_eq_getElem hi)] at h2
  exact h2
theorem St.unviewI {w0 w : World} {fp0 : List Nat} {R : List Asn} {h : Nat} {es : M Int Int} {cs : List TI} {b i cb : Nat} {c' : TI} {ks vs ps : Value} {bs : List Nat} (hl : bs.length = cs.length) (hb : bs[i]? = some cb)
    (hs : St w0 fp0 (blkA b 70 #[ks, vs, ps] :: slA 3 ks (keysI es) :: slA 3 vs (valsI es) :: slA 67 ps (bs.map ptrI) :: restI h i (i + 1) cs bs :: treeI h c' cb :: R) w) :
    St w0 fp0 (treeI (h + 1) (.node es (cs.set i c')) b :: R) w := by
  obtain ⟨h1, h2⟩ := List.getElem?_eq_some_iff.1 hb
  have e : cs.set i c' = cs.take i ++ ([c'] ++ cs.drop (i + 1)) := by rw [set_at (List.getElem?_eq_getElem (by omega : i < cs.length))]; rfl
  have e' : bs = bs.take i ++ ([cb] ++ bs.drop (i + 1)) := split_at hb
  rw [e]
  refine St.joinI (ks := ks) (vs := vs) (ps := ps) (mb := [cb]) i (i + 1) hl rfl ?_
  rw [← e']
  exact hs
/-- A node, its kids as one piece. -/
theorem St.openNI {w0 w : World} {fp0 : List Nat} {L : List Asn} {h : Nat} {x : TI} {b : Nat} (hs : St w0 fp0 (treeI h x b :: L) w) : ∃ ks vs ps bs, bs.length = x.cs.length ∧
    St w0 fp0 (blkA b 70 #[ks, vs, ps] :: slA 3 ks (keysI x.es) :: slA 3 vs (valsI x.es) :: slA 67 ps (bs.map ptrI) :: starA (List.zipWith (kidI h) x.cs bs) :: L) w := by
  obtain ⟨⟨ks, vs, ps, bs⟩, h1⟩ := hs.openI
  obtain ⟨h2, h3⟩ := St.pure.1 h1
  simp only at h2 h3
  refine ⟨ks, vs, ps, bs, h2, ?_⟩
  have h4 : St w0 fp0 (List.zipWith (kidI h) x.cs bs ++ (blkA b 70 #[ks, vs, ps] :: slA 3 ks (keysI x.es) :: slA 3 vs (valsI x.es) :: slA 67 ps (bs.map ptrI) :: L)) w := by
    refine h3.perm ?_
    classical
    refine List.perm_iff_count.2 fun a => ?_
    simp only [List.append_eq, List.cons_append, List.count_append, List.count_cons]
    omega
  refine (St.star.2 h4).perm ?_
  classical
  refine List.perm_iff_count.2 fun a => ?_
  simp only [List.count_cons]
  omega
theorem St.shutNI {w0 w : World} {fp0 : List Nat} {L : List Asn} {h : Nat} {es : M Int Int} {cs : List TI} {b : Nat} {ks vs ps : Value} {bs : List Nat} (hl : bs.length = cs.length)
    (hs : St w0 fp0 (blkA b 70 #[ks, vs, ps] :: slA 3 ks (keysI es) :: slA 3 vs (valsI es) :: slA 67 ps (bs.map ptrI) :: starA (List.zipWith (kidI h) cs bs) :: L) w) : St w0 fp0 (treeI h (.node es cs) b :: L) w := by
  refine St.shutI (ks, vs, ps, bs) (St.pure.2 ⟨hl, ?_⟩)
  rw [es_node, cs_node]
  have h4 : St w0 fp0 (starA (List.zipWith (kidI h) cs bs) :: (blkA b 70 #[ks, vs, ps] :: slA 3 ks (keysI es) :: slA 3 vs (valsI es) :: slA 67 ps (bs.map ptrI) :: L)) w := by
    refine hs.perm ?_
    classical
    refine List.perm_iff_count.2 fun a => ?_
    simp only [List.count_cons]
    omega
  refine (St.star.1 h4).perm ?_
  classical
  refine List.perm_iff_count.2 fun a => ?_
  simp only [List.append_eq, List.cons_append, List.count_append, List.count_cons]
  omega
theorem St.cutkidsI {w0 w : World} {fp0 : List Nat} {L : List Asn} {h : Nat} {cs : List TI} {bs : List Nat} (d : Nat) (hl : bs.length = cs.length) (hs : St w0 fp0 (starA (List.zipWith (kidI h) cs bs) :: L) w) :
    St w0 fp0 (starA (List.zipWith (kidI h) (cs.take d) (bs.take d)) :: starA (List.zipWith (kidI h) (cs.drop d) (bs.drop d)) :: L) w := by
  have h1 := St.star.1 hs
  rw [← List.take_append_drop d cs, ← List.take_append_drop d bs, zipWith_app _ _ _ _ _ (by simp [hl]), List.append_assoc] at h1
  have h2 : St w0 fp0 (starA (List.zipWith (kidI h) (cs.drop d) (bs.drop d)) :: (List.zipWith (kidI h) (cs.take d) (bs.take d) ++ L)) w := by
    refine St.star.2 (h1.perm ?_)
    classical
    refine List.perm_iff_count.2 fun a => ?_
    simp only [List.count_append]
    omega
  refine St.star.2 (h2.perm ?_)
  classical
  refine List.perm_iff_count.2 fun a => ?_
  simp only [List.count_append, List.count_cons]
  omega
theorem St.at_open {w0 w : World} {fp0 : List Nat} {L : List Asn} {t : TypeId} {s : Value} {c : Array Value} (hs : St w0 fp0 (atA t s c :: L) w) : ∃ b, s = .pointer (some ⟨b, 0, none⟩) ∧ St w0 fp0 (blkA b t c :: L) w := by
  obtain ⟨fp, ⟨f, g, ⟨b, h0, h1⟩, h2, h3, rfl⟩, ht⟩ := hs
  exact ⟨b, h0, f ++ g, ⟨f, g, h1, h2, h3, rfl⟩, ht⟩
theorem St.nilA {w0 w : World} {fp0 : List Nat} {L : List Asn} (t : TypeId) (hs : St w0 fp0 L w) : St w0 fp0 (slA t (.slice none 0 0) [] :: L) w := by
  obtain ⟨fp, h1, h2⟩ := hs
  exact ⟨fp, ⟨[], fp, ⟨World.ownsRow_nil _ _ _ _, rfl⟩, h1, by simp, rfl⟩, h2⟩
/-- What can be seen of a tree. -/
theorem tree_lookI {w : World} {h : Nat} {x : TI} {b : Nat} {f : List Nat} (ht : (treeI h x b).p w f) : ∃ ka kc vs ps, w.cell? ⟨b, 0, none⟩ = some (.slice ka x.es.length kc) ∧ w.cell? ⟨b, 1, none⟩ = some vs ∧ w.cell? ⟨b, 2, none⟩ = some ps ∧ b < w.heap.size := by
  rw [treeI_eq] at ht
  obtain ⟨⟨ks, vs, ps, bs⟩, hq⟩ := ht
  obtain ⟨_, g, _, ⟨f1, g1, h1, ⟨f2, g2, h2, _⟩, _⟩, _⟩ := hq
  obtain ⟨a, c, e, _⟩ := sl_get h2
  rw [keysI_length] at e
  refine ⟨a, c, vs, ps, ?_, (blk_get h1).1 1, (blk_get h1).1 2, (blk_get h1).2.2⟩
  rw [← e]
  exact (blk_get h1).1 0
end Go.Proofs.Ytldofiankhimjaa
/- A tree as an object (I). -/
namespace Go.Proofs.Ytldofiankhimjaa
open Go.RowKit
def rootB (h : Nat) : Nat := if h = 0 then 0 else 1
/-- What a tree of height h, order o is. -/
def GoodI (o h : Nat) (l : M Int Int) (x : TI) : Prop := Body o h (rootB h) (o - 1) x ∧ AscM (toL h x) ∧ toL h x = l
def objI (o h : Nat) (l : M Int Int) (tb : Nat) : Asn := exA fun q : TI × Nat => starA [pureA (GoodI o h l q.1), blkA tb 72 #[ptrI q.2, .int .i64 o, .int .i64 l.length], treeI h q.1 q.2]
theorem St.openOI {w0 w : World} {fp0 : List Nat} {R : List Asn} {o h : Nat} {l : M Int Int} {tb : Nat} (hs : St w0 fp0 (objI o h l tb :: R) w) : ∃ x rb, GoodI o h l x ∧ St w0 fp0 (treeI h x rb :: blkA tb 72 #[ptrI rb, .int .i64 o, .int .i64 l.length] :: R) w := by
  obtain ⟨⟨x, rb⟩, h1⟩ := hs.unfold (L1 := fun q : TI × Nat => [pureA (GoodI o h l q.1), blkA tb 72 #[ptrI q.2, .int .i64 o, .int .i64 l.length], treeI h q.1 q.2]) fun f ⟨q, hq⟩ => ⟨q, hq⟩
  obtain ⟨h2, h3⟩ := St.pure.1 h1
  exact ⟨x, rb, h2, h3.perm (List.Perm.swap _ _ _)⟩
theorem St.shutOI {w0 w : World} {fp0 : List Nat} {R : List Asn} {o h : Nat} {l : M Int Int} {tb rb : Nat} {x : TI} (hg : GoodI o h l x) (hs : St w0 fp0 (treeI h x rb :: blkA tb 72 #[ptrI rb, .int .i64 o, .int .i64 l.length] :: R) w) : St w0 fp0 (objI o h l tb :: R) w := by
  have h1 : St w0 fp0 ([pureA (GoodI o h l x), blkA tb 72 #[ptrI rb, .int .i64 o, .int .i64 l.length], treeI h x rb] ++ R) w := St.pure.2 ⟨hg, hs.perm (List.Perm.swap _ _ _)⟩
  exact h1.fold fun f hf => ⟨(x, rb), hf⟩
theorem box_sl {w : World} {t : TypeId} {s x : Value} {f : List Nat} (h : (boxA t s x).p w f) : (slA t s [x]).p w f := by
  obtain ⟨vb, rfl, h1, rfl⟩ := h
  refine ⟨⟨rfl, .inr ⟨vb, 1, #[x], rfl, Nat.zero_le _, h1, ?_, ?_, ?_, ?_⟩⟩, rfl⟩ <;> simp [maxLen]
theorem St.box_sl {w0 w : World} {fp0 : List Nat} {L : List Asn} {t : TypeId} {s x : Value} (h : St w0 fp0 (boxA t s x :: L) w) : St w0 fp0 (slA t s [x] :: L) w := by
  obtain ⟨fp, ⟨f, g, h1, h2, h3, rfl⟩, ht⟩ := h
  exact ⟨f ++ g, ⟨f, g, Ytldofiankhimjaa.box_sl h1, h2, h3, rfl⟩, ht⟩
/-- A new root over the old one. -/
theorem St.overI {w0 w : World} {fp0 : List Nat} {R : List Asn} {h : Nat} {x : TI} {rb nr : Nat} {s : Value} (hs : St w0 fp0 (blkA nr 70 #[.slice none 0 0, .slice none 0 0, s] :: boxA 67 s (ptrI rb) :: treeI h x rb :: R) w) : St w0 fp0 (treeI (h + 1) (.node [] [x]) nr :: R) w := by
  refine St.joinI (cs := []) (mid := [x]) (es := []) (ks := .slice none 0 0) (vs := .slice none 0 0) (ps := s) (bs := []) (mb := [rb]) 0 0 rfl rfl ?_
  have h1 := (hs.perm (List.Perm.swap _ _ _)).box_sl
  have h2 : St w0 fp0 (restI h 0 0 [] [] :: (slA 67 s [ptrI rb] :: blkA nr 70 #[.slice none 0 0, .slice none 0 0, s] :: treeI h x rb :: R)) w := St.star.2 h1
  refine ((h2.nilA 3).nilA 3).perm ?_
  classical
  refine List.perm_iff_count.2 fun a => ?_
  simp only [List.cons_append, List.nil_append, List.zipWith, List.take_nil, List.drop_nil, List.append_nil, List.map_cons, List.map_nil, keysI, valsI, List.count_cons]
  omega
theorem putM_lengthI (l : M Int Int) (k : Int) (v : Int) : AscM l → (putM l k v).length = if (getM l k).isSome then l.length else l.length + 1 := by
  intro ha
  induction l with
  | nil => rfl
  | cons x l ih =>
    obtain ⟨h1, h2⟩ := AscM.cons.1 ha
    rw [putM, getM]
    by_cases he : eqK x.1 k = true
    · have := eqK_iff.1 he
      have hn : ¬ ltK x.1 k := by rw [this]; exact ltK_irrefl _
      simp [he, hn]
    · by_cases hlt : ltK x.1 k
      · simp only [hlt, if_true, he, List.length_cons, ih h2]
        split <;> simp_all
      · have hgt := ltK_of_not hlt (fun e => he (eqK_iff.2 e))
        have hl : getM l k = none := by
          have := getM_none (l := ([] : M Int Int)) (m := l) (k := k) (by intro y hy; cases hy) (fun y hy => ltK_trans hgt (h1 y hy))
          simpa using this
        simp [he, hlt, hl]
end Go.Proofs.Ytldofiankhimjaa
/- What is read of a tree; Get, Len, max, Min, Max, Height (I). -/
namespace Go.Proofs.Ytldofiankhimjaa
open Go.RowKit
theorem asc_kid2I {h : Nat} {x : TI} {i : Nat} {c : TI} (hl : x.cs.length = x.es.length + 1) (hc : x.cs[i]? = some c) (ha : AscM (toL (h + 1) x)) : AscM (toL h c) := by
  have hi := (List.getElem?_eq_some_iff.1 hc).1
  have hl1 : (x.es.take i).length = (x.cs.take i).length := by simp; omega
  have hxe : toL (h + 1) x = pre (toL h) (x.es.take i) (x.cs.take i) ++ toL h c ++ post (toL h) (x.es.drop i) (x.cs.drop (i + 1)) := by
    rw [← toL_split h _ _ _ _ _ hl1, List.take_append_drop, ← split_at hc, T.eta]
  rw [hxe] at ha
  obtain ⟨a1, _, _⟩ := AscM.append.1 ha
  exact (AscM.append.1 a1).2.1
/-- A tree can be read at block b. -/
def SeesI (w : World) (h : Nat) (x : TI) (b : Nat) : Prop := ∃ f, (treeI h x b).p w f
theorem SeesI.below {w w' : World} {h : Nat} {x : TI} {b : Nat} (hs : SeesI w h x b) (hb : Below w.heap.size w w') : SeesI w' h x b := by
  obtain ⟨f, hf⟩ := hs
  exact ⟨f, (treeI h x b).loc hf fun k hk => hb.block k ((treeI h x b).lt hf k hk)⟩
structure NodeI (w : World) (h : Nat) (x : TI) (b : Nat) (ks : Value) (va : Option Addr) (vc : Nat) (pa : Option Addr) (pc : Nat) : Prop where
  blk : ∃ f, (blkA b 70 #[ks, .slice va x.es.length vc, .slice pa x.cs.length pc]).p w f
  keys : KeysI w x.es ks
  vals : ∀ i (hi : i < x.es.length), ∃ g, va = some ⟨g, 0, none⟩ ∧ g < w.heap.size ∧ w.cell? ⟨g, i, none⟩ = some (valI x.es[i].2)
  kids : ∀ i c, x.cs[i]? = some c → ∃ g cb, pa = some ⟨g, 0, none⟩ ∧ g < w.heap.size ∧ w.cell? ⟨g, i, none⟩ = some (.pointer (some ⟨cb, 0, none⟩)) ∧ ∀ h', h = h' + 1 → SeesI w h' c cb
theorem SeesI.node {w : World} {h : Nat} {x : TI} {b : Nat} (hs : SeesI w h x b) : ∃ ks va vc pa pc, NodeI w h x b ks va vc pa pc := by
  obtain ⟨f, hf⟩ := hs
  rw [treeI_eq] at hf
  obtain ⟨⟨ks, vs, ps, bs⟩, hst⟩ := hf
  have hst : Star w (nodeLI (kidI h) x b (ks, vs, ps, bs)) f := hst
  obtain ⟨_, ⟨hl, _⟩, _⟩ := Star.get 0 rfl hst
  obtain ⟨f1, h1, _⟩ := Star.get 1 rfl hst
  obtain ⟨f2, h2, _⟩ := Star.get 2 rfl hst
  obtain ⟨f3, h3, _⟩ := Star.get 3 rfl hst
  obtain ⟨f4, h4, _⟩ := Star.get 4 rfl hst
  simp only at hl h1 h2 h3 h4
  obtain ⟨va, vc, rfl, _, _, hv⟩ := sl_get h3
  obtain ⟨pa, pc, rfl, _, _, hp⟩ := sl_get h4
  rw [valsI_length] at h1 hv
  rw [List.length_map, hl] at h1
  refine ⟨ks, va, vc, pa, pc, ⟨f1, h1⟩, ⟨f2, h2⟩, fun i hi => ?_, fun i c hc => ?_⟩
  · rcases hv with ⟨_, e, _⟩ | ⟨g, e, hg, hc, _⟩
    · have := congrArg List.length e
      rw [valsI_length, List.length_nil] at this
      omega
    · refine ⟨g, e, hg, ?_⟩
      rw [hc i hi]
      simp [valsI, hi]
  · have hi := (List.getElem?_eq_some_iff.1 hc).1
    have hib : i < bs.length := by omega
    rcases hp with ⟨_, e, _⟩ | ⟨g, e, hg, hcl, _⟩
    · have := congrArg List.length e
      rw [List.length_map, List.length_nil] at this
      omega
    · refine ⟨g, bs[i], e, hg, ?_, fun h' eh => ?_⟩
      · rw [hcl i (by simpa using hib)]
        simp [hib, ptrI]
      · subst eh
        obtain ⟨f5, h5, _⟩ := Star.get (A := treeI h' c bs[i]) (5 + i) (by
          show (nodeLI (kidI (h' + 1)) x b (ks, _, _, bs))[5 + i]? = _
          unfold nodeLI
          rw [show 5 + i = i + 1 + 1 + 1 + 1 + 1 by omega]
          simp only [List.getElem?_cons_succ, List.getElem?_zipWith, hc, List.getElem?_eq_getElem hib]
          rfl) hst
        exact ⟨f5, h5⟩
/-- What a walk of the node at b wants. -/
theorem NodeI.cells {w : World} {h : Nat} {x : TI} {b : Nat} {ks : Value} {va : Option Addr} {vc : Nat} {pa : Option Addr} {pc : Nat} (hn : NodeI w h x b ks va vc pa pc) :
    w.cell? ⟨b, 0, none⟩ = some ks ∧ w.cell? ⟨b, 1, none⟩ = some (.slice va x.es.length vc) ∧ w.cell? ⟨b, 2, none⟩ = some (.slice pa x.cs.length pc) ∧ b < w.heap.size := by
  obtain ⟨f, hf⟩ := hn.blk
  exact ⟨(blk_get hf).1 0, (blk_get hf).1 1, (blk_get hf).1 2, (blk_get hf).2.2⟩
/-- The object as it is read. -/
theorem obj_seesI {w : World} {o h : Nat} {l : M Int Int} {tb : Nat} {f : List Nat} (hS : (objI o h l tb).p w f) : ∃ x rb, GoodI o h l x ∧ SeesI w h x rb ∧ (∃ f, (blkA tb 72 #[.pointer (some ⟨rb, 0, none⟩), .int .i64 o, .int .i64 l.length]).p w f) := by
  obtain ⟨⟨x, rb⟩, hq⟩ := hS
  have hst : Star w [pureA (GoodI o h l x), blkA tb 72 #[ptrI rb, .int .i64 o, .int .i64 l.length], treeI h x rb] f := hq
  obtain ⟨_, ⟨h0, _⟩, _⟩ := Star.get 0 rfl hst
  obtain ⟨f1, h1, _⟩ := Star.get 1 rfl hst
  obtain ⟨f2, h2, _⟩ := Star.get 2 rfl hst
  exact ⟨x, rb, h0, ⟨f2, h2⟩, ⟨f1, h1⟩⟩
theorem LenI_calls {o h : Nat} {l : M Int Int} (tb : Nat) (w : World) {f : List Nat} (hS : (objI o h l tb).p w f) :
    Calls Try.prog 14 #[.pointer (some ⟨tb, 0, none⟩)] w fun e w' => e = .returned (.int .i64 l.length) ∧ w = w' := by
  obtain ⟨x, rb, _, _, _, hb⟩ := obj_seesI hS
  have c2 := (blk_get hb).1 2
  have c2l := (blk_get hb).2.2
  simp only [List.getElem?_toArray, List.getElem?_cons_zero, List.getElem?_cons_succ] at c2
  clear hb hS
  go_enter Try.func14, Try.ntmps14
  go_wp2
  go_ret
  exact ⟨rfl, rfl⟩
/-- What a search is about at a node. -/
structure AtI (w : World) (o : Nat) (R : Option Int) (k : Int) (h : Nat) (x : TI) (b : Nat) : Prop where
  sees : SeesI w h x b
  body : ∃ lo, Body o h lo (o - 1) x
  asc : AscM (toL h x)
  get : getT h x k = R
set_option maxHeartbeats 4000000 in
theorem GetI_calls {o h : Nat} {l : M Int Int} (tb : Nat) (k : Int) (w : World) (ho' : o ≤ 1024) {f : List Nat} (hS : (objI o h l tb).p w f) :
    Calls Try.prog 36 #[.pointer (some ⟨tb, 0, none⟩), encI k] w fun e w' => e = .returned (.tuple #[((getM l k).map valI).getD (.int .i64 0), .bool (getM l k).isSome]) ∧ Below w.heap.size w w' := by
  obtain ⟨x, rb, ⟨g1, g2, g3⟩, hx, _, hb⟩ := obj_seesI hS
  have c0 := (blk_get hb).1 0
  have c0l := (blk_get hb).2.2
  simp only [List.getElem?_toArray, List.getElem?_cons_zero] at c0
  have hget := getT_spec k h _ _ x g1 g2
  rw [g3] at hget
  obtain ⟨R, hR⟩ : ∃ R, getM l k = R := ⟨_, rfl⟩
  rw [hR] at hget ⊢
  have HA := Lib.hid (⟨hx, ⟨_, g1⟩, g2, hget⟩ : AtI w o R k h x rb)
  obtain ⟨kk, hkk⟩ : ∃ kk, encI k = kk := ⟨_, rfl⟩
  rw [hkk]
  have Hkk := Lib.hid hkk
  have Ho' := Lib.hid ho'
  clear hb hS hx g1 g2 g3 hget hR hkk ho'
  go_enter Try.func36, Try.ntmps36
  go_wp2
  go_loopg [6] h (fun n z wr => ∃ x b, z = .pointer (some ⟨b, 0, none⟩) ∧ RowKit.Hid (AtI wr o R k n x b) ∧ RowKit.Hid (Below w.heap.size w wr))
  case atStart => exact ⟨x, rb, rfl, HA, Below.refl _ _⟩
  case round =>
    obtain ⟨y, b, rfl, Ha, Hb⟩ := hrel
    clear c0 c0l HA
    obtain ⟨⟨lo, hbd⟩, ha, hg⟩ := And.intro Ha.out.body (And.intro Ha.out.asc Ha.out.get)
    obtain ⟨ks, va, vc, pa, pc, hn⟩ := Ha.out.sees.node
    obtain ⟨_, c1, c2, cl⟩ := hn.cells
    obtain ⟨_, hbk⟩ := hn.blk
    have hlen : y.es.length < 1099511627776 := by have := hbd.hi; have := Ho'.out; omega
    have HF := Lib.hid (findI_calls b ks _ _ y.es k wr hbk hn.keys (asc_es ha) hlen)
    rw [Hkk.out] at HF
    have HL := Lib.hid (fun w (hb : Below wr.heap.size wr w) => leafI_calls b ks _ pa y.cs.length pc w (f := _) ((blkA b 70 _).loc hbk fun k hk => hb.block k ((blkA b 70 _).lt hbk k hk)))
    unfold ptrI at HF HL
    have HC1 : RowKit.Hid (∀ w', Below wr.heap.size wr w' → w'.cell? ⟨b, 1, none⟩ = some (.slice va y.es.length vc) ∧ w'.cell? ⟨b, 2, none⟩ = some (.slice pa y.cs.length pc) ∧ b < w'.heap.size) := fun w' hb => ⟨(hb.cell (p := ⟨b, 1, none⟩) cl).trans c1, (hb.cell (p := ⟨b, 2, none⟩) cl).trans c2, Nat.lt_of_lt_of_le cl hb.size⟩
    have hple := posK_le y.es k
    cases hh : hasK y.es k with
    | true =>
      rw [hh] at HF
      obtain ⟨z, m, hd, he⟩ := hasK_yes hh
      have hz : y.es[posK y.es k]? = some z := by rw [getElem?_drop0, hd]; rfl
      have hi := (List.getElem?_eq_some_iff.1 hz).1
      obtain ⟨gv, rfl, hgv, hcv⟩ := hn.vals _ hi
      rw [(List.getElem?_eq_some_iff.1 hz).2] at hcv
      have HC2 : RowKit.Hid (∀ w', Below wr.heap.size wr w' → w'.cell? ⟨gv, posK y.es k, none⟩ = some (valI z.2) ∧ gv < w'.heap.size) := fun w' hb => ⟨(hb.cell (p := ⟨gv, _, none⟩) hgv).trans hcv, Nat.lt_of_lt_of_le hgv hb.size⟩
      have HR : RowKit.Hid (R = some z.2) := by
        show _ = _
        rw [← hg]
        cases gk <;> simp [getT, hh, hz]
      obtain ⟨i, hi'⟩ : ∃ i, posK y.es k = i := ⟨_, rfl⟩
      obtain ⟨n, hn'⟩ : ∃ n, y.es.length = n := ⟨_, rfl⟩
      obtain ⟨vv, hvv⟩ : ∃ vv, valI z.2 = vv := ⟨_, rfl⟩
      have Hvv := Lib.hid hvv
      rw [hi', hn'] at hi
      rw [hi'] at HF HC2
      rw [hn'] at HC1
      rw [hvv] at HC2
      have i1 : (i : Int) < n := by omega
      clear c1 c2 cl hbd ha hg hn hbk hlen HL hple hh hd he hz hgv hcv hi' hn' hvv Ha
      go_wp2_with fail
      (with_reducible refine HF.out.mono ?_)
      rintro e w1 ⟨rfl, hb1⟩
      obtain ⟨c1, -, c3⟩ := HC1.out _ hb1
      obtain ⟨c4, c5⟩ := HC2.out _ hb1
      have Hb1 := Lib.hid (Hb.out.trans (hb1.mono Hb.out.size))
      clear hb1 HF
      go_wp2
      exact bodyPost_ret (v := .tuple #[vv, .bool true]) (by simp [results, Try.results36, go_sem]) rfl ⟨by rw [HR.out, ← Hvv.out]; rfl, Hb1.out⟩
    | false =>
      rw [hh] at HF
      cases gk with
      | zero =>
        have hcs : y.cs.length = 0 := by rw [hbd.2.2]; rfl
        rw [hcs] at HL
        have HR : RowKit.Hid (R = none) := by
          show _ = _
          rw [← hg]
          simp [getT, hh]
        generalize posK y.es k = i at *
        generalize y.es.length = n at *
        clear c1 c2 cl hbd ha hg hn hbk hlen hple hh hcs Ha HC1
        go_wp2_with fail
        (with_reducible refine HF.out.mono ?_)
        rintro e w1 ⟨rfl, hb1⟩
        have HL1 := Lib.hid (HL.out _ hb1)
        have Hb1 := Lib.hid (Hb.out.trans (hb1.mono Hb.out.size))
        clear hb1 HF HL
        go_wp2_with fail
        (with_reducible refine HL1.out.mono ?_)
        rintro e w2 ⟨rfl, rfl⟩
        go_wp2
        exact bodyPost_ret (v := .tuple #[(.int .i64 0), .bool false]) (by simp [results, Try.results36, go_sem]) rfl ⟨by rw [HR.out]; rfl, Hb1.out⟩
      | succ g =>
        obtain ⟨b1, b2, b3, b4⟩ := hbd
        obtain ⟨c, hc⟩ : ∃ c, y.cs[posK y.es k]? = some c := ⟨_, List.getElem?_eq_getElem (by omega)⟩
        have hi := (List.getElem?_eq_some_iff.1 hc).1
        obtain ⟨gp, cb, rfl, hgp, hcp, hkid⟩ := hn.kids _ _ hc
        have hz : (y.cs.length == 0) = false := beq_false_of_ne (by omega)
        rw [hz] at HL
        have HA2 : RowKit.Hid (∀ w', Below wr.heap.size wr w' → AtI w' o R k g c cb) := fun w' hb => ⟨(hkid _ rfl).below hb, ⟨_, b4 c (List.mem_of_getElem? hc)⟩, asc_kid2I b3 hc ha, by rw [← hg]; simp [getT, hh, hc]⟩
        have HC2 : RowKit.Hid (∀ w', Below wr.heap.size wr w' → w'.cell? ⟨gp, posK y.es k, none⟩ = some (.pointer (some ⟨cb, 0, none⟩)) ∧ gp < w'.heap.size) := fun w' hb => ⟨(hb.cell (p := ⟨gp, _, none⟩) hgp).trans hcp, Nat.lt_of_lt_of_le hgp hb.size⟩
        generalize posK y.es k = i at *
        generalize y.es.length = n at *
        generalize y.cs.length = m at *
        have i1 : (i : Int) < m := by omega
        clear c1 c2 cl ha hg hn hbk hlen hple hh hz b1 b2 b3 b4 hc hgp hcp hkid Ha
        go_wp2_with fail
        (with_reducible refine HF.out.mono ?_)
        rintro e w1 ⟨rfl, hb1⟩
        have HL1 := Lib.hid (HL.out _ hb1)
        have HA1 := Lib.hid (HA2.out _ hb1)
        obtain ⟨-, c2, c3⟩ := HC1.out _ hb1
        obtain ⟨c4, c5⟩ := HC2.out _ hb1
        have Hb1 := Lib.hid (Hb.out.trans (hb1.mono Hb.out.size))
        clear hb1 HF HL HA2
        go_wp2_with fail
        (with_reducible refine HL1.out.mono ?_)
        rintro e w2 ⟨rfl, rfl⟩
        clear HL1
        go_wp2
        go_roundg g
        case rel => exact ⟨c, cb, rfl, HA1, Hb1⟩
        case measure => omega
end Go.Proofs.Ytldofiankhimjaa
/- Entries (I). -/
namespace Go.Proofs.Ytldofiankhimjaa
open Go Go.RowKit
theorem infoEntI : (Try.prog.info? 79).map (fun i => (i.zero, i.size, i.bytes)) = some (some (.agg #[(.int .i64 0), (.int .i64 0)]), 2, 16) := by kernel_rfl
def entsI (l : M Int Int) : List Value := l.flatMap fun e => [encI e.1, valI e.2]
theorem entsI_snoc (l : M Int Int) (e : Int × Int) : entsI (l ++ [e]) = entsI l ++ [encI e.1, valI e.2] := by simp [entsI]
theorem entsI_length (l : M Int Int) : (entsI l).length = l.length * 2 := by
  induction l with
  | nil => rfl
  | cons x l ih => simp only [entsI, List.flatMap_cons, List.length_append, List.length_cons, List.length_nil] at ih ⊢; rw [ih]; omega
theorem entsI_at (l : M Int Int) (i : Nat) (h : i < l.length) : (entsI l)[i * 2]? = some (encI l[i].1) ∧ (entsI l)[i * 2 + 1]? = some (valI l[i].2) := by
  induction l generalizing i with
  | nil => simp at h
  | cons x l ih =>
    have e : entsI (x :: l) = encI x.1 :: valI x.2 :: entsI l := rfl
    cases i with
    | zero => exact ⟨rfl, rfl⟩
    | succ i =>
      have := ih i (by simpa using h)
      rw [e, show (i + 1) * 2 = i * 2 + 1 + 1 by omega, show i * 2 + 1 + 1 + 1 = (i * 2 + 1) + 1 + 1 by omega]
      simpa using this
def entI (v : Value) (l : M Int Int) : Asn := rowA 79 2 v l.length (entsI l)
theorem runEntI (w : World) (ty : TypeId) {v : Value} {l : M Int Int} {f : List Nat} (hown : (rowA 79 2 v l.length (entsI l)).p w f) (vb : Nat) (y : Int × Int) (hb : w.heap[vb]? = some (.cells #[encI y.1, valI y.2] 79 (0, 0))) (hlen : l.length + 1 < 1099511627776) :
    ∃ v' w' f', (Builtin.append_ #[75, 75] ty #[v, .slice (some ⟨vb, 0, none⟩) 1 1]).run Try.prog w = .ok v' w' ∧ (rowA 79 2 v' (l.length + 1) (entsI l ++ [encI y.1, valI y.2])).p w' f' ∧ Tr w w' f f' := by
  obtain ⟨i0, ii, iz0, iz1, iz2⟩ := info_parts infoEntI
  exact row_append w 75 ty 79 i0 (.agg #[(.int .i64 0), (.int .i64 0)]) 2 16 (by kernel_rfl) ii iz0 iz1 iz2 rfl (by omega) hown vb [encI y.1, valI y.2] 79 hb rfl
    (by intro u hu; simp only [List.mem_cons, List.not_mem_nil, or_false] at hu; rcases hu with rfl | rfl <;> rfl) (by unfold maxLen; omega) (by omega)
end Go.Proofs.Ytldofiankhimjaa
/- collect: its region that appends (I). -/
namespace Go.Proofs.Ytldofiankhimjaa
open Go Go.RowKit
noncomputable def oCo10I : Array Oper := ((Try.f39.body).bind fun c => opsOf c 10).getD #[]
set_option maxHeartbeats 4000000 in
set_option maxRecDepth 100000 in
theorem rCo10I {Q : Exit → Act → World → Prop} {a : Act} {w w0 : World} {fp0 : List Nat} (b gk nk ck gv nv cv : Nat) (ps vo : Value) (es l : M Int Int) (y : Int × Int) (i : Nat) (hy : es[i]? = some y) (hik : i < nk) (hiv : i < nv) (_hek : nk = es.length) (hev : nv = es.length) (hlen : l.length + 1 < 1099511627776) (R : List Asn) (ops : Array Oper) (hops : ops = oCo10I) (hsz : a.tmps.size = 88) (h0 : a.eval (.tmp 0) = .pointer (some ⟨b, 0, none⟩)) (h9 : a.eval (.tmp 9) = .int .i64 i) (_h1 : a.eval (.tmp 1) = vo)
    (hS : St w0 fp0 ([pick false (boxsA 79 (a.eval (.tmp 85)) #[encI y.1, valI y.2]) emp, pick false (rowA 79 2 (a.eval (.tmp 86)) (l.length + 1) (entsI l ++ [encI y.1, valI y.2])) (rowA 79 2 vo l.length (entsI l)), pick false (pureA ((a.eval (.tmp 1)) = (a.eval (.tmp 86)))) (pureA ((a.eval (.tmp 1)) = vo)), blkA b 70 #[.slice (some ⟨gk, 0, none⟩) nk ck, .slice (some ⟨gv, 0, none⟩) nv cv, ps], slA 3 (.slice (some ⟨gk, 0, none⟩) nk ck) (keysI es), slA 3 (.slice (some ⟨gv, 0, none⟩) nv cv) (valsI es)] ++ R) w)
    (hQ : ∀ (u : Nat → Value) w1, St w0 fp0 ([pick true (boxsA 79 (u 85) #[encI y.1, valI y.2]) emp, pick true (rowA 79 2 (u 86) (l.length + 1) (entsI l ++ [encI y.1, valI y.2])) (rowA 79 2 vo l.length (entsI l)), pick true (pureA ((u 1) = (u 86))) (pureA ((u 1) = vo)), blkA b 70 #[.slice (some ⟨gk, 0, none⟩) nk ck, .slice (some ⟨gv, 0, none⟩) nv cv, ps], slA 3 (.slice (some ⟨gk, 0, none⟩) nk ck) (keysI es), slA 3 (.slice (some ⟨gv, 0, none⟩) nv cv) (valsI es)] ++ R) w1 → Q .normal (putL a (([69, 70, 71, 72, 73, 74, 75, 76, 77, 78, 79, 80, 81, 82, 83, 84, 85, 86, 1] : List Nat).map fun d => (d, u d))) w1) : (Code.region 10 ops true).wp Try.prog Q a w := by
  subst hops
  have hyk : ∀ h, (keysI es)[i]'h = encI y.1 := by intro h; simp only [keysI, List.getElem_map]; rw [(List.getElem?_eq_some_iff.1 hy).2]
  have hyv : ∀ h, (valsI es)[i]'h = valI y.2 := by intro h; simp only [valsI, List.getElem_map]; rw [(List.getElem?_eq_some_iff.1 hy).2]
  have hsize : oCo10I.size = 19 := by kernel_rfl
  have hE : Looks (fun L g w => St w0 fp0 ([pick (L 16) (boxsA 79 (g 85) #[encI y.1, valI y.2]) emp, pick (L 17) (rowA 79 2 (g 86) (l.length + 1) (entsI l ++ [encI y.1, valI y.2])) (rowA 79 2 vo l.length (entsI l)), pick (L 18) (pureA ((g 1) = (g 86))) (pureA ((g 1) = vo)), blkA b 70 #[.slice (some ⟨gk, 0, none⟩) nk ck, .slice (some ⟨gv, 0, none⟩) nv cv, ps], slA 3 (.slice (some ⟨gk, 0, none⟩) nk ck) (keysI es), slA 3 (.slice (some ⟨gv, 0, none⟩) nv cv) (valsI es)] ++ R) w) [16, 17, 18] [85, 86, 1] := by
    intro L L' g g' w hL hg h
    simpa only [← hL 16 (by decide), ← hL 17 (by decide), ← hL 18 (by decide), ← hg 85 (by decide), ← hg 86 (by decide), ← hg 1 (by decide)] using h
  have hn1 : (([(0, 69, vo), (1, 70, .pointer (some ⟨b, 0, none⟩)), (2, 71, .pointer (some ⟨b, 0, none⟩)), (3, 72, .pointer (some ⟨b, 0, none⟩)), (4, 73, .slice (some ⟨gk, 0, none⟩) nk ck), (5, 74, .int .i64 i), (6, 75, .pointer (some ⟨gk, i, none⟩)), (7, 76, encI y.1), (8, 77, .pointer (some ⟨b, 0, none⟩)), (9, 78, .pointer (some ⟨b, 0, none⟩)), (10, 79, .pointer (some ⟨b, 1, none⟩)), (11, 80, .slice (some ⟨gv, 0, none⟩) nv cv), (12, 81, .int .i64 i), (13, 82, .pointer (some ⟨gv, i, none⟩)), (14, 83, valI y.2), (15, 84, .agg #[encI y.1, valI y.2])] : List (Nat × Nat × Value)).map (·.1)).Nodup := by
    show List.Nodup [0, 1, 2, 3, 4, 5, 6, 7, 8, 9, 10, 11, 12, 13, 14, 15]
    decide
  have hn2 : (([(0, 69, vo), (1, 70, .pointer (some ⟨b, 0, none⟩)), (2, 71, .pointer (some ⟨b, 0, none⟩)), (3, 72, .pointer (some ⟨b, 0, none⟩)), (4, 73, .slice (some ⟨gk, 0, none⟩) nk ck), (5, 74, .int .i64 i), (6, 75, .pointer (some ⟨gk, i, none⟩)), (7, 76, encI y.1), (8, 77, .pointer (some ⟨b, 0, none⟩)), (9, 78, .pointer (some ⟨b, 0, none⟩)), (10, 79, .pointer (some ⟨b, 1, none⟩)), (11, 80, .slice (some ⟨gv, 0, none⟩) nv cv), (12, 81, .int .i64 i), (13, 82, .pointer (some ⟨gv, i, none⟩)), (14, 83, valI y.2), (15, 84, .agg #[encI y.1, valI y.2])] : List (Nat × Nat × Value)).map (·.2.1)).Nodup := by
    show List.Nodup [69, 70, 71, 72, 73, 74, 75, 76, 77, 78, 79, 80, 81, 82, 83, 84]
    decide
  refine wp_region_vals (ops' := oCo10I) [69, 70, 71, 72, 73, 74, 75, 76, 77, 78, 79, 80, 81, 82, 83, 84, 85, 86, 1] [(0, 69, vo), (1, 70, .pointer (some ⟨b, 0, none⟩)), (2, 71, .pointer (some ⟨b, 0, none⟩)), (3, 72, .pointer (some ⟨b, 0, none⟩)), (4, 73, .slice (some ⟨gk, 0, none⟩) nk ck), (5, 74, .int .i64 i), (6, 75, .pointer (some ⟨gk, i, none⟩)), (7, 76, encI y.1), (8, 77, .pointer (some ⟨b, 0, none⟩)), (9, 78, .pointer (some ⟨b, 0, none⟩)), (10, 79, .pointer (some ⟨b, 1, none⟩)), (11, 80, .slice (some ⟨gv, 0, none⟩) nv cv), (12, 81, .int .i64 i), (13, 82, .pointer (some ⟨gv, i, none⟩)), (14, 83, valI y.2), (15, 84, .agg #[encI y.1, valI y.2])] (fun L g w => St w0 fp0 ([pick (L 16) (boxsA 79 (g 85) #[encI y.1, valI y.2]) emp, pick (L 17) (rowA 79 2 (g 86) (l.length + 1) (entsI l ++ [encI y.1, valI y.2])) (rowA 79 2 vo l.length (entsI l)), pick (L 18) (pureA ((g 1) = (g 86))) (pureA ((g 1) = vo)), blkA b 70 #[.slice (some ⟨gk, 0, none⟩) nk ck, .slice (some ⟨gv, 0, none⟩) nv cv, ps], slA 3 (.slice (some ⟨gk, 0, none⟩) nk ck) (keysI es), slA 3 (.slice (some ⟨gv, 0, none⟩) nv cv) (valsI es)] ++ R) w) rfl (by kernel_rfl) (by kernel_rfl) (hS.mono (below_drew w)) ?_ ?_
  · intro oi o L a1 w1 ho hL hdep hI
    have hoi : oi < 19 := by have := (Array.getElem?_eq_some_iff.1 ho).1; omega
    have h1sz : a1.tmps.size = 88 := hI.frame.size.trans hsz
    rcases (by omega : oi = 0 ∨ oi = 1 ∨ oi = 2 ∨ oi = 3 ∨ oi = 4 ∨ oi = 5 ∨ oi = 6 ∨ oi = 7 ∨ oi = 8 ∨ oi = 9 ∨ oi = 10 ∨ oi = 11 ∨ oi = 12 ∨ oi = 13 ∨ oi = 14 ∨ oi = 15 ∨ oi = 16 ∨ oi = 17 ∨ oi = 18) with rfl | rfl | rfl | rfl | rfl | rfl | rfl | rfl | rfl | rfl | rfl | rfl | rfl | rfl | rfl | rfl | rfl | rfl | rfl
    · have hl : oCo10I[0]? = some ⟨some 69, Op.move (Operand.tmp 1), _, _, _, none⟩ := rfl
      obtain rfl := oI ho hl
      have hS1 := hI.eff
      have e17 : L 17 = false := hI.no hL (by kernel_rfl : waitsB oCo10I 17 0 = true)
      have e18 : L 18 = false := hI.no hL (by kernel_rfl : waitsB oCo10I 18 0 = true)
      simp only [e17, e18, pick_false] at hS1
      obtain ⟨_, hP, _⟩ := hS1.has 2 rfl
      have hcell := eval_spell hP
      exact hI.rd hE hsz 0 69 (vo) ho rfl rfl hdep (by decide) (vals_at hn1 hn2 0 rfl) (by simp [go_sem, execOp, Act.eval, hcell])
    · have hl : oCo10I[1]? = some ⟨some 70, Op.move (Operand.tmp 0), _, _, _, none⟩ := rfl
      obtain rfl := oI ho hl
      have x0 := hI.old 0 (.pointer (some ⟨b, 0, none⟩)) (by decide) h0
      exact hI.rd hE hsz 1 70 (.pointer (some ⟨b, 0, none⟩)) ho rfl rfl hdep (by decide) (vals_at hn1 hn2 1 rfl) (by simp [go_sem, execOp, Act.eval, x0])
    · have hl : oCo10I[2]? = some ⟨some 71, Op.nilCheck (Operand.tmp 70), _, _, _, none⟩ := rfl
      obtain rfl := oI ho hl
      have x70 := hI.val 1 70 (.pointer (some ⟨b, 0, none⟩)) (mG (i := 1) rfl) (dK ho hdep (by kernel_rfl : waitsB oCo10I 2 1 = true))
      exact hI.rd hE hsz 2 71 (.pointer (some ⟨b, 0, none⟩)) ho rfl rfl hdep (by decide) (vals_at hn1 hn2 2 rfl) (by simp [go_sem, execOp, Act.eval, x70])
    · have hl : oCo10I[3]? = some ⟨some 72, Op.fieldAddr _ (Operand.tmp 71) 0, _, _, _, none⟩ := rfl
      obtain rfl := oI ho hl
      have x71 := hI.val 2 71 (.pointer (some ⟨b, 0, none⟩)) (mG (i := 2) rfl) (dK ho hdep (by kernel_rfl : waitsB oCo10I 3 2 = true))
      exact hI.rd hE hsz 3 72 (.pointer (some ⟨b, 0, none⟩)) ho rfl rfl hdep (by decide) (vals_at hn1 hn2 3 rfl) (by simp [go_sem, execOp, Act.eval, x71])
    · have hl : oCo10I[4]? = some ⟨some 73, Op.load _ (Operand.tmp 72), _, _, _, none⟩ := rfl
      obtain rfl := oI ho hl
      have x72 := hI.val 3 72 (.pointer (some ⟨b, 0, none⟩)) (mG (i := 3) rfl) (dK ho hdep (by kernel_rfl : waitsB oCo10I 4 3 = true))
      have hS1 := hI.eff
      have e18 : L 18 = false := hI.no hL (by kernel_rfl : waitsB oCo10I 18 4 = true)
      simp only [e18, pick_false] at hS1
      obtain ⟨_, hp⟩ := hS1.has 3 rfl
      have hcell := (blk_get hp).1 0
      have hlt := (blk_get hp).2.2
      simp only [List.getElem?_toArray, List.getElem?_cons_zero] at hcell
      exact hI.rd hE hsz 4 73 (.slice (some ⟨gk, 0, none⟩) nk ck) ho rfl rfl hdep (by decide) (vals_at hn1 hn2 4 rfl) (by simp [go_sem, execOp, Act.eval, x72, hcell])
    · have hl : oCo10I[5]? = some ⟨some 74, Op.move (Operand.tmp 9), _, _, _, none⟩ := rfl
      obtain rfl := oI ho hl
      have x9 := hI.old 9 (.int .i64 i) (by decide) h9
      exact hI.rd hE hsz 5 74 (.int .i64 i) ho rfl rfl hdep (by decide) (vals_at hn1 hn2 5 rfl) (by simp [go_sem, execOp, Act.eval, x9])
    · have hl : oCo10I[6]? = some ⟨some 75, Op.indexAddr _ (Operand.tmp 73) (Operand.tmp 74), _, _, _, none⟩ := rfl
      obtain rfl := oI ho hl
      have x73 := hI.val 4 73 (.slice (some ⟨gk, 0, none⟩) nk ck) (mG (i := 4) rfl) (dK ho hdep (by kernel_rfl : waitsB oCo10I 6 4 = true))
      have x74 := hI.val 5 74 (.int .i64 i) (mG (i := 5) rfl) (dK ho hdep (by kernel_rfl : waitsB oCo10I 6 5 = true))
      exact hI.rd hE hsz 6 75 (.pointer (some ⟨gk, i, none⟩)) ho rfl rfl hdep (by decide) (vals_at hn1 hn2 6 rfl) (by simp [go_sem, execOp, Act.eval, x73, x74, hik])
    · have hl : oCo10I[7]? = some ⟨some 76, Op.load _ (Operand.tmp 75), _, _, _, none⟩ := rfl
      obtain rfl := oI ho hl
      have x75 := hI.val 6 75 (.pointer (some ⟨gk, i, none⟩)) (mG (i := 6) rfl) (dK ho hdep (by kernel_rfl : waitsB oCo10I 7 6 = true))
      have hS1 := hI.eff
      have e18 : L 18 = false := hI.no hL (by kernel_rfl : waitsB oCo10I 18 7 = true)
      simp only [e18, pick_false] at hS1
      obtain ⟨_, hp⟩ := hS1.has 4 rfl
      obtain ⟨hcell, _, hlt, _⟩ := sl_elem hp (i) (by rw [keysI_length]; omega)
      rw [hyk] at hcell
      exact hI.rd hE hsz 7 76 (encI y.1) ho rfl rfl hdep (by decide) (vals_at hn1 hn2 7 rfl) (by simp [go_sem, execOp, Act.eval, x75, hcell])
    · have hl : oCo10I[8]? = some ⟨some 77, Op.move (Operand.tmp 0), _, _, _, none⟩ := rfl
      obtain rfl := oI ho hl
      have x0 := hI.old 0 (.pointer (some ⟨b, 0, none⟩)) (by decide) h0
      exact hI.rd hE hsz 8 77 (.pointer (some ⟨b, 0, none⟩)) ho rfl rfl hdep (by decide) (vals_at hn1 hn2 8 rfl) (by simp [go_sem, execOp, Act.eval, x0])
    · have hl : oCo10I[9]? = some ⟨some 78, Op.nilCheck (Operand.tmp 77), _, _, _, none⟩ := rfl
      obtain rfl := oI ho hl
      have x77 := hI.val 8 77 (.pointer (some ⟨b, 0, none⟩)) (mG (i := 8) rfl) (dK ho hdep (by kernel_rfl : waitsB oCo10I 9 8 = true))
      exact hI.rd hE hsz 9 78 (.pointer (some ⟨b, 0, none⟩)) ho rfl rfl hdep (by decide) (vals_at hn1 hn2 9 rfl) (by simp [go_sem, execOp, Act.eval, x77])
    · have hl : oCo10I[10]? = some ⟨some 79, Op.fieldAddr _ (Operand.tmp 78) 1, _, _, _, none⟩ := rfl
      obtain rfl := oI ho hl
      have x78 := hI.val 9 78 (.pointer (some ⟨b, 0, none⟩)) (mG (i := 9) rfl) (dK ho hdep (by kernel_rfl : waitsB oCo10I 10 9 = true))
      exact hI.rd hE hsz 10 79 (.pointer (some ⟨b, 1, none⟩)) ho rfl rfl hdep (by decide) (vals_at hn1 hn2 10 rfl) (by simp [go_sem, execOp, Act.eval, x78])
    · have hl : oCo10I[11]? = some ⟨some 80, Op.load _ (Operand.tmp 79), _, _, _, none⟩ := rfl
      obtain rfl := oI ho hl
      have x79 := hI.val 10 79 (.pointer (some ⟨b, 1, none⟩)) (mG (i := 10) rfl) (dK ho hdep (by kernel_rfl : waitsB oCo10I 11 10 = true))
      have hS1 := hI.eff
      have e18 : L 18 = false := hI.no hL (by kernel_rfl : waitsB oCo10I 18 11 = true)
      simp only [e18, pick_false] at hS1
      obtain ⟨_, hp⟩ := hS1.has 3 rfl
      have hcell := (blk_get hp).1 1
      have hlt := (blk_get hp).2.2
      simp only [List.getElem?_toArray, List.getElem?_cons_zero, List.getElem?_cons_succ] at hcell
      exact hI.rd hE hsz 11 80 (.slice (some ⟨gv, 0, none⟩) nv cv) ho rfl rfl hdep (by decide) (vals_at hn1 hn2 11 rfl) (by simp [go_sem, execOp, Act.eval, x79, hcell])
    · have hl : oCo10I[12]? = some ⟨some 81, Op.move (Operand.tmp 9), _, _, _, none⟩ := rfl
      obtain rfl := oI ho hl
      have x9 := hI.old 9 (.int .i64 i) (by decide) h9
      exact hI.rd hE hsz 12 81 (.int .i64 i) ho rfl rfl hdep (by decide) (vals_at hn1 hn2 12 rfl) (by simp [go_sem, execOp, Act.eval, x9])
    · have hl : oCo10I[13]? = some ⟨some 82, Op.indexAddr _ (Operand.tmp 80) (Operand.tmp 81), _, _, _, none⟩ := rfl
      obtain rfl := oI ho hl
      have x80 := hI.val 11 80 (.slice (some ⟨gv, 0, none⟩) nv cv) (mG (i := 11) rfl) (dK ho hdep (by kernel_rfl : waitsB oCo10I 13 11 = true))
      have x81 := hI.val 12 81 (.int .i64 i) (mG (i := 12) rfl) (dK ho hdep (by kernel_rfl : waitsB oCo10I 13 12 = true))
      exact hI.rd hE hsz 13 82 (.pointer (some ⟨gv, i, none⟩)) ho rfl rfl hdep (by decide) (vals_at hn1 hn2 13 rfl) (by simp [go_sem, execOp, Act.eval, x80, x81, hiv])
    · have hl : oCo10I[14]? = some ⟨some 83, Op.load _ (Operand.tmp 82), _, _, _, none⟩ := rfl
      obtain rfl := oI ho hl
      have x82 := hI.val 13 82 (.pointer (some ⟨gv, i, none⟩)) (mG (i := 13) rfl) (dK ho hdep (by kernel_rfl : waitsB oCo10I 14 13 = true))
      have hS1 := hI.eff
      have e18 : L 18 = false := hI.no hL (by kernel_rfl : waitsB oCo10I 18 14 = true)
      simp only [e18, pick_false] at hS1
      obtain ⟨_, hp⟩ := hS1.has 5 rfl
      obtain ⟨hcell, _, hlt, _⟩ := sl_elem hp (i) (by rw [valsI_length]; omega)
      rw [hyv] at hcell
      exact hI.rd hE hsz 14 83 (valI y.2) ho rfl rfl hdep (by decide) (vals_at hn1 hn2 14 rfl) (by simp [go_sem, execOp, Act.eval, x82, hcell])
    · have hl : oCo10I[15]? = some ⟨some 84, Op.build _ #[(0, Operand.tmp 76), (1, Operand.tmp 83)], _, _, _, none⟩ := rfl
      obtain rfl := oI ho hl
      have x76 := hI.val 7 76 (encI y.1) (mG (i := 7) rfl) (dK ho hdep (by kernel_rfl : waitsB oCo10I 15 7 = true))
      have x83 := hI.val 14 83 (valI y.2) (mG (i := 14) rfl) (dK ho hdep (by kernel_rfl : waitsB oCo10I 15 14 = true))
      exact hI.rd hE hsz 15 84 (.agg #[encI y.1, valI y.2]) ho rfl rfl hdep (by decide) (vals_at hn1 hn2 15 rfl) (by simp [go_sem, execOp, Act.eval, x76, x83, encI, valI])
    · have hl : oCo10I[16]? = some ⟨some 85, Op.buildSlice _ 1 #[(0, Operand.tmp 84)], _, _, _, none⟩ := rfl
      obtain rfl := oI ho hl
      have x84 := hI.val 15 84 (.agg #[encI y.1, valI y.2]) (mG (i := 15) rfl) (dK ho hdep (by kernel_rfl : waitsB oCo10I 16 15 = true))
      have hS1 := hI.eff
      have e16 : L 16 = false := hL
      have e17 : L 17 = false := hI.no hL (by kernel_rfl : waitsB oCo10I 17 16 = true)
      have e18 : L 18 = false := hI.no hL (by kernel_rfl : waitsB oCo10I 18 16 = true)
      simp only [e16, e17, e18, pick_false] at hS1
      refine inv_value ho rfl (v := .slice (some ⟨w1.heap.size, 0, none⟩) 1 1) (w' := w1.alloc (.cells #[encI y.1, valI y.2] 79)) (by simp [go_sem, execOp, Act.eval, x84, encI, valI]) (hI.put 16 85 _ ho hdep (by decide) (by intro t ht; exact vals_ne2 rfl rfl (by decide : 16 ∉ [0, 1, 2, 3, 4, 5, 6, 7, 8, 9, 10, 11, 12, 13, 14, 15]) (by decide : 85 ∉ [69, 70, 71, 72, 73, 74, 75, 76, 77, 78, 79, 80, 81, 82, 83, 84]) ht) ?_)
      have hS2 := St.boxs hS1 0 rfl 79 #[encI y.1, valI y.2]
      simp only [e16, e17, e18, Bool.or_false, Bool.or_true, Nat.reduceEqDiff, decide_true, decide_false, pick_true, pick_false, eval_put_same (by rw [h1sz]; decide : 85 < a1.tmps.size), eval_put_ne (by decide : 85 ≠ 86), eval_put_ne (by decide : 85 ≠ 1)]
      exact hS2
    · have hl : oCo10I[17]? = some ⟨some 86, Op.call ⟨Callee.builtin Builtin.append, #[Operand.tmp 69, Operand.tmp 85], _⟩, _, _, _, none⟩ := rfl
      obtain rfl := oI ho hl
      have x69 := hI.val 0 69 (vo) (mG (i := 0) rfl) (dK ho hdep (by kernel_rfl : waitsB oCo10I 17 0 = true))
      have hS1 := hI.eff
      have e16 : L 16 = true := dK ho hdep (by kernel_rfl : waitsB oCo10I 17 16 = true)
      have e17 : L 17 = false := hL
      have e18 : L 18 = false := hI.no hL (by kernel_rfl : waitsB oCo10I 18 17 = true)
      simp only [e16, e17, e18, pick_true, pick_false] at hS1
      obtain ⟨f, g, hbx, hrw, _, _, hset⟩ := hS1.two 0 1 (by decide) rfl rfl
      obtain ⟨vb, hgb, hvb, rfl⟩ := hbx
      obtain ⟨v2, w2, f2, hr2, ho2, ht2⟩ := runEntI w1 _ hrw vb y hvb hlen
      refine inv_value ho rfl (v := v2) (w' := w2) (run_append_op (s := .tmp 69) (x := .tmp 85) (t := 75) rfl (spell_eval x69) hgb hr2) (hI.put 17 86 _ ho hdep (by decide) (by intro t ht; exact vals_ne2 rfl rfl (by decide : 17 ∉ [0, 1, 2, 3, 4, 5, 6, 7, 8, 9, 10, 11, 12, 13, 14, 15]) (by decide : 86 ∉ [69, 70, 71, 72, 73, 74, 75, 76, 77, 78, 79, 80, 81, 82, 83, 84]) ht) ?_)
      have hS2 := hset _ _ _ ho2 ht2
      simp only [e16, e17, e18, Bool.or_false, Bool.or_true, Nat.reduceEqDiff, decide_true, decide_false, pick_true, pick_false, eval_put_same (by rw [h1sz]; decide : 86 < a1.tmps.size), eval_put_ne (by decide : 86 ≠ 85), eval_put_ne (by decide : 86 ≠ 1)]
      exact hS2
    · have hl : oCo10I[18]? = some ⟨some 1, Op.assign (Operand.tmp 86), _, _, _, none⟩ := rfl
      obtain rfl := oI ho hl
      have hS1 := hI.eff
      have e16 : L 16 = true := dK ho hdep (by kernel_rfl : waitsB oCo10I 18 16 = true)
      have e17 : L 17 = true := dK ho hdep (by kernel_rfl : waitsB oCo10I 18 17 = true)
      have e18 : L 18 = false := hL
      simp only [e16, e17, e18, pick_true, pick_false] at hS1
      refine inv_value ho rfl (v := a1.eval (.tmp 86)) (w' := w1) (by simp [go_sem, execOp, Act.eval]) (hI.put 18 1 _ ho hdep (by decide) (by intro t ht; exact vals_ne2 rfl rfl (by decide : 18 ∉ [0, 1, 2, 3, 4, 5, 6, 7, 8, 9, 10, 11, 12, 13, 14, 15]) (by decide : 1 ∉ [69, 70, 71, 72, 73, 74, 75, 76, 77, 78, 79, 80, 81, 82, 83, 84]) ht) ?_)
      have hS2 := hS1.setP' 2 rfl True trivial
      simp only [e16, e17, e18, Bool.or_false, Bool.or_true, Nat.reduceEqDiff, decide_true, decide_false, pick_true, eval_put_same (by rw [h1sz]; decide : 1 < a1.tmps.size), eval_put_ne (by decide : 1 ≠ 85), eval_put_ne (by decide : 1 ≠ 86)]
      exact hS2
  · intro L a1 w1 hL hI
    have hS1 := hI.eff
    simp only [hL 16 (by rw [hsize]; decide), hL 17 (by rw [hsize]; decide), hL 18 (by rw [hsize]; decide), pick_true] at hS1
    have := hQ (fun d => a1.eval (.tmp d)) w1  hS1
    have e := hI.frame.eq
    rw [e]
    exact this
end Go.Proofs.Ytldofiankhimjaa
/- collect (I). -/
namespace Go.Proofs.Ytldofiankhimjaa
open Go.RowKit
/-- A key behind a pointer, or none. -/
def optA (p : Value) : Option Int → Asn
  | none => pureA (p = .pointer none)
  | some k => atA 3 p #[encI k]
theorem St.kidoutI {w0 w : World} {fp0 : List Nat} {L : List Asn} {h i : Nat} {cs : List TI} {bs : List Nat} {c : TI} {cb : Nat} (hl : bs.length = cs.length) (hc : cs[i]? = some c) (hb : bs[i]? = some cb) :
    St w0 fp0 (starA (List.zipWith (treeI h) cs bs) :: L) w ↔ St w0 fp0 (treeI h c cb :: restI h i (i + 1) cs bs :: L) w := by
  rw [zip3I h i (i + 1) (Nat.le_succ i) cs bs hl, mid1 hc, mid1 hb]
  have hp : ((List.zipWith (treeI h) (cs.take i) (bs.take i) ++ (List.zipWith (treeI h) [c] [cb] ++ List.zipWith (treeI h) (cs.drop (i + 1)) (bs.drop (i + 1)))) ++ L).Perm ((List.zipWith (treeI h) (cs.take i) (bs.take i) ++ List.zipWith (treeI h) (cs.drop (i + 1)) (bs.drop (i + 1))) ++ (treeI h c cb :: L)) := by
    classical
    refine List.perm_iff_count.2 fun a => ?_
    simp only [List.zipWith, List.cons_append, List.nil_append, List.count_append, List.count_cons]
    omega
  constructor
  · intro h0
    have h1 : St w0 fp0 (restI h i (i + 1) cs bs :: treeI h c cb :: L) w := St.star.2 ((St.star.1 h0).perm hp)
    exact h1.perm (List.Perm.swap _ _ _)
  · intro h0
    have h1 : St w0 fp0 (restI h i (i + 1) cs bs :: treeI h c cb :: L) w := h0.perm (List.Perm.swap _ _ _)
    exact St.star.2 ((St.star.1 h1).perm hp.symm)
/-- The state of a collection. -/
def CoLI (h : Nat) (es : M Int Int) (cs : List TI) (b : Nat) (ks vs ps : Value) (bs : List Nat) (lo hi : Option Int) (pl ph : Value) (R : List Asn) (v : Value) (l : M Int Int) : List Asn :=
  entI v l :: blkA b 70 #[ks, vs, ps] :: slA 3 ks (keysI es) :: slA 3 vs (valsI es) :: slA 67 ps (bs.map ptrI) :: starA (List.zipWith (kidI h) cs bs) :: optA pl lo :: optA ph hi :: R
theorem CoL_lookI {w0 w : World} {fp0 : List Nat} {h : Nat} {es : M Int Int} {cs : List TI} {b : Nat} {ks vs ps : Value} {bs : List Nat} {lo hi : Option Int} {pl ph : Value} {R : List Asn} {v : Value} {l : M Int Int} (hs : St w0 fp0 (CoLI h es cs b ks vs ps bs lo hi pl ph R v l) w) :
    ∃ ka kc va vc pa pc, ks = .slice ka es.length kc ∧ vs = .slice va es.length vc ∧ ps = .slice pa bs.length pc := by
  obtain ⟨_, h1⟩ := hs.has 2 rfl
  obtain ⟨_, h2⟩ := hs.has 3 rfl
  obtain ⟨_, h3⟩ := hs.has 4 rfl
  obtain ⟨ka, kc, e1, _⟩ := sl_get h1
  obtain ⟨va, vc, e2, _⟩ := sl_get h2
  obtain ⟨pa, pc, e3, _⟩ := sl_get h3
  rw [keysI_length] at e1
  rw [valsI_length] at e2
  rw [List.length_map] at e3
  exact ⟨ka, kc, va, vc, pa, pc, e1, e2, e3⟩
theorem CoL_cellsI {w0 w : World} {fp0 : List Nat} {h : Nat} {es : M Int Int} {cs : List TI} {b : Nat} {ks vs ps : Value} {bs : List Nat} {lo hi : Option Int} {pl ph : Value} {R : List Asn} {v : Value} {l : M Int Int} (hs : St w0 fp0 (CoLI h es cs b ks vs ps bs lo hi pl ph R v l) w) :
    w.cell? ⟨b, 0, none⟩ = some ks ∧ w.cell? ⟨b, 1, none⟩ = some vs ∧ w.cell? ⟨b, 2, none⟩ = some ps ∧ b < w.heap.size ∧ (∃ f, (blkA b 70 #[ks, vs, ps]).p w f) ∧ KeysI w es ks := by
  obtain ⟨_, h1⟩ := hs.has 1 rfl
  obtain ⟨_, h2⟩ := hs.has 2 rfl
  exact ⟨(blk_get h1).1 0, (blk_get h1).1 1, (blk_get h1).1 2, (blk_get h1).2.2, ⟨_, h1⟩, ⟨_, h2⟩⟩
def ColI (w0 : World) (fp0 : List Nat) (h : Nat) (x : TI) (b : Nat) (lo hi : Option Int) (pl ph vo : Value) (l : M Int Int) (R : List Asn) (w : World) : Prop :=
  Calls Try.prog 39 #[.pointer (some ⟨b, 0, none⟩), vo, pl, ph] w fun e w' => ∃ v', e = .returned v' ∧ St w0 fp0 (entI v' (l ++ selM lo hi (toL h x)) :: treeI h x b :: optA pl lo :: optA ph hi :: R) w'
set_option maxHeartbeats 8000000 in
set_option maxRecDepth 20000 in
theorem colstepI {o : Nat} (ho' : o ≤ 1024) (h : Nat) (x : TI) (b : Nat) (lo hi : Option Int) (pl ph vo : Value) (l : M Int Int) (w0 w : World) (fp0 : List Nat) (R : List Asn) (lob : Nat) (hb : Body o h lob (o - 1) x) (ha : AscM (toL h x)) (hlen : l.length + (toL h x).length < 1099511627776)
    (HREC : ∀ h', h = h' + 1 → ∀ (x : TI) (b : Nat) (vo : Value) (l : M Int Int) (w : World) (R : List Asn) (lob : Nat), Body o h' lob (o - 1) x → AscM (toL h' x) → l.length + (toL h' x).length < 1099511627776 →
      St w0 fp0 (entI vo l :: treeI h' x b :: optA pl lo :: optA ph hi :: R) w → ColI w0 fp0 h' x b lo hi pl ph vo l R w)
    (hS : St w0 fp0 (entI vo l :: treeI h x b :: optA pl lo :: optA ph hi :: R) w) : ColI w0 fp0 h x b lo hi pl ph vo l R w := by
    have HREC2 := Lib.hid HREC
    clear HREC
    unfold ColI
    obtain ⟨ks, vs, ps, bs, hl, hS1⟩ := (hS.perm (List.Perm.swap _ _ _)).openNI
    have hS2 : St w0 fp0 (CoLI h x.es x.cs b ks vs ps bs lo hi pl ph R vo l) w := by
      refine hS1.perm ?_
      unfold CoLI
      classical
      refine List.perm_iff_count.2 fun a => ?_
      simp only [List.count_cons]
      omega
    have HSb : RowKit.Hid (∀ wx v l', St w0 fp0 (CoLI h x.es x.cs b ks vs ps bs lo hi pl ph R v l') wx → St w0 fp0 (entI v l' :: treeI h x b :: optA pl lo :: optA ph hi :: R) wx) := by
      intro wx v l' h0
      have h1 : St w0 fp0 (treeI h x b :: entI v l' :: optA pl lo :: optA ph hi :: R) wx := by
        rw [show treeI h x b = treeI h (.node x.es x.cs) b by rw [T.eta]]
        refine St.shutNI (ks := ks) (vs := vs) (ps := ps) hl (h0.perm ?_)
        unfold CoLI
        classical
        refine List.perm_iff_count.2 fun a => ?_
        simp only [List.count_cons]
        omega
      exact h1.perm (List.Perm.swap _ _ _)
    obtain ⟨ka, kc, va, vc, pa, pc, rfl, rfl, rfl⟩ := CoL_lookI hS2
    have HS := Lib.hid hS2
    have hn40 : x.es.length < 1099511627776 := by have := (sub_toL h x).length_le; omega
    have hae : AscM x.es := asc_es ha
    obtain ⟨c0, -, -, cl, ⟨_, hbk⟩, hk⟩ := CoL_cellsI hS2
    have HF := Lib.hid (fun k => findI_calls b _ _ _ x.es k w hbk hk hae hn40)
    unfold ptrI at HF
    have hsi := startI_le lo x.es
    have Hb := Lib.hid hb
    have Ha := Lib.hid ha
    have Hl := Lib.hid hl
    have Hae := Lib.hid hae
    have Hlen := Lib.hid hlen
    have Hstart := Lib.hid (sel_start hb ha lo hi)
    have Hend := Lib.hid (part_end hb)
    have Ho' := Lib.hid ho'
    obtain ⟨n, hn⟩ : ∃ n, x.es.length = n := ⟨_, rfl⟩
    obtain ⟨m, hm⟩ : ∃ m, bs.length = m := ⟨_, rfl⟩
    have Hn := Lib.hid hn
    have Hm := Lib.hid hm
    obtain ⟨i0, hi0⟩ : ∃ i0, startI lo x.es = i0 := ⟨_, rfl⟩
    have Hi0 := Lib.hid hi0
    rw [hn] at c0 hn40 hsi HS HSb
    rw [hm] at HS HSb
    rw [hi0] at hsi Hstart
    clear hS hS1 hS2 hb ha hl hae hlen hn hm hbk hk hi0 ho'
    go_enter Try.func39, Try.ntmps39
    go_upto_region 2 with (fail)
    go_cut [11] (fun z wx => z = .bool lo.isSome ∧ wx = w)
    case first =>
      cases lo with
      | none =>
        obtain ⟨_, hq⟩ := HS.out.has 6 rfl
        obtain rfl := hq.1
        go_wp2_with fail
        go_meet
        exact ⟨rfl, rfl⟩
      | some k =>
        obtain ⟨_, lb, rfl, hq⟩ := HS.out.has 6 rfl
        clear hq
        go_wp2_with fail
        go_meet
        exact ⟨rfl, rfl⟩
    obtain ⟨rfl, rfl⟩ := hcut
    go_upto_if 11 with (fail)
    go_cut [9] (fun z wx => z = .int .i64 i0 ∧ RowKit.Hid (St w0 fp0 (CoLI h x.es x.cs b (.slice ka n kc) (.slice va n vc) (.slice pa m pc) bs lo hi pl ph R vo l) wx))
    case first =>
      cases lo with
      | none =>
        obtain ⟨_, hq⟩ := HS.out.has 6 rfl
        obtain rfl := hq.1
        clear hq
        go_wp2_with fail
        go_meet
        exact ⟨by rw [← Hi0.out]; rfl, HS⟩
      | some k =>
        obtain ⟨_, lb, rfl, hq⟩ := HS.out.has 6 rfl
        have c3 := (blk_get hq).1 0
        have c3l := (blk_get hq).2.2
        simp only [List.getElem?_toArray, List.getElem?_cons_zero] at c3
        have HF1 := Lib.hid (HF.out k)
        obtain ⟨kk, hkk⟩ : ∃ kk, encI k = kk := ⟨_, rfl⟩
        rw [hkk] at c3 HF1
        have e0 : posK x.es k = i0 := Hi0.out
        rw [e0] at HF1
        generalize hasK x.es k = bb at *
        clear hq hkk e0 HF
        go_wp2_with fail
        (with_reducible refine HF1.out.mono ?_)
        rintro e w1 ⟨rfl, hb1⟩
        have HS1 := Lib.hid (HS.out.mono hb1)
        clear hb1 HF1 c3 c3l c0 cl
        go_wp2
        go_meet
        exact ⟨rfl, HS1⟩
    obtain ⟨rfl, HS1⟩ := hcut
    clear HF HS c0 cl
    go_wp2_with fail
    go_loopg [1, 9] (n + 1 - i0) (fun g z i wr => ∃ k : Nat, i = .int .i64 k ∧ g + k = n + 1 ∧ i0 ≤ k ∧ k ≤ n ∧ RowKit.Hid (St w0 fp0 (CoLI h x.es x.cs b (.slice ka n kc) (.slice va n vc) (.slice pa m pc) bs lo hi pl ph R z (l ++ selM lo hi (partL h x k))) wr))
    case atStart => exact ⟨i0, rfl, by omega, Nat.le_refl _, hsi, by rw [Hstart.out, List.append_nil]; exact HS1⟩
    case round =>
      obtain ⟨k, rfl, hg, hik, hkn, HSr⟩ := hrel
      clear HS1
      obtain ⟨c0, c1, c2, cl, ⟨_, hbk⟩, -⟩ := CoL_cellsI HSr.out
      have HL := Lib.hid (leafI_calls b _ _ pa m pc wr hbk)
      unfold ptrI at HL
      obtain ⟨lf, hlf⟩ : ∃ lf, (m == 0) = lf := ⟨_, rfl⟩
      rw [hlf] at HL
      have Hlf := Lib.hid hlf
      clear hlf
      have hle : decide ((k : Int) ≤ n) = true := by simp; omega
      have Hg := Lib.hid hg
      clear hbk hg c1
      go_wp2_with fail
      (with_reducible refine HL.out.mono ?_)
      rintro e w1 ⟨rfl, rfl⟩
      clear HL
      go_upto_if 31 with (fail)
      go_cut [1] from 20 to 86 (fun z wx => RowKit.Hid (St w0 fp0 (CoLI h x.es x.cs b (.slice ka n kc) (.slice va n vc) (.slice pa m pc) bs lo hi pl ph R z (l ++ selM lo hi (partL h x k ++ kidL h x k))) wx))
      case first =>
        cases h with
        | zero =>
          have hm0 : m = 0 := by rw [← Hm.out, Hl.out, Hb.out.2.2]; rfl
          obtain rfl : lf = true := by rw [← Hlf.out, hm0]; rfl
          clear hm0
          go_wp2_with fail
          go_meet
          show RowKit.Hid _
          rw [show kidL 0 x k = [] from rfl, List.append_nil]
          exact HSr
        | succ h =>
          have b3 := Hb.out.2.2.1
          have b4 := Hb.out.2.2.2
          have hkc : k < x.cs.length := by have := Hn.out; omega
          obtain ⟨c, hc⟩ : ∃ c, x.cs[k]? = some c := ⟨_, List.getElem?_eq_getElem hkc⟩
          obtain ⟨cb, hcb⟩ : ∃ cb, bs[k]? = some cb := ⟨_, List.getElem?_eq_getElem (by rw [Hl.out]; exact hkc)⟩
          have hkm : (k : Int) < m := by have := (List.getElem?_eq_some_iff.1 hcb).1; have := Hm.out; omega
          obtain rfl : lf = false := by rw [← Hlf.out]; exact beq_false_of_ne (by omega)
          have hkl : kidL (h + 1) x k = toL h c := by simp only [kidL, hc]
          have hsum : (partL (h + 1) x k).length + (toL h c).length ≤ (toL (h + 1) x).length := by
            rw [← hkl]
            by_cases e : k < x.es.length
            · obtain ⟨rest, hr⟩ := part_rest Hb.out (List.getElem?_eq_getElem e)
              rw [hr]
              simp only [List.length_append]
              omega
            · have e2 : k = x.es.length := by have := Hn.out; omega
              rw [Hend.out, e2, List.length_append]
              exact Nat.le_refl _
          have hfl : (selM lo hi (partL (h + 1) x k)).length ≤ (partL (h + 1) x k).length := List.length_filter_le _ _
          obtain ⟨_, hp4⟩ := HSr.out.has 4 rfl
          obtain ⟨gp, pc', epa, -, -⟩ := sl_some hp4 (by rw [List.length_map]; have := (List.getElem?_eq_some_iff.1 hcb).1; omega)
          injection epa with epa e2 e3
          clear e2 e3
          subst epa
          obtain ⟨c3, -, c3l, -⟩ := sl_elem hp4 k (by rw [List.length_map]; exact (List.getElem?_eq_some_iff.1 hcb).1)
          simp only [List.getElem_map] at c3
          rw [(List.getElem?_eq_some_iff.1 hcb).2] at c3
          unfold ptrI at c3
          have Hkl := Lib.hid hkl
          have hin : St w0 fp0 (entI u1 (l ++ selM lo hi (partL (h + 1) x k)) :: treeI h c cb :: optA pl lo :: optA ph hi :: restI h k (k + 1) x.cs bs :: blkA b 70 #[.slice ka n kc, .slice va n vc, .slice (some ⟨gp, 0, none⟩) m pc] :: slA 3 (.slice ka n kc) (keysI x.es) :: slA 3 (.slice va n vc) (valsI x.es) :: slA 67 (.slice (some ⟨gp, 0, none⟩) m pc) (bs.map ptrI) :: R) wr := by
            have h1 : St w0 fp0 (starA (List.zipWith (treeI h) x.cs bs) :: (entI u1 (l ++ selM lo hi (partL (h + 1) x k)) :: blkA b 70 #[.slice ka n kc, .slice va n vc, .slice (some ⟨gp, 0, none⟩) m pc] :: slA 3 (.slice ka n kc) (keysI x.es) :: slA 3 (.slice va n vc) (valsI x.es) :: slA 67 (.slice (some ⟨gp, 0, none⟩) m pc) (bs.map ptrI) :: optA pl lo :: optA ph hi :: R)) wr := by
              refine HSr.out.perm ?_
              unfold CoLI
              classical
              refine List.perm_iff_count.2 fun a => ?_
              simp only [List.count_cons, kidI]
              omega
            refine ((St.kidoutI Hl.out hc hcb).1 h1).perm ?_
            classical
            refine List.perm_iff_count.2 fun a => ?_
            simp only [List.count_cons]
            omega
          have HIH := Lib.hid (HREC2.out h rfl c cb u1 _ wr _ _ (b4 c (List.mem_of_getElem? hc)) (asc_kid2I b3 hc Ha.out) (by have := Hlen.out; rw [List.length_append]; omega) hin)
          unfold ColI at HIH
          have Hout : RowKit.Hid (∀ wx v, St w0 fp0 (entI v (l ++ selM lo hi (partL (h + 1) x k) ++ selM lo hi (toL h c)) :: treeI h c cb :: optA pl lo :: optA ph hi :: restI h k (k + 1) x.cs bs :: blkA b 70 #[.slice ka n kc, .slice va n vc, .slice (some ⟨gp, 0, none⟩) m pc] :: slA 3 (.slice ka n kc) (keysI x.es) :: slA 3 (.slice va n vc) (valsI x.es) :: slA 67 (.slice (some ⟨gp, 0, none⟩) m pc) (bs.map ptrI) :: R) wx →
              St w0 fp0 (CoLI (h + 1) x.es x.cs b (.slice ka n kc) (.slice va n vc) (.slice (some ⟨gp, 0, none⟩) m pc) bs lo hi pl ph R v (l ++ selM lo hi (partL (h + 1) x k ++ kidL (h + 1) x k))) wx) := by
            intro wx v h0
            rw [Hkl.out, selM_append, ← List.append_assoc]
            have h1 : St w0 fp0 (treeI h c cb :: restI h k (k + 1) x.cs bs :: (entI v (l ++ selM lo hi (partL (h + 1) x k) ++ selM lo hi (toL h c)) :: blkA b 70 #[.slice ka n kc, .slice va n vc, .slice (some ⟨gp, 0, none⟩) m pc] :: slA 3 (.slice ka n kc) (keysI x.es) :: slA 3 (.slice va n vc) (valsI x.es) :: slA 67 (.slice (some ⟨gp, 0, none⟩) m pc) (bs.map ptrI) :: optA pl lo :: optA ph hi :: R)) wx := by
              refine h0.perm ?_
              classical
              refine List.perm_iff_count.2 fun a => ?_
              simp only [List.count_cons]
              omega
            refine ((St.kidoutI Hl.out hc hcb).2 h1).perm ?_
            unfold CoLI
            classical
            refine List.perm_iff_count.2 fun a => ?_
            simp only [List.count_cons, kidI]
            omega
          clear HREC2 b3 b4 hkc hc hcb hkl hsum hfl hp4 hin HSr c0 hle hik hkn hn40 hsi
          go_wp2_with fail
          (with_reducible refine HIH.out.mono ?_)
          rintro e w1 ⟨v1, rfl, hs1⟩
          have HS1 := Lib.hid (Hout.out _ _ hs1)
          clear hs1 HIH Hout c2 cl c3 c3l
          go_wp2
          go_meet
          exact HS1
      clear HSr c0 c2 cl hle Hlf
      have HSr := hcut
      clear hcut
      obtain ⟨c0, c1, c2, cl, -, -⟩ := CoL_cellsI HSr.out
      clear c1 c2
      by_cases hke : k = n
      · subst hke
        have hb1 : ((k : Int) == k) = true := by simp
        have HR : RowKit.Hid (∀ q, St w0 fp0 (entI u1 (l ++ selM lo hi (toL h x)) :: treeI h x b :: optA pl lo :: optA ph hi :: R) (wc.drewN q)) := by
          intro q
          refine HSb.out _ _ _ ?_
          rw [Hend.out, Hn.out]
          exact HSr.out.mono (below_drewN _ _)
        clear HSr
        go_wp2
        go_quiet (fail)
        go_wp2
        go_ret
        exact ⟨_, rfl, HR.out _⟩
      · have hkl : k < x.es.length := by have := Hn.out; omega
        obtain ⟨y, hy⟩ : ∃ y, x.es[k]? = some y := ⟨_, List.getElem?_eq_getElem hkl⟩
        have hy' := (List.getElem?_eq_some_iff.1 hy).2
        have hkn' : (k : Int) < n := by have := Hn.out; omega
        have hb1 : ((k : Int) == n) = false := beq_false_of_ne (by omega)
        obtain ⟨_, hp2⟩ := HSr.out.has 2 rfl
        obtain ⟨_, hp3⟩ := HSr.out.has 3 rfl
        obtain ⟨gk0, _, eka, -, -⟩ := sl_some hp2 (by rw [keysI_length]; omega)
        injection eka with eka e2 e3
        clear e2 e3
        subst eka
        obtain ⟨gv0, _, eva, -, -⟩ := sl_some hp3 (by rw [valsI_length]; omega)
        injection eva with eva e2 e3
        clear e2 e3
        subst eva
        obtain ⟨c3, -, c3l, -⟩ := sl_elem hp2 k (by rw [keysI_length]; exact hkl)
        simp only [keysI, List.getElem_map] at c3
        rw [hy'] at c3
        obtain ⟨rest, hrest⟩ := part_rest Hb.out hy
        have hasc := Ha.out
        rw [hrest] at hasc
        have Hstop : RowKit.Hid (∀ kh, hi = some kh → ¬ ltK y.1 kh → ∀ q, St w0 fp0 (entI u1 (l ++ selM lo hi (toL h x)) :: treeI h x b :: optA pl lo :: optA ph hi :: R) (wc.drewN q)) := by
          intro kh ekh hlt q
          refine HSb.out _ _ _ ?_
          rw [hrest, ekh, sel_stop hasc hlt, ← ekh]
          exact HSr.out.mono (below_drewN _ _)
        have hlen2 : (l ++ selM lo hi (partL h x k ++ kidL h x k)).length + 1 < 1099511627776 := by
          have h1 : (selM lo hi (partL h x k ++ kidL h x k)).length ≤ (partL h x k ++ kidL h x k).length := List.length_filter_le _ _
          have h2 := congrArg List.length hrest
          have := Hlen.out
          simp only [List.length_append, List.length_cons] at h1 h2 ⊢
          omega
        have Hgo : RowKit.Hid ((∀ kh, hi = some kh → ltK y.1 kh) → l ++ selM lo hi (partL h x k ++ kidL h x k) ++ [y] = l ++ selM lo hi (partL h x (k + 1))) := by
          intro hh
          show _ = _
          rw [part_succ Hb.out hy, selM_append _ _ (_ ++ _) [y], sel_take Hae.out (by rw [Hi0.out]; exact hik) hy hh, List.append_assoc]
        have Hy := Lib.hid hy
        have Hlen2 := Lib.hid hlen2
        obtain ⟨ek, hek⟩ : ∃ ek, encI y.1 = ek := ⟨_, rfl⟩
        have Hek := Lib.hid hek
        rw [hek] at c3
        have Hik := Lib.hid hik
        have Hkl := Lib.hid hkl
        have Hkn := Lib.hid hkn'
        clear hy hy' hp2 hp3 hrest hasc hlen2 hek hke hik hkn hkl rest
        go_upto_region 8 with (fail)
        go_cut [67] from 20 to 86 (fun z wx => ∃ t : Bool, z = .bool t ∧ (∃ q, wx = wc.drewN q) ∧ (t = true → ∃ kh, hi = some kh ∧ ¬ ltK y.1 kh) ∧ (t = false → ∀ kh, hi = some kh → ltK y.1 kh))
        case first =>
          cases hi with
          | none =>
            obtain ⟨_, hq⟩ := HSr.out.has 7 rfl
            obtain rfl := hq.1
            clear hq
            go_quiet (fail)
            go_step
            go_step
            go_meet
            exact ⟨false, rfl, ⟨_, rfl⟩, by simp, by simp⟩
          | some kh =>
            obtain ⟨_, hb0, rfl, hq⟩ := HSr.out.has 7 rfl
            have c4 := (blk_get hq).1 0
            have c4l := (blk_get hq).2.2
            simp only [List.getElem?_toArray, List.getElem?_cons_zero] at c4
            have HC : RowKit.Hid (∀ w, Calls Try.prog 40 #[ek, encI kh] w fun e w' => e = .returned (.int .i64 (KOrd.cmp y.1 kh)) ∧ w' = w) := by
              intro w
              rw [← Hek.out]
              exact cmpqI_calls y.1 kh w
            have Hlt : RowKit.Hid (ltK y.1 kh ↔ KOrd.cmp y.1 kh < 0) := Iff.rfl
            generalize (KOrd.cmp y.1 kh : Int) = r at *
            generalize encI kh = eh at *
            clear hq
            go_quiet ((go_at_call 40; exact Calls.quiet_of_same (HC.out _)))
            go_step
            go_step
            go_meet
            refine ⟨decide (0 ≤ r), rfl, ⟨_, rfl⟩, fun h => ⟨kh, rfl, ?_⟩, fun h kh' e => ?_⟩
            · rw [Hlt.out]; simpa using h
            · injection e with e
              subst e
              rw [Hlt.out]; simpa using h
        obtain ⟨t, rfl, ⟨q, rfl⟩, Ht1, Ht2⟩ := hcut
        clear c0 c3 c3l cl hb1
        cases t with
        | true =>
          obtain ⟨kh, ekh, hlt⟩ := Ht1 rfl
          have HR := Lib.hid (Hstop.out kh ekh hlt q)
          clear Ht1 Ht2 hlt ekh HSr
          go_wp2
          go_ret
          exact ⟨_, rfl, HR.out⟩
        | false =>
          have HG := Lib.hid (Hgo.out (Ht2 rfl))
          have HSq := Lib.hid (HSr.out.mono (below_drewN wc q))
          obtain ⟨L, hL⟩ : ∃ L, l ++ selM lo hi (partL h x k ++ kidL h x k) = L := ⟨_, rfl⟩
          rw [hL] at HG HSq Hlen2
          clear Ht1 Ht2 HSr hL Hstop Hgo
          go_upto_region 10 with (fail)
          refine rCo10I (w0 := w0) (fp0 := fp0) b gk0 n kc gv0 n vc (.slice pa m pc) u1 x.es L y k Hy.out (by have := Hkl.out; have := Hn.out; omega) (by have := Hkl.out; have := Hn.out; omega) Hn.out.symm Hn.out.symm Hlen2.out (slA 67 (.slice pa m pc) (bs.map ptrI) :: starA (List.zipWith (kidI h) x.cs bs) :: optA pl lo :: optA ph hi :: R) _ (by kernel_rfl) rfl rfl rfl rfl ?_ ?_
          · have h0 : St w0 fp0 (emp :: pureA (u1 = u1) :: CoLI h x.es x.cs b (.slice (some ⟨gk0, 0, none⟩) n kc) (.slice (some ⟨gv0, 0, none⟩) n vc) (.slice pa m pc) bs lo hi pl ph R u1 L) (wc.drewN q) := St.emp.2 (St.pure.2 ⟨rfl, HSq.out⟩)
            have h1 : St w0 fp0 (emp :: entI u1 L :: pureA (u1 = u1) :: blkA b 70 #[.slice (some ⟨gk0, 0, none⟩) n kc, .slice (some ⟨gv0, 0, none⟩) n vc, .slice pa m pc] :: slA 3 (.slice (some ⟨gk0, 0, none⟩) n kc) (keysI x.es) :: slA 3 (.slice (some ⟨gv0, 0, none⟩) n vc) (valsI x.es) :: slA 67 (.slice pa m pc) (bs.map ptrI) :: starA (List.zipWith (kidI h) x.cs bs) :: optA pl lo :: optA ph hi :: R) (wc.drewN q) := h0.perm (List.Perm.cons _ (List.Perm.swap _ _ _))
            exact h1
          intro u w3 h3
          have h4 : St w0 fp0 (boxsA 79 (u 85) #[encI y.1, valI y.2] :: pureA (u 1 = u 86) :: CoLI h x.es x.cs b (.slice (some ⟨gk0, 0, none⟩) n kc) (.slice (some ⟨gv0, 0, none⟩) n vc) (.slice pa m pc) bs lo hi pl ph R (u 86) (L ++ [y])) w3 := by
            refine h3.perm ?_
            unfold CoLI entI
            rw [entsI_snoc, List.length_append, List.length_singleton]
            exact (by classical exact List.perm_iff_count.2 fun a => by simp only [pick_true, List.cons_append, List.nil_append, List.count_cons] <;> omega)
          obtain ⟨eu, h5⟩ := St.pure.1 h4.drop
          rw [← eu, HG.out] at h5
          have H5 := Lib.hid h5
          clear h3 h4 h5 HG HSq eu
          simp only [putL, List.map, List.foldl, Act.put, List.setIfInBounds_toArray, List.set_cons_succ, List.set_cons_zero]
          have hkb : (k : Int) + 1 ≤ 1099511627776 := by have := Hkl.out; have := Hn.out; omega
          go_wp2
          go_roundg (n - k)
          case rel => exact ⟨k + 1, by go_num, by have := Hkl.out; have := Hn.out; omega, by have := Hik.out; omega, by have := Hkl.out; have := Hn.out; omega, H5⟩
          case measure => have := Hg.out; have := Hkl.out; have := Hn.out; omega
theorem collectI_calls {o : Nat} (ho' : o ≤ 1024) (lo hi : Option Int) (pl ph : Value) (w0 : World) (fp0 : List Nat) : ∀ (h : Nat) (x : TI) (b : Nat) (vo : Value) (l : M Int Int) (w : World) (R : List Asn) (lob : Nat), Body o h lob (o - 1) x → AscM (toL h x) → l.length + (toL h x).length < 1099511627776 →
    St w0 fp0 (entI vo l :: treeI h x b :: optA pl lo :: optA ph hi :: R) w → ColI w0 fp0 h x b lo hi pl ph vo l R w
  | 0, x, b, vo, l, w, R, lob, hb, ha, hlen, hS => colstepI ho' 0 x b lo hi pl ph vo l w0 w fp0 R lob hb ha hlen (fun _ e => nomatch e) hS
  | h + 1, x, b, vo, l, w, R, lob, hb, ha, hlen, hS => colstepI ho' (h + 1) x b lo hi pl ph vo l w0 w fp0 R lob hb ha hlen (fun h' e => by
    obtain rfl : h = h' := by omega
    exact collectI_calls ho' lo hi pl ph w0 fp0 h) hS
end Go.Proofs.Ytldofiankhimjaa
/- between$1: its first region (I). -/
namespace Go.Proofs.Ytldofiankhimjaa
open Go Go.RowKit
noncomputable def oBt0I : Array Oper := ((Try.f64.body).bind fun c => opsOf c 0).getD #[]
set_option maxHeartbeats 4000000 in
set_option maxRecDepth 100000 in
theorem rBt0I {Q : Exit → Act → World → Prop} {a : Act} {w w0 : World} {fp0 : List Nat} (bt bl bh tb o h : Nat) (lo hi : Option Int) (pl ph : Value) (l : M Int Int) (x : TI) (rb : Nat) (ho' : o ≤ 1024) (hg : GoodI o h l x) (hlen : l.length < 1099511627776) (R : List Asn) (ops : Array Oper) (hops : ops = oBt0I) (hsz : a.tmps.size = 27) (h1 : a.eval (.tmp 1) = .pointer (some ⟨bt, 0, none⟩)) (h2 : a.eval (.tmp 2) = .pointer (some ⟨bl, 0, none⟩)) (h3 : a.eval (.tmp 3) = .pointer (some ⟨bh, 0, none⟩))
    (hS : St w0 fp0 ([pick false (entI (a.eval (.tmp 13)) (selM lo hi l)) emp, treeI h x rb, blkA tb 72 #[.pointer (some ⟨rb, 0, none⟩), .int .i64 o, .int .i64 l.length], blkA bt 25 #[.pointer (some ⟨tb, 0, none⟩)], blkA bl 98 #[pl], blkA bh 98 #[ph], optA pl lo, optA ph hi] ++ R) w)
    (hQ : ∀ (u : Nat → Value) w1, (u 14 = .int .i64 ((selM lo hi l).length : Nat)) → (u 15 = .int .i64 0) → St w0 fp0 ([pick true (entI (u 13) (selM lo hi l)) emp, treeI h x rb, blkA tb 72 #[.pointer (some ⟨rb, 0, none⟩), .int .i64 o, .int .i64 l.length], blkA bt 25 #[.pointer (some ⟨tb, 0, none⟩)], blkA bl 98 #[pl], blkA bh 98 #[ph], optA pl lo, optA ph hi] ++ R) w1 → Q .normal (putL a (([7, 8, 9, 10, 11, 12, 13, 14, 15] : List Nat).map fun d => (d, u d))) w1) : (Code.region 0 ops true).wp Try.prog Q a w := by
  subst hops
  have hsize : oBt0I.size = 9 := by kernel_rfl
  have hE : Looks (fun L g w => St w0 fp0 ([pick (L 6) (entI (g 13) (selM lo hi l)) emp, treeI h x rb, blkA tb 72 #[.pointer (some ⟨rb, 0, none⟩), .int .i64 o, .int .i64 l.length], blkA bt 25 #[.pointer (some ⟨tb, 0, none⟩)], blkA bl 98 #[pl], blkA bh 98 #[ph], optA pl lo, optA ph hi] ++ R) w) [6] [13] := by
    intro L L' g g' w hL hg h
    simpa only [← hL 6 (by decide), ← hg 13 (by decide)] using h
  have hn1 : (([(0, 7, .pointer (some ⟨tb, 0, none⟩)), (1, 8, .pointer (some ⟨tb, 0, none⟩)), (2, 9, .pointer (some ⟨tb, 0, none⟩)), (3, 10, .pointer (some ⟨rb, 0, none⟩)), (4, 11, pl), (5, 12, ph), (7, 14, .int .i64 ((selM lo hi l).length : Nat)), (8, 15, .int .i64 0)] : List (Nat × Nat × Value)).map (·.1)).Nodup := by
    show List.Nodup [0, 1, 2, 3, 4, 5, 7, 8]
    decide
  have hn2 : (([(0, 7, .pointer (some ⟨tb, 0, none⟩)), (1, 8, .pointer (some ⟨tb, 0, none⟩)), (2, 9, .pointer (some ⟨tb, 0, none⟩)), (3, 10, .pointer (some ⟨rb, 0, none⟩)), (4, 11, pl), (5, 12, ph), (7, 14, .int .i64 ((selM lo hi l).length : Nat)), (8, 15, .int .i64 0)] : List (Nat × Nat × Value)).map (·.2.1)).Nodup := by
    show List.Nodup [7, 8, 9, 10, 11, 12, 14, 15]
    decide
  refine wp_region_vals (ops' := oBt0I) [7, 8, 9, 10, 11, 12, 13, 14, 15] [(0, 7, .pointer (some ⟨tb, 0, none⟩)), (1, 8, .pointer (some ⟨tb, 0, none⟩)), (2, 9, .pointer (some ⟨tb, 0, none⟩)), (3, 10, .pointer (some ⟨rb, 0, none⟩)), (4, 11, pl), (5, 12, ph), (7, 14, .int .i64 ((selM lo hi l).length : Nat)), (8, 15, .int .i64 0)] (fun L g w => St w0 fp0 ([pick (L 6) (entI (g 13) (selM lo hi l)) emp, treeI h x rb, blkA tb 72 #[.pointer (some ⟨rb, 0, none⟩), .int .i64 o, .int .i64 l.length], blkA bt 25 #[.pointer (some ⟨tb, 0, none⟩)], blkA bl 98 #[pl], blkA bh 98 #[ph], optA pl lo, optA ph hi] ++ R) w) rfl (by kernel_rfl) (by kernel_rfl) (hS.mono (below_drew w)) ?_ ?_
  · intro oi o L a1 w1 ho hL hdep hI
    have hoi : oi < 9 := by have := (Array.getElem?_eq_some_iff.1 ho).1; omega
    have h1sz : a1.tmps.size = 27 := hI.frame.size.trans hsz
    rcases (by omega : oi = 0 ∨ oi = 1 ∨ oi = 2 ∨ oi = 3 ∨ oi = 4 ∨ oi = 5 ∨ oi = 6 ∨ oi = 7 ∨ oi = 8) with rfl | rfl | rfl | rfl | rfl | rfl | rfl | rfl | rfl
    · have hl : oBt0I[0]? = some ⟨some 7, Op.load _ (Operand.tmp 1), _, _, _, none⟩ := rfl
      obtain rfl := oI ho hl
      have x1 := hI.old 1 (.pointer (some ⟨bt, 0, none⟩)) (by decide) h1
      have hS1 := hI.eff
      obtain ⟨_, hp⟩ := hS1.has 3 rfl
      have hcell := (blk_get hp).1 0
      have hlt := (blk_get hp).2.2
      simp only [List.getElem?_toArray, List.getElem?_cons_zero] at hcell
      exact hI.rd hE hsz 0 7 (.pointer (some ⟨tb, 0, none⟩)) ho rfl rfl hdep (by decide) (vals_at hn1 hn2 0 rfl) (by simp [go_sem, execOp, Act.eval, x1, hcell])
    · have hl : oBt0I[1]? = some ⟨some 8, Op.nilCheck (Operand.tmp 7), _, _, _, none⟩ := rfl
      obtain rfl := oI ho hl
      have x7 := hI.val 0 7 (.pointer (some ⟨tb, 0, none⟩)) (mG (i := 0) rfl) (dK ho hdep (by kernel_rfl : waitsB oBt0I 1 0 = true))
      exact hI.rd hE hsz 1 8 (.pointer (some ⟨tb, 0, none⟩)) ho rfl rfl hdep (by decide) (vals_at hn1 hn2 1 rfl) (by simp [go_sem, execOp, Act.eval, x7])
    · have hl : oBt0I[2]? = some ⟨some 9, Op.fieldAddr _ (Operand.tmp 8) 0, _, _, _, none⟩ := rfl
      obtain rfl := oI ho hl
      have x8 := hI.val 1 8 (.pointer (some ⟨tb, 0, none⟩)) (mG (i := 1) rfl) (dK ho hdep (by kernel_rfl : waitsB oBt0I 2 1 = true))
      exact hI.rd hE hsz 2 9 (.pointer (some ⟨tb, 0, none⟩)) ho rfl rfl hdep (by decide) (vals_at hn1 hn2 2 rfl) (by simp [go_sem, execOp, Act.eval, x8])
    · have hl : oBt0I[3]? = some ⟨some 10, Op.load _ (Operand.tmp 9), _, _, _, none⟩ := rfl
      obtain rfl := oI ho hl
      have x9 := hI.val 2 9 (.pointer (some ⟨tb, 0, none⟩)) (mG (i := 2) rfl) (dK ho hdep (by kernel_rfl : waitsB oBt0I 3 2 = true))
      have hS1 := hI.eff
      have e6 : L 6 = false := hI.no hL (by kernel_rfl : waitsB oBt0I 6 3 = true)
      simp only [e6, pick_false] at hS1
      obtain ⟨_, hp⟩ := hS1.has 2 rfl
      have hcell := (blk_get hp).1 0
      have hlt := (blk_get hp).2.2
      simp only [List.getElem?_toArray, List.getElem?_cons_zero] at hcell
      exact hI.rd hE hsz 3 10 (.pointer (some ⟨rb, 0, none⟩)) ho rfl rfl hdep (by decide) (vals_at hn1 hn2 3 rfl) (by simp [go_sem, execOp, Act.eval, x9, hcell])
    · have hl : oBt0I[4]? = some ⟨some 11, Op.load _ (Operand.tmp 2), _, _, _, none⟩ := rfl
      obtain rfl := oI ho hl
      have x2 := hI.old 2 (.pointer (some ⟨bl, 0, none⟩)) (by decide) h2
      have hS1 := hI.eff
      have e6 : L 6 = false := hI.no hL (by kernel_rfl : waitsB oBt0I 6 4 = true)
      simp only [e6, pick_false] at hS1
      obtain ⟨_, hp⟩ := hS1.has 4 rfl
      have hcell := (blk_get hp).1 0
      have hlt := (blk_get hp).2.2
      simp only [List.getElem?_toArray, List.getElem?_cons_zero] at hcell
      exact hI.rd hE hsz 4 11 (pl) ho rfl rfl hdep (by decide) (vals_at hn1 hn2 4 rfl) (by simp [go_sem, execOp, Act.eval, x2, hcell])
    · have hl : oBt0I[5]? = some ⟨some 12, Op.load _ (Operand.tmp 3), _, _, _, none⟩ := rfl
      obtain rfl := oI ho hl
      have x3 := hI.old 3 (.pointer (some ⟨bh, 0, none⟩)) (by decide) h3
      have hS1 := hI.eff
      have e6 : L 6 = false := hI.no hL (by kernel_rfl : waitsB oBt0I 6 5 = true)
      simp only [e6, pick_false] at hS1
      obtain ⟨_, hp⟩ := hS1.has 5 rfl
      have hcell := (blk_get hp).1 0
      have hlt := (blk_get hp).2.2
      simp only [List.getElem?_toArray, List.getElem?_cons_zero] at hcell
      exact hI.rd hE hsz 5 12 (ph) ho rfl rfl hdep (by decide) (vals_at hn1 hn2 5 rfl) (by simp [go_sem, execOp, Act.eval, x3, hcell])
    · have hl : oBt0I[6]? = some ⟨some 13, Op.call ⟨Callee.value (Operand.func _), #[Operand.tmp 10, Operand.const (Value.slice none 0 0), Operand.tmp 11, Operand.tmp 12], _⟩, _, _, _, none⟩ := rfl
      obtain rfl := oI ho hl
      have x10 := hI.val 3 10 (.pointer (some ⟨rb, 0, none⟩)) (mG (i := 3) rfl) (dK ho hdep (by kernel_rfl : waitsB oBt0I 6 3 = true))
      have x11 := hI.val 4 11 (pl) (mG (i := 4) rfl) (dK ho hdep (by kernel_rfl : waitsB oBt0I 6 4 = true))
      have x12 := hI.val 5 12 (ph) (mG (i := 5) rfl) (dK ho hdep (by kernel_rfl : waitsB oBt0I 6 5 = true))
      have hS1 := hI.eff
      have e6 : L 6 = false := hL
      simp only [e6, pick_false] at hS1
      have hS2 : St w0 fp0 (entI (.slice none 0 0) [] :: treeI h x rb :: optA pl lo :: optA ph hi :: ([blkA tb 72 #[.pointer (some ⟨rb, 0, none⟩), .int .i64 o, .int .i64 l.length], blkA bt 25 #[.pointer (some ⟨tb, 0, none⟩)], blkA bl 98 #[pl], blkA bh 98 #[ph]] ++ R)) w1 := by
        have h1 : St w0 fp0 (entI (.slice none 0 0) [] :: _) w1 := (St.emp.1 hS1).nilR 79 2
        refine h1.perm ?_
        exact (by classical exact List.perm_iff_count.2 fun a => by simp only [List.append_eq, List.cons_append, List.nil_append, List.count_cons] <;> omega)
      refine inv_call ho rfl (f := 39) (by simp [go_sem, Act.eval, x10, x11, x12]) (collectI_calls ho' lo hi pl ph w0 fp0 h x rb (.slice none 0 0) [] w1 _ _ hg.1 hg.2.1 (by rw [hg.2.2]; simpa using hlen) hS2) ?_
      rintro e w2 ⟨v2, rfl, hs2⟩
      refine ⟨_, rfl, hI.put 6 13 _ ho hdep (by decide) (by intro t ht; exact vals_ne2 rfl rfl (by decide : 6 ∉ [0, 1, 2, 3, 4, 5, 7, 8]) (by decide : 13 ∉ [7, 8, 9, 10, 11, 12, 14, 15]) ht) ?_⟩
      rw [List.nil_append, hg.2.2] at hs2
      have hS3 : St w0 fp0 ([entI v2 (selM lo hi l), treeI h x rb, blkA tb 72 #[.pointer (some ⟨rb, 0, none⟩), .int .i64 o, .int .i64 l.length], blkA bt 25 #[.pointer (some ⟨tb, 0, none⟩)], blkA bl 98 #[pl], blkA bh 98 #[ph], optA pl lo, optA ph hi] ++ R) w2 := by
        refine hs2.perm ?_
        exact (by classical exact List.perm_iff_count.2 fun a => by simp only [List.cons_append, List.nil_append, List.count_cons] <;> omega)
      simp only [e6, Bool.or_true, decide_true, pick_true, eval_put_same (by rw [h1sz]; decide : 13 < a1.tmps.size)]
      exact hS3
    · have hl : oBt0I[7]? = some ⟨some 14, Op.call ⟨Callee.builtin Builtin.len, #[Operand.tmp 13], _⟩, _, _, _, none⟩ := rfl
      obtain rfl := oI ho hl
      have hS1 := hI.eff
      have e6 : L 6 = true := dK ho hdep (by kernel_rfl : waitsB oBt0I 7 6 = true)
      simp only [e6, pick_true] at hS1
      obtain ⟨_, hp⟩ := hS1.has 0 rfl
      obtain ⟨a7, c7, hv, _⟩ := row_shape hp
      have hcell := eval_spell hv
      exact hI.rd hE hsz 7 14 (.int .i64 ((selM lo hi l).length : Nat)) ho rfl rfl hdep (by decide) (vals_at hn1 hn2 6 rfl) (by simp [go_sem, Act.eval, hcell])
    · have hl : oBt0I[8]? = some ⟨some 15, Op.move (Operand.const (Value.int IntKind.i64 0)), _, _, _, none⟩ := rfl
      obtain rfl := oI ho hl
      exact hI.rd hE hsz 8 15 (.int .i64 0) ho rfl rfl hdep (by decide) (vals_at hn1 hn2 7 rfl) (by simp [go_sem, execOp, Act.eval])
  · intro L a1 w1 hL hI
    have hS1 := hI.eff
    simp only [hL 6 (by rw [hsize]; decide), pick_true] at hS1
    have := hQ (fun d => a1.eval (.tmp d)) w1 (hI.vals (7, 14, .int .i64 ((selM lo hi l).length : Nat)) (mG (i := 6) rfl) (hL 7 (by rw [hsize]; decide))) (hI.vals (8, 15, .int .i64 0) (mG (i := 7) rfl) (hL 8 (by rw [hsize]; decide))) hS1
    have e := hI.frame.eq
    rw [e]
    exact this
end Go.Proofs.Ytldofiankhimjaa
/- A range over a function, in pieces: what the iterator promises, what the loop's body owes. -/
namespace Go.Proofs.Ytldofiankhimjaa
open Go Go.RowKit
/-- The record of a loop over a function. -/
def loopA (l : Nat) (r : Loop) : Asn :=
  ⟨fun w fp => w.heap[l]? = some (.loop r) ∧ fp = [l], fun h k hk => by
    rw [h.2] at hk
    obtain rfl := List.mem_singleton.1 hk
    exact (Array.getElem?_eq_some_iff.1 h.1).1, fun h hs => ⟨(hs l (by rw [h.2]; simp)).trans h.1, h.2⟩⟩
/-- The block for the rounds' deferred calls. -/
def defA (D : Nat) : Asn :=
  ⟨fun w fp => w.heap[D]? = some (.deferred (some [])) ∧ fp = [D], fun h k hk => by
    rw [h.2] at hk
    obtain rfl := List.mem_singleton.1 hk
    exact (Array.getElem?_eq_some_iff.1 h.1).1, fun h hs => ⟨(hs D (by rw [h.2]; simp)).trans h.1, h.2⟩⟩
theorem Tr.putObj (w : World) (l : Nat) (o : Obj) : Tr w (w.putObj l o) [l] [l] :=
  ⟨rfl, rfl, rfl, by simp, fun k _ hk => World.putObj_heap_other (by simpa using hk), fun k hk => .inl hk⟩
/-- The record turns. -/
theorem St.loop {w0 w : World} {fp0 : List Nat} {L : List Asn} {l : Nat} {r : Loop} (r' : Loop) (h : St w0 fp0 (loopA l r :: L) w) : St w0 fp0 (loopA l r' :: L) (w.putObj l (.loop r')) := by
  obtain ⟨f, ⟨h1, rfl⟩, h2⟩ := h.get 0 rfl
  exact h2 _ _ [l] ⟨World.putObj_heap_same (Array.getElem?_eq_some_iff.1 h1).1, rfl⟩ (Tr.putObj w l _)
theorem St.loop_has {w0 w : World} {fp0 : List Nat} {L : List Asn} {l : Nat} {r : Loop} (h : St w0 fp0 (loopA l r :: L) w) : w.heap[l]? = some (.loop r) := by
  obtain ⟨_, h1, _⟩ := h.has 0 rfl
  exact h1
/-- Two new blocks: the rounds' deferred calls, the record. -/
theorem St.loop_new {w0 w : World} {fp0 : List Nat} {L : List Asn} (r : Loop) (h : St w0 fp0 L w) : St w0 fp0 (loopA (w.heap.size + 1) r :: defA w.heap.size :: L) ((w.alloc (.deferred (some []))).alloc (.loop r)) := by
  have e1 : (w.alloc (.deferred (some []))).heap.size = w.heap.size + 1 := by simp
  have h1 : St w0 fp0 (L ++ [defA w.heap.size]) (w.alloc (.deferred (some []))) := h.add ((Below.refl _ _).alloc (Nat.le_refl _) _) ⟨World.alloc_heap_new w _, rfl⟩ (by simp)
  have h2 : St w0 fp0 ((L ++ [defA w.heap.size]) ++ [loopA (w.heap.size + 1) r]) ((w.alloc (.deferred (some []))).alloc (.loop r)) := by
    refine h1.add ((Below.refl _ _).alloc (Nat.le_refl _) _) (f := [w.heap.size + 1]) ⟨?_, rfl⟩ (by simp)
    have := World.alloc_heap_new (w.alloc (.deferred (some []))) (.loop r)
    rwa [e1] at this
  refine h2.perm ?_
  classical
  refine List.perm_iff_count.2 fun a => ?_
  simp only [List.count_append, List.count_cons, List.count_nil]
  omega
/-- What an iterator promises: it hands over xs, one after the other, until a round says 'no more'. L0: what it reads when it starts; J: the caller's state between two rounds. -/
def SeqSt {α : Type} (n : Nat) (P : Program) (g : Nat) (lb : Array Value) (encs : α → Array Value) (xs : List α) (L0 : List Asn) : Prop :=
  ∀ (l : Nat) (R : List Asn) (J Jx : List α → List Asn) (w0 : World) (fp0 : List Nat) (W : World), St w0 fp0 (L0 ++ R) W →
    (∀ Own W1, St w0 fp0 ((L0 ++ R) ++ Own) W1 → St w0 fp0 (J [] ++ Own) W1) →
    (∀ pre x rest Own W1, xs = pre ++ x :: rest → St w0 fp0 (J pre ++ Own) W1 → YieldAt Fence.wide (n - 1) P l (encs x) W1 fun e W' =>
      (e = .returned (.bool true) ∧ St w0 fp0 (J (pre ++ [x]) ++ Own) W') ∨ (e = .returned (.bool false) ∧ St w0 fp0 (Jx (pre ++ [x]) ++ Own) W')) →
    CallsIn Fence.wide n P g (#[.func (.yield l) #[] #[]] ++ lb) W fun e W' => (∃ v, e = .returned v) ∧ (St w0 fp0 (J xs) W' ∨ ∃ pre x rest, xs = pre ++ x :: rest ∧ St w0 fp0 (Jx (pre ++ [x])) W')
/-- How the body of a round may be left. -/
def bodySt {α : Type} (w0 : World) (fp0 : List Nat) (I : List α → List Asn) (Ix : Code → List α → List Asn) (xs : List α) (Own : List Asn) : Exit → Act → World → Prop
  | .normal, _, W' => St w0 fp0 (I xs ++ Own) W'
  | .ret, _, W' => St w0 fp0 (Ix .ret xs ++ Own) W'
  | .exit id, _, W' => St w0 fp0 (Ix (.exit id) xs ++ Own) W'
  | .goto t, _, W' => St w0 fp0 (Ix (.goto t) xs ++ Own) W'
  | .panic _, _, _ => False
  | .outgrown, _, _ => False
theorem St.comm {w0 w : World} {fp0 : List Nat} {A B : List Asn} (h : St w0 fp0 (A ++ B) w) : St w0 fp0 (B ++ A) w := h.perm List.perm_append_comm
theorem St.app_nil {w0 w : World} {fp0 : List Nat} {A : List Asn} (h : St w0 fp0 A w) : St w0 fp0 (A ++ []) w := by rwa [List.append_nil]
/-- Pieces that are forgotten. -/
theorem St.dropAll {w0 w : World} {fp0 : List Nat} : ∀ {A B : List Asn}, St w0 fp0 (A ++ B) w → St w0 fp0 B w
  | [], _, h => h
  | _ :: A, _, h => St.dropAll (A := A) h.drop
variable {P : Program}
theorem wp_rangeFunc_st {α : Type} {n : Nat} {g : Operand} {ps : Array Tmp} {assign body : Code} {Q : Exit → Act → World → Prop} {a : Act} {w w0 : World} {fp0 : List Nat} {gf : Nat} {lb : Array Value} (hg : a.eval g = .func (.func gf) #[] lb)
    (eg : ∀ args w, (callFunc gf args).run P w = .ok (.enter gf args) w)
    {encs : α → Array Value} {xs : List α} {L0 : List Asn} (hseq : SeqSt (n - 1) P gf lb encs xs L0) (hps : ∀ x, (encs x).size = ps.size)
    (I : List α → List Asn) (Ix : Code → List α → List Asn) (R : List Asn) (hS : St w0 fp0 (L0 ++ R) w) (h0 : ∀ Own W, St w0 fp0 ((L0 ++ R) ++ Own) W → St w0 fp0 (I [] ++ Own) W)
    (hround : ∀ (l : Nat) (pre : List α) (x : α) (rest : List α) (Own : List Asn) (W : World), xs = pre ++ x :: rest → St w0 fp0 (I pre ++ Own) W →
      assign.wpIn (Fence.wide.inRound l) (n - 1 - 1) P (Exit.then (fun a₁ W1 => St w0 fp0 (I pre ++ Own) W1 ∧ ∀ Own2 W2, St w0 fp0 (I pre ++ Own2) W2 → body.wpIn (Fence.wide.inRound l) (n - 1 - 1) P (bodySt w0 fp0 I Ix (pre ++ [x]) Own2) a₁ W2) (fun _ _ _ => False))
        { tmps := (ps.zip (encs x)).foldl (fun t (p, v) => t.setIfInBounds p v) a.tmps, defers := [] } W)
    (hdone : ∀ (D : Nat) (W : World), St w0 fp0 (defA D :: I xs) W → Q .normal { a with defers := { target := .collected D, args := #[] } :: a.defers } W)
    (hstop : ∀ (D : Nat) (c : Code) (pre : List α) (x : α) (rest : List α) (W : World), xs = pre ++ x :: rest → St w0 fp0 (defA D :: Ix c (pre ++ [x])) W → c.wp P Q { a with defers := { target := .collected D, args := #[] } :: a.defers } W) :
    (Code.rangeFunc g ps assign body).wp P Q a w := by
  refine (wpIn_wide (n := n)).1 (wpIn_rangeFunc ?_)
  intro fn hfn
  obtain ⟨D, hD⟩ : ∃ D, w.heap.size = D := ⟨_, rfl⟩
  obtain ⟨rec, hrec⟩ : ∃ rec : LoopState → Option Code → Loop, rec = fun st pe => { state := st, pending := pe, fn, tmps := a.tmps, params := ps, assign, body, defers := D } := ⟨_, rfl⟩
  obtain ⟨W1, hW1⟩ : ∃ W1, (w.alloc (.deferred (some []))).alloc (.loop (rec .ready none)) = W1 := ⟨_, rfl⟩
  have hS1 : St w0 fp0 (loopA (D + 1) (rec .ready none) :: defA D :: (L0 ++ R)) W1 := by rw [← hW1, ← hD]; exact hS.loop_new _
  have hbp : ∀ st pe, (rec st pe).params = ps := by intro st pe; rw [hrec]
  have hbs : ∀ st pe, (rec st pe).state = st ∧ (rec st pe).pending = pe := by intro st pe; rw [hrec]; exact ⟨rfl, rfl⟩
  have hbr : ∀ st pe st' pe', { rec st pe with state := st', pending := pe' } = rec st' pe' := by intro st pe st' pe'; rw [hrec]
  have hbr1 : ∀ st pe st', { rec st pe with state := st' } = rec st' pe := by intro st pe st'; rw [hrec]
  have hout := run_enterLoop_outer (P := P) (w := w) fn a.tmps ps assign body
  rw [hD] at hout
  refine ⟨D + 1, [{ target := .collected D, args := #[] }], W1, { target := .fn (.func gf) lb, args := #[.func (.yield (D + 1)) #[] #[]] }, W1, gf,
    #[.func (.yield (D + 1)) #[] #[]] ++ lb, W1, ?_, ?_, fun _ _ => trivial, ?_, fun h => (by cases h), ?_⟩
  · rw [← hW1, hrec]
    exact hout
  · simp only [resolve, hg]
    simp [go_sem]
  · simp [invoke, go_sem, eg]
  clear hout
  obtain ⟨Bk, hBk⟩ : ∃ Bk : LoopState → Option Code → List Asn, Bk = fun st pe => [loopA (D + 1) (rec st pe), defA D] := ⟨_, rfl⟩
  have hbk : ∀ st pe (A Own : List Asn) W, St w0 fp0 ((A ++ Bk st pe) ++ Own) W ↔ St w0 fp0 (loopA (D + 1) (rec st pe) :: (A ++ defA D :: Own)) W := by
    intro st pe A Own W
    rw [hBk]
    have hp : ((A ++ [loopA (D + 1) (rec st pe), defA D]) ++ Own).Perm (loopA (D + 1) (rec st pe) :: (A ++ defA D :: Own)) := by
      classical
      refine List.perm_iff_count.2 fun a => ?_
      simp only [List.count_append, List.count_cons, List.count_nil]
      omega
    exact ⟨fun h => h.perm hp, fun h => h.perm hp.symm⟩
  refine (hseq (D + 1) (R ++ Bk .ready none) (fun pre => I pre ++ Bk .ready none) (fun pre => [exA fun c => starA (Ix c pre ++ Bk .done (some c))]) w0 fp0 W1 ?_ ?_ ?_).mono ?_
  · rw [← List.append_assoc]
    have := (hbk .ready none (L0 ++ R) [] W1).2 (hS1.perm (by
      classical
      refine List.perm_iff_count.2 fun a => ?_
      simp only [List.count_append, List.count_cons, List.count_nil]
      omega))
    simpa using this
  · intro Own W h
    have h1 : St w0 fp0 ((L0 ++ R) ++ (Bk .ready none ++ Own)) W := by simpa only [List.append_assoc] using h
    have := h0 _ _ h1
    simpa only [List.append_assoc] using this
  · intro pre x rest Own W hxs h
    have h1 := (hbk .ready none (I pre) Own W).1 h
    have hl := h1.loop_has
    have hy := run_yield (P := P) (args := encs x) hl (by rw [hbp]; exact hps x)
    rw [hrec] at hy
    have h1' : St w0 fp0 (I pre ++ (loopA (D + 1) (rec .ready none) :: defA D :: Own)) W := h1.perm (by
      classical
      refine List.perm_iff_count.2 fun a => ?_
      simp only [List.count_append, List.count_cons]
      omega)
    refine ⟨fn, _, assign, body, hy, roundIn_of_wpIn hfn (wpIn_mono (hround _ pre x rest _ W hxs h1') ?_)⟩
    rintro e0 a0 W0 hp0
    have hn : e0 = .normal := by cases e0 <;> first | rfl | exact hp0.elim
    subst hn
    obtain ⟨h1, hbody⟩ := hp0
    have h1 : St w0 fp0 (loopA (D + 1) (rec .ready none) :: (I pre ++ defA D :: Own)) W0 := h1.perm (by
      classical
      refine List.perm_iff_count.2 fun a => ?_
      simp only [List.count_append, List.count_cons]
      omega)
    have hl := h1.loop_has
    have hb := run_beginRound (P := P) hl (hbs _ _).1
    rw [hbr1] at hb
    refine ⟨_, hb, ?_⟩
    have h2 := h1.loop (rec .busy none)
    have h3 : St w0 fp0 (I pre ++ (loopA (D + 1) (rec .busy none) :: defA D :: Own)) (W0.putObj (D + 1) (.loop (rec .busy none))) := h2.perm (by
      classical
      refine List.perm_iff_count.2 fun a => ?_
      simp only [List.count_append, List.count_cons]
      omega)
    refine wpIn_mono (hbody _ _ h3) ?_
    have fin : ∀ (A : List Asn) (jump : Option Code) (W3 : World), St w0 fp0 (A ++ (loopA (D + 1) (rec .busy none) :: defA D :: Own)) W3 →
        (Instr.endRound (D + 1) jump).run P W3 = .ok (.bool jump.isNone) (W3.putObj (D + 1) (.loop (rec (if jump.isNone then .ready else .done) jump))) ∧
        St w0 fp0 ((A ++ Bk (if jump.isNone then .ready else .done) jump) ++ Own) (W3.putObj (D + 1) (.loop (rec (if jump.isNone then .ready else .done) jump))) := by
      intro A jump W3 h
      have h4 : St w0 fp0 (loopA (D + 1) (rec .busy none) :: (A ++ defA D :: Own)) W3 := h.perm (by
        classical
        refine List.perm_iff_count.2 fun a => ?_
        simp only [List.count_append, List.count_cons]
        omega)
      have hr := run_endRound (P := P) jump h4.loop_has
      rw [hbr] at hr
      exact ⟨hr, (hbk _ _ A Own _).2 (h4.loop _)⟩
    have ex : ∀ (c : Code) (A : List Asn) W3, St w0 fp0 ((Ix c (pre ++ [x]) ++ Bk .done (some c)) ++ Own) W3 → St w0 fp0 ([exA fun c => starA (Ix c (pre ++ [x]) ++ Bk .done (some c))] ++ Own) W3 := by
      intro c A W3 h
      exact h.fold fun f hf => ⟨c, hf⟩
    rintro e a3 W3 hp
    cases e with
    | normal =>
      obtain ⟨hr, h4⟩ := fin _ none W3 hp
      exact ⟨_, _, hr, .inl ⟨rfl, h4⟩⟩
    | ret =>
      obtain ⟨hr, h4⟩ := fin _ (some .ret) W3 hp
      exact ⟨_, _, hr, .inr ⟨rfl, ex _ [] _ h4⟩⟩
    | exit id =>
      obtain ⟨hr, h4⟩ := fin _ (some (.exit id)) W3 hp
      exact ⟨_, _, hr, .inr ⟨rfl, ex _ [] _ h4⟩⟩
    | goto t =>
      obtain ⟨hr, h4⟩ := fin _ (some (.goto t)) W3 hp
      exact ⟨_, _, hr, .inr ⟨rfl, ex _ [] _ h4⟩⟩
    | panic ch => exact hp.elim
    | outgrown => exact hp.elim
  · rintro e W2 ⟨⟨v, rfl⟩, h | ⟨pre, x, rest, hxs, h⟩⟩
    · have h1 := (hbk .ready none (I xs) [] W2).1 (by rwa [List.append_nil])
      have hr := run_endLoop (P := P) h1.loop_has (by rw [(hbs _ _).1]; simp)
      rw [(hbs _ _).2] at hr
      refine ⟨none, _, hr, hdone D _ ?_⟩
      exact (h1.loop _).drop.perm (by
        classical
        refine List.perm_iff_count.2 fun a => ?_
        simp only [List.count_append, List.count_cons, List.count_nil]
        omega)
    · obtain ⟨fp, ⟨f, g', ⟨c, hc⟩, hg', hd, rfl⟩, ht⟩ := h
      have h0' : St w0 fp0 (Ix c (pre ++ [x]) ++ Bk .done (some c)) W2 := by
        rw [show g' = [] from hg', List.append_nil] at ht
        exact ⟨f, hc, ht⟩
      have h1 := (hbk .done (some c) (Ix c (pre ++ [x])) [] W2).1 (by rwa [List.append_nil])
      have hr := run_endLoop (P := P) h1.loop_has (by rw [(hbs _ _).1]; simp)
      rw [(hbs _ _).2] at hr
      refine ⟨some c, _, hr, wpIn_wide.2 (hstop D c pre x rest _ hxs ?_)⟩
      exact (h1.loop _).drop.perm (by
        classical
        refine List.perm_iff_count.2 fun a => ?_
        simp only [List.count_append, List.count_cons, List.count_nil]
        omega)
/-- append, by its run. -/
theorem wpListIn_append_run {F : Fence} {n : Nat} {w w' : World} {ops : Array Oper} {rest : List Oper} {o : Oper} {a : Act} {Q : Exit → Act → World → Prop} (hg : o.guard = none) (s x : Operand) (t : TypeId)
    (hop : o.op = Op.call { callee := Callee.builtin Builtin.append, args := #[s, x], argTypes := #[t, t] }) {v v2 v' : Value} (hs : a.eval s = v) (hx : a.eval x = v2) (hr : (Builtin.append_ #[t, t] o.type #[v, v2]).run P w = .ok v' w')
    (hK : wpListIn F n P ops Q rest (a.put o.dst v') w') : wpListIn F n P ops Q (o :: rest) a w := by
  refine wpListIn_plain hg fun K hK' => ?_
  unfold Oper.wpIn
  refine ⟨?_, ?_⟩
  · simp [Oper.about, hop, resolve, Target.leads, Sem.run_pure]
  · rw [Oper.semAt_plain F _ _ (by rw [hop]; intro c hc'; cases hc')]
    simp [execOp, hop, resolve, invoke, builtin, hs, hx, hr, Result.andThen]
    exact hK' _ _ hK
theorem wpList_append_run {w w' : World} {ops : Array Oper} {rest : List Oper} {o : Oper} {a : Act} {Q : Exit → Act → World → Prop} (hg : o.guard = none) (s x : Operand) (t : TypeId)
    (hop : o.op = Op.call { callee := Callee.builtin Builtin.append, args := #[s, x], argTypes := #[t, t] }) {v v2 v' : Value} (hs : a.eval s = v) (hx : a.eval x = v2) (hr : (Builtin.append_ #[t, t] o.type #[v, v2]).run P w = .ok v' w')
    (hK : wpList P ops Q rest (a.put o.dst v') w') : wpList P ops Q (o :: rest) a w := by
  refine wpList_plain hg fun K hK' => ?_
  unfold Oper.wp execOp
  simp only [hop, resolve, invoke, builtin, Sem.run_bind, Sem.run_pure, Result.andThen_ok, List.map_toArray, List.map_cons, List.map_nil, hs, hx, hr]
  exact hK' _ _ hK
theorem run_eql_func_nil {t : TypeId} {ps rs : Array TypeId} {vr : Bool} {fn : Fn} {first cap : Array Value} (ht : P.underlying t = some (.func ps rs vr)) (w : World) : (binOp .eql t (.func fn first cap) .nilFunc).run P w = .ok (.bool false) w := by
  have h : ∀ d : Nat, (Op.equalIn (d + 1) t (.func fn first cap) .nilFunc).run P w = .ok false w := fun d => by
    simp [Op.equalIn, run_underlying ht]
  simp only [binOp]
  simp [Op.equal, Op.maxDepth, h 9999]
theorem calls_of_wp_m {f : FuncId} {fn : Func} {c : Code} {args : Array Value} {w : World} {R : Ending → World → Prop} (hf : P.funcs[f]? = some fn) (hb : fn.body = some c)
    (h : c.wp P (bodyPostM Fence.wide 0 P fn R) { tmps := args ++ Array.replicate (fn.ntmps - args.size) undef, defers := [] } w) : Calls P f args w R :=
  callsIn_wide.1 (callsIn_of_wp_marks (n := 0) hf hb trivial (wpIn_wide.2 h))
theorem bodyPostM_ret {fn : Func} {R : Ending → World → Prop} {a : Act} {w : World} {v : Value} (hr : (results fn a.tmps).run P w = .ok v w) (hd : a.defers = []) (hR : R (.returned v) w) : bodyPostM Fence.wide 0 P fn R .ret a w := by
  show LeavesInM _ _ _ _ _ _ a.defers .returning w
  rw [hd]
  exact ⟨v, hr, hR⟩
/-- The mark is come to. -/
theorem St.undef {w0 w : World} {fp0 : List Nat} {D : Nat} {L : List Asn} (h : St w0 fp0 (defA D :: L) w) : St w0 fp0 L (w.putObj D (.deferred none)) := by
  obtain ⟨f, ⟨h1, rfl⟩, h2⟩ := h.get 0 rfl
  have h3 := h2 Ytldofiankhimjaa.emp (w.putObj D (.deferred none)) [] rfl ⟨rfl, rfl, rfl, by simp, fun k _ hk => World.putObj_heap_other (by simpa using hk), fun k hk => by cases hk⟩
  exact St.emp.1 h3
theorem bodyPostM_mark {fn : Func} {R : Ending → World → Prop} {a : Act} {w w0 : World} {fp0 : List Nat} {D : Nat} {L : List Asn} (hS : St w0 fp0 (defA D :: L) w) (hd : a.defers = [{ target := .collected D, args := #[] }])
    (h : ∀ w', St w0 fp0 L w' → ∃ v, (results fn a.tmps).run P w' = .ok v w' ∧ R (.returned v) w') : bodyPostM Fence.wide 0 P fn R .ret a w := by
  show LeavesInM _ _ _ _ _ _ a.defers .returning w
  rw [hd]
  obtain ⟨_, hk, _⟩ := hS.has 0 rfl
  exact ⟨by simp, .inl ⟨_, _, rfl, run_takeDeferred hk, h _ hS.undef⟩⟩
end Go.Proofs.Ytldofiankhimjaa
/- between's iterator (I). -/
namespace Go.Proofs.Ytldofiankhimjaa
open Go Go.RowKit
/-- What the iterator reads when it starts. -/
def betLI (o h : Nat) (l : M Int Int) (tb bt bl bh : Nat) (pl ph : Value) (lo hi : Option Int) : List Asn :=
  [objI o h l tb, blkA bt 25 #[.pointer (some ⟨tb, 0, none⟩)], blkA bl 98 #[pl], blkA bh 98 #[ph], optA pl lo, optA ph hi]
set_option maxHeartbeats 4000000 in
theorem betw1I_seq {o h : Nat} (ho' : o ≤ 1024) (lo hi : Option Int) (pl ph : Value) (l : M Int Int) (tb bt bl bh : Nat) (hlen : l.length < 1099511627776) (n : Nat) :
    SeqSt n Try.prog 64 #[.pointer (some ⟨bt, 0, none⟩), .pointer (some ⟨bl, 0, none⟩), .pointer (some ⟨bh, 0, none⟩)] (fun e : Int × Int => #[encI e.1, valI e.2]) (selM lo hi l) (betLI o h l tb bt bl bh pl ph lo hi) := by
  intro y R J Jx w0 fp0 W hS h0 hY
  refine callsIn_wide.2 ?_
  obtain ⟨x, rb, hg, hS1⟩ := St.openOI (show St w0 fp0 (objI o h l tb :: (blkA bt 25 #[.pointer (some ⟨tb, 0, none⟩)] :: blkA bl 98 #[pl] :: blkA bh 98 #[ph] :: optA pl lo :: optA ph hi :: R)) W from hS)
  unfold ptrI at hS1
  have HS1 := Lib.hid hS1
  have Hg := Lib.hid hg
  have H0 : RowKit.Hid (∀ v W, St w0 fp0 (treeI h x rb :: blkA tb 72 #[ptrI rb, .int .i64 o, .int .i64 l.length] :: (blkA bt 25 #[.pointer (some ⟨tb, 0, none⟩)] :: blkA bl 98 #[pl] :: blkA bh 98 #[ph] :: optA pl lo :: optA ph hi :: (R ++ [entI v (selM lo hi l)]))) W → St w0 fp0 (J [] ++ [entI v (selM lo hi l)]) W) :=
    fun v W h => h0 _ _ (St.shutOI hg h)
  have Hlen := Lib.hid hlen
  have hsel : (selM lo hi l).length < 1099511627776 := Nat.lt_of_le_of_lt (List.length_filter_le _ _) hlen
  have Ho' := Lib.hid ho'
  obtain ⟨sel, hsl⟩ : ∃ sel, selM lo hi l = sel := ⟨_, rfl⟩
  have Hsl := Lib.hid hsl
  have HY := Lib.hid hY
  rw [hsl] at HY H0 hsel ⊢
  clear hS hS1 hg hlen ho' hsl hY h0
  go_enter Try.func64, Try.ntmps64
  go_upto_region 0 with (fail)
  refine rBt0I (w0 := w0) (fp0 := fp0) bt bl bh tb o h lo hi pl ph l x rb Ho'.out Hg.out Hlen.out R _ (by kernel_rfl) rfl rfl rfl rfl ?_ ?_
  · have h1 : St w0 fp0 (emp :: treeI h x rb :: blkA tb 72 #[.pointer (some ⟨rb, 0, none⟩), .int .i64 o, .int .i64 l.length] :: (blkA bt 25 #[.pointer (some ⟨tb, 0, none⟩)] :: blkA bl 98 #[pl] :: blkA bh 98 #[ph] :: optA pl lo :: optA ph hi :: R)) _ := St.emp.2 HS1.out
    exact h1
  intro u w1 e14 e15 h1
  have h2 : St w0 fp0 (J [] ++ [entI (u 13) sel]) w1 := by
    refine H0.out _ _ (h1.perm ?_)
    unfold ptrI
    rw [Hsl.out]
    exact (by classical exact List.perm_iff_count.2 fun a => by simp only [pick_true, List.cons_append, List.nil_append, List.count_append, List.count_cons, List.count_nil] <;> omega)
  rw [Hsl.out] at e14
  obtain ⟨_, hr⟩ := St.has (i := 0) (A := entI (u 13) sel) h2.comm rfl
  obtain ⟨ga, gc, e13, -, -, -⟩ := row_shape hr
  rw [e13] at h2
  have H2 := Lib.hid h2
  simp only [putL, List.map, List.foldl, Act.put, List.setIfInBounds_toArray, List.set_cons_succ, List.set_cons_zero, e13, e14, e15]
  generalize u 7 = u7, u 8 = u8, u 9 = u9, u 10 = u10, u 11 = u11, u 12 = u12
  clear h1 h2 hr e13 e14 e15 HS1 H0 Hsl Hg u
  obtain ⟨N, hN⟩ : ∃ N, sel.length = N := ⟨_, rfl⟩
  have HN := Lib.hid hN
  rw [hN] at H2 hsel ⊢
  clear hN
  go_wp2
  go_loopg [15] N (fun g z wr => ∃ k : Nat, z = .int .i64 k ∧ g + k = N ∧ RowKit.Hid (∃ pre rest, sel = pre ++ rest ∧ pre.length = k ∧ St w0 fp0 (J pre ++ [entI (.slice ga N gc) sel]) wr))
  case atStart => exact ⟨0, rfl, rfl, ⟨[], sel, rfl, rfl, H2.out⟩⟩
  case round =>
    obtain ⟨k, rfl, hgk, Hr⟩ := hrel
    by_cases hk : k < N
    · obtain ⟨pre, rest, hxs, hpl, hs⟩ := Hr.out
      cases rest with
      | nil =>
        exfalso
        have := congrArg List.length hxs
        rw [HN.out, List.append_nil] at this
        omega
      | cons x rest =>
        obtain ⟨_, hrw⟩ := St.has (i := 0) (A := entI (.slice ga N gc) sel) hs.comm rfl
        have hkl : k < sel.length := by rw [HN.out]; exact hk
        have hxk : sel[k] = x := by
          have : sel[k]? = some x := by rw [hxs, ← hpl]; simp
          rw [List.getElem?_eq_getElem hkl] at this
          exact Option.some.inj this
        obtain ⟨ga', gc', e0, -, -, hcell⟩ := row_shape hrw
        injection e0 with e1 e2 e3
        subst e1
        rw [HN.out] at hcell
        obtain ⟨gb, hga, hgl, hc0, -⟩ := hcell (k * 2) (by omega)
        obtain ⟨gb', hga', -, hc1, -⟩ := hcell (k * 2 + 1) (by omega)
        subst hga
        obtain rfl : gb' = gb := by injection hga' with h; injection h with h; exact h.symm
        rw [(entsI_at sel k hkl).1, hxk] at hc0
        rw [(entsI_at sel k hkl).2, hxk] at hc1
        have HYx : RowKit.Hid (∀ W', St w0 fp0 (J pre ++ [entI (.slice (some ⟨gb', 0, none⟩) N gc) sel]) W' → YieldAt Fence.wide (n - 1) Try.prog y #[encI x.1, valI x.2] W' fun e W' =>
            (e = .returned (.bool true) ∧ St w0 fp0 (J (pre ++ [x]) ++ [entI (.slice (some ⟨gb', 0, none⟩) N gc) sel]) W') ∨ (e = .returned (.bool false) ∧ St w0 fp0 (Jx (pre ++ [x]) ++ [entI (.slice (some ⟨gb', 0, none⟩) N gc) sel]) W')) :=
          fun W' h => HY.out pre x rest _ W' hxs h
        have Hs := Lib.hid hs
        have Hxs := Lib.hid hxs
        have Hpl := Lib.hid hpl
        have hkn : (k : Int) < N := by omega
        unfold encI at hc0
        unfold valI at hc1
        unfold encI valI at HYx
        clear hs hxs hpl hrw hkl hxk hcell hga' Hr e2 e3
        have Hgk := Lib.hid hgk
        clear hgk
        go_upto_region 3 with (fail)
        generalize hW2 : wr.alloc _ = W2
        have hb2 : Below wr.heap.size wr W2 := by rw [← hW2]; exact (Below.refl _ _).alloc (Nat.le_refl _) _
        have d0 := World.cell?_alloc_new wr _ _ 0 |>.symm.trans (congrArg (fun w => World.cell? w ⟨wr.heap.size, 0, none⟩) hW2) |>.symm
        have d1 := World.cell?_alloc_new wr _ _ 1 |>.symm.trans (congrArg (fun w => World.cell? w ⟨wr.heap.size, 1, none⟩) hW2) |>.symm
        simp only [List.getElem?_toArray, List.getElem?_cons_zero, List.getElem?_cons_succ] at d0 d1
        have dl : wr.heap.size < W2.heap.size := by rw [← hW2]; simp
        have HSo : RowKit.Hid (∀ W' A, St w0 fp0 (A ++ [entI (.slice (some ⟨gb', 0, none⟩) N gc) sel]) W' → St w0 fp0 A W') := fun W' A h => St.dropAll (A := [entI (.slice (some ⟨gb', 0, none⟩) N gc) sel]) h.comm
        obtain ⟨fn, tmps, assign, body, hy, hR⟩ := HYx.out W2 (Hs.out.mono hb2)
        have HR := Lib.hid hR
        clear hb2 hR hW2 hc0 hc1 hgl H2 HYx Hs HY
        generalize wr.heap.size = eb at *
        refine (wpIn_wide (n := n)).1 ?_
        gi_wp2
        refine ⟨fun h => (by cases h), HR.out.mono ?_⟩
        rintro e W' (⟨rfl, hs'⟩ | ⟨rfl, hs'⟩)
        · have Hs' := Lib.hid hs'
          clear hs' HR hy d0 d1 dl
          gi_wp2
          go_wp2
          go_roundg (N - (k + 1))
          case rel => exact ⟨k + 1, by go_num, by omega, ⟨pre ++ [x], rest, by rw [Hxs.out]; simp, by rw [List.length_append, Hpl.out]; rfl, Hs'.out⟩⟩
          case measure => have := Hgk.out; omega
        · have Hs' := Lib.hid (HSo.out _ _ hs')
          clear hs' HR hy d0 d1 dl HSo
          gi_wp2
          go_wp2
          refine bodyPost_ret (results_none rfl _ _ _) rfl ?_
          exact ⟨⟨_, rfl⟩, .inr ⟨pre, x, rest, Hxs.out, Hs'.out⟩⟩
    · have hnk : k = N := by omega
      have Hend : RowKit.Hid (St w0 fp0 (J sel) wr) := by
        obtain ⟨pre, rest, hxs, hpl, hs⟩ := Hr.out
        have : rest = [] := by
          have := congrArg List.length hxs
          rw [HN.out, List.length_append] at this
          exact List.length_eq_zero_iff.1 (by omega)
        subst this
        rw [List.append_nil] at hxs
        rw [hxs]
        exact St.dropAll (A := [entI (.slice ga N gc) sel]) (by rw [← hxs] at hs ⊢; exact hs.comm)
      clear Hr HY H2 hgk hk HN hsel Hlen
      subst hnk
      go_wp2
      go_end0
      exact ⟨⟨_, rfl⟩, .inl Hend.out⟩
end Go.Proofs.Ytldofiankhimjaa
/- All, From, Between (I). -/
namespace Go.Proofs.Ytldofiankhimjaa
open Go Go.RowKit
/-- An iterator's own pieces. -/
def iterLI (tb bt bl bh : Nat) (pl ph : Value) (lo hi : Option Int) : List Asn :=
  [blkA bt 25 #[.pointer (some ⟨tb, 0, none⟩)], blkA bl 98 #[pl], blkA bh 98 #[ph], optA pl lo, optA ph hi]
theorem betLI_eq (o h : Nat) (l : M Int Int) (tb bt bl bh : Nat) (pl ph : Value) (lo hi : Option Int) : betLI o h l tb bt bl bh pl ph lo hi = objI o h l tb :: iterLI tb bt bl bh pl ph lo hi := rfl
def iterFI (bt bl bh : Nat) : Value := .func (.func 64) #[] #[.pointer (some ⟨bt, 0, none⟩), .pointer (some ⟨bl, 0, none⟩), .pointer (some ⟨bh, 0, none⟩)]
theorem St.newblk {w0 w : World} {fp0 : List Nat} {L : List Asn} (h : St w0 fp0 L w) (t : TypeId) (c : Array Value) : St w0 fp0 (blkA w.heap.size t c :: L) (w.alloc (.cells c t)) := by
  have h1 : St w0 fp0 (L ++ [blkA w.heap.size t c]) (w.alloc (.cells c t)) := h.add ((Below.refl _ _).alloc (Nat.le_refl _) _) ⟨heap_alloc_new w _, rfl⟩ (by simp)
  exact h1.perm List.perm_append_comm
theorem opt_shapeI {w : World} {p : Value} {ok : Option Int} {f : List Nat} (h : (optA p ok).p w f) : p = .pointer none ∨ ∃ b, p = .pointer (some ⟨b, 0, none⟩) := by
  cases ok with
  | none => exact .inl h.1
  | some k => obtain ⟨b, e, _⟩ := h; exact .inr ⟨b, e⟩
theorem betweenI_calls (tb : Nat) (lo hi : Option Int) (pl ph : Value) (w0 w : World) (fp0 : List Nat) (R : List Asn) (hS : St w0 fp0 (optA pl lo :: optA ph hi :: R) w) :
    Calls Try.prog 42 #[.pointer (some ⟨tb, 0, none⟩), pl, ph] w fun e w' => ∃ bt bl bh, e = .returned (iterFI bt bl bh) ∧ St w0 fp0 (iterLI tb bt bl bh pl ph lo hi ++ R) w' := by
  have HS : RowKit.Hid (St w0 fp0 (iterLI tb w.heap.size (w.heap.size + 1) (w.heap.size + 1 + 1) pl ph lo hi ++ R) (((w.alloc (.cells #[.pointer (some ⟨tb, 0, none⟩)] 25)).alloc (.cells #[pl] 98)).alloc (.cells #[ph] 98))) := by
    have h1 := ((hS.newblk 25 #[.pointer (some ⟨tb, 0, none⟩)]).newblk 98 #[pl]).newblk 98 #[ph]
    simp only [World.size_alloc] at h1
    refine h1.perm ?_
    unfold iterLI
    exact (by classical exact List.perm_iff_count.2 fun a => by simp only [List.cons_append, List.nil_append, List.count_cons] <;> omega)
  obtain ⟨_, h1⟩ := hS.has 0 rfl
  obtain ⟨_, h2⟩ := hS.has 1 rfl
  rcases opt_shapeI h1 with rfl | ⟨b1, rfl⟩ <;> rcases opt_shapeI h2 with rfl | ⟨b2, rfl⟩
  all_goals
    clear hS h1 h2
    go_enter Try.func42, Try.ntmps42
    go_wp2
    go_ret
    exact ⟨_, _, _, rfl, HS.out⟩
theorem AllI_calls (tb : Nat) (w0 w : World) (fp0 : List Nat) (R : List Asn) (hS : St w0 fp0 R w) :
    Calls Try.prog 17 #[.pointer (some ⟨tb, 0, none⟩)] w fun e w' => ∃ bt bl bh, e = .returned (iterFI bt bl bh) ∧ St w0 fp0 (iterLI tb bt bl bh (.pointer none) (.pointer none) none none ++ R) w' := by
  have HC := Lib.hid (betweenI_calls tb none none (.pointer none) (.pointer none) w0 w fp0 R (St.pure.2 ⟨rfl, St.pure.2 ⟨rfl, hS⟩⟩))
  clear hS
  unfold iterFI at *
  go_enter Try.func17, Try.ntmps17
  go_wp2_with fail
  (with_reducible refine HC.out.mono ?_)
  rintro e w1 ⟨bt, bl, bh, rfl, hs⟩
  have HS := Lib.hid hs
  clear hs HC
  go_wp2
  go_ret
  exact ⟨_, _, _, rfl, HS.out⟩
end Go.Proofs.Ytldofiankhimjaa
/- Lists of pairs in memory. -/
namespace Go.Proofs.Ytldofiankhimjaa
open Go Go.RowKit
theorem infoPr : (Try.prog.info? 51).map (fun i => (i.zero, i.size, i.bytes)) = some (some (.agg #[.int .i64 0, .int .i64 0]), 2, 16) := by kernel_rfl
abbrev MI := M Int Int
/-- A list of pairs. -/
def prA (v : Value) (l : MI) : Asn := rowA 51 2 v l.length (entsI l)
theorem runPr (w : World) (ty : TypeId) {v : Value} {l : MI} {f : List Nat} (hown : (prA v l).p w f) (vb : Nat) (y : Int × Int) (et : TypeId) (hb : w.heap[vb]? = some (.cells #[.int .i64 y.1, .int .i64 y.2] et (0, 0))) (hlen : l.length + 1 < 1099511627776) :
    ∃ v' w' f', (Builtin.append_ #[31, 31] ty #[v, .slice (some ⟨vb, 0, none⟩) 1 1]).run Try.prog w = .ok v' w' ∧ (prA v' (l ++ [y])).p w' f' ∧ Tr w w' f f' := by
  obtain ⟨i0, ii, iz0, iz1, iz2⟩ := info_parts infoPr
  obtain ⟨v', w', f', h1, h2, h3⟩ := row_append w 31 ty 51 i0 (.agg #[.int .i64 0, .int .i64 0]) 2 16 (by kernel_rfl) ii iz0 iz1 iz2 rfl (by omega) hown vb [.int .i64 y.1, .int .i64 y.2] et hb rfl
    (by intro u hu; simp only [List.mem_cons, List.not_mem_nil, or_false] at hu; rcases hu with rfl | rfl <;> rfl) (by unfold maxLen; omega) (by omega)
  refine ⟨v', w', f', h1, ?_, h3⟩
  unfold prA
  rw [entsI_snoc, List.length_append, List.length_singleton]
  exact h2
/-- A variable that holds a list of pairs. -/
def prVar (b : Nat) (l : MI) : Asn := exA fun v => starA [blkA b 31 #[v], prA v l]
theorem St.exo {w0 w : World} {fp0 : List Nat} {α : Type} {F : α → List Asn} {L : List Asn} : St w0 fp0 (exA (fun a => starA (F a)) :: L) w ↔ ∃ a, St w0 fp0 (F a ++ L) w := by
  constructor
  · intro h
    obtain ⟨a, ha⟩ := h.unfold (L1 := F) fun f ⟨a, ha⟩ => ⟨a, ha⟩
    exact ⟨a, ha⟩
  · rintro ⟨a, ha⟩
    exact ha.fold fun f hf => ⟨a, hf⟩
theorem St.prv {w0 w : World} {fp0 : List Nat} {L : List Asn} {b : Nat} {l : MI} : St w0 fp0 (prVar b l :: L) w ↔ ∃ v, St w0 fp0 (blkA b 31 #[v] :: prA v l :: L) w :=
  St.exo (F := fun v => [blkA b 31 #[v], prA v l])
/-- out = append(out, pair). -/
theorem St.appPr {w0 W : World} {fp0 : List Nat} {L : List Asn} {bo : Nat} {v0 : Value} {l : MI} (ty : TypeId) (y : Int × Int) (hlen : l.length + 1 < 1099511627776) (hS : St w0 fp0 (blkA bo 31 #[v0] :: prA v0 l :: L) W) :
    ∃ v' w', (Builtin.append_ #[31, 31] ty #[v0, .slice (some ⟨W.heap.size, 0, none⟩) 1 1]).run Try.prog (W.alloc (.cells #[.int .i64 y.1, .int .i64 y.2] 51)) = .ok v' w' ∧ (∃ a c, v' = .slice a (l.length + 1) c) ∧
      w'.cell? ⟨bo, 0, none⟩ = some v0 ∧ w'.frozen? ⟨bo, 0, none⟩ = false ∧ bo < w'.heap.size ∧ St w0 fp0 (blkA bo 31 #[v'] :: prA v' (l ++ [y]) :: L) (w'.setCell ⟨bo, 0, none⟩ v') := by
  have h1 := hS.newblk 51 #[.int .i64 y.1, .int .i64 y.2]
  obtain ⟨_, hb, _⟩ := h1.has 0 rfl
  obtain ⟨f, hp, hset⟩ := h1.get 2 rfl
  obtain ⟨v', w', f', hr, ho, ht⟩ := runPr _ ty hp W.heap.size y 51 hb hlen
  have h2 := hset _ _ _ ho ht
  obtain ⟨g, hg, hset2⟩ := h2.get 1 rfl
  have hc := (blk_get hg).1 0
  have hf := (blk_get hg).2.1 0
  have hl := (blk_get hg).2.2
  obtain ⟨hb2, ht2⟩ := blk_set hg 0 v'
  have h3 := hset2 _ _ _ hb2 ht2
  obtain ⟨a, c, e, _⟩ := row_shape ho
  rw [List.length_append, List.length_singleton] at e
  exact ⟨v', w', hr, ⟨a, c, e⟩, hc, hf, hl, h3.drop⟩
end Go.Proofs.Ytldofiankhimjaa
