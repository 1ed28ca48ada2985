/- Part 8 of the proof: PpI, It2I, Aw, NwS, BtRS, BtS, ItS, Lk -/
import Derived.Test.YtldofiankhimjaaY04
import Derived.Test.YtldofiankhimjaaY07
import Derived.Test.YtldofiankhimjaaY05
import Derived.Test.YtldofiankhimjaaY00
import Derived.Deep.DeepCutAuto
import Derived.Test.YtldofiankhimjaaY03
import Derived.OwnWalkIn
import Derived.TacticsInMore
import Derived.LoopIn
import Derived.LoopNIn
import Derived.RangeFuncCalls
import Derived.Shelf.Abstract
import Derived.Shelf.RegionOpen
/- Put (I). -/
namespace Go.Proofs.Ytldofiankhimjaa
open Go.RowKit
set_option maxHeartbeats 8000000 in
set_option maxRecDepth 100000 in
theorem PutI_calls {o : Nat} (ho : 3 ≤ o) (ho' : o ≤ 1024) (h : Nat) (l : M Int Int) (tb : Nat) (k : Int) (v : Int) (w0 w : World) (fp0 : List Nat) (R : List Asn) (hlen : l.length < 1099511627775)
    (hS : St w0 fp0 (objI o h l tb :: R) w) :
    Calls Try.prog 12 #[ptrI tb, encI k, valI v] w fun e w' => e = .returned (.tuple #[valI ((getM l k).getD 0), .bool (getM l k).isSome]) ∧ ∃ h', St w0 fp0 (objI o h' (putM l k v) tb :: R) w' := by
  obtain ⟨x, rb, ⟨g1, g2, g3⟩, hS1⟩ := hS.openOI
  obtain ⟨p1, p2⟩ := putT_spec ho k v h _ x g1 g2
  have hget := getT_spec k h _ _ x g1 g2
  rw [g3] at p2 hget
  have HP := Lib.hid (putI_calls ho ho' tb (ptrI rb) (.int .i64 l.length) k v h _ x rb w0 w fp0 R g1 g2 hS1)
  rw [hget] at HP
  have hpl := putM_lengthI l k v (by rw [← g3]; exact g2)
  obtain ⟨x', hx'⟩ : ∃ x', putT o h x k v = x' := ⟨_, rfl⟩
  rw [hx'] at HP p1 p2
  obtain ⟨_, q1⟩ := hS1.has 1 rfl
  have c0 := (blk_get q1).1 0
  have c0l := (blk_get q1).2.2
  simp only [List.getElem?_toArray, List.getElem?_cons_zero] at c0
  obtain ⟨n, hn⟩ : ∃ n, l.length = n := ⟨_, rfl⟩
  rw [hn] at HP hpl hlen
  obtain ⟨was, hwas⟩ : ∃ was, (getM l k).isSome = was := ⟨_, rfl⟩
  rw [hwas] at HP hpl ⊢
  obtain ⟨old, hold⟩ : ∃ old, valI ((getM l k).getD 0) = old := ⟨_, rfl⟩
  rw [hold] at HP ⊢
  have hasc : AscM (putM l k v) := ascM_putM (by rw [← g3]; exact g2) k v
  have Hfin : RowKit.Hid (∀ h' x'' rb' w', Body o h' (rootB h') (o - 1) x'' → toL h' x'' = putM l k v → St w0 fp0 (treeI h' x'' rb' :: blkA tb 72 #[ptrI rb', .int .i64 o, .int .i64 ((putM l k v).length : Nat)] :: R) w' → ∃ h', St w0 fp0 (objI o h' (putM l k v) tb :: R) w') := by
    intro h' x'' rb' w' h1 h2 h3
    exact ⟨h', St.shutOI ⟨h1, by rw [h2]; exact hasc, h2⟩ h3⟩
  rw [hpl] at Hfin
  obtain ⟨m, hm⟩ : ∃ m, x'.es.length = m := ⟨_, rfl⟩
  have Hm := Lib.hid hm
  have P1 := Lib.hid p1
  have P2 := Lib.hid p2
  have Hx : RowKit.Hid (m < o → Body o h (rootB h) (o - 1) x') := fun hlt => p1.mono p1.lo (by rw [hm]; omega)
  obtain ⟨kk, hkk⟩ : ∃ kk, encI k = kk := ⟨_, rfl⟩
  obtain ⟨vv, hvv⟩ : ∃ vv, valI v = vv := ⟨_, rfl⟩
  rw [hkk, hvv] at HP ⊢
  clear hS hS1 q1 g1 g2 g3 p1 p2 hget hpl hx' hn hold hasc hm hkk hvv
  unfold ptrI at *
  go_enter Try.func12, Try.ntmps12
  go_wp2_with fail
  (with_reducible refine HP.out.mono ?_)
  rintro e w1 ⟨rfl, hs1⟩
  have HS1 := Lib.hid hs1
  obtain ⟨_, q0⟩ := hs1.has 0 rfl
  obtain ⟨_, q1⟩ := hs1.has 1 rfl
  obtain ⟨ka, kc, _, _, c4, -, -, c4l⟩ := tree_lookI q0
  have c1 := (blk_get q1).1 0
  have c2 := (blk_get q1).1 1
  have c1l := (blk_get q1).2.2
  simp only [List.getElem?_toArray, List.getElem?_cons_zero, List.getElem?_cons_succ] at c1 c2
  rw [Hm.out] at c4
  clear hs1 q0 q1 HP c0 c0l
  go_upto_region 2 with (fail)
  go_cut [33] (fun z wx => z = .bool (decide (o ≤ m)) ∧ RowKit.Hid (St w0 fp0 (treeI h x' rb :: blkA tb 72 #[.pointer (some ⟨rb, 0, none⟩), .int .i64 o, .int .i64 n] :: R) wx))
  case first =>
    go_quiet (fail)
    go_step
    go_step
    go_meet
    exact ⟨by simp, HS1.out.mono (below_drewN _ _)⟩
  obtain ⟨rfl, HS2⟩ := hcut
  clear c1 c2 c4 c1l c4l HS1
  obtain ⟨q, hq⟩ : ∃ q, decide (o ≤ m) = q := ⟨_, rfl⟩
  rw [hq]
  have Hq := Lib.hid hq
  clear hq
  go_upto_if 33 with (fail)
  go_cut [] (fun wx => ∃ h' x'' rb', RowKit.Hid (Body o h' (rootB h') (o - 1) x'') ∧ RowKit.Hid (toL h' x'' = putM l k v) ∧ RowKit.Hid (St w0 fp0 (treeI h' x'' rb' :: blkA tb 72 #[.pointer (some ⟨rb', 0, none⟩), .int .i64 o, .int .i64 n] :: R) wx))
  case first =>
    cases q with
    | false =>
      have hlt : m < o := by have := Hq.out; simp at this; omega
      have HX := Lib.hid (Hx.out hlt)
      go_wp2
      go_meet
      exact ⟨_, _, _, HX, P2, HS2⟩
    | true =>
      have hge : o ≤ m := by have := Hq.out; simpa using this
      have hmo : m = o := by have := P1.out.hi; have := Hm.out; omega
      have hxo : x'.es.length = o := by rw [Hm.out, hmo]
      have Hsp := Lib.hid (split_spec ho (x := .node [] [x']) (i := 0) (c := x') rfl rfl (P1.out.mono (by rw [hxo]; unfold least; omega) (by omega)) hxo (by simp) (by simp [cs_node]))
      have hck : x'.cs = [] ∨ x'.cs.length = o + 1 := by
        rcases P1.out.kids with ⟨_, e⟩ | ⟨_, _, e, _⟩
        · exact .inl e
        · exact .inr (by rw [e, hxo])
      have HSP := Lib.hid (fun nr w hs => splitI_calls (h := h) ho ho' tb (ptrI nr) (.int .i64 n) (.node [] [x']) 0 x' nr w0 w fp0 R rfl rfl (by simp [es_node]) hxo hck hs)
      have HT : RowKit.Hid (toL (h + 1) (splitT o 0 (.node [] [x'])) = putM l k v) := by
        show _ = _
        rw [Hsp.out.2.2, toL_cons, P2.out]
        simp [post]
      have HB : RowKit.Hid (Body o (h + 1) (rootB (h + 1)) (o - 1) (splitT o 0 (.node [] [x']))) := Hsp.out.2.1.mono (by have := Hsp.out.2.1.lo; simpa [rootB, es_node] using this) (by have := Hsp.out.2.1.hi; simp [es_node] at this; omega)
      clear Hsp hxo hck hmo
      go_upto_region 3 with (fail)
      refine rPp3I (w0 := w0) (fp0 := fp0) tb rb o (.int .i64 n) (treeI h x' rb :: R) _ (by kernel_rfl) rfl rfl ?_ ?_
      · refine (St.emp.2 (St.emp.2 (St.emp.2 HS2.out))).perm ?_
        exact (by classical exact List.perm_iff_count.2 fun a => by simp only [pick_false, vpick_false, List.cons_append, List.nil_append, List.count_cons] <;> omega)
      intro u w3 h3
      have h4 : St w0 fp0 (atA 70 (u 41) #[.slice none 0 0, .slice none 0 0, u 39] :: pureA (u 40 = .agg #[.slice none 0 0, .slice none 0 0, u 39]) :: boxA 67 (u 39) (ptrI rb) :: treeI h x' rb :: blkA tb 72 #[u 41, .int .i64 o, .int .i64 n] :: R) w3 := by
        unfold ptrI
        refine h3.perm ?_
        exact (by classical exact List.perm_iff_count.2 fun a => by simp only [pick_true, vpick_true, List.cons_append, List.nil_append, List.count_cons] <;> omega)
      obtain ⟨nr, e41, h5⟩ := St.at_open h4
      obtain ⟨_, h6⟩ := St.pure.1 (h5.perm (List.Perm.swap _ _ _))
      rw [e41] at h6
      have H7 := Lib.hid h6.overI
      have HX := Lib.hid (HSP.out nr w3 H7.out)
      obtain ⟨_, q1⟩ := H7.out.has 1 rfl
      have c1 := (blk_get q1).1 0
      have c1l := (blk_get q1).2.2
      simp only [List.getElem?_toArray, List.getElem?_cons_zero] at c1
      clear h3 h4 h5 h6 q1 e41 HSP
      unfold ptrI at HX
      rw [show ((0 : Nat) : Int) = 0 from rfl] at HX
      simp only [putL, List.map, List.foldl, Act.put, List.setIfInBounds_toArray, List.set_cons_succ, List.set_cons_zero]
      go_wp2_with fail
      (with_reducible refine HX.out.mono ?_)
      rintro e w4 ⟨rfl, hs4⟩
      have HS4 := Lib.hid hs4
      clear hs4 c1 c1l
      go_wp2
      go_meet
      exact ⟨_, _, _, HB, HT, HS4⟩
  obtain ⟨h', x'', rb', HB, HT, HS3⟩ := hcut
  clear HS2 P1 P2 Hx Hq Hm
  cases was with
  | true =>
    have HF := Lib.hid (Hfin.out h' x'' rb' wc HB.out HT.out HS3.out)
    go_wp2
    exact bodyPost_ret (v := .tuple #[old, .bool true]) (by simp [results, Try.results12, go_sem]) rfl ⟨rfl, HF.out⟩
  | false =>
    go_upto_region 6 with (fail)
    refine rPp6I (w0 := w0) (fp0 := fp0) tb n (.pointer (some ⟨rb', 0, none⟩)) (.int .i64 o) (by omega) (treeI h' x'' rb' :: R) _ (by kernel_rfl) rfl rfl ?_ ?_
    · refine HS3.out.perm ?_
      exact (by classical exact List.perm_iff_count.2 fun a => by simp only [vpick_false, List.cons_append, List.nil_append, List.count_cons] <;> omega)
    intro u w3 h3
    have h4 : St w0 fp0 (treeI h' x'' rb' :: blkA tb 72 #[.pointer (some ⟨rb', 0, none⟩), .int .i64 o, .int .i64 ((n + 1 : Nat) : Int)] :: R) w3 := by
      refine h3.perm ?_
      exact (by classical exact List.perm_iff_count.2 fun a => by simp only [vpick_true, List.cons_append, List.nil_append, List.count_cons] <;> omega)
    have HF := Lib.hid (Hfin.out h' x'' rb' w3 HB.out HT.out h4)
    clear h3 h4
    simp only [putL, List.map, List.foldl, Act.put, List.setIfInBounds_toArray, List.set_cons_succ, List.set_cons_zero]
    go_wp2
    exact bodyPost_ret (v := .tuple #[old, .bool false]) (by simp [results, Try.results12, go_sem]) rfl ⟨rfl, HF.out⟩
end Go.Proofs.Ytldofiankhimjaa
/- From, Between (I). -/
namespace Go.Proofs.Ytldofiankhimjaa
open Go Go.RowKit
theorem FromI_calls (tb : Nat) (k : Int) (w0 w : World) (fp0 : List Nat) (R : List Asn) (hS : St w0 fp0 R w) :
    Calls Try.prog 25 #[.pointer (some ⟨tb, 0, none⟩), encI k] w fun e w' => ∃ bt bl bh pl, e = .returned (iterFI bt bl bh) ∧ St w0 fp0 (iterLI tb bt bl bh pl (.pointer none) (some k) none ++ R) w' := by
  have h1 : St w0 fp0 (optA (.pointer (some ⟨w.heap.size, 0, none⟩)) (some k) :: optA (.pointer none) none :: R) (w.alloc (.cells #[encI k] 3)) := by
    have h2 : St w0 fp0 (optA (.pointer none) none :: R) w := St.pure.2 ⟨rfl, hS⟩
    obtain ⟨fp, ⟨f, g, h3, h4, h5, rfl⟩, ht⟩ := h2.newblk 3 #[encI k]
    exact ⟨f ++ g, ⟨f, g, ⟨_, rfl, h3⟩, h4, h5, rfl⟩, ht⟩
  have HC := Lib.hid (betweenI_calls tb (some k) none _ _ w0 _ fp0 R h1)
  clear hS h1
  unfold iterFI at *
  unfold encI at *
  go_enter Try.func25, Try.ntmps25
  go_wp2_with fail
  (with_reducible refine HC.out.mono ?_)
  rintro e w1 ⟨bt, bl, bh, rfl, hs⟩
  have HS := Lib.hid hs
  clear hs HC
  go_wp2
  go_ret
  exact ⟨_, _, _, _, rfl, HS.out⟩
theorem BetweenI_calls (tb : Nat) (k k2 : Int) (w0 w : World) (fp0 : List Nat) (R : List Asn) (hS : St w0 fp0 R w) :
    Calls Try.prog 31 #[.pointer (some ⟨tb, 0, none⟩), encI k, encI k2] w fun e w' => ∃ bt bl bh pl ph, e = .returned (iterFI bt bl bh) ∧ St w0 fp0 (iterLI tb bt bl bh pl ph (some k) (some k2) ++ R) w' := by
  have h1 : St w0 fp0 (optA (.pointer (some ⟨w.heap.size, 0, none⟩)) (some k) :: optA (.pointer (some ⟨w.heap.size + 1, 0, none⟩)) (some k2) :: R) ((w.alloc (.cells #[encI k] 3)).alloc (.cells #[encI k2] 3)) := by
    have h2 := (hS.newblk 3 #[encI k]).newblk 3 #[encI k2]
    simp only [World.size_alloc] at h2
    obtain ⟨fp, ⟨f, g, h3, ⟨f2, g2, h6, h7, h8, rfl⟩, h5, rfl⟩, ht⟩ := h2.perm (List.Perm.swap _ _ _)
    exact ⟨f ++ (f2 ++ g2), ⟨f, f2 ++ g2, ⟨_, rfl, h3⟩, ⟨f2, g2, ⟨_, rfl, h6⟩, h7, h8, rfl⟩, h5, rfl⟩, ht⟩
  have HC := Lib.hid (betweenI_calls tb (some k) (some k2) _ _ w0 _ fp0 R h1)
  clear hS h1
  unfold iterFI at *
  unfold encI at *
  go_enter Try.func31, Try.ntmps31
  go_wp2_with fail
  (with_reducible refine HC.out.mono ?_)
  rintro e w1 ⟨bt, bl, bh, rfl, hs⟩
  have HS := Lib.hid hs
  clear hs HC
  go_wp2
  go_ret
  exact ⟨_, _, _, _, _, rfl, HS.out⟩
end Go.Proofs.Ytldofiankhimjaa
/- awake: the chapter's examples. -/
namespace Go.Proofs.Ytldofiankhimjaa
open Go Go.RowKit
/-- The example's keys. -/
def awL : Nat → MI | 0 => [] | k + 1 => putM (awL k) ((k : Int) + 1) (10 * ((k : Int) + 1))
theorem aw_get : getM (awL 4) 3 = some 30 := by decide
theorem aw_get2 : getM (putM (awL 4) 3 33) 3 = some 33 := by decide
theorem aw_len : (putM (awL 4) 3 33).length = 4 := by decide
theorem aw_sel : takeM 9 (selM (some 2) (some 4) (putM (awL 4) 3 33)) = [(2, 20), (3, 33)] := by decide
theorem aw_lens : ∀ i, i ≤ 4 → (awL i).length ≤ 4 := by decide
theorem aw_height {h : Nat} {x : T Int Int} (hg : GoodI 3 h (putM (awL 4) 3 33) x) : h = 1 := by
  obtain ⟨c1, c2⟩ := body_count (by omega) h _ x hg.1
  rw [hg.2.2, aw_len] at c1 c2
  match h, c1, c2 with
  | 0, c1, c2 => simp at c2
  | 1, _, _ => rfl
  | h + 2, c1, c2 =>
    exfalso
    simp only [rootB, Nat.reduceAdd, Nat.reduceDiv] at c1
    have h3 : 1 ≤ 2 ^ h := Nat.one_le_two_pow
    have h4 : 2 ^ (h + 2) = 2 ^ h * 4 := by rw [Nat.pow_add]
    rw [h4, if_neg (by omega)] at c1
    omega
theorem clamp3 : clampO 3 = 3 := by decide
set_option maxHeartbeats 4000000 in
set_option maxRecDepth 20000 in
theorem awake_calls (w0 w : World) (fp0 : List Nat) (R : List Asn) (hS : St w0 fp0 R w) :
    Calls Try.prog 10 #[] w fun e w' => e = .returned (.bool true) ∧ St w0 fp0 R w' := by
  have HN := Lib.hid (NewI_calls 3 w0 w fp0 R hS)
  rw [clamp3] at HN
  unfold ptrI at HN
  clear hS
  go_enter Try.func10, Try.ntmps10
  go_wp2_with fail
  (with_reducible refine HN.out.mono ?_)
  rintro e w1 ⟨tb, rfl, h1⟩
  have H1 := Lib.hid h1
  obtain ⟨_, ho1⟩ := h1.has 0 rfl
  have HH := Lib.hid (HeightI_calls (by omega) (by omega) (by simp) tb w1 ho1)
  rw [show heightR 0 [] = 0 from rfl] at HH
  clear h1 ho1 HN
  go_wp2_with fail
  (with_reducible refine HH.out.mono ?_)
  rintro e w2 ⟨rfl, hb2⟩
  have H2 := Lib.hid (H1.out.mono hb2)
  clear H1 HH hb2
  go_wp2
  go_loopg [2] 4 (fun g z wr => ∃ k : Nat, z = .int .i64 ((k : Int) + 1) ∧ g + k = 4 ∧ RowKit.Hid (∃ h, St w0 fp0 (objI 3 h (awL k) tb :: R) wr))
  case atStart => exact ⟨0, rfl, rfl, ⟨0, H2.out⟩⟩
  case round =>
    clear H2
    obtain ⟨k, rfl, hgk, Hs⟩ := hrel
    by_cases hk : k < 4
    · obtain ⟨h, hs⟩ := Hs.out
      have HP := Lib.hid (PutI_calls (o := 3) (by omega) (by omega) h (awL k) tb ((k : Int) + 1) (10 * ((k : Int) + 1)) w0 wr fp0 R (by have := aw_lens k (by omega); omega) hs)
      unfold ptrI encI at HP
      rw [show valI (10 * ((k : Int) + 1)) = .int .i64 (10 * ((k : Int) + 1)) from rfl] at HP
      have Hgk := Lib.hid hgk
      have hle : (k : Int) + 1 ≤ 4 := by omega
      clear hs Hs hgk
      go_wp2_with fail
      (with_reducible refine HP.out.mono ?_)
      rintro e w3 ⟨rfl, h', h3⟩
      have H3 : RowKit.Hid (∃ h, St w0 fp0 (objI 3 h (awL (k + 1)) tb :: R) w3) := ⟨h', h3⟩
      clear h3 HP
      generalize (getM (awL k) ((k : Int) + 1)) = gg at *
      go_wp2
      go_roundg (gk - 1)
      case rel => exact ⟨k + 1, by go_num, by have := Hgk.out; omega, H3⟩
      case measure => have := Hgk.out; omega
    · obtain rfl : k = 4 := by omega
      obtain ⟨h, hs⟩ := Hs.out
      have HP := Lib.hid (PutI_calls (o := 3) (by omega) (by omega) h (awL 4) tb 3 33 w0 wr fp0 R (by have := aw_lens 4 (by omega); omega) hs)
      unfold ptrI encI at HP
      rw [aw_get, show valI 33 = .int .i64 33 from rfl, show valI ((some (30 : Int)).getD 0) = .int .i64 30 from rfl, show (some (30 : Int)).isSome = true from rfl] at HP
      clear hs Hs hgk
      go_wp2_with fail
      (with_reducible refine HP.out.mono ?_)
      rintro e w3 ⟨rfl, h', h3⟩
      have H3 := Lib.hid h3
      obtain ⟨_, ho3⟩ := h3.has 0 rfl
      have HG := Lib.hid (GetI_calls tb 3 w3 (by omega) ho3)
      unfold encI at HG
      rw [aw_get2, show ((some (33 : Int)).map valI).getD (.int .i64 0) = .int .i64 33 from rfl, show (some (33 : Int)).isSome = true from rfl] at HG
      clear h3 ho3 HP
      go_wp2_with fail
      (with_reducible refine HG.out.mono ?_)
      rintro e w4 ⟨rfl, hb4⟩
      have h4 := H3.out.mono hb4
      have H4 := Lib.hid h4
      obtain ⟨_, ho4⟩ := h4.has 0 rfl
      have hh : h' = 1 := by
        obtain ⟨x, rb, hg, -⟩ := obj_seesI ho4
        exact aw_height hg
      subst hh
      have HH := Lib.hid (HeightI_calls (by omega) (by omega) (by rw [aw_len]; omega) tb w4 ho4)
      rw [show heightR 1 (putM (awL 4) 3 33) = 2 from rfl] at HH
      clear h4 ho4 HG H3 hb4
      go_wp2_with fail
      (with_reducible refine HH.out.mono ?_)
      rintro e w5 ⟨rfl, hb5⟩
      have h5 := H4.out.mono hb5
      have H5 := Lib.hid h5
      obtain ⟨_, ho5⟩ := h5.has 0 rfl
      have HL := Lib.hid (LenI_calls tb w5 ho5)
      rw [aw_len] at HL
      have HB := Lib.hid (BetweenI_calls tb 2 4 w0 w5 fp0 _ h5)
      unfold encI at HB
      clear h5 ho5 HH H4 hb5
      go_wp2_with fail
      (with_reducible refine HL.out.mono ?_)
      rintro e w6 ⟨rfl, rfl⟩
      clear HL
      go_wp2_with fail
      (with_reducible refine HB.out.mono ?_)
      rintro e w7 ⟨bt, bl, bh, pl, ph, rfl, h7⟩
      have h8 : St w0 fp0 (objI 3 1 (putM (awL 4) 3 33) tb :: (iterLI tb bt bl bh pl ph (some 2) (some 4) ++ R)) w7 := h7.perm List.perm_middle
      have HT := Lib.hid (taken_calls (by omega) (some 2) (some 4) pl ph _ tb bt bl bh (by rw [aw_len]; omega) 9 w0 w7 fp0 R h8)
      rw [aw_sel] at HT
      clear h7 h8 HB H5
      go_wp2_with fail
      (with_reducible refine HT.out.mono ?_)
      rintro e w8 ⟨v8, rfl, h8⟩
      have H8 : RowKit.Hid (St w0 fp0 (prA v8 [(2, 20), (3, 33)] :: R) w8) := by
        have h9 : St w0 fp0 ([objI 3 1 (putM (awL 4) 3 33) tb] ++ iterLI tb bt bl bh pl ph (some 2) (some 4) ++ (prA v8 [(2, 20), (3, 33)] :: R)) w8 := by
          refine h8.perm ?_
          rw [List.append_assoc]
          refine ((List.perm_middle (l₁ := objI 3 1 (putM (awL 4) 3 33) tb :: iterLI tb bt bl bh pl ph (some 2) (some 4)) (a := prA v8 [(2, 20), (3, 33)]) (l₂ := R)).symm).trans ?_
          exact List.Perm.refl _
        exact St.dropAll h9
      clear h8 HT
      have HSm : RowKit.Hid (∀ w9, Below w8.heap.size w8 w9 → ∀ v, PrAt w9 v [(2, 20), (3, 33)] → Calls Try.prog 15 #[v8, v] w9 fun e w' => e = .returned (.bool true) ∧ St w0 fp0 R w') := by
        intro w9 hb9 v hv
        have h9 := H8.out.mono hb9
        obtain ⟨_, hp⟩ := h9.has 0 rfl
        refine (Same_calls [(2, 20), (3, 33)] [(2, 20), (3, 33)] v8 v w9 (prA_at hp) hv).mono ?_
        rintro e w' ⟨rfl, hb'⟩
        exact ⟨by simp, (h9.mono hb').drop⟩
      have hv : PrAt (w8.alloc (.cells #[.int .i64 2, .int .i64 20, .int .i64 3, .int .i64 33] 51)) (.slice (some ⟨w8.heap.size, 0, none⟩) 2 2) [(2, 20), (3, 33)] := by
        refine ⟨by simp [maxLen], _, _, rfl, Nat.le_refl _, fun i hi => ⟨w8.heap.size, 0, rfl, by simp, ?_, ?_⟩⟩
        · rw [World.cell?_alloc_new]
          match i, hi with
          | 0, _ => rfl
          | 1, _ => rfl
        · rw [World.cell?_alloc_new]
          match i, hi with
          | 0, _ => rfl
          | 1, _ => rfl
      have HSm2 := Lib.hid (HSm.out _ ((Below.refl _ _).alloc (Nat.le_refl _) _) _ hv)
      clear hv HSm H8
      go_wp2_with fail
      (with_reducible refine HSm2.out.mono ?_)
      rintro e w9 ⟨rfl, h9⟩
      have H9 := Lib.hid h9
      clear h9 HSm2
      go_wp2
      go_ret
      exact ⟨rfl, H9.out⟩
end Go.Proofs.Ytldofiankhimjaa
/- New, Len, Get (S). -/
namespace Go.Proofs.Ytldofiankhimjaa
open Go.RowKit
def clampOS (n : Int) : Nat := (min (max n 3) 1024).toNat
theorem clampOS_lo (n : Int) : 3 ≤ clampOS n := by unfold clampOS; omega
theorem clampOS_hi (n : Int) : clampOS n ≤ 1024 := by unfold clampOS; omega
theorem St.new2S {w0 w : World} {fp0 : List Nat} {R : List Asn} (hS : St w0 fp0 R w) (o : Nat) (_ho : 3 ≤ o) (c : Int) (hc : (o : Int) = c) :
    St w0 fp0 (objS o 0 [] (w.heap.size + 1) :: R) ((w.alloc (.cells #[.slice none 0 0, .slice none 0 0, .slice none 0 0] 85)).alloc (.cells #[.pointer (some ⟨w.heap.size, 0, none⟩), .int .i64 c, .int .i64 0] 87)) := by
  subst hc
  have h1 := St.atN (St.emp.2 hS) 0 rfl 85 #[.slice none 0 0, .slice none 0 0, .slice none 0 0]
  obtain ⟨b, e, h2⟩ := St.at_openS h1
  injection e with e
  injection e with e
  injection e with e
  subst e
  have h3 := St.atN (St.emp.2 h2) 0 rfl 87 #[.pointer (some ⟨w.heap.size, 0, none⟩), .int .i64 o, .int .i64 0]
  obtain ⟨b, e, h4⟩ := St.at_openS h3
  injection e with e
  injection e with e
  injection e with e
  have hsz : (w.alloc (.cells #[.slice none 0 0, .slice none 0 0, .slice none 0 0] 85 (0, 0))).heap.size = w.heap.size + 1 := by simp
  rw [hsz] at e
  subst e
  have h5 : St w0 fp0 (blkA w.heap.size 85 #[.slice none 0 0, .slice none 0 0, .slice none 0 0] :: slA 9 (.slice none 0 0) (Ytldofiankhimjaa.keysS []) :: slA 3 (.slice none 0 0) (valsS []) :: slA 82 (.slice none 0 0) (([] : List Nat).map ptrS) :: starA (List.zipWith (kidS 0) [] []) :: blkA (w.heap.size + 1) 87 #[.pointer (some ⟨w.heap.size, 0, none⟩), .int .i64 o, .int .i64 0] :: R)
      ((w.alloc (.cells #[.slice none 0 0, .slice none 0 0, .slice none 0 0] 85)).alloc (.cells #[.pointer (some ⟨w.heap.size, 0, none⟩), .int .i64 o, .int .i64 0] 87)) := by
    have h7 : St w0 fp0 (starA [] :: (blkA (w.heap.size + 1) 87 #[.pointer (some ⟨w.heap.size, 0, none⟩), .int .i64 o, .int .i64 0] :: blkA w.heap.size 85 #[.slice none 0 0, .slice none 0 0, .slice none 0 0] :: R)) _ := St.star.2 h4
    have h6 := ((h7.nilAS 82).nilAS 3).nilAS 9
    refine h6.perm ?_
    classical
    refine List.perm_iff_count.2 fun a => ?_
    simp only [List.count_cons, Ytldofiankhimjaa.keysS, valsS, List.map_nil, List.zipWith]
    omega
  refine St.shutOS (x := .node [] []) (rb := w.heap.size) ⟨⟨Nat.zero_le _, Nat.zero_le _, rfl⟩, List.Pairwise.nil, rfl⟩ ?_
  exact St.shutNS (bs := []) rfl h5
set_option maxHeartbeats 4000000 in
theorem NewS_calls (n : Int) (w0 w : World) (fp0 : List Nat) (R : List Asn) (hS : St w0 fp0 R w) :
    Calls Try.prog 18 #[.int .i64 n] w fun e w' => ∃ tb, e = .returned (ptrS tb) ∧ St w0 fp0 (objS (clampOS n) 0 [] tb :: R) w' := by
  have HS := Lib.hid (fun c hc => hS.new2S (clampOS n) (clampOS_lo n) c hc)
  have hc : ((clampOS n : Nat) : Int) = min (max n 3) 1024 := by unfold clampOS; omega
  have Hc := Lib.hid hc
  clear hS hc
  go_enter Try.func18, Try.ntmps18
  go_wp2
  all_goals
    refine bodyPost_ret (results_tmp rfl _ _ _) rfl ?_
    exact ⟨_, rfl, HS.out _ (by rw [Hc.out]; omega)⟩
end Go.Proofs.Ytldofiankhimjaa
/- between$1: its first region (S). -/
namespace Go.Proofs.Ytldofiankhimjaa
open Go Go.RowKit
noncomputable def oBt0S : Array Oper := ((Try.f69.body).bind fun c => opsOf c 0).getD #[]
set_option maxHeartbeats 4000000 in
set_option maxRecDepth 100000 in
theorem rBt0S {Q : Exit → Act → World → Prop} {a : Act} {w w0 : World} {fp0 : List Nat} (bt bl bh tb o h : Nat) (lo hi : Option ByteArray) (pl ph : Value) (l : M ByteArray Int) (x : TS) (rb : Nat) (ho' : o ≤ 1024) (hg : GoodS o h l x) (hlen : l.length < 1099511627776) (R : List Asn) (ops : Array Oper) (hops : ops = oBt0S) (hsz : a.tmps.size = 27) (h1 : a.eval (.tmp 1) = .pointer (some ⟨bt, 0, none⟩)) (h2 : a.eval (.tmp 2) = .pointer (some ⟨bl, 0, none⟩)) (h3 : a.eval (.tmp 3) = .pointer (some ⟨bh, 0, none⟩))
    (hS : St w0 fp0 ([pick false (entS (a.eval (.tmp 13)) (selM lo hi l)) emp, treeS h x rb, blkA tb 87 #[.pointer (some ⟨rb, 0, none⟩), .int .i64 o, .int .i64 l.length], blkA bt 38 #[.pointer (some ⟨tb, 0, none⟩)], blkA bl 112 #[pl], blkA bh 112 #[ph], optAS pl lo, optAS ph hi] ++ R) w)
    (hQ : ∀ (u : Nat → Value) w1, (u 14 = .int .i64 ((selM lo hi l).length : Nat)) → (u 15 = .int .i64 0) → St w0 fp0 ([pick true (entS (u 13) (selM lo hi l)) emp, treeS h x rb, blkA tb 87 #[.pointer (some ⟨rb, 0, none⟩), .int .i64 o, .int .i64 l.length], blkA bt 38 #[.pointer (some ⟨tb, 0, none⟩)], blkA bl 112 #[pl], blkA bh 112 #[ph], optAS pl lo, optAS ph hi] ++ R) w1 → Q .normal (putL a (([7, 8, 9, 10, 11, 12, 13, 14, 15] : List Nat).map fun d => (d, u d))) w1) : (Code.region 0 ops true).wp Try.prog Q a w := by
  subst hops
  have hsize : oBt0S.size = 9 := by kernel_rfl
  have hE : Looks (fun L g w => St w0 fp0 ([pick (L 6) (entS (g 13) (selM lo hi l)) emp, treeS h x rb, blkA tb 87 #[.pointer (some ⟨rb, 0, none⟩), .int .i64 o, .int .i64 l.length], blkA bt 38 #[.pointer (some ⟨tb, 0, none⟩)], blkA bl 112 #[pl], blkA bh 112 #[ph], optAS pl lo, optAS ph hi] ++ R) w) [6] [13] := by
    intro L L' g g' w hL hg h
    simpa only [← hL 6 (by decide), ← hg 13 (by decide)] using h
  have hn1 : (([(0, 7, .pointer (some ⟨tb, 0, none⟩)), (1, 8, .pointer (some ⟨tb, 0, none⟩)), (2, 9, .pointer (some ⟨tb, 0, none⟩)), (3, 10, .pointer (some ⟨rb, 0, none⟩)), (4, 11, pl), (5, 12, ph), (7, 14, .int .i64 ((selM lo hi l).length : Nat)), (8, 15, .int .i64 0)] : List (Nat × Nat × Value)).map (·.1)).Nodup := by
    show List.Nodup [0, 1, 2, 3, 4, 5, 7, 8]
    decide
  have hn2 : (([(0, 7, .pointer (some ⟨tb, 0, none⟩)), (1, 8, .pointer (some ⟨tb, 0, none⟩)), (2, 9, .pointer (some ⟨tb, 0, none⟩)), (3, 10, .pointer (some ⟨rb, 0, none⟩)), (4, 11, pl), (5, 12, ph), (7, 14, .int .i64 ((selM lo hi l).length : Nat)), (8, 15, .int .i64 0)] : List (Nat × Nat × Value)).map (·.2.1)).Nodup := by
    show List.Nodup [7, 8, 9, 10, 11, 12, 14, 15]
    decide
  refine wp_region_vals (ops' := oBt0S) [7, 8, 9, 10, 11, 12, 13, 14, 15] [(0, 7, .pointer (some ⟨tb, 0, none⟩)), (1, 8, .pointer (some ⟨tb, 0, none⟩)), (2, 9, .pointer (some ⟨tb, 0, none⟩)), (3, 10, .pointer (some ⟨rb, 0, none⟩)), (4, 11, pl), (5, 12, ph), (7, 14, .int .i64 ((selM lo hi l).length : Nat)), (8, 15, .int .i64 0)] (fun L g w => St w0 fp0 ([pick (L 6) (entS (g 13) (selM lo hi l)) emp, treeS h x rb, blkA tb 87 #[.pointer (some ⟨rb, 0, none⟩), .int .i64 o, .int .i64 l.length], blkA bt 38 #[.pointer (some ⟨tb, 0, none⟩)], blkA bl 112 #[pl], blkA bh 112 #[ph], optAS pl lo, optAS ph hi] ++ R) w) rfl (by kernel_rfl) (by kernel_rfl) (hS.mono (below_drew w)) ?_ ?_
  · intro oi o L a1 w1 ho hL hdep hI
    have hoi : oi < 9 := by have := (Array.getElem?_eq_some_iff.1 ho).1; omega
    have h1sz : a1.tmps.size = 27 := hI.frame.size.trans hsz
    rcases (by omega : oi = 0 ∨ oi = 1 ∨ oi = 2 ∨ oi = 3 ∨ oi = 4 ∨ oi = 5 ∨ oi = 6 ∨ oi = 7 ∨ oi = 8) with rfl | rfl | rfl | rfl | rfl | rfl | rfl | rfl | rfl
    · have hl : oBt0S[0]? = some ⟨some 7, Op.load _ (Operand.tmp 1), _, _, _, none⟩ := rfl
      obtain rfl := oI ho hl
      have x1 := hI.old 1 (.pointer (some ⟨bt, 0, none⟩)) (by decide) h1
      have hS1 := hI.eff
      obtain ⟨_, hp⟩ := hS1.has 3 rfl
      have hcell := (blk_get hp).1 0
      have hlt := (blk_get hp).2.2
      simp only [List.getElem?_toArray, List.getElem?_cons_zero] at hcell
      exact hI.rd hE hsz 0 7 (.pointer (some ⟨tb, 0, none⟩)) ho rfl rfl hdep (by decide) (vals_at hn1 hn2 0 rfl) (by simp [go_sem, execOp, Act.eval, x1, hcell])
    · have hl : oBt0S[1]? = some ⟨some 8, Op.nilCheck (Operand.tmp 7), _, _, _, none⟩ := rfl
      obtain rfl := oI ho hl
      have x7 := hI.val 0 7 (.pointer (some ⟨tb, 0, none⟩)) (mG (i := 0) rfl) (dK ho hdep (by kernel_rfl : waitsB oBt0S 1 0 = true))
      exact hI.rd hE hsz 1 8 (.pointer (some ⟨tb, 0, none⟩)) ho rfl rfl hdep (by decide) (vals_at hn1 hn2 1 rfl) (by simp [go_sem, execOp, Act.eval, x7])
    · have hl : oBt0S[2]? = some ⟨some 9, Op.fieldAddr _ (Operand.tmp 8) 0, _, _, _, none⟩ := rfl
      obtain rfl := oI ho hl
      have x8 := hI.val 1 8 (.pointer (some ⟨tb, 0, none⟩)) (mG (i := 1) rfl) (dK ho hdep (by kernel_rfl : waitsB oBt0S 2 1 = true))
      exact hI.rd hE hsz 2 9 (.pointer (some ⟨tb, 0, none⟩)) ho rfl rfl hdep (by decide) (vals_at hn1 hn2 2 rfl) (by simp [go_sem, execOp, Act.eval, x8])
    · have hl : oBt0S[3]? = some ⟨some 10, Op.load _ (Operand.tmp 9), _, _, _, none⟩ := rfl
      obtain rfl := oI ho hl
      have x9 := hI.val 2 9 (.pointer (some ⟨tb, 0, none⟩)) (mG (i := 2) rfl) (dK ho hdep (by kernel_rfl : waitsB oBt0S 3 2 = true))
      have hS1 := hI.eff
      have e6 : L 6 = false := hI.no hL (by kernel_rfl : waitsB oBt0S 6 3 = true)
      simp only [e6, pick_false] at hS1
      obtain ⟨_, hp⟩ := hS1.has 2 rfl
      have hcell := (blk_get hp).1 0
      have hlt := (blk_get hp).2.2
      simp only [List.getElem?_toArray, List.getElem?_cons_zero] at hcell
      exact hI.rd hE hsz 3 10 (.pointer (some ⟨rb, 0, none⟩)) ho rfl rfl hdep (by decide) (vals_at hn1 hn2 3 rfl) (by simp [go_sem, execOp, Act.eval, x9, hcell])
    · have hl : oBt0S[4]? = some ⟨some 11, Op.load _ (Operand.tmp 2), _, _, _, none⟩ := rfl
      obtain rfl := oI ho hl
      have x2 := hI.old 2 (.pointer (some ⟨bl, 0, none⟩)) (by decide) h2
      have hS1 := hI.eff
      have e6 : L 6 = false := hI.no hL (by kernel_rfl : waitsB oBt0S 6 4 = true)
      simp only [e6, pick_false] at hS1
      obtain ⟨_, hp⟩ := hS1.has 4 rfl
      have hcell := (blk_get hp).1 0
      have hlt := (blk_get hp).2.2
      simp only [List.getElem?_toArray, List.getElem?_cons_zero] at hcell
      exact hI.rd hE hsz 4 11 (pl) ho rfl rfl hdep (by decide) (vals_at hn1 hn2 4 rfl) (by simp [go_sem, execOp, Act.eval, x2, hcell])
    · have hl : oBt0S[5]? = some ⟨some 12, Op.load _ (Operand.tmp 3), _, _, _, none⟩ := rfl
      obtain rfl := oI ho hl
      have x3 := hI.old 3 (.pointer (some ⟨bh, 0, none⟩)) (by decide) h3
      have hS1 := hI.eff
      have e6 : L 6 = false := hI.no hL (by kernel_rfl : waitsB oBt0S 6 5 = true)
      simp only [e6, pick_false] at hS1
      obtain ⟨_, hp⟩ := hS1.has 5 rfl
      have hcell := (blk_get hp).1 0
      have hlt := (blk_get hp).2.2
      simp only [List.getElem?_toArray, List.getElem?_cons_zero] at hcell
      exact hI.rd hE hsz 5 12 (ph) ho rfl rfl hdep (by decide) (vals_at hn1 hn2 5 rfl) (by simp [go_sem, execOp, Act.eval, x3, hcell])
    · have hl : oBt0S[6]? = some ⟨some 13, Op.call ⟨Callee.value (Operand.func _), #[Operand.tmp 10, Operand.const (Value.slice none 0 0), Operand.tmp 11, Operand.tmp 12], _⟩, _, _, _, none⟩ := rfl
      obtain rfl := oI ho hl
      have x10 := hI.val 3 10 (.pointer (some ⟨rb, 0, none⟩)) (mG (i := 3) rfl) (dK ho hdep (by kernel_rfl : waitsB oBt0S 6 3 = true))
      have x11 := hI.val 4 11 (pl) (mG (i := 4) rfl) (dK ho hdep (by kernel_rfl : waitsB oBt0S 6 4 = true))
      have x12 := hI.val 5 12 (ph) (mG (i := 5) rfl) (dK ho hdep (by kernel_rfl : waitsB oBt0S 6 5 = true))
      have hS1 := hI.eff
      have e6 : L 6 = false := hL
      simp only [e6, pick_false] at hS1
      have hS2 : St w0 fp0 (entS (.slice none 0 0) [] :: treeS h x rb :: optAS pl lo :: optAS ph hi :: ([blkA tb 87 #[.pointer (some ⟨rb, 0, none⟩), .int .i64 o, .int .i64 l.length], blkA bt 38 #[.pointer (some ⟨tb, 0, none⟩)], blkA bl 112 #[pl], blkA bh 112 #[ph]] ++ R)) w1 := by
        have h1 : St w0 fp0 (entS (.slice none 0 0) [] :: _) w1 := (St.emp.1 hS1).nilR 95 2
        refine h1.perm ?_
        exact (by classical exact List.perm_iff_count.2 fun a => by simp only [List.append_eq, List.cons_append, List.nil_append, List.count_cons] <;> omega)
      refine inv_call ho rfl (f := 48) (by simp [go_sem, Act.eval, x10, x11, x12]) (collectS_calls ho' lo hi pl ph w0 fp0 h x rb (.slice none 0 0) [] w1 _ _ hg.1 hg.2.1 (by rw [hg.2.2]; simpa using hlen) hS2) ?_
      rintro e w2 ⟨v2, rfl, hs2⟩
      refine ⟨_, rfl, hI.put 6 13 _ ho hdep (by decide) (by intro t ht; exact vals_ne2 rfl rfl (by decide : 6 ∉ [0, 1, 2, 3, 4, 5, 7, 8]) (by decide : 13 ∉ [7, 8, 9, 10, 11, 12, 14, 15]) ht) ?_⟩
      rw [List.nil_append, hg.2.2] at hs2
      have hS3 : St w0 fp0 ([entS v2 (selM lo hi l), treeS h x rb, blkA tb 87 #[.pointer (some ⟨rb, 0, none⟩), .int .i64 o, .int .i64 l.length], blkA bt 38 #[.pointer (some ⟨tb, 0, none⟩)], blkA bl 112 #[pl], blkA bh 112 #[ph], optAS pl lo, optAS ph hi] ++ R) w2 := by
        refine hs2.perm ?_
        exact (by classical exact List.perm_iff_count.2 fun a => by simp only [List.cons_append, List.nil_append, List.count_cons] <;> omega)
      simp only [e6, Bool.or_true, decide_true, pick_true, eval_put_same (by rw [h1sz]; decide : 13 < a1.tmps.size)]
      exact hS3
    · have hl : oBt0S[7]? = some ⟨some 14, Op.call ⟨Callee.builtin Builtin.len, #[Operand.tmp 13], _⟩, _, _, _, none⟩ := rfl
      obtain rfl := oI ho hl
      have hS1 := hI.eff
      have e6 : L 6 = true := dK ho hdep (by kernel_rfl : waitsB oBt0S 7 6 = true)
      simp only [e6, pick_true] at hS1
      obtain ⟨_, hp⟩ := hS1.has 0 rfl
      obtain ⟨a7, c7, hv, _⟩ := row_shape hp
      have hcell := eval_spell hv
      exact hI.rd hE hsz 7 14 (.int .i64 ((selM lo hi l).length : Nat)) ho rfl rfl hdep (by decide) (vals_at hn1 hn2 6 rfl) (by simp [go_sem, Act.eval, hcell])
    · have hl : oBt0S[8]? = some ⟨some 15, Op.move (Operand.const (Value.int IntKind.i64 0)), _, _, _, none⟩ := rfl
      obtain rfl := oI ho hl
      exact hI.rd hE hsz 8 15 (.int .i64 0) ho rfl rfl hdep (by decide) (vals_at hn1 hn2 7 rfl) (by simp [go_sem, execOp, Act.eval])
  · intro L a1 w1 hL hI
    have hS1 := hI.eff
    simp only [hL 6 (by rw [hsize]; decide), pick_true] at hS1
    have := hQ (fun d => a1.eval (.tmp d)) w1 (hI.vals (7, 14, .int .i64 ((selM lo hi l).length : Nat)) (mG (i := 6) rfl) (hL 7 (by rw [hsize]; decide))) (hI.vals (8, 15, .int .i64 0) (mG (i := 7) rfl) (hL 8 (by rw [hsize]; decide))) hS1
    have e := hI.frame.eq
    rw [e]
    exact this
end Go.Proofs.Ytldofiankhimjaa
/- between's iterator (S). -/
namespace Go.Proofs.Ytldofiankhimjaa
open Go Go.RowKit
/-- What the iterator reads when it starts. -/
def betLS (o h : Nat) (l : M ByteArray Int) (tb bt bl bh : Nat) (pl ph : Value) (lo hi : Option ByteArray) : List Asn :=
  [objS o h l tb, blkA bt 38 #[.pointer (some ⟨tb, 0, none⟩)], blkA bl 112 #[pl], blkA bh 112 #[ph], optAS pl lo, optAS ph hi]
set_option maxHeartbeats 4000000 in
theorem betw1S_seq {o h : Nat} (ho' : o ≤ 1024) (lo hi : Option ByteArray) (pl ph : Value) (l : M ByteArray Int) (tb bt bl bh : Nat) (hlen : l.length < 1099511627776) (n : Nat) :
    SeqSt n Try.prog 69 #[.pointer (some ⟨bt, 0, none⟩), .pointer (some ⟨bl, 0, none⟩), .pointer (some ⟨bh, 0, none⟩)] (fun e : ByteArray × Int => #[encS e.1, valS e.2]) (selM lo hi l) (betLS o h l tb bt bl bh pl ph lo hi) := by
  intro y R J Jx w0 fp0 W hS h0 hY
  refine callsIn_wide.2 ?_
  obtain ⟨x, rb, hg, hS1⟩ := St.openOS (show St w0 fp0 (objS o h l tb :: (blkA bt 38 #[.pointer (some ⟨tb, 0, none⟩)] :: blkA bl 112 #[pl] :: blkA bh 112 #[ph] :: optAS pl lo :: optAS ph hi :: R)) W from hS)
  unfold ptrS at hS1
  have HS1 := Lib.hid hS1
  have Hg := Lib.hid hg
  have H0 : RowKit.Hid (∀ v W, St w0 fp0 (treeS h x rb :: blkA tb 87 #[ptrS rb, .int .i64 o, .int .i64 l.length] :: (blkA bt 38 #[.pointer (some ⟨tb, 0, none⟩)] :: blkA bl 112 #[pl] :: blkA bh 112 #[ph] :: optAS pl lo :: optAS ph hi :: (R ++ [entS v (selM lo hi l)]))) W → St w0 fp0 (J [] ++ [entS v (selM lo hi l)]) W) :=
    fun v W h => h0 _ _ (St.shutOS hg h)
  have Hlen := Lib.hid hlen
  have hsel : (selM lo hi l).length < 1099511627776 := Nat.lt_of_le_of_lt (List.length_filter_le _ _) hlen
  have Ho' := Lib.hid ho'
  obtain ⟨sel, hsl⟩ : ∃ sel, selM lo hi l = sel := ⟨_, rfl⟩
  have Hsl := Lib.hid hsl
  have HY := Lib.hid hY
  rw [hsl] at HY H0 hsel ⊢
  clear hS hS1 hg hlen ho' hsl hY h0
  go_enter Try.func69, Try.ntmps69
  go_upto_region 0 with (fail)
  refine rBt0S (w0 := w0) (fp0 := fp0) bt bl bh tb o h lo hi pl ph l x rb Ho'.out Hg.out Hlen.out R _ (by kernel_rfl) rfl rfl rfl rfl ?_ ?_
  · have h1 : St w0 fp0 (emp :: treeS h x rb :: blkA tb 87 #[.pointer (some ⟨rb, 0, none⟩), .int .i64 o, .int .i64 l.length] :: (blkA bt 38 #[.pointer (some ⟨tb, 0, none⟩)] :: blkA bl 112 #[pl] :: blkA bh 112 #[ph] :: optAS pl lo :: optAS ph hi :: R)) _ := St.emp.2 HS1.out
    exact h1
  intro u w1 e14 e15 h1
  have h2 : St w0 fp0 (J [] ++ [entS (u 13) sel]) w1 := by
    refine H0.out _ _ (h1.perm ?_)
    unfold ptrS
    rw [Hsl.out]
    exact (by classical exact List.perm_iff_count.2 fun a => by simp only [pick_true, List.cons_append, List.nil_append, List.count_append, List.count_cons, List.count_nil] <;> omega)
  rw [Hsl.out] at e14
  obtain ⟨_, hr⟩ := St.has (i := 0) (A := entS (u 13) sel) h2.comm rfl
  obtain ⟨ga, gc, e13, -, -, -⟩ := row_shape hr
  rw [e13] at h2
  have H2 := Lib.hid h2
  simp only [putL, List.map, List.foldl, Act.put, List.setIfInBounds_toArray, List.set_cons_succ, List.set_cons_zero, e13, e14, e15]
  generalize u 7 = u7, u 8 = u8, u 9 = u9, u 10 = u10, u 11 = u11, u 12 = u12
  clear h1 h2 hr e13 e14 e15 HS1 H0 Hsl Hg u
  obtain ⟨N, hN⟩ : ∃ N, sel.length = N := ⟨_, rfl⟩
  have HN := Lib.hid hN
  rw [hN] at H2 hsel ⊢
  clear hN
  go_wp2
  go_loopg [15] N (fun g z wr => ∃ k : Nat, z = .int .i64 k ∧ g + k = N ∧ RowKit.Hid (∃ pre rest, sel = pre ++ rest ∧ pre.length = k ∧ St w0 fp0 (J pre ++ [entS (.slice ga N gc) sel]) wr))
  case atStart => exact ⟨0, rfl, rfl, ⟨[], sel, rfl, rfl, H2.out⟩⟩
  case round =>
    obtain ⟨k, rfl, hgk, Hr⟩ := hrel
    by_cases hk : k < N
    · obtain ⟨pre, rest, hxs, hpl, hs⟩ := Hr.out
      cases rest with
      | nil =>
        exfalso
        have := congrArg List.length hxs
        rw [HN.out, List.append_nil] at this
        omega
      | cons x rest =>
        obtain ⟨_, hrw⟩ := St.has (i := 0) (A := entS (.slice ga N gc) sel) hs.comm rfl
        have hkl : k < sel.length := by rw [HN.out]; exact hk
        have hxk : sel[k] = x := by
          have : sel[k]? = some x := by rw [hxs, ← hpl]; simp
          rw [List.getElem?_eq_getElem hkl] at this
          exact Option.some.inj this
        obtain ⟨ga', gc', e0, -, -, hcell⟩ := row_shape hrw
        injection e0 with e1 e2 e3
        subst e1
        rw [HN.out] at hcell
        obtain ⟨gb, hga, hgl, hc0, -⟩ := hcell (k * 2) (by omega)
        obtain ⟨gb', hga', -, hc1, -⟩ := hcell (k * 2 + 1) (by omega)
        subst hga
        obtain rfl : gb' = gb := by injection hga' with h; injection h with h; exact h.symm
        rw [(entsS_at sel k hkl).1, hxk] at hc0
        rw [(entsS_at sel k hkl).2, hxk] at hc1
        have HYx : RowKit.Hid (∀ W', St w0 fp0 (J pre ++ [entS (.slice (some ⟨gb', 0, none⟩) N gc) sel]) W' → YieldAt Fence.wide (n - 1) Try.prog y #[encS x.1, valS x.2] W' fun e W' =>
            (e = .returned (.bool true) ∧ St w0 fp0 (J (pre ++ [x]) ++ [entS (.slice (some ⟨gb', 0, none⟩) N gc) sel]) W') ∨ (e = .returned (.bool false) ∧ St w0 fp0 (Jx (pre ++ [x]) ++ [entS (.slice (some ⟨gb', 0, none⟩) N gc) sel]) W')) :=
          fun W' h => HY.out pre x rest _ W' hxs h
        have Hs := Lib.hid hs
        have Hxs := Lib.hid hxs
        have Hpl := Lib.hid hpl
        have hkn : (k : Int) < N := by omega
        unfold encS at hc0
        unfold valS at hc1
        unfold encS valS at HYx
        clear hs hxs hpl hrw hkl hxk hcell hga' Hr e2 e3
        have Hgk := Lib.hid hgk
        clear hgk
        go_upto_region 3 with (fail)
        generalize hW2 : wr.alloc _ = W2
        have hb2 : Below wr.heap.size wr W2 := by rw [← hW2]; exact (Below.refl _ _).alloc (Nat.le_refl _) _
        have d0 := World.cell?_alloc_new wr _ _ 0 |>.symm.trans (congrArg (fun w => World.cell? w ⟨wr.heap.size, 0, none⟩) hW2) |>.symm
        have d1 := World.cell?_alloc_new wr _ _ 1 |>.symm.trans (congrArg (fun w => World.cell? w ⟨wr.heap.size, 1, none⟩) hW2) |>.symm
        simp only [List.getElem?_toArray, List.getElem?_cons_zero, List.getElem?_cons_succ] at d0 d1
        have dl : wr.heap.size < W2.heap.size := by rw [← hW2]; simp
        have HSo : RowKit.Hid (∀ W' A, St w0 fp0 (A ++ [entS (.slice (some ⟨gb', 0, none⟩) N gc) sel]) W' → St w0 fp0 A W') := fun W' A h => St.dropAll (A := [entS (.slice (some ⟨gb', 0, none⟩) N gc) sel]) h.comm
        obtain ⟨fn, tmps, assign, body, hy, hR⟩ := HYx.out W2 (Hs.out.mono hb2)
        have HR := Lib.hid hR
        clear hb2 hR hW2 hc0 hc1 hgl H2 HYx Hs HY
        generalize wr.heap.size = eb at *
        refine (wpIn_wide (n := n)).1 ?_
        gi_wp2
        refine ⟨fun h => (by cases h), HR.out.mono ?_⟩
        rintro e W' (⟨rfl, hs'⟩ | ⟨rfl, hs'⟩)
        · have Hs' := Lib.hid hs'
          clear hs' HR hy d0 d1 dl
          gi_wp2
          go_wp2
          go_roundg (N - (k + 1))
          case rel => exact ⟨k + 1, by go_num, by omega, ⟨pre ++ [x], rest, by rw [Hxs.out]; simp, by rw [List.length_append, Hpl.out]; rfl, Hs'.out⟩⟩
          case measure => have := Hgk.out; omega
        · have Hs' := Lib.hid (HSo.out _ _ hs')
          clear hs' HR hy d0 d1 dl HSo
          gi_wp2
          go_wp2
          refine bodyPost_ret (results_none rfl _ _ _) rfl ?_
          exact ⟨⟨_, rfl⟩, .inr ⟨pre, x, rest, Hxs.out, Hs'.out⟩⟩
    · have hnk : k = N := by omega
      have Hend : RowKit.Hid (St w0 fp0 (J sel) wr) := by
        obtain ⟨pre, rest, hxs, hpl, hs⟩ := Hr.out
        have : rest = [] := by
          have := congrArg List.length hxs
          rw [HN.out, List.length_append] at this
          exact List.length_eq_zero_iff.1 (by omega)
        subst this
        rw [List.append_nil] at hxs
        rw [hxs]
        exact St.dropAll (A := [entS (.slice ga N gc) sel]) (by rw [← hxs] at hs ⊢; exact hs.comm)
      clear Hr HY H2 hgk hk HN hsel Hlen
      subst hnk
      go_wp2
      go_end0
      exact ⟨⟨_, rfl⟩, .inl Hend.out⟩
end Go.Proofs.Ytldofiankhimjaa
/- All, From, Between (S). -/
namespace Go.Proofs.Ytldofiankhimjaa
open Go Go.RowKit
/-- An iterator's own pieces. -/
def iterLS (tb bt bl bh : Nat) (pl ph : Value) (lo hi : Option ByteArray) : List Asn :=
  [blkA bt 38 #[.pointer (some ⟨tb, 0, none⟩)], blkA bl 112 #[pl], blkA bh 112 #[ph], optAS pl lo, optAS ph hi]
theorem betLS_eq (o h : Nat) (l : M ByteArray Int) (tb bt bl bh : Nat) (pl ph : Value) (lo hi : Option ByteArray) : betLS o h l tb bt bl bh pl ph lo hi = objS o h l tb :: iterLS tb bt bl bh pl ph lo hi := rfl
def iterFS (bt bl bh : Nat) : Value := .func (.func 69) #[] #[.pointer (some ⟨bt, 0, none⟩), .pointer (some ⟨bl, 0, none⟩), .pointer (some ⟨bh, 0, none⟩)]
theorem St.newblkS {w0 w : World} {fp0 : List Nat} {L : List Asn} (h : St w0 fp0 L w) (t : TypeId) (c : Array Value) : St w0 fp0 (blkA w.heap.size t c :: L) (w.alloc (.cells c t)) := by
  have h1 : St w0 fp0 (L ++ [blkA w.heap.size t c]) (w.alloc (.cells c t)) := h.add ((Below.refl _ _).alloc (Nat.le_refl _) _) ⟨heap_alloc_new w _, rfl⟩ (by simp)
  exact h1.perm List.perm_append_comm
theorem opt_shapeS {w : World} {p : Value} {ok : Option ByteArray} {f : List Nat} (h : (optAS p ok).p w f) : p = .pointer none ∨ ∃ b, p = .pointer (some ⟨b, 0, none⟩) := by
  cases ok with
  | none => exact .inl h.1
  | some k => obtain ⟨b, e, _⟩ := h; exact .inr ⟨b, e⟩
theorem betweenS_calls (tb : Nat) (lo hi : Option ByteArray) (pl ph : Value) (w0 w : World) (fp0 : List Nat) (R : List Asn) (hS : St w0 fp0 (optAS pl lo :: optAS ph hi :: R) w) :
    Calls Try.prog 45 #[.pointer (some ⟨tb, 0, none⟩), pl, ph] w fun e w' => ∃ bt bl bh, e = .returned (iterFS bt bl bh) ∧ St w0 fp0 (iterLS tb bt bl bh pl ph lo hi ++ R) w' := by
  have HS : RowKit.Hid (St w0 fp0 (iterLS tb w.heap.size (w.heap.size + 1) (w.heap.size + 1 + 1) pl ph lo hi ++ R) (((w.alloc (.cells #[.pointer (some ⟨tb, 0, none⟩)] 38)).alloc (.cells #[pl] 112)).alloc (.cells #[ph] 112))) := by
    have h1 := ((hS.newblkS 38 #[.pointer (some ⟨tb, 0, none⟩)]).newblkS 112 #[pl]).newblkS 112 #[ph]
    simp only [World.size_alloc] at h1
    refine h1.perm ?_
    unfold iterLS
    exact (by classical exact List.perm_iff_count.2 fun a => by simp only [List.cons_append, List.nil_append, List.count_cons] <;> omega)
  obtain ⟨_, h1⟩ := hS.has 0 rfl
  obtain ⟨_, h2⟩ := hS.has 1 rfl
  rcases opt_shapeS h1 with rfl | ⟨b1, rfl⟩ <;> rcases opt_shapeS h2 with rfl | ⟨b2, rfl⟩
  all_goals
    clear hS h1 h2
    go_enter Try.func45, Try.ntmps45
    go_wp2
    go_ret
    exact ⟨_, _, _, rfl, HS.out⟩
theorem AllS_calls (tb : Nat) (w0 w : World) (fp0 : List Nat) (R : List Asn) (hS : St w0 fp0 R w) :
    Calls Try.prog 20 #[.pointer (some ⟨tb, 0, none⟩)] w fun e w' => ∃ bt bl bh, e = .returned (iterFS bt bl bh) ∧ St w0 fp0 (iterLS tb bt bl bh (.pointer none) (.pointer none) none none ++ R) w' := by
  have HC := Lib.hid (betweenS_calls tb none none (.pointer none) (.pointer none) w0 w fp0 R (St.pure.2 ⟨rfl, St.pure.2 ⟨rfl, hS⟩⟩))
  clear hS
  unfold iterFS at *
  go_enter Try.func20, Try.ntmps20
  go_wp2_with fail
  (with_reducible refine HC.out.mono ?_)
  rintro e w1 ⟨bt, bl, bh, rfl, hs⟩
  have HS := Lib.hid hs
  clear hs HC
  go_wp2
  go_ret
  exact ⟨_, _, _, rfl, HS.out⟩
end Go.Proofs.Ytldofiankhimjaa
/- The law BtreeStrings, as a walk. -/
namespace Go.Proofs.Ytldofiankhimjaa
open Go Go.RowKit Go.Shelf
attribute [local go_sem] Oper.semAt_some
theorem TextsAt.below {w w' : World} {v : Value} {l : List ByteArray} (h : TextsAt w v l) (hb : Below w.heap.size w w') : TextsAt w' v l := by
  obtain ⟨h1, a, c, h2, h3, h4⟩ := h
  refine ⟨h1, a, c, h2, h3, fun i hi => ?_⟩
  obtain ⟨g, o, e, hg, c0⟩ := h4 i hi
  exact ⟨g, o, e, Nat.lt_of_lt_of_le hg hb.size, (hb.cell (p := ⟨g, _, none⟩) hg).trans c0⟩
theorem St.belowZ {w0 w : World} {L : List Asn} (h : St w0 [] L w) : Below w0.heap.size w0 w := by
  obtain ⟨fp, -, ht⟩ := h
  exact ht.below (Nat.le_refl _) fun k hk => nomatch hk
theorem St.bset {w0 w : World} {fp0 : List Nat} {L : List Asn} {tb : Nat} {t : TypeId} {c : Array Value} (h : St w0 fp0 (blkA tb t c :: L) w) (i : Nat) (v : Value) :
    w.frozen? ⟨tb, i, none⟩ = false ∧ tb < w.heap.size ∧ (∀ j, w.cell? ⟨tb, j, none⟩ = c[j]?) ∧ St w0 fp0 (blkA tb t (c.setIfInBounds i v) :: L) (w.setCell ⟨tb, i, none⟩ v) := by
  obtain ⟨g, hg, hset⟩ := h.get 0 rfl
  obtain ⟨hb2, ht2⟩ := blk_set hg i v
  exact ⟨(blk_get hg).2.1 i, (blk_get hg).2.2, (blk_get hg).1, hset _ _ _ hb2 ht2⟩
theorem St.startZ (w : World) : St w [] [] w := ⟨[], rfl, Tr.refl w []⟩
def hobjS (O tb : Nat) (l : MS) : Asn := exA fun h => starA [objS O h l tb]
theorem St.hobjS {w0 w : World} {fp0 : List Nat} {L : List Asn} {O tb : Nat} {l : MS} : St w0 fp0 (hobjS O tb l :: L) w ↔ ∃ h, St w0 fp0 (objS O h l tb :: L) w := St.exo
/-- The last text of a list. -/
def lastS (pre : MS) : ByteArray := match pre.getLast? with | some x => x.1 | none => ⟨#[]⟩
def txI (b9 b10 : Nat) (C : List Asn) (pre : MS) : List Asn := blkA b9 3 #[.int .i64 pre.length] :: blkA b10 9 #[.string (lastS pre)] :: C
theorem iterFS_ne_nil (bt bl bh : Nat) (w : World) : (binOp .eql 42 (iterFS bt bl bh) .nilFunc).run Try.prog w = .ok (.bool false) w := run_eql_func_nil Try.underlying42 w
theorem less_of {a b : ByteArray} (h : ltK a b) : Op.bytesLess a.toList b.toList = true := by
  rw [bytesLess_cmp, ByteArray.toList_eq, ByteArray.toList_eq]
  exact decide_eq_true h
theorem toList_ne {a b : ByteArray} (h : a ≠ b) : (a.toList == b.toList) = false := by
  rw [ByteArray.toList_eq, ByteArray.toList_eq]
  exact beq_false_of_ne fun e => h (bytes_inj e)
set_option maxHeartbeats 8000000 in
set_option maxRecDepth 20000 in
theorem strings_calls (ks : List ByteArray) (v : Value) (n : Int) (W : World) (hv : TextsAt W v ks) :
    Calls Try.prog 4 #[v, .int .i64 n] W fun e w' => e = .returned (.bool true) ∧ Below W.heap.size W w' := by
  obtain ⟨hm, a, c, rfl, hc, hcell⟩ := hv
  have Hcell := Lib.hid hcell
  have HA := Lib.hid (awake_calls W _ [] _ (((St.startZ W).newblk 37 #[.slice a ks.length c]).newblk 4 #[.bool false]))
  simp only [World.size_alloc] at HA
  obtain ⟨N, hN⟩ : ∃ N, ks.length = N := ⟨_, rfl⟩
  have HN := Lib.hid hN
  rw [hN] at HA hc ⊢
  have Ho := Lib.hid (clampOS_lo n)
  have Ho' := Lib.hid (clampOS_hi n)
  have HNew : RowKit.Hid (∀ w R, St W [] R w → Calls Try.prog 18 #[.int .i64 n] w fun e w' => ∃ tb, e = .returned (ptrS tb) ∧ St W [] (objS (clampOS n) 0 [] tb :: R) w') := fun w R hs => NewS_calls n W w [] R hs
  generalize clampOS n = O at *
  unfold ptrS at HNew
  clear hm hcell hN
  refine calls_of_wp_m Try.func4 rfl ?_
  simp only [Try.ntmps4, List.size_toArray, List.length_cons, List.length_nil, Nat.reduceAdd, Nat.reduceSub, Array.replicate_succ, Array.replicate_zero, List.push_toArray, List.append_toArray, List.nil_append, List.cons_append]
  go_wp2_with fail
  generalize hb2 : W.heap.size = b2 at HA ⊢
  (with_reducible refine HA.out.mono ?_)
  rintro e w1 ⟨rfl, h1⟩
  have H1 := Lib.hid h1
  obtain ⟨_, q2⟩ := h1.has 1 rfl
  have d2 := (blk_get q2).1 0
  have d2l := (blk_get q2).2.2
  simp only [List.getElem?_toArray, List.getElem?_cons_zero] at d2
  have d4f := (H1.out.bset 0 (.bool true)).1
  have d4l := (H1.out.bset 0 (.bool true)).2.1
  have d4 := (H1.out.bset 0 (.bool true)).2.2.1 0
  simp only [List.getElem?_toArray, List.getElem?_cons_zero] at d4
  clear h1 HA q2
  generalize b2 + 1 = b4 at *
  by_cases hb : N > 60
  · have ht : decide ((N : Int) > 60) = true := by simp; omega
    have H2 := Lib.hid (H1.out.bset 0 (.bool true)).2.2.2
    clear hb
    go_wp2
    obtain ⟨_, q4⟩ := H2.out.has 0 rfl
    have e4 := (blk_get q4).1 0
    simp only [List.getElem?_toArray, List.getElem?_cons_zero, List.setIfInBounds_toArray, List.set_cons_zero] at e4
    refine bodyPostM_ret (v := .bool true) (by simp [results, Try.results4, go_sem, e4]) rfl ?_
    exact ⟨rfl, hb2 ▸ H2.out.belowZ⟩
  have hNb : N ≤ 60 := by omega
  have ht : decide ((N : Int) > 60) = false := by simp; omega
  have HN1 := Lib.hid (HNew.out w1 _ H1.out)
  clear hb HNew H1 d4 d4l d4f
  go_wp2_with fail
  (with_reducible refine HN1.out.mono ?_)
  rintro e w2 ⟨tb, rfl, h2⟩
  have H2 : RowKit.Hid (St W [] (hobjS O tb (insS ks 0) :: blkA b4 4 #[.bool false] :: blkA b2 37 #[.slice a N c] :: []) w2) := St.hobjS.2 ⟨0, h2⟩
  obtain ⟨_, q2⟩ := h2.has 2 rfl
  have d2 := (blk_get q2).1 0
  have d2l := (blk_get q2).2.2
  simp only [List.getElem?_toArray, List.getElem?_cons_zero] at d2
  clear h2 HN1 q2
  go_wp2
  go_loopg [30] N (fun g z wr => ∃ k : Nat, z = .int .i64 k ∧ g + k = N ∧ RowKit.Hid (St W [] (hobjS O tb (insS ks k) :: blkA b4 4 #[.bool false] :: blkA b2 37 #[.slice a N c] :: []) wr))
  case atStart => exact ⟨0, rfl, rfl, H2⟩
  case round =>
    clear H2 d2 d2l
    obtain ⟨k, rfl, hgk, Hs⟩ := hrel
    by_cases hk : k < N
    · have hkl : k < ks.length := by rw [HN.out]; exact hk
      obtain ⟨g, o, rfl, hg, c0⟩ := Hcell.out k hkl
      obtain ⟨h, hs⟩ := St.hobjS.1 Hs.out
      have hstep := insS_succ (List.getElem?_eq_getElem hkl)
      have Hstep := Lib.hid hstep
      have HP := Lib.hid (PutS_calls Ho.out Ho'.out h (insS ks k) tb ks[k] (k : Int) W wr [] _ (by have := insS_len ks k; omega) hs)
      unfold ptrS encS valS at HP
      replace c0 := (Hs.out.belowZ.cell (p := ⟨g, o + k, none⟩) hg).trans c0
      replace hg := Nat.lt_of_lt_of_le hg Hs.out.belowZ.size
      have Hgk := Lib.hid hgk
      have hkn : (k : Int) < N := by omega
      clear hs Hs hstep hgk
      generalize ks[k] = x1 at *
      clear hkl
      generalize hgm : getM (insS ks k) x1 = gm at HP
      clear hgm
      go_wp2_with fail
      (with_reducible refine HP.out.mono ?_)
      rintro e w3 ⟨rfl, h', h3⟩
      have H3 : RowKit.Hid (St W [] (hobjS O tb (insS ks (k + 1)) :: blkA b4 4 #[.bool false] :: blkA b2 37 #[.slice (some ⟨g, o, none⟩) N c] :: []) w3) := by
        rw [Hstep.out]
        exact St.hobjS.2 ⟨h', h3⟩
      clear h3 HP Hstep
      go_wp2
      go_roundg (gk - 1)
      case rel => exact ⟨k + 1, by go_num, by have := Hgk.out; omega, H3⟩
      case measure => have := Hgk.out; omega
    · obtain rfl : k = N := by omega
      obtain ⟨h, hs⟩ := St.hobjS.1 Hs.out
      have HAll := Lib.hid (AllS_calls tb W wr [] _ hs)
      obtain ⟨L, hL⟩ : ∃ L, insS ks k = L := ⟨_, rfl⟩
      have HL := Lib.hid hL
      have hlen : L.length ≤ k := by rw [← hL]; exact insS_len ks k
      have Hlen := Lib.hid hlen
      have HLa : RowKit.Hid (AscM L) := by rw [← hL]; exact insS_asc ks k
      rw [hL] at HAll
      clear hgk hk hs Hs hL
      go_wp2_with fail
      (with_reducible refine HAll.out.mono ?_)
      rintro e w4 ⟨bt, bl, bh, rfl, h4⟩
      have HSEQ := Lib.hid (betw1S_seq (h := h) Ho'.out none none (.pointer none) (.pointer none) L tb bt bl bh (by omega) (2 - 1))
      rw [betLS_eq, selM_all] at HSEQ
      have HS0 : RowKit.Hid (St W [] ((objS O h L tb :: iterLS tb bt bl bh (.pointer none) (.pointer none) none none) ++ (blkA w4.heap.size 3 #[.int .i64 0] :: blkA (w4.heap.size + 1) 9 #[.string ⟨#[]⟩] :: blkA b4 4 #[.bool false] :: blkA b2 37 #[.slice a k c] :: [])) ((w4.alloc (.cells #[.int .i64 0] 3)).alloc (.cells #[.string ⟨#[]⟩] 9))) := by
        have h5 := (h4.newblk 3 #[.int .i64 0]).newblk 9 #[.string ⟨#[]⟩]
        simp only [World.size_alloc] at h5
        refine h5.perm ?_
        exact (by classical exact List.perm_iff_count.2 fun a => by simp only [List.cons_append, List.count_append, List.count_cons, List.count_nil] <;> omega)
      have hnn := iterFS_ne_nil bt bl bh
      have hsz : w4.heap.size ≠ w4.heap.size + 1 := by omega
      unfold iterFS at *
      clear h4 HAll
      go_wp2_with fail
      generalize hW5 : (w4.alloc _).alloc _ = W5 at *
      generalize hb9 : w4.heap.size = b9 at *
      generalize b9 + 1 = b10 at *
      clear hW5 hb9
      refine wp_rangeFunc_st (n := 2) rfl (enters_of Try.func69 (by kernel_rfl) rfl) HSEQ.out (fun _ => rfl)
        (txI b9 b10 (objS O h L tb :: blkA b4 4 #[.bool false] :: blkA b2 37 #[.slice a k c] :: [])) (fun _ _ => [pureA False]) _ HS0.out ?h0 ?round ?done ?stop
      case h0 =>
        intro Own Wx hW
        have h5 : St W [] (iterLS tb bt bl bh (.pointer none) (.pointer none) none none ++ (txI b9 b10 (objS O h L tb :: blkA b4 4 #[.bool false] :: blkA b2 37 #[.slice a k c] :: []) [] ++ Own)) Wx := by
          refine hW.perm ?_
          unfold txI lastS
          exact (by classical exact List.perm_iff_count.2 fun a => by simp only [List.cons_append, List.nil_append, List.count_append, List.count_cons, List.count_nil, List.length_nil, List.getLast?_nil, Int.ofNat_zero] <;> omega)
        exact St.dropAll h5
      case round =>
        intro l0 pre x rest Own Wx hxs hs
        gi_wp2
        refine ⟨hs, fun Own2 W2 hs2 => ?_⟩
        clear hs Own Wx
        obtain ⟨kx, vx⟩ := x
        have hmem : (kx, vx) ∈ insS ks k := by rw [HL.out, hxs]; simp
        obtain ⟨i, rfl, hik, hki, hlater⟩ := (insS_mem ks k (by rw [HN.out]; exact Nat.le_refl _) kx vx).1 hmem
        have Hlater := Lib.hid hlater
        obtain ⟨hil, hke⟩ := List.getElem?_eq_some_iff.1 hki
        obtain ⟨g, o, rfl, hg, c0⟩ := Hcell.out i hil
        rw [hke] at c0
        have hs3 : St W [] (blkA b9 3 #[.int .i64 pre.length] :: (blkA b10 9 #[.string (lastS pre)] :: (objS O h L tb :: blkA b4 4 #[.bool false] :: blkA b2 37 #[.slice (some ⟨g, o, none⟩) k c] :: Own2))) W2 := hs2
        have hbz := hs3.belowZ
        have HBz := Lib.hid hbz
        replace c0 := (hbz.cell (p := ⟨g, o + i, none⟩) hg).trans c0
        have hg2 := Nat.lt_of_lt_of_le hg hbz.size
        obtain ⟨f9, l9, e9, hs4⟩ := hs3.bset 0 (.int .i64 ((pre.length : Int) + 1))
        obtain ⟨f10, l10, e10, hs5⟩ := (hs4.perm (List.Perm.swap _ _ _)).bset 0 (.string kx)
        obtain ⟨_, q10⟩ := hs3.has 1 rfl
        obtain ⟨_, q2⟩ := hs3.has 4 rfl
        have d9 := e9 0
        have d10 := (blk_get q10).1 0
        have d10l := (blk_get q10).2.2
        have d10f := (blk_get q10).2.1 0
        have d2 := (blk_get q2).1 0
        have d2l := (blk_get q2).2.2
        simp only [List.getElem?_toArray, List.getElem?_cons_zero] at d9 d10 d2
        have HEnd : RowKit.Hid (St W [] (txI b9 b10 (objS O h L tb :: blkA b4 4 #[.bool false] :: blkA b2 37 #[.slice (some ⟨g, o, none⟩) k c] :: []) (pre ++ [(kx, (i : Int))]) ++ Own2) ((W2.setCell ⟨b9, 0, none⟩ (.int .i64 ((pre.length : Int) + 1))).setCell ⟨b10, 0, none⟩ (.string kx))) := by
          have e1 : ((pre ++ [(kx, (i : Int))]).length : Int) = (pre.length : Int) + 1 := by rw [List.length_append, List.length_singleton]; omega
          have e2 : lastS (pre ++ [(kx, (i : Int))]) = kx := by unfold lastS; rw [List.getLast?_append]; rfl
          unfold txI
          rw [e1, e2]
          exact hs5.perm (List.Perm.swap _ _ _)
        have hlt : ∀ y, pre.getLast? = some y → ltK y.1 kx := by
          intro y hy
          have ha := HLa.out
          rw [hxs] at ha
          exact (AscM.append.1 ha).2.2 y (List.mem_of_getLast? hy) (kx, (i : Int)) List.mem_cons_self
        have hik' : (i : Int) < k := by omega
        have hiN : ¬ (k : Int) ≤ i := by omega
        have hgi : decide ((i : Int) ≥ k) = false := by simp; omega
        have hpl : pre.length ≤ 60 := by
          have := congrArg List.length hxs
          rw [List.length_append] at this
          have := Hlen.out
          omega
        unfold encS valS
        have Hs5 := Lib.hid hxs
        clear hxs hs2 hs3 hs4 hs5 hmem hki hlater hke hil hbz e9 e10 q10 q2
        by_cases hp0 : pre = []
        · subst hp0
          have e0 : lastS [] = ⟨#[]⟩ := rfl
          rw [e0] at d10
          rw [List.length_nil] at d9 HEnd hpl
          clear hlt e0
          by_cases hci : c = i + 1
          · subst hci
            gi_wp2
            gi_loop [77] (fun z => ∃ j : Nat, z = .int .i64 j ∧ j ≤ k - (i + 1)) (fun z => k - (intOf z).toNat)
            case atStart => exact ⟨0, rfl, Nat.zero_le _⟩
            case round =>
              obtain ⟨j, rfl, hj⟩ := hrel
              by_cases hjl : j < k - (i + 1)
              · exfalso; omega
              · obtain rfl : j = k - (i + 1) := by omega
                clear hjl hj
                gi_wp2
                exact HEnd.out
          · have hci2 : ¬ c - (i + 1) = 0 := by omega
            gi_wp2
            gi_loop [77] (fun z => ∃ j : Nat, z = .int .i64 j ∧ j ≤ k - (i + 1)) (fun z => k - (intOf z).toNat)
            case atStart => exact ⟨0, rfl, Nat.zero_le _⟩
            case round =>
              obtain ⟨j, rfl, hj⟩ := hrel
              by_cases hjl : j < k - (i + 1)
              · have hjk : i + 1 + j < ks.length := by rw [HN.out]; omega
                obtain ⟨g', o', e', hg', q0⟩ := Hcell.out (i + 1 + j) hjk
                injection e' with e'
                injection e' with eg eo
                subst eg eo
                have q1 : W2.cell? ⟨g, o + (i + 1) + j, none⟩ = some (.string ks[i + 1 + j]) := by
                  rw [show o + (i + 1) + j = o + (i + 1 + j) by omega]
                  exact (HBz.out.cell (p := ⟨g, _, none⟩) hg').trans q0
                have hne : (ks[i + 1 + j].toList == kx.toList) = false := toList_ne fun e => Hlater.out (i + 1 + j) (by omega) (by omega) (by rw [List.getElem?_eq_getElem hjk, e])
                have hjn : (j : Int) < (k - (i + 1) : Nat) := by omega
                generalize ks[i + 1 + j] = kj at *
                clear q0 hg' hjk
                gi_wp2
                go_round
                case rel => exact ⟨j + 1, by go_num, by omega⟩
                case measure => simp [intOf]; omega
              · obtain rfl : j = k - (i + 1) := by omega
                clear hjl hj
                gi_wp2
                exact HEnd.out
        · obtain ⟨y, hy⟩ : ∃ y, pre.getLast? = some y := ⟨_, List.getLast?_eq_some_getLast hp0⟩
          have hls : lastS pre = y.1 := by unfold lastS; rw [hy]
          have hless := less_of (hlt y hy)
          have hless2 : Op.bytesLess kx.toList y.1.toList = false := by
            rw [bytesLess_cmp, ByteArray.toList_eq, ByteArray.toList_eq]
            exact decide_eq_false (ltK_asymm (hlt y hy))
          have hne2 : (kx.toList == y.1.toList) = false := toList_ne (ltK_ne (hlt y hy)).symm
          rw [hls] at d10
          generalize y.1 = ylast at *
          have hpp : 0 < pre.length := List.length_pos_iff.2 hp0
          obtain ⟨m, hm⟩ : ∃ m, pre.length = m := ⟨_, rfl⟩
          rw [hm] at d9 HEnd hpl hpp
          have hmp : decide ((m : Int) > 0) = true := by simp; omega
          clear hlt hy hls hp0 hm
          by_cases hci : c = i + 1
          · subst hci
            gi_wp2
            gi_loop [77] (fun z => ∃ j : Nat, z = .int .i64 j ∧ j ≤ k - (i + 1)) (fun z => k - (intOf z).toNat)
            case atStart => exact ⟨0, rfl, Nat.zero_le _⟩
            case round =>
              obtain ⟨j, rfl, hj⟩ := hrel
              by_cases hjl : j < k - (i + 1)
              · exfalso; omega
              · obtain rfl : j = k - (i + 1) := by omega
                clear hjl hj
                gi_wp2
                exact HEnd.out
          · have hci2 : ¬ c - (i + 1) = 0 := by omega
            gi_wp2
            gi_loop [77] (fun z => ∃ j : Nat, z = .int .i64 j ∧ j ≤ k - (i + 1)) (fun z => k - (intOf z).toNat)
            case atStart => exact ⟨0, rfl, Nat.zero_le _⟩
            case round =>
              obtain ⟨j, rfl, hj⟩ := hrel
              by_cases hjl : j < k - (i + 1)
              · have hjk : i + 1 + j < ks.length := by rw [HN.out]; omega
                obtain ⟨g', o', e', hg', q0⟩ := Hcell.out (i + 1 + j) hjk
                injection e' with e'
                injection e' with eg eo
                subst eg eo
                have q1 : W2.cell? ⟨g, o + (i + 1) + j, none⟩ = some (.string ks[i + 1 + j]) := by
                  rw [show o + (i + 1) + j = o + (i + 1 + j) by omega]
                  exact (HBz.out.cell (p := ⟨g, _, none⟩) hg').trans q0
                have hne : (ks[i + 1 + j].toList == kx.toList) = false := toList_ne fun e => Hlater.out (i + 1 + j) (by omega) (by omega) (by rw [List.getElem?_eq_getElem hjk, e])
                have hjn : (j : Int) < (k - (i + 1) : Nat) := by omega
                generalize ks[i + 1 + j] = kj at *
                clear q0 hg' hjk
                gi_wp2
                go_round
                case rel => exact ⟨j + 1, by go_num, by omega⟩
                case measure => simp [intOf]; omega
              · obtain rfl : j = k - (i + 1) := by omega
                clear hjl hj
                gi_wp2
                exact HEnd.out
      case stop =>
        intro D c pre x rest Wx hxs hW
        have h1 : St W [] (pureA False :: defA D :: []) Wx := hW.perm (List.Perm.swap _ _ _)
        exact (St.pure.1 h1).1.elim
      case done =>
        intro D Wx hW
        obtain ⟨M, hM⟩ : ∃ M, L.length = M := ⟨_, rfl⟩
        have HM := Lib.hid hM
        obtain ⟨lst, hlst⟩ : ∃ lst, lastS L = lst := ⟨_, rfl⟩
        have h5 : St W [] (objS O h L tb :: defA D :: blkA b9 3 #[.int .i64 M] :: blkA b10 9 #[.string lst] :: blkA b4 4 #[.bool false] :: blkA b2 37 #[.slice a k c] :: []) Wx := by
          rw [← hM, ← hlst]
          refine hW.perm ?_
          unfold txI
          exact (by classical exact List.perm_iff_count.2 fun a => by simp only [List.count_cons, List.count_nil] <;> omega)
        have H5 := Lib.hid h5
        obtain ⟨_, q2⟩ := h5.has 5 rfl
        have d2 := (blk_get q2).1 0
        have d2l := (blk_get q2).2.2
        simp only [List.getElem?_toArray, List.getElem?_cons_zero] at d2
        clear hW h5 q2 hM hlst
        go_wp2
        go_loopg [90] k (fun g z wr => ∃ j : Nat, z = .int .i64 j ∧ g + j = k ∧ RowKit.Hid (St W [] (objS O h L tb :: defA D :: blkA b9 3 #[.int .i64 M] :: blkA b10 9 #[.string lst] :: blkA b4 4 #[.bool false] :: blkA b2 37 #[.slice a k c] :: []) wr))
        case atStart => exact ⟨0, rfl, rfl, H5⟩
        case round =>
          clear H5 d2 d2l
          obtain ⟨j, rfl, hgk, Hs⟩ := hrel
          obtain ⟨_, hob⟩ := Hs.out.has 0 rfl
          obtain ⟨_, q2⟩ := Hs.out.has 5 rfl
          by_cases hjk : j < k
          · have hjl : j < ks.length := by rw [HN.out]; exact hjk
            obtain ⟨i, hgi, hil, hki⟩ := insS_get ks hjl
            rw [HN.out, HL.out] at hgi
            have HG := Lib.hid (GetS_calls tb ks[j] wr Ho'.out hob)
            rw [hgi, show ((some (i : Int)).map valS).getD (.int .i64 0) = .int .i64 i from rfl, show (some (i : Int)).isSome = true from rfl] at HG
            unfold encS at HG
            obtain ⟨g, o, rfl, hg, c0⟩ := Hcell.out j hjl
            obtain ⟨g', o', e', hg', c1⟩ := Hcell.out i hil
            injection e' with e'
            injection e' with eg eo
            subst eg eo
            have hke : ks[i] = ks[j] := (List.getElem?_eq_some_iff.1 hki).2
            rw [hke] at c1
            have hbz := Hs.out.belowZ
            replace c0 := (hbz.cell (p := ⟨g, o + j, none⟩) hg).trans c0
            replace hg := Nat.lt_of_lt_of_le hg hbz.size
            have HC1 : RowKit.Hid (∀ w', Below wr.heap.size wr w' → w'.cell? ⟨g, o + i, none⟩ = some (.string ks[j]) ∧ g < w'.heap.size) := fun w' hb => ⟨(hb.cell (p := ⟨g, o + i, none⟩) hg).trans ((hbz.cell (p := ⟨g, o + i, none⟩) hg').trans c1), Nat.lt_of_lt_of_le hg hb.size⟩
            have d2 := (blk_get q2).1 0
            have d2l := (blk_get q2).2.2
            simp only [List.getElem?_toArray, List.getElem?_cons_zero] at d2
            have HD2 : RowKit.Hid (∀ w', Below wr.heap.size wr w' → w'.cell? ⟨b2, 0, none⟩ = some (.slice (some ⟨g, o, none⟩) k c) ∧ b2 < w'.heap.size) := fun w' hb => ⟨(hb.cell (p := ⟨b2, 0, none⟩) d2l).trans d2, Nat.lt_of_lt_of_le d2l hb.size⟩
            have hik : i < k := by rw [← HN.out]; exact hil
            have hik2 : (i : Int) < k := by omega
            have hiN : ¬ (k : Int) ≤ i := by omega
            have hgi2 : decide ((i : Int) ≥ k) = false := by simp; omega
            have hjn : (j : Int) < k := by omega
            have Hgk := Lib.hid hgk
            clear hob q2 hgi hki hke hbz c1 hg' hil hgk d2 d2l
            generalize ks[j] = kj at *
            clear hjl
            go_wp2_with fail
            (with_reducible refine HG.out.mono ?_)
            rintro e w7 ⟨rfl, hb7⟩
            have H7 := Lib.hid (Hs.out.mono hb7)
            obtain ⟨q0, q1⟩ := HC1.out _ hb7
            obtain ⟨r0, r1⟩ := HD2.out _ hb7
            clear hb7 HG HC1 HD2 Hs c0 hg
            go_wp2
            go_roundg (gk - 1)
            case rel => exact ⟨j + 1, by go_num, by have := Hgk.out; omega, H7⟩
            case measure => have := Hgk.out; omega
          · obtain rfl : j = k := by omega
            clear hgk hjk hob q2
            have H8 : RowKit.Hid (St W [] (emp :: emp :: ([blkA b4 4 #[.bool false], blkA b9 3 #[.int .i64 M], objS O h L tb] ++ [defA D, blkA b10 9 #[.string lst], blkA b2 37 #[.slice a j c]])) wr) := by
              refine St.emp.2 (St.emp.2 ?_)
              refine Hs.out.perm ?_
              exact (by classical exact List.perm_iff_count.2 fun a => by simp only [List.cons_append, List.nil_append, List.count_cons, List.count_nil] <;> omega)
            go_upto_region 36 with (fail)
            refine rSt36S (w0 := W) (fp0 := []) b4 b9 tb O h M L Ho.out Ho'.out HM.out (by have := Hlen.out; omega) [defA D, blkA b10 9 #[.string lst], blkA b2 37 #[.slice a j c]] _ (by kernel_rfl) rfl rfl rfl rfl H8.out ?_
            intro u w8 h9
            have H9 : RowKit.Hid (St W [] (defA D :: (blkA b4 4 #[.bool true] :: [pureA (u 123 = .int .i64 M), pureA (u 127 = .bool true), blkA b9 3 #[.int .i64 M], objS O h L tb, blkA b10 9 #[.string lst], blkA b2 37 #[.slice a j c]])) w8) := by
              refine h9.perm ?_
              exact (by classical exact List.perm_iff_count.2 fun a => by simp only [pick_true, vpick_true, List.cons_append, List.nil_append, List.count_cons, List.count_nil] <;> omega)
            clear h9 H8
            simp only [putL, List.map, List.foldl, Act.put, List.setIfInBounds_toArray, List.set_cons_succ, List.set_cons_zero]
            go_step
            go_step
            go_wp2
            refine bodyPostM_mark H9.out rfl fun w' hw' => ?_
            obtain ⟨_, q4⟩ := hw'.has 0 rfl
            have e4 := (blk_get q4).1 0
            simp only [List.getElem?_toArray, List.getElem?_cons_zero] at e4
            exact ⟨.bool true, by simp [results, Try.results4, go_sem, e4], rfl, hb2 ▸ hw'.belowZ⟩
end Go.Proofs.Ytldofiankhimjaa
