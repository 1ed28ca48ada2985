/- Part 5 of the proof: PpI, It2I, Aw, ApI, ApP, DelI, DelP -/
import Derived.Test.YtldofiankhimjaaZ00
import Derived.Test.YtldofiankhimjaaZ04
import Derived.Test.YtldofiankhimjaaZ01
import Derived.Test.YtldofiankhimjaaZ02
import Derived.Test.YtldofiankhimjaaZ03
/- Put (I). -/
namespace Go.Proofs.Ytldofiankhimjaa
open Go.RowKit
set_option maxHeartbeats 8000000 in
set_option maxRecDepth 100000 in
theorem PutI_calls {o : Nat} (ho : 3 ≤ o) (ho' : o ≤ 1024) (h : Nat) (l : M Int Int) (tb : Nat) (k : Int) (v : Int) (w0 w : World) (fp0 : List Nat) (R : List Asn) (hlen : l.length < 1099511627775)
    (hS : St w0 fp0 (objI o h l tb :: R) w) :
    Calls Try.prog 12 #[ptrI tb, encI k, valI v] w fun e w' => e = .returned (.tuple #[valI ((getM l k).getD 0), .bool (getM l k).isSome]) ∧ ∃ h', St w0 fp0 (objI o h' (putM l k v) tb :: R) w' := by
  obtain ⟨x, rb, ⟨g1, g2, g3⟩, hS1⟩ := hS.openOI
  obtain ⟨p1, p2⟩ := putT_spec ho k v h _ x g1 g2
  have hget := getT_spec k h _ _ x g1 g2
  rw [g3] at p2 hget
  have HP := Lib.hid (putI_calls ho ho' tb (ptrI rb) (.int .i64 l.length) k v h _ x rb w0 w fp0 R g1 g2 hS1)
  rw [hget] at HP
  have hpl := putM_lengthI l k v (by rw [← g3]; exact g2)
  obtain ⟨x', hx'⟩ : ∃ x', putT o h x k v = x' := ⟨_, rfl⟩
  rw [hx'] at HP p1 p2
  obtain ⟨_, q1⟩ := hS1.has 1 rfl
  have c0 := (blk_get q1).1 0
  have c0l := (blk_get q1).2.2
  simp only [List.getElem?_toArray, List.getElem?_cons_zero] at c0
  obtain ⟨n, hn⟩ : ∃ n, l.length = n := ⟨_, rfl⟩
  rw [hn] at HP hpl hlen
  obtain ⟨was, hwas⟩ : ∃ was, (getM l k).isSome = was := ⟨_, rfl⟩
  rw [hwas] at HP hpl ⊢
  obtain ⟨old, hold⟩ : ∃ old, valI ((getM l k).getD 0) = old := ⟨_, rfl⟩
  rw [hold] at HP ⊢
  have hasc : AscM (putM l k v) := ascM_putM (by rw [← g3]; exact g2) k v
  have Hfin : RowKit.Hid (∀ h' x'' rb' w', Body o h' (rootB h') (o - 1) x'' → toL h' x'' = putM l k v → St w0 fp0 (treeI h' x'' rb' :: blkA tb 72 #[ptrI rb', .int .i64 o, .int .i64 ((putM l k v).length : Nat)] :: R) w' → ∃ h', St w0 fp0 (objI o h' (putM l k v) tb :: R) w') := by
    intro h' x'' rb' w' h1 h2 h3
    exact ⟨h', St.shutOI ⟨h1, by rw [h2]; exact hasc, h2⟩ h3⟩
  rw [hpl] at Hfin
  obtain ⟨m, hm⟩ : ∃ m, x'.es.length = m := ⟨_, rfl⟩
  have Hm := Lib.hid hm
  have P1 := Lib.hid p1
  have P2 := Lib.hid p2
  have Hx : RowKit.Hid (m < o → Body o h (rootB h) (o - 1) x') := fun hlt => p1.mono p1.lo (by rw [hm]; omega)
  obtain ⟨kk, hkk⟩ : ∃ kk, encI k = kk := ⟨_, rfl⟩
  obtain ⟨vv, hvv⟩ : ∃ vv, valI v = vv := ⟨_, rfl⟩
  rw [hkk, hvv] at HP ⊢
  clear hS hS1 q1 g1 g2 g3 p1 p2 hget hpl hx' hn hold hasc hm hkk hvv
  unfold ptrI at *
  go_enter Try.func12, Try.ntmps12
  go_wp2_with fail
  (with_reducible refine HP.out.mono ?_)
  rintro e w1 ⟨rfl, hs1⟩
  have HS1 := Lib.hid hs1
  obtain ⟨_, q0⟩ := hs1.has 0 rfl
  obtain ⟨_, q1⟩ := hs1.has 1 rfl
  obtain ⟨ka, kc, _, _, c4, -, -, c4l⟩ := tree_lookI q0
  have c1 := (blk_get q1).1 0
  have c2 := (blk_get q1).1 1
  have c1l := (blk_get q1).2.2
  simp only [List.getElem?_toArray, List.getElem?_cons_zero, List.getElem?_cons_succ] at c1 c2
  rw [Hm.out] at c4
  clear hs1 q0 q1 HP c0 c0l
  go_upto_region 2 with (fail)
  go_cut [33] (fun z wx => z = .bool (decide (o ≤ m)) ∧ RowKit.Hid (St w0 fp0 (treeI h x' rb :: blkA tb 72 #[.pointer (some ⟨rb, 0, none⟩), .int .i64 o, .int .i64 n] :: R) wx))
  case first =>
    go_quiet (fail)
    go_step
    go_step
    go_meet
    exact ⟨by simp, HS1.out.mono (below_drewN _ _)⟩
  obtain ⟨rfl, HS2⟩ := hcut
  clear c1 c2 c4 c1l c4l HS1
  obtain ⟨q, hq⟩ : ∃ q, decide (o ≤ m) = q := ⟨_, rfl⟩
  rw [hq]
  have Hq := Lib.hid hq
  clear hq
  go_upto_if 33 with (fail)
  go_cut [] (fun wx => ∃ h' x'' rb', RowKit.Hid (Body o h' (rootB h') (o - 1) x'') ∧ RowKit.Hid (toL h' x'' = putM l k v) ∧ RowKit.Hid (St w0 fp0 (treeI h' x'' rb' :: blkA tb 72 #[.pointer (some ⟨rb', 0, none⟩), .int .i64 o, .int .i64 n] :: R) wx))
  case first =>
    cases q with
    | false =>
      have hlt : m < o := by have := Hq.out; simp at this; omega
      have HX := Lib.hid (Hx.out hlt)
      go_wp2
      go_meet
      exact ⟨_, _, _, HX, P2, HS2⟩
    | true =>
      have hge : o ≤ m := by have := Hq.out; simpa using this
      have hmo : m = o := by have := P1.out.hi; have := Hm.out; omega
      have hxo : x'.es.length = o := by rw [Hm.out, hmo]
      have Hsp := Lib.hid (split_spec ho (x := .node [] [x']) (i := 0) (c := x') rfl rfl (P1.out.mono (by rw [hxo]; unfold least; omega) (by omega)) hxo (by simp) (by simp [cs_node]))
      have hck : x'.cs = [] ∨ x'.cs.length = o + 1 := by
        rcases P1.out.kids with ⟨_, e⟩ | ⟨_, _, e, _⟩
        · exact .inl e
        · exact .inr (by rw [e, hxo])
      have HSP := Lib.hid (fun nr w hs => splitI_calls (h := h) ho ho' tb (ptrI nr) (.int .i64 n) (.node [] [x']) 0 x' nr w0 w fp0 R rfl rfl (by simp [es_node]) hxo hck hs)
      have HT : RowKit.Hid (toL (h + 1) (splitT o 0 (.node [] [x'])) = putM l k v) := by
        show _ = _
        rw [Hsp.out.2.2, toL_cons, P2.out]
        simp [post]
      have HB : RowKit.Hid (Body o (h + 1) (rootB (h + 1)) (o - 1) (splitT o 0 (.node [] [x']))) := Hsp.out.2.1.mono (by have := Hsp.out.2.1.lo; simpa [rootB, es_node] using this) (by have := Hsp.out.2.1.hi; simp [es_node] at this; omega)
      clear Hsp hxo hck hmo
      go_upto_region 3 with (fail)
      refine rPp3I (w0 := w0) (fp0 := fp0) tb rb o (.int .i64 n) (treeI h x' rb :: R) _ (by kernel_rfl) rfl rfl ?_ ?_
      · refine (St.emp.2 (St.emp.2 (St.emp.2 HS2.out))).perm ?_
        exact (by classical exact List.perm_iff_count.2 fun a => by simp only [pick_false, vpick_false, List.cons_append, List.nil_append, List.count_cons] <;> omega)
      intro u w3 h3
      have h4 : St w0 fp0 (atA 70 (u 41) #[.slice none 0 0, .slice none 0 0, u 39] :: pureA (u 40 = .agg #[.slice none 0 0, .slice none 0 0, u 39]) :: boxA 67 (u 39) (ptrI rb) :: treeI h x' rb :: blkA tb 72 #[u 41, .int .i64 o, .int .i64 n] :: R) w3 := by
        unfold ptrI
        refine h3.perm ?_
        exact (by classical exact List.perm_iff_count.2 fun a => by simp only [pick_true, vpick_true, List.cons_append, List.nil_append, List.count_cons] <;> omega)
      obtain ⟨nr, e41, h5⟩ := St.at_open h4
      obtain ⟨_, h6⟩ := St.pure.1 (h5.perm (List.Perm.swap _ _ _))
      rw [e41] at h6
      have H7 := Lib.hid h6.overI
      have HX := Lib.hid (HSP.out nr w3 H7.out)
      obtain ⟨_, q1⟩ := H7.out.has 1 rfl
      have c1 := (blk_get q1).1 0
      have c1l := (blk_get q1).2.2
      simp only [List.getElem?_toArray, List.getElem?_cons_zero] at c1
      clear h3 h4 h5 h6 q1 e41 HSP
      unfold ptrI at HX
      rw [show ((0 : Nat) : Int) = 0 from rfl] at HX
      simp only [putL, List.map, List.foldl, Act.put, List.setIfInBounds_toArray, List.set_cons_succ, List.set_cons_zero]
      go_wp2_with fail
      (with_reducible refine HX.out.mono ?_)
      rintro e w4 ⟨rfl, hs4⟩
      have HS4 := Lib.hid hs4
      clear hs4 c1 c1l
      go_wp2
      go_meet
      exact ⟨_, _, _, HB, HT, HS4⟩
  obtain ⟨h', x'', rb', HB, HT, HS3⟩ := hcut
  clear HS2 P1 P2 Hx Hq Hm
  cases was with
  | true =>
    have HF := Lib.hid (Hfin.out h' x'' rb' wc HB.out HT.out HS3.out)
    go_wp2
    exact bodyPost_ret (v := .tuple #[old, .bool true]) (by simp [results, Try.results12, go_sem]) rfl ⟨rfl, HF.out⟩
  | false =>
    go_upto_region 6 with (fail)
    refine rPp6I (w0 := w0) (fp0 := fp0) tb n (.pointer (some ⟨rb', 0, none⟩)) (.int .i64 o) (by omega) (treeI h' x'' rb' :: R) _ (by kernel_rfl) rfl rfl ?_ ?_
    · refine HS3.out.perm ?_
      exact (by classical exact List.perm_iff_count.2 fun a => by simp only [vpick_false, List.cons_append, List.nil_append, List.count_cons] <;> omega)
    intro u w3 h3
    have h4 : St w0 fp0 (treeI h' x'' rb' :: blkA tb 72 #[.pointer (some ⟨rb', 0, none⟩), .int .i64 o, .int .i64 ((n + 1 : Nat) : Int)] :: R) w3 := by
      refine h3.perm ?_
      exact (by classical exact List.perm_iff_count.2 fun a => by simp only [vpick_true, List.cons_append, List.nil_append, List.count_cons] <;> omega)
    have HF := Lib.hid (Hfin.out h' x'' rb' w3 HB.out HT.out h4)
    clear h3 h4
    simp only [putL, List.map, List.foldl, Act.put, List.setIfInBounds_toArray, List.set_cons_succ, List.set_cons_zero]
    go_wp2
    exact bodyPost_ret (v := .tuple #[old, .bool false]) (by simp [results, Try.results12, go_sem]) rfl ⟨rfl, HF.out⟩
end Go.Proofs.Ytldofiankhimjaa
/- From, Between (I). -/
namespace Go.Proofs.Ytldofiankhimjaa
open Go Go.RowKit
theorem FromI_calls (tb : Nat) (k : Int) (w0 w : World) (fp0 : List Nat) (R : List Asn) (hS : St w0 fp0 R w) :
    Calls Try.prog 25 #[.pointer (some ⟨tb, 0, none⟩), encI k] w fun e w' => ∃ bt bl bh pl, e = .returned (iterFI bt bl bh) ∧ St w0 fp0 (iterLI tb bt bl bh pl (.pointer none) (some k) none ++ R) w' := by
  have h1 : St w0 fp0 (optA (.pointer (some ⟨w.heap.size, 0, none⟩)) (some k) :: optA (.pointer none) none :: R) (w.alloc (.cells #[encI k] 3)) := by
    have h2 : St w0 fp0 (optA (.pointer none) none :: R) w := St.pure.2 ⟨rfl, hS⟩
    obtain ⟨fp, ⟨f, g, h3, h4, h5, rfl⟩, ht⟩ := h2.newblk 3 #[encI k]
    exact ⟨f ++ g, ⟨f, g, ⟨_, rfl, h3⟩, h4, h5, rfl⟩, ht⟩
  have HC := Lib.hid (betweenI_calls tb (some k) none _ _ w0 _ fp0 R h1)
  clear hS h1
  unfold iterFI at *
  unfold encI at *
  go_enter Try.func25, Try.ntmps25
  go_wp2_with fail
  (with_reducible refine HC.out.mono ?_)
  rintro e w1 ⟨bt, bl, bh, rfl, hs⟩
  have HS := Lib.hid hs
  clear hs HC
  go_wp2
  go_ret
  exact ⟨_, _, _, _, rfl, HS.out⟩
theorem BetweenI_calls (tb : Nat) (k k2 : Int) (w0 w : World) (fp0 : List Nat) (R : List Asn) (hS : St w0 fp0 R w) :
    Calls Try.prog 31 #[.pointer (some ⟨tb, 0, none⟩), encI k, encI k2] w fun e w' => ∃ bt bl bh pl ph, e = .returned (iterFI bt bl bh) ∧ St w0 fp0 (iterLI tb bt bl bh pl ph (some k) (some k2) ++ R) w' := by
  have h1 : St w0 fp0 (optA (.pointer (some ⟨w.heap.size, 0, none⟩)) (some k) :: optA (.pointer (some ⟨w.heap.size + 1, 0, none⟩)) (some k2) :: R) ((w.alloc (.cells #[encI k] 3)).alloc (.cells #[encI k2] 3)) := by
    have h2 := (hS.newblk 3 #[encI k]).newblk 3 #[encI k2]
    simp only [World.size_alloc] at h2
    obtain ⟨fp, ⟨f, g, h3, ⟨f2, g2, h6, h7, h8, rfl⟩, h5, rfl⟩, ht⟩ := h2.perm (List.Perm.swap _ _ _)
    exact ⟨f ++ (f2 ++ g2), ⟨f, f2 ++ g2, ⟨_, rfl, h3⟩, ⟨f2, g2, ⟨_, rfl, h6⟩, h7, h8, rfl⟩, h5, rfl⟩, ht⟩
  have HC := Lib.hid (betweenI_calls tb (some k) (some k2) _ _ w0 _ fp0 R h1)
  clear hS h1
  unfold iterFI at *
  unfold encI at *
  go_enter Try.func31, Try.ntmps31
  go_wp2_with fail
  (with_reducible refine HC.out.mono ?_)
  rintro e w1 ⟨bt, bl, bh, rfl, hs⟩
  have HS := Lib.hid hs
  clear hs HC
  go_wp2
  go_ret
  exact ⟨_, _, _, _, _, rfl, HS.out⟩
end Go.Proofs.Ytldofiankhimjaa
/- awake: the chapter's examples. -/
namespace Go.Proofs.Ytldofiankhimjaa
open Go Go.RowKit
/-- The example's keys. -/
def awL : Nat → MI | 0 => [] | k + 1 => putM (awL k) ((k : Int) + 1) (10 * ((k : Int) + 1))
theorem aw_get : getM (awL 4) 3 = some 30 := by decide
theorem aw_get2 : getM (putM (awL 4) 3 33) 3 = some 33 := by decide
theorem aw_len : (putM (awL 4) 3 33).length = 4 := by decide
theorem aw_sel : takeM 9 (selM (some 2) (some 4) (putM (awL 4) 3 33)) = [(2, 20), (3, 33)] := by decide
theorem aw_lens : ∀ i, i ≤ 4 → (awL i).length ≤ 4 := by decide
theorem aw_height {h : Nat} {x : T Int Int} (hg : GoodI 3 h (putM (awL 4) 3 33) x) : h = 1 := by
  obtain ⟨c1, c2⟩ := body_count (by omega) h _ x hg.1
  rw [hg.2.2, aw_len] at c1 c2
  match h, c1, c2 with
  | 0, c1, c2 => simp at c2
  | 1, _, _ => rfl
  | h + 2, c1, c2 =>
    exfalso
    simp only [rootB, Nat.reduceAdd, Nat.reduceDiv] at c1
    have h3 : 1 ≤ 2 ^ h := Nat.one_le_two_pow
    have h4 : 2 ^ (h + 2) = 2 ^ h * 4 := by rw [Nat.pow_add]
    rw [h4, if_neg (by omega)] at c1
    omega
theorem clamp3 : clampO 3 = 3 := by decide
set_option maxHeartbeats 4000000 in
set_option maxRecDepth 20000 in
theorem awake_calls (w0 w : World) (fp0 : List Nat) (R : List Asn) (hS : St w0 fp0 R w) :
    Calls Try.prog 10 #[] w fun e w' => e = .returned (.bool true) ∧ St w0 fp0 R w' := by
  have HN := Lib.hid (NewI_calls 3 w0 w fp0 R hS)
  rw [clamp3] at HN
  unfold ptrI at HN
  clear hS
  go_enter Try.func10, Try.ntmps10
  go_wp2_with fail
  (with_reducible refine HN.out.mono ?_)
  rintro e w1 ⟨tb, rfl, h1⟩
  have H1 := Lib.hid h1
  obtain ⟨_, ho1⟩ := h1.has 0 rfl
  have HH := Lib.hid (HeightI_calls (by omega) (by omega) (by simp) tb w1 ho1)
  rw [show heightR 0 [] = 0 from rfl] at HH
  clear h1 ho1 HN
  go_wp2_with fail
  (with_reducible refine HH.out.mono ?_)
  rintro e w2 ⟨rfl, hb2⟩
  have H2 := Lib.hid (H1.out.mono hb2)
  clear H1 HH hb2
  go_wp2
  go_loopg [2] 4 (fun g z wr => ∃ k : Nat, z = .int .i64 ((k : Int) + 1) ∧ g + k = 4 ∧ RowKit.Hid (∃ h, St w0 fp0 (objI 3 h (awL k) tb :: R) wr))
  case atStart => exact ⟨0, rfl, rfl, ⟨0, H2.out⟩⟩
  case round =>
    clear H2
    obtain ⟨k, rfl, hgk, Hs⟩ := hrel
    by_cases hk : k < 4
    · obtain ⟨h, hs⟩ := Hs.out
      have HP := Lib.hid (PutI_calls (o := 3) (by omega) (by omega) h (awL k) tb ((k : Int) + 1) (10 * ((k : Int) + 1)) w0 wr fp0 R (by have := aw_lens k (by omega); omega) hs)
      unfold ptrI encI at HP
      rw [show valI (10 * ((k : Int) + 1)) = .int .i64 (10 * ((k : Int) + 1)) from rfl] at HP
      have Hgk := Lib.hid hgk
      have hle : (k : Int) + 1 ≤ 4 := by omega
      clear hs Hs hgk
      go_wp2_with fail
      (with_reducible refine HP.out.mono ?_)
      rintro e w3 ⟨rfl, h', h3⟩
      have H3 : RowKit.Hid (∃ h, St w0 fp0 (objI 3 h (awL (k + 1)) tb :: R) w3) := ⟨h', h3⟩
      clear h3 HP
      generalize (getM (awL k) ((k : Int) + 1)) = gg at *
      go_wp2
      go_roundg (gk - 1)
      case rel => exact ⟨k + 1, by go_num, by have := Hgk.out; omega, H3⟩
      case measure => have := Hgk.out; omega
    · obtain rfl : k = 4 := by omega
      obtain ⟨h, hs⟩ := Hs.out
      have HP := Lib.hid (PutI_calls (o := 3) (by omega) (by omega) h (awL 4) tb 3 33 w0 wr fp0 R (by have := aw_lens 4 (by omega); omega) hs)
      unfold ptrI encI at HP
      rw [aw_get, show valI 33 = .int .i64 33 from rfl, show valI ((some (30 : Int)).getD 0) = .int .i64 30 from rfl, show (some (30 : Int)).isSome = true from rfl] at HP
      clear hs Hs hgk
      go_wp2_with fail
      (with_reducible refine HP.out.mono ?_)
      rintro e w3 ⟨rfl, h', h3⟩
      have H3 := Lib.hid h3
      obtain ⟨_, ho3⟩ := h3.has 0 rfl
      have HG := Lib.hid (GetI_calls tb 3 w3 (by omega) ho3)
      unfold encI at HG
      rw [aw_get2, show ((some (33 : Int)).map valI).getD (.int .i64 0) = .int .i64 33 from rfl, show (some (33 : Int)).isSome = true from rfl] at HG
      clear h3 ho3 HP
      go_wp2_with fail
      (with_reducible refine HG.out.mono ?_)
      rintro e w4 ⟨rfl, hb4⟩
      have h4 := H3.out.mono hb4
      have H4 := Lib.hid h4
      obtain ⟨_, ho4⟩ := h4.has 0 rfl
      have hh : h' = 1 := by
        obtain ⟨x, rb, hg, -⟩ := obj_seesI ho4
        exact aw_height hg
      subst hh
      have HH := Lib.hid (HeightI_calls (by omega) (by omega) (by rw [aw_len]; omega) tb w4 ho4)
      rw [show heightR 1 (putM (awL 4) 3 33) = 2 from rfl] at HH
      clear h4 ho4 HG H3 hb4
      go_wp2_with fail
      (with_reducible refine HH.out.mono ?_)
      rintro e w5 ⟨rfl, hb5⟩
      have h5 := H4.out.mono hb5
      have H5 := Lib.hid h5
      obtain ⟨_, ho5⟩ := h5.has 0 rfl
      have HL := Lib.hid (LenI_calls tb w5 ho5)
      rw [aw_len] at HL
      have HB := Lib.hid (BetweenI_calls tb 2 4 w0 w5 fp0 _ h5)
      unfold encI at HB
      clear h5 ho5 HH H4 hb5
      go_wp2_with fail
      (with_reducible refine HL.out.mono ?_)
      rintro e w6 ⟨rfl, rfl⟩
      clear HL
      go_wp2_with fail
      (with_reducible refine HB.out.mono ?_)
      rintro e w7 ⟨bt, bl, bh, pl, ph, rfl, h7⟩
      have h8 : St w0 fp0 (objI 3 1 (putM (awL 4) 3 33) tb :: (iterLI tb bt bl bh pl ph (some 2) (some 4) ++ R)) w7 := h7.perm List.perm_middle
      have HT := Lib.hid (taken_calls (by omega) (some 2) (some 4) pl ph _ tb bt bl bh (by rw [aw_len]; omega) 9 w0 w7 fp0 R h8)
      rw [aw_sel] at HT
      clear h7 h8 HB H5
      go_wp2_with fail
      (with_reducible refine HT.out.mono ?_)
      rintro e w8 ⟨v8, rfl, h8⟩
      have H8 : RowKit.Hid (St w0 fp0 (prA v8 [(2, 20), (3, 33)] :: R) w8) := by
        have h9 : St w0 fp0 ([objI 3 1 (putM (awL 4) 3 33) tb] ++ iterLI tb bt bl bh pl ph (some 2) (some 4) ++ (prA v8 [(2, 20), (3, 33)] :: R)) w8 := by
          refine h8.perm ?_
          rw [List.append_assoc]
          refine ((List.perm_middle (l₁ := objI 3 1 (putM (awL 4) 3 33) tb :: iterLI tb bt bl bh pl ph (some 2) (some 4)) (a := prA v8 [(2, 20), (3, 33)]) (l₂ := R)).symm).trans ?_
          exact List.Perm.refl _
        exact St.dropAll h9
      clear h8 HT
      have HSm : RowKit.Hid (∀ w9, Below w8.heap.size w8 w9 → ∀ v, PrAt w9 v [(2, 20), (3, 33)] → Calls Try.prog 15 #[v8, v] w9 fun e w' => e = .returned (.bool true) ∧ St w0 fp0 R w') := by
        intro w9 hb9 v hv
        have h9 := H8.out.mono hb9
        obtain ⟨_, hp⟩ := h9.has 0 rfl
        refine (Same_calls [(2, 20), (3, 33)] [(2, 20), (3, 33)] v8 v w9 (prA_at hp) hv).mono ?_
        rintro e w' ⟨rfl, hb'⟩
        exact ⟨by simp, (h9.mono hb').drop⟩
      have hv : PrAt (w8.alloc (.cells #[.int .i64 2, .int .i64 20, .int .i64 3, .int .i64 33] 51)) (.slice (some ⟨w8.heap.size, 0, none⟩) 2 2) [(2, 20), (3, 33)] := by
        refine ⟨by simp [maxLen], _, _, rfl, Nat.le_refl _, fun i hi => ⟨w8.heap.size, 0, rfl, by simp, ?_, ?_⟩⟩
        · rw [World.cell?_alloc_new]
          match i, hi with
          | 0, _ => rfl
          | 1, _ => rfl
        · rw [World.cell?_alloc_new]
          match i, hi with
          | 0, _ => rfl
          | 1, _ => rfl
      have HSm2 := Lib.hid (HSm.out _ ((Below.refl _ _).alloc (Nat.le_refl _) _) _ hv)
      clear hv HSm H8
      go_wp2_with fail
      (with_reducible refine HSm2.out.mono ?_)
      rintro e w9 ⟨rfl, h9⟩
      have H9 := Lib.hid h9
      clear h9 HSm2
      go_wp2
      go_ret
      exact ⟨rfl, H9.out⟩
end Go.Proofs.Ytldofiankhimjaa
/- append at slices of one cell, as pieces (I). -/
namespace Go.Proofs.Ytldofiankhimjaa
open Go Go.RowKit
theorem appsI (w : World) (ty : TypeId) {v s : Value} {xs ys : List Value} {f g : List Nat} (h : (slA 3 v xs).p w f) (h2 : (slA 3 s ys).p w g) (h1 : ∀ u ∈ ys, u.oneCell' = true) (hlen : xs.length + ys.length < 1099511627776) :
    ∃ v' w' f', (Builtin.append_ #[22, 22] ty #[v, s]).run Try.prog w = .ok v' w' ∧ (slA 3 v' (xs ++ ys)).p w' f' ∧ Tr w w' f f' := by
  obtain ⟨i0, ii, iz0, iz1, iz2⟩ := info_parts infoI
  obtain ⟨v', w', f', hr, h3, h4⟩ := row_append_row w 22 ty 3 i0 (.int .i64 0) 1 8 Try.underlying22 ii iz0 iz1 iz2 rfl (by decide) (show (rowA 3 1 v xs.length xs).p w f from h) (show (rowA 3 1 s ys.length ys).p w g from h2) h1 (by unfold maxLen; omega) (by omega)
  refine ⟨v', w', f', hr, ?_, h4⟩
  rw [← List.length_append] at h3
  exact h3
theorem appbI (w : World) (ty : TypeId) {v : Value} {xs : List Value} {f : List Nat} (h : (slA 3 v xs).p w f) (vb : Nat) (x : Value) (et : TypeId) (hb : w.heap[vb]? = some (.cells #[x] et (0, 0))) (h1 : x.oneCell' = true) (hlen : xs.length + 1 < 1099511627776) :
    ∃ v' w' f', (Builtin.append_ #[22, 22] ty #[v, .slice (some ⟨vb, 0, none⟩) 1 1]).run Try.prog w = .ok v' w' ∧ (slA 3 v' (xs ++ [x])).p w' f' ∧ Tr w w' f f' := by
  obtain ⟨i0, ii, iz0, iz1, iz2⟩ := info_parts infoI
  obtain ⟨v', w', f', hr, h3, h4⟩ := row_append w 22 ty 3 i0 (.int .i64 0) 1 8 Try.underlying22 ii iz0 iz1 iz2 rfl (by decide) (show (rowA 3 1 v xs.length xs).p w f from h) vb [x] et hb rfl (by intro u hu; rw [List.mem_singleton.1 hu]; exact h1) (by unfold maxLen; omega) (by omega)
  refine ⟨v', w', f', hr, ?_, h4⟩
  have e : (xs ++ [x]).length = xs.length + 1 := by simp
  rw [← e] at h3
  exact h3
end Go.Proofs.Ytldofiankhimjaa
/- append at slices of one cell, as pieces (P). -/
namespace Go.Proofs.Ytldofiankhimjaa
open Go Go.RowKit
theorem appsP (w : World) (ty : TypeId) {v s : Value} {xs ys : List Value} {f g : List Nat} (h : (slA 67 v xs).p w f) (h2 : (slA 67 s ys).p w g) (h1 : ∀ u ∈ ys, u.oneCell' = true) (hlen : xs.length + ys.length < 1099511627776) :
    ∃ v' w' f', (Builtin.append_ #[68, 68] ty #[v, s]).run Try.prog w = .ok v' w' ∧ (slA 67 v' (xs ++ ys)).p w' f' ∧ Tr w w' f f' := by
  obtain ⟨i0, ii, iz0, iz1, iz2⟩ := info_parts infoP
  obtain ⟨v', w', f', hr, h3, h4⟩ := row_append_row w 68 ty 67 i0 (.pointer none) 1 8 Try.underlying68 ii iz0 iz1 iz2 rfl (by decide) (show (rowA 67 1 v xs.length xs).p w f from h) (show (rowA 67 1 s ys.length ys).p w g from h2) h1 (by unfold maxLen; omega) (by omega)
  refine ⟨v', w', f', hr, ?_, h4⟩
  rw [← List.length_append] at h3
  exact h3
theorem appbP (w : World) (ty : TypeId) {v : Value} {xs : List Value} {f : List Nat} (h : (slA 67 v xs).p w f) (vb : Nat) (x : Value) (et : TypeId) (hb : w.heap[vb]? = some (.cells #[x] et (0, 0))) (h1 : x.oneCell' = true) (hlen : xs.length + 1 < 1099511627776) :
    ∃ v' w' f', (Builtin.append_ #[68, 68] ty #[v, .slice (some ⟨vb, 0, none⟩) 1 1]).run Try.prog w = .ok v' w' ∧ (slA 67 v' (xs ++ [x])).p w' f' ∧ Tr w w' f f' := by
  obtain ⟨i0, ii, iz0, iz1, iz2⟩ := info_parts infoP
  obtain ⟨v', w', f', hr, h3, h4⟩ := row_append w 68 ty 67 i0 (.pointer none) 1 8 Try.underlying68 ii iz0 iz1 iz2 rfl (by decide) (show (rowA 67 1 v xs.length xs).p w f from h) vb [x] et hb rfl (by intro u hu; rw [List.mem_singleton.1 hu]; exact h1) (by unfold maxLen; omega) (by omega)
  refine ⟨v', w', f', hr, ?_, h4⟩
  have e : (xs ++ [x]).length = xs.length + 1 := by simp
  rw [← e] at h3
  exact h3
end Go.Proofs.Ytldofiankhimjaa
/- slices.Delete at elements of one cell (I). -/
namespace Go.Proofs.Ytldofiankhimjaa
open Go.RowKit
/-- What Delete leaves. -/
def DelI (w : World) (B : Nat) (g k c i : Nat) (cs : List Value) (e : Ending) (w' : World) : Prop :=
  e = .returned (.slice (some ⟨g, 0, none⟩) k c) ∧ w'.ownsRow B 3 1 (.slice (some ⟨g, 0, none⟩) k c) k (cs.take (i) ++ cs.drop ((i + 1))) ∧ w.grownBy w' (some g)

set_option maxHeartbeats 2000000 in
set_option maxRecDepth 100000 in
theorem del_I_calls (B : Nat) (g k c i : Nat) (cs : List Value) (w : World) (hs : w.ownsRow B 3 1 (.slice (some ⟨g, 0, none⟩) (k + 1) c) (k + 1) cs) (h1 : ∀ u ∈ cs, u.oneCell' = true) (hn : k + 1 < 1099511627776) (hin : i ≤ k) :
    Calls Try.prog 73 #[.slice (some ⟨g, 0, none⟩) (k + 1) c, .int .i64 i, .int .i64 ((i : Int) + 1)] w (DelI w B g k c i cs) := by
  obtain ⟨i0, ii, iz0, iz1, iz2⟩ := info_parts infoI
  obtain ⟨hl, ⟨h, _⟩ | ⟨g', c', cur, hv, hbg, hg, hnc, hcm, hcur, htk⟩⟩ := hs
  · cases h
  obtain ⟨rfl, rfl⟩ : g = g' ∧ c = c' := by injection hv with a1 a2 a3; injection a1 with a1; injection a1 with a1; exact ⟨a1, a3⟩
  clear hv
  unfold maxLen at hcm
  rw [Nat.mul_one] at htk
  have Hsrc : RowKit.Hid (∀ j u, (cs.drop ((i + 1)))[j]? = some u → w.cell? ((⟨g, (i + 1), none⟩ : Addr).add j) = some u) := by
    intro j u hu
    rw [Addr.add_lit, cell_of_row w g _ cur 3 (0, 0) hg]
    rw [List.getElem?_drop, ← htk, List.getElem?_take] at hu
    split at hu
    · simpa using hu
    · cases hu
  have H1c : RowKit.Hid (∀ u ∈ cs.drop ((i + 1)), u.oneCell' = true) := fun u hu => h1 u (List.mem_of_mem_drop hu)
  have Hg : RowKit.Hid (w.heap[g]? = some (.cells cur.toList.toArray 3 (0, 0))) := hg
  have Hl : RowKit.Hid ((cs.drop ((i + 1))).length = (k - i) * 1) := by show _ = _; rw [List.length_drop, hl]; omega
  have hl' : cs.length = k + 1 := by simpa using hl
  have hcur' : cur.size = c := by simpa using hcur
  have Hfit : RowKit.Hid (i + (cs.drop ((i + 1))).length ≤ cur.toList.length) := by show _ ≤ _; rw [List.length_drop, hl', Array.length_toList, hcur']; omega
  have Hfit1 : RowKit.Hid (i * 1 + (cs.drop ((i + 1))).length ≤ cur.toList.length) := by show _ ≤ _; rw [Nat.mul_one]; exact Hfit.out
  have Hfit2 : RowKit.Hid (k + 1 * 1 ≤ (splice cur.toList (i) (cs.drop ((i + 1)))).length) := by show _ ≤ _; rw [splice_length _ _ _ Hfit.out, Array.length_toList, hcur']; omega
  have Hfin : RowKit.Hid (∀ w' w'', w.grownBy w' (some g) → w'.grownBy w'' (some g) → w''.heap[g]? = some (.cells (splice (splice cur.toList (i) (cs.drop ((i + 1)))) (k) (Builtin.zeroCells ((.int .i64 0) : Value).cells 1).toList).toArray 3 (0, 0)) →
      DelI w B g k c i cs (.returned (.slice (some ⟨g, 0, none⟩) k c)) w'') := by
    intro w' w'' g1 g2 hw
    refine ⟨rfl, ⟨by simp; omega, .inr ⟨g, c, _, rfl, hbg, hw, by omega, by unfold maxLen; omega, ?_, ?_⟩⟩, ?_⟩
    · have := Hfit2.out
      have hh := Hfit.out
      simp only [List.size_toArray]
      rw [splice_length _ _ _ (by simpa [Builtin.zeroCells, Value.cells] using this), splice_length _ _ _ hh, Array.length_toList, hcur]
    · have := row_delete cur.toList (i) ((k + 1)) 1 (Builtin.zeroCells ((.int .i64 0) : Value).cells 1).toList (by simp; omega) (by omega) (by simp [Builtin.zeroCells, Value.cells])
      rw [htk] at this
      rw [Nat.mul_one]
      simpa using this
    · exact ⟨g2.os.trans g1.os, g2.tape.trans g1.tape, g2.output.trans g1.output, Nat.le_trans g1.size g2.size, fun k hk hk' => (g2.block k (Nat.lt_of_lt_of_le hk g1.size) hk').trans (g1.block k hk hk')⟩
  have hb1 : (0 : Int) ≤ (i : Int) + (1 : Int) := by omega
  have htn : ((i : Int) + (1 : Int)).toNat = i + 1 := by omega
  have hi0 : (0 : Int) ≤ (i : Int) := by omega
  have hi1 : (i : Int) < (k : Int) + 1 := by omega
  have hi2 : (i : Int) ≤ (k : Int) := by omega
  have hi3 : (i : Int) ≤ (k : Int) + 1 := by omega
  have hi4 : (i : Int) ≤ (c : Int) := by omega
  have hi5 : (i : Int) + 1 ≤ (c : Int) := by omega
  have hz2 : ¬ ((i : Int) = (i : Int) + 1) := by omega
  have hn0 : (k : Int) + 1 ≤ c := by omega
  have hb4 : ¬ (c = i) := by omega
  have hb5 : ¬ (k + 1 = i) := by omega
  clear h1 hg htk hl hcur hl' hcur'
  go_enter Try.func73, Try.ntmps73
  go_wp2
  by_cases hb6 : c = i + 1
  · subst hb6
    obtain rfl : i = k := by omega
    have hi6 : (i : Int) ≤ (i : Int) + 1 := by omega
    have He : RowKit.Hid (cs.drop ((i + 1)) = []) := by show _ = _; have := Hl.out; rw [Nat.sub_self, Nat.zero_mul] at this; exact List.length_eq_zero_iff.1 this
    go_region_law ((refine step_append_row rfl _ _ 22 rfl 3 i0 1 Try.underlying22 ii iz1 g i (i + 1) (by simp [Act.eval, Act.put, *]) cur.toList Hg.out ⟨g, 0, none⟩ (i - i) 0 (cs.drop ((i + 1))) (by simp [Act.eval, Act.put, *]) Hl.out (by rw [He.out]; intro j u hu; simp at hu) H1c.out (by omega) Hfit1.out ?_; intro w1 hw1 hg1))
    have hw1 := hw1.out
    simp only [Nat.mul_one] at hw1
    have hw1 := Lib.hid hw1
    go_wp2_with ((refine wpList_clear2 rfl _ 22 rfl 3 i0 (.int .i64 0) 1 Try.underlying22 ii iz0 rfl g (i) 1 _ rfl (by decide) (splice cur.toList (i) (cs.drop ((i + 1)))) hw1.out (by have := Hfit2.out; omega) zeroI ?_))
    intro w2 hw2 hg2
    have Hr := Lib.hid (Hfin.out w1 w2 (grown_drew hg1.out) hg2.out hw2.out)
    clear hg1 hg2 hw1 hw2
    go_wp2
    go_ret
    exact Hr.out
  · have hk1 : i + (k - i) = k := by omega
    go_region_law ((refine step_append_row rfl _ _ 22 rfl 3 i0 1 Try.underlying22 ii iz1 g i c (by simp [Act.eval, Act.put, *]) cur.toList Hg.out ⟨g, (i + 1), none⟩ (k - i) (c - (i + 1)) (cs.drop ((i + 1))) (by simp [Act.eval, Act.put, *]) Hl.out Hsrc.out H1c.out (by omega) Hfit1.out ?_; intro w1 hw1 hg1))
    have hw1 := hw1.out
    simp only [Nat.mul_one] at hw1
    have hw1 := Lib.hid hw1
    go_wp2_with ((refine wpList_clear2 rfl _ 22 rfl 3 i0 (.int .i64 0) 1 Try.underlying22 ii iz0 rfl g (k) 1 _ rfl (by decide) (splice cur.toList (i) (cs.drop ((i + 1)))) hw1.out (by have := Hfit2.out; omega) zeroI ?_))
    intro w2 hw2 hg2
    have Hr := Lib.hid (Hfin.out w1 w2 (grown_drew hg1.out) hg2.out hw2.out)
    clear hg1 hg2 hw1 hw2
    go_wp2
    go_ret
    exact Hr.out

/-- Delete, at a piece. -/
theorem delI_calls (v : Value) (xs : List Value) (i : Nat) (w : World) {f : List Nat} (h : (slA 3 v xs).p w f) (hi : i < xs.length) (hlen : xs.length < 1099511627776) (h1 : ∀ u ∈ xs, u.oneCell' = true) :
    Calls Try.prog 73 #[v, .int .i64 i, .int .i64 ((i : Int) + 1)] w fun e w' => ∃ a n c f', e = .returned (.slice a n c) ∧ (slA 3 (.slice a n c) (xs.eraseIdx i)).p w' f' ∧ Tr w w' f f' := by
  obtain ⟨ho, rfl⟩ := h
  obtain ⟨k, hk⟩ : ∃ k, xs.length = k + 1 := ⟨xs.length - 1, by omega⟩
  have ho' := ho
  rcases ho'.2 with ⟨_, h0⟩ | ⟨g, cap, cur, rfl, _⟩
  · omega
  · rw [hk] at ho ⊢
    refine (del_I_calls 0 g k cap i xs w ho h1 (by omega) (by omega)).mono ?_
    rintro e w' ⟨rfl, h2, h3⟩
    refine ⟨_, _, _, [g], rfl, ⟨?_, rfl⟩, Tr.of_grown (o := some g) (o' := some g) h3 (fun k hk => .inl hk)⟩
    have e : (xs.eraseIdx i).length = k := by rw [List.length_eraseIdx_of_lt hi]; omega
    rw [e, List.eraseIdx_eq_take_drop_succ]
    exact h2
end Go.Proofs.Ytldofiankhimjaa
/- slices.Delete at elements of one cell (P). -/
namespace Go.Proofs.Ytldofiankhimjaa
open Go.RowKit
/-- What Delete leaves. -/
def DelP (w : World) (B : Nat) (g k c i : Nat) (cs : List Value) (e : Ending) (w' : World) : Prop :=
  e = .returned (.slice (some ⟨g, 0, none⟩) k c) ∧ w'.ownsRow B 67 1 (.slice (some ⟨g, 0, none⟩) k c) k (cs.take (i) ++ cs.drop ((i + 1))) ∧ w.grownBy w' (some g)

set_option maxHeartbeats 2000000 in
set_option maxRecDepth 100000 in
theorem del_P_calls (B : Nat) (g k c i : Nat) (cs : List Value) (w : World) (hs : w.ownsRow B 67 1 (.slice (some ⟨g, 0, none⟩) (k + 1) c) (k + 1) cs) (h1 : ∀ u ∈ cs, u.oneCell' = true) (hn : k + 1 < 1099511627776) (hin : i ≤ k) :
    Calls Try.prog 85 #[.slice (some ⟨g, 0, none⟩) (k + 1) c, .int .i64 i, .int .i64 ((i : Int) + 1)] w (DelP w B g k c i cs) := by
  obtain ⟨i0, ii, iz0, iz1, iz2⟩ := info_parts infoP
  obtain ⟨hl, ⟨h, _⟩ | ⟨g', c', cur, hv, hbg, hg, hnc, hcm, hcur, htk⟩⟩ := hs
  · cases h
  obtain ⟨rfl, rfl⟩ : g = g' ∧ c = c' := by injection hv with a1 a2 a3; injection a1 with a1; injection a1 with a1; exact ⟨a1, a3⟩
  clear hv
  unfold maxLen at hcm
  rw [Nat.mul_one] at htk
  have Hsrc : RowKit.Hid (∀ j u, (cs.drop ((i + 1)))[j]? = some u → w.cell? ((⟨g, (i + 1), none⟩ : Addr).add j) = some u) := by
    intro j u hu
    rw [Addr.add_lit, cell_of_row w g _ cur 67 (0, 0) hg]
    rw [List.getElem?_drop, ← htk, List.getElem?_take] at hu
    split at hu
    · simpa using hu
    · cases hu
  have H1c : RowKit.Hid (∀ u ∈ cs.drop ((i + 1)), u.oneCell' = true) := fun u hu => h1 u (List.mem_of_mem_drop hu)
  have Hg : RowKit.Hid (w.heap[g]? = some (.cells cur.toList.toArray 67 (0, 0))) := hg
  have Hl : RowKit.Hid ((cs.drop ((i + 1))).length = (k - i) * 1) := by show _ = _; rw [List.length_drop, hl]; omega
  have hl' : cs.length = k + 1 := by simpa using hl
  have hcur' : cur.size = c := by simpa using hcur
  have Hfit : RowKit.Hid (i + (cs.drop ((i + 1))).length ≤ cur.toList.length) := by show _ ≤ _; rw [List.length_drop, hl', Array.length_toList, hcur']; omega
  have Hfit1 : RowKit.Hid (i * 1 + (cs.drop ((i + 1))).length ≤ cur.toList.length) := by show _ ≤ _; rw [Nat.mul_one]; exact Hfit.out
  have Hfit2 : RowKit.Hid (k + 1 * 1 ≤ (splice cur.toList (i) (cs.drop ((i + 1)))).length) := by show _ ≤ _; rw [splice_length _ _ _ Hfit.out, Array.length_toList, hcur']; omega
  have Hfin : RowKit.Hid (∀ w' w'', w.grownBy w' (some g) → w'.grownBy w'' (some g) → w''.heap[g]? = some (.cells (splice (splice cur.toList (i) (cs.drop ((i + 1)))) (k) (Builtin.zeroCells ((.pointer none) : Value).cells 1).toList).toArray 67 (0, 0)) →
      DelP w B g k c i cs (.returned (.slice (some ⟨g, 0, none⟩) k c)) w'') := by
    intro w' w'' g1 g2 hw
    refine ⟨rfl, ⟨by simp; omega, .inr ⟨g, c, _, rfl, hbg, hw, by omega, by unfold maxLen; omega, ?_, ?_⟩⟩, ?_⟩
    · have := Hfit2.out
      have hh := Hfit.out
      simp only [List.size_toArray]
      rw [splice_length _ _ _ (by simpa [Builtin.zeroCells, Value.cells] using this), splice_length _ _ _ hh, Array.length_toList, hcur]
    · have := row_delete cur.toList (i) ((k + 1)) 1 (Builtin.zeroCells ((.pointer none) : Value).cells 1).toList (by simp; omega) (by omega) (by simp [Builtin.zeroCells, Value.cells])
      rw [htk] at this
      rw [Nat.mul_one]
      simpa using this
    · exact ⟨g2.os.trans g1.os, g2.tape.trans g1.tape, g2.output.trans g1.output, Nat.le_trans g1.size g2.size, fun k hk hk' => (g2.block k (Nat.lt_of_lt_of_le hk g1.size) hk').trans (g1.block k hk hk')⟩
  have hb1 : (0 : Int) ≤ (i : Int) + (1 : Int) := by omega
  have htn : ((i : Int) + (1 : Int)).toNat = i + 1 := by omega
  have hi0 : (0 : Int) ≤ (i : Int) := by omega
  have hi1 : (i : Int) < (k : Int) + 1 := by omega
  have hi2 : (i : Int) ≤ (k : Int) := by omega
  have hi3 : (i : Int) ≤ (k : Int) + 1 := by omega
  have hi4 : (i : Int) ≤ (c : Int) := by omega
  have hi5 : (i : Int) + 1 ≤ (c : Int) := by omega
  have hz2 : ¬ ((i : Int) = (i : Int) + 1) := by omega
  have hn0 : (k : Int) + 1 ≤ c := by omega
  have hb4 : ¬ (c = i) := by omega
  have hb5 : ¬ (k + 1 = i) := by omega
  clear h1 hg htk hl hcur hl' hcur'
  go_enter Try.func85, Try.ntmps85
  go_wp2
  by_cases hb6 : c = i + 1
  · subst hb6
    obtain rfl : i = k := by omega
    have hi6 : (i : Int) ≤ (i : Int) + 1 := by omega
    have He : RowKit.Hid (cs.drop ((i + 1)) = []) := by show _ = _; have := Hl.out; rw [Nat.sub_self, Nat.zero_mul] at this; exact List.length_eq_zero_iff.1 this
    go_region_law ((refine step_append_row rfl _ _ 68 rfl 67 i0 1 Try.underlying68 ii iz1 g i (i + 1) (by simp [Act.eval, Act.put, *]) cur.toList Hg.out ⟨g, 0, none⟩ (i - i) 0 (cs.drop ((i + 1))) (by simp [Act.eval, Act.put, *]) Hl.out (by rw [He.out]; intro j u hu; simp at hu) H1c.out (by omega) Hfit1.out ?_; intro w1 hw1 hg1))
    have hw1 := hw1.out
    simp only [Nat.mul_one] at hw1
    have hw1 := Lib.hid hw1
    go_wp2_with ((refine wpList_clear2 rfl _ 68 rfl 67 i0 (.pointer none) 1 Try.underlying68 ii iz0 rfl g (i) 1 _ rfl (by decide) (splice cur.toList (i) (cs.drop ((i + 1)))) hw1.out (by have := Hfit2.out; omega) zeroP ?_))
    intro w2 hw2 hg2
    have Hr := Lib.hid (Hfin.out w1 w2 (grown_drew hg1.out) hg2.out hw2.out)
    clear hg1 hg2 hw1 hw2
    go_wp2
    go_ret
    exact Hr.out
  · have hk1 : i + (k - i) = k := by omega
    go_region_law ((refine step_append_row rfl _ _ 68 rfl 67 i0 1 Try.underlying68 ii iz1 g i c (by simp [Act.eval, Act.put, *]) cur.toList Hg.out ⟨g, (i + 1), none⟩ (k - i) (c - (i + 1)) (cs.drop ((i + 1))) (by simp [Act.eval, Act.put, *]) Hl.out Hsrc.out H1c.out (by omega) Hfit1.out ?_; intro w1 hw1 hg1))
    have hw1 := hw1.out
    simp only [Nat.mul_one] at hw1
    have hw1 := Lib.hid hw1
    go_wp2_with ((refine wpList_clear2 rfl _ 68 rfl 67 i0 (.pointer none) 1 Try.underlying68 ii iz0 rfl g (k) 1 _ rfl (by decide) (splice cur.toList (i) (cs.drop ((i + 1)))) hw1.out (by have := Hfit2.out; omega) zeroP ?_))
    intro w2 hw2 hg2
    have Hr := Lib.hid (Hfin.out w1 w2 (grown_drew hg1.out) hg2.out hw2.out)
    clear hg1 hg2 hw1 hw2
    go_wp2
    go_ret
    exact Hr.out

/-- Delete, at a piece. -/
theorem delP_calls (v : Value) (xs : List Value) (i : Nat) (w : World) {f : List Nat} (h : (slA 67 v xs).p w f) (hi : i < xs.length) (hlen : xs.length < 1099511627776) (h1 : ∀ u ∈ xs, u.oneCell' = true) :
    Calls Try.prog 85 #[v, .int .i64 i, .int .i64 ((i : Int) + 1)] w fun e w' => ∃ a n c f', e = .returned (.slice a n c) ∧ (slA 67 (.slice a n c) (xs.eraseIdx i)).p w' f' ∧ Tr w w' f f' := by
  obtain ⟨ho, rfl⟩ := h
  obtain ⟨k, hk⟩ : ∃ k, xs.length = k + 1 := ⟨xs.length - 1, by omega⟩
  have ho' := ho
  rcases ho'.2 with ⟨_, h0⟩ | ⟨g, cap, cur, rfl, _⟩
  · omega
  · rw [hk] at ho ⊢
    refine (del_P_calls 0 g k cap i xs w ho h1 (by omega) (by omega)).mono ?_
    rintro e w' ⟨rfl, h2, h3⟩
    refine ⟨_, _, _, [g], rfl, ⟨?_, rfl⟩, Tr.of_grown (o := some g) (o' := some g) h3 (fun k hk => .inl hk)⟩
    have e : (xs.eraseIdx i).length = k := by rw [List.length_eraseIdx_of_lt hi]; omega
    rw [e, List.eraseIdx_eq_take_drop_succ]
    exact h2
end Go.Proofs.Ytldofiankhimjaa
