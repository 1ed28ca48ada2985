/- Part 3 of the proof: PpS, RdS, DpS, Rw, EnS, CoRS, P4, CoS, P5, VaS, Ls, Ke, Wg, LkR, N0I, CmI -/
import Derived.Test.YtldofiankhimjaaY00
import Derived.Test.YtldofiankhimjaaY02
import Derived.Deep.LoopGhost
import Derived.Deep.DeepCutAuto
import Derived.BigQuiet
import Derived.IntWalk
import Derived.Deep.CutRange
/- Put (S). -/
namespace Go.Proofs.Ytldofiankhimjaa
open Go.RowKit
set_option maxHeartbeats 8000000 in
set_option maxRecDepth 100000 in
theorem PutS_calls {o : Nat} (ho : 3 ≤ o) (ho' : o ≤ 1024) (h : Nat) (l : M ByteArray Int) (tb : Nat) (k : ByteArray) (v : Int) (w0 w : World) (fp0 : List Nat) (R : List Asn) (hlen : l.length < 1099511627775)
    (hS : St w0 fp0 (objS o h l tb :: R) w) :
    Calls Try.prog 19 #[ptrS tb, encS k, valS v] w fun e w' => e = .returned (.tuple #[valS ((getM l k).getD 0), .bool (getM l k).isSome]) ∧ ∃ h', St w0 fp0 (objS o h' (putM l k v) tb :: R) w' := by
  obtain ⟨x, rb, ⟨g1, g2, g3⟩, hS1⟩ := hS.openOS
  obtain ⟨p1, p2⟩ := putT_spec ho k v h _ x g1 g2
  have hget := getT_spec k h _ _ x g1 g2
  rw [g3] at p2 hget
  have HP := Lib.hid (putS_calls ho ho' tb (ptrS rb) (.int .i64 l.length) k v h _ x rb w0 w fp0 R g1 g2 hS1)
  rw [hget] at HP
  have hpl := putM_lengthS l k v (by rw [← g3]; exact g2)
  obtain ⟨x', hx'⟩ : ∃ x', putT o h x k v = x' := ⟨_, rfl⟩
  rw [hx'] at HP p1 p2
  obtain ⟨_, q1⟩ := hS1.has 1 rfl
  have c0 := (blk_get q1).1 0
  have c0l := (blk_get q1).2.2
  simp only [List.getElem?_toArray, List.getElem?_cons_zero] at c0
  obtain ⟨n, hn⟩ : ∃ n, l.length = n := ⟨_, rfl⟩
  rw [hn] at HP hpl hlen
  obtain ⟨was, hwas⟩ : ∃ was, (getM l k).isSome = was := ⟨_, rfl⟩
  rw [hwas] at HP hpl ⊢
  obtain ⟨old, hold⟩ : ∃ old, valS ((getM l k).getD 0) = old := ⟨_, rfl⟩
  rw [hold] at HP ⊢
  have hasc : AscM (putM l k v) := ascM_putM (by rw [← g3]; exact g2) k v
  have Hfin : RowKit.Hid (∀ h' x'' rb' w', Body o h' (rootBS h') (o - 1) x'' → toL h' x'' = putM l k v → St w0 fp0 (treeS h' x'' rb' :: blkA tb 87 #[ptrS rb', .int .i64 o, .int .i64 ((putM l k v).length : Nat)] :: R) w' → ∃ h', St w0 fp0 (objS o h' (putM l k v) tb :: R) w') := by
    intro h' x'' rb' w' h1 h2 h3
    exact ⟨h', St.shutOS ⟨h1, by rw [h2]; exact hasc, h2⟩ h3⟩
  rw [hpl] at Hfin
  obtain ⟨m, hm⟩ : ∃ m, x'.es.length = m := ⟨_, rfl⟩
  have Hm := Lib.hid hm
  have P1 := Lib.hid p1
  have P2 := Lib.hid p2
  have Hx : RowKit.Hid (m < o → Body o h (rootBS h) (o - 1) x') := fun hlt => p1.mono p1.lo (by rw [hm]; omega)
  obtain ⟨kk, hkk⟩ : ∃ kk, encS k = kk := ⟨_, rfl⟩
  obtain ⟨vv, hvv⟩ : ∃ vv, valS v = vv := ⟨_, rfl⟩
  rw [hkk, hvv] at HP ⊢
  clear hS hS1 q1 g1 g2 g3 p1 p2 hget hpl hx' hn hold hasc hm hkk hvv
  unfold ptrS at *
  go_enter Try.func19, Try.ntmps19
  go_wp2_with fail
  (with_reducible refine HP.out.mono ?_)
  rintro e w1 ⟨rfl, hs1⟩
  have HS1 := Lib.hid hs1
  obtain ⟨_, q0⟩ := hs1.has 0 rfl
  obtain ⟨_, q1⟩ := hs1.has 1 rfl
  obtain ⟨ka, kc, _, _, c4, -, -, c4l⟩ := tree_lookS q0
  have c1 := (blk_get q1).1 0
  have c2 := (blk_get q1).1 1
  have c1l := (blk_get q1).2.2
  simp only [List.getElem?_toArray, List.getElem?_cons_zero, List.getElem?_cons_succ] at c1 c2
  rw [Hm.out] at c4
  clear hs1 q0 q1 HP c0 c0l
  go_upto_region 2 with (fail)
  go_cut [33] (fun z wx => z = .bool (decide (o ≤ m)) ∧ RowKit.Hid (St w0 fp0 (treeS h x' rb :: blkA tb 87 #[.pointer (some ⟨rb, 0, none⟩), .int .i64 o, .int .i64 n] :: R) wx))
  case first =>
    go_quiet (fail)
    go_step
    go_step
    go_meet
    exact ⟨by simp, HS1.out.mono (below_drewN _ _)⟩
  obtain ⟨rfl, HS2⟩ := hcut
  clear c1 c2 c4 c1l c4l HS1
  obtain ⟨q, hq⟩ : ∃ q, decide (o ≤ m) = q := ⟨_, rfl⟩
  rw [hq]
  have Hq := Lib.hid hq
  clear hq
  go_upto_if 33 with (fail)
  go_cut [] (fun wx => ∃ h' x'' rb', RowKit.Hid (Body o h' (rootBS h') (o - 1) x'') ∧ RowKit.Hid (toL h' x'' = putM l k v) ∧ RowKit.Hid (St w0 fp0 (treeS h' x'' rb' :: blkA tb 87 #[.pointer (some ⟨rb', 0, none⟩), .int .i64 o, .int .i64 n] :: R) wx))
  case first =>
    cases q with
    | false =>
      have hlt : m < o := by have := Hq.out; simp at this; omega
      have HX := Lib.hid (Hx.out hlt)
      go_wp2
      go_meet
      exact ⟨_, _, _, HX, P2, HS2⟩
    | true =>
      have hge : o ≤ m := by have := Hq.out; simpa using this
      have hmo : m = o := by have := P1.out.hi; have := Hm.out; omega
      have hxo : x'.es.length = o := by rw [Hm.out, hmo]
      have Hsp := Lib.hid (split_spec ho (x := .node [] [x']) (i := 0) (c := x') rfl rfl (P1.out.mono (by rw [hxo]; unfold least; omega) (by omega)) hxo (by simp) (by simp [cs_node]))
      have hck : x'.cs = [] ∨ x'.cs.length = o + 1 := by
        rcases P1.out.kids with ⟨_, e⟩ | ⟨_, _, e, _⟩
        · exact .inl e
        · exact .inr (by rw [e, hxo])
      have HSP := Lib.hid (fun nr w hs => splitS_calls (h := h) ho ho' tb (ptrS nr) (.int .i64 n) (.node [] [x']) 0 x' nr w0 w fp0 R rfl rfl (by simp [es_node]) hxo hck hs)
      have HT : RowKit.Hid (toL (h + 1) (splitT o 0 (.node [] [x'])) = putM l k v) := by
        show _ = _
        rw [Hsp.out.2.2, toL_cons, P2.out]
        simp [post]
      have HB : RowKit.Hid (Body o (h + 1) (rootBS (h + 1)) (o - 1) (splitT o 0 (.node [] [x']))) := Hsp.out.2.1.mono (by have := Hsp.out.2.1.lo; simpa [rootBS, es_node] using this) (by have := Hsp.out.2.1.hi; simp [es_node] at this; omega)
      clear Hsp hxo hck hmo
      go_upto_region 3 with (fail)
      refine rPp3S (w0 := w0) (fp0 := fp0) tb rb o (.int .i64 n) (treeS h x' rb :: R) _ (by kernel_rfl) rfl rfl ?_ ?_
      · refine (St.emp.2 (St.emp.2 (St.emp.2 HS2.out))).perm ?_
        exact (by classical exact List.perm_iff_count.2 fun a => by simp only [pick_false, vpick_false, List.cons_append, List.nil_append, List.count_cons] <;> omega)
      intro u w3 h3
      have h4 : St w0 fp0 (atA 85 (u 41) #[.slice none 0 0, .slice none 0 0, u 39] :: pureA (u 40 = .agg #[.slice none 0 0, .slice none 0 0, u 39]) :: boxA 82 (u 39) (ptrS rb) :: treeS h x' rb :: blkA tb 87 #[u 41, .int .i64 o, .int .i64 n] :: R) w3 := by
        unfold ptrS
        refine h3.perm ?_
        exact (by classical exact List.perm_iff_count.2 fun a => by simp only [pick_true, vpick_true, List.cons_append, List.nil_append, List.count_cons] <;> omega)
      obtain ⟨nr, e41, h5⟩ := St.at_openS h4
      obtain ⟨_, h6⟩ := St.pure.1 (h5.perm (List.Perm.swap _ _ _))
      rw [e41] at h6
      have H7 := Lib.hid h6.overS
      have HX := Lib.hid (HSP.out nr w3 H7.out)
      obtain ⟨_, q1⟩ := H7.out.has 1 rfl
      have c1 := (blk_get q1).1 0
      have c1l := (blk_get q1).2.2
      simp only [List.getElem?_toArray, List.getElem?_cons_zero] at c1
      clear h3 h4 h5 h6 q1 e41 HSP
      unfold ptrS at HX
      rw [show ((0 : Nat) : Int) = 0 from rfl] at HX
      simp only [putL, List.map, List.foldl, Act.put, List.setIfInBounds_toArray, List.set_cons_succ, List.set_cons_zero]
      go_wp2_with fail
      (with_reducible refine HX.out.mono ?_)
      rintro e w4 ⟨rfl, hs4⟩
      have HS4 := Lib.hid hs4
      clear hs4 c1 c1l
      go_wp2
      go_meet
      exact ⟨_, _, _, HB, HT, HS4⟩
  obtain ⟨h', x'', rb', HB, HT, HS3⟩ := hcut
  clear HS2 P1 P2 Hx Hq Hm
  cases was with
  | true =>
    have HF := Lib.hid (Hfin.out h' x'' rb' wc HB.out HT.out HS3.out)
    go_wp2
    exact bodyPost_ret (v := .tuple #[old, .bool true]) (by simp [results, Try.results19, go_sem]) rfl ⟨rfl, HF.out⟩
  | false =>
    go_upto_region 6 with (fail)
    refine rPp6S (w0 := w0) (fp0 := fp0) tb n (.pointer (some ⟨rb', 0, none⟩)) (.int .i64 o) (by omega) (treeS h' x'' rb' :: R) _ (by kernel_rfl) rfl rfl ?_ ?_
    · refine HS3.out.perm ?_
      exact (by classical exact List.perm_iff_count.2 fun a => by simp only [vpick_false, List.cons_append, List.nil_append, List.count_cons] <;> omega)
    intro u w3 h3
    have h4 : St w0 fp0 (treeS h' x'' rb' :: blkA tb 87 #[.pointer (some ⟨rb', 0, none⟩), .int .i64 o, .int .i64 ((n + 1 : Nat) : Int)] :: R) w3 := by
      refine h3.perm ?_
      exact (by classical exact List.perm_iff_count.2 fun a => by simp only [vpick_true, List.cons_append, List.nil_append, List.count_cons] <;> omega)
    have HF := Lib.hid (Hfin.out h' x'' rb' w3 HB.out HT.out h4)
    clear h3 h4
    simp only [putL, List.map, List.foldl, Act.put, List.setIfInBounds_toArray, List.set_cons_succ, List.set_cons_zero]
    go_wp2
    exact bodyPost_ret (v := .tuple #[old, .bool false]) (by simp [results, Try.results19, go_sem]) rfl ⟨rfl, HF.out⟩
end Go.Proofs.Ytldofiankhimjaa
/- What is read of a tree; Get, Len, max, Min, Max, Height (S). -/
namespace Go.Proofs.Ytldofiankhimjaa
open Go.RowKit
theorem asc_kid2S {h : Nat} {x : TS} {i : Nat} {c : TS} (hl : x.cs.length = x.es.length + 1) (hc : x.cs[i]? = some c) (ha : AscM (toL (h + 1) x)) : AscM (toL h c) := by
  have hi := (List.getElem?_eq_some_iff.1 hc).1
  have hl1 : (x.es.take i).length = (x.cs.take i).length := by simp; omega
  have hxe : toL (h + 1) x = pre (toL h) (x.es.take i) (x.cs.take i) ++ toL h c ++ post (toL h) (x.es.drop i) (x.cs.drop (i + 1)) := by
    rw [← toL_split h _ _ _ _ _ hl1, List.take_append_drop, ← split_at hc, T.eta]
  rw [hxe] at ha
  obtain ⟨a1, _, _⟩ := AscM.append.1 ha
  exact (AscM.append.1 a1).2.1
/-- A tree can be read at block b. -/
def SeesS (w : World) (h : Nat) (x : TS) (b : Nat) : Prop := ∃ f, (treeS h x b).p w f
theorem SeesS.below {w w' : World} {h : Nat} {x : TS} {b : Nat} (hs : SeesS w h x b) (hb : Below w.heap.size w w') : SeesS w' h x b := by
  obtain ⟨f, hf⟩ := hs
  exact ⟨f, (treeS h x b).loc hf fun k hk => hb.block k ((treeS h x b).lt hf k hk)⟩
structure NodeS (w : World) (h : Nat) (x : TS) (b : Nat) (ks : Value) (va : Option Addr) (vc : Nat) (pa : Option Addr) (pc : Nat) : Prop where
  blk : ∃ f, (blkA b 85 #[ks, .slice va x.es.length vc, .slice pa x.cs.length pc]).p w f
  keys : KeysS w x.es ks
  vals : ∀ i (hi : i < x.es.length), ∃ g, va = some ⟨g, 0, none⟩ ∧ g < w.heap.size ∧ w.cell? ⟨g, i, none⟩ = some (valS x.es[i].2)
  kids : ∀ i c, x.cs[i]? = some c → ∃ g cb, pa = some ⟨g, 0, none⟩ ∧ g < w.heap.size ∧ w.cell? ⟨g, i, none⟩ = some (.pointer (some ⟨cb, 0, none⟩)) ∧ ∀ h', h = h' + 1 → SeesS w h' c cb
theorem SeesS.node {w : World} {h : Nat} {x : TS} {b : Nat} (hs : SeesS w h x b) : ∃ ks va vc pa pc, NodeS w h x b ks va vc pa pc := by
  obtain ⟨f, hf⟩ := hs
  rw [treeS_eq] at hf
  obtain ⟨⟨ks, vs, ps, bs⟩, hst⟩ := hf
  have hst : Star w (nodeLS (kidS h) x b (ks, vs, ps, bs)) f := hst
  obtain ⟨_, ⟨hl, _⟩, _⟩ := Star.get 0 rfl hst
  obtain ⟨f1, h1, _⟩ := Star.get 1 rfl hst
  obtain ⟨f2, h2, _⟩ := Star.get 2 rfl hst
  obtain ⟨f3, h3, _⟩ := Star.get 3 rfl hst
  obtain ⟨f4, h4, _⟩ := Star.get 4 rfl hst
  simp only at hl h1 h2 h3 h4
  obtain ⟨va, vc, rfl, _, _, hv⟩ := sl_get h3
  obtain ⟨pa, pc, rfl, _, _, hp⟩ := sl_get h4
  rw [valsS_length] at h1 hv
  rw [List.length_map, hl] at h1
  refine ⟨ks, va, vc, pa, pc, ⟨f1, h1⟩, ⟨f2, h2⟩, fun i hi => ?_, fun i c hc => ?_⟩
  · rcases hv with ⟨_, e, _⟩ | ⟨g, e, hg, hc, _⟩
    · have := congrArg List.length e
      rw [valsS_length, List.length_nil] at this
      omega
    · refine ⟨g, e, hg, ?_⟩
      rw [hc i hi]
      simp [valsS, hi]
  · have hi := (List.getElem?_eq_some_iff.1 hc).1
    have hib : i < bs.length := by omega
    rcases hp with ⟨_, e, _⟩ | ⟨g, e, hg, hcl, _⟩
    · have := congrArg List.length e
      rw [List.length_map, List.length_nil] at this
      omega
    · refine ⟨g, bs[i], e, hg, ?_, fun h' eh => ?_⟩
      · rw [hcl i (by simpa using hib)]
        simp [hib, ptrS]
      · subst eh
        obtain ⟨f5, h5, _⟩ := Star.get (A := treeS h' c bs[i]) (5 + i) (by
          show (nodeLS (kidS (h' + 1)) x b (ks, _, _, bs))[5 + i]? = _
          unfold nodeLS
          rw [show 5 + i = i + 1 + 1 + 1 + 1 + 1 by omega]
          simp only [List.getElem?_cons_succ, List.getElem?_zipWith, hc, List.getElem?_eq_getElem hib]
          rfl) hst
        exact ⟨f5, h5⟩
/-- What a walk of the node at b wants. -/
theorem NodeS.cells {w : World} {h : Nat} {x : TS} {b : Nat} {ks : Value} {va : Option Addr} {vc : Nat} {pa : Option Addr} {pc : Nat} (hn : NodeS w h x b ks va vc pa pc) :
    w.cell? ⟨b, 0, none⟩ = some ks ∧ w.cell? ⟨b, 1, none⟩ = some (.slice va x.es.length vc) ∧ w.cell? ⟨b, 2, none⟩ = some (.slice pa x.cs.length pc) ∧ b < w.heap.size := by
  obtain ⟨f, hf⟩ := hn.blk
  exact ⟨(blk_get hf).1 0, (blk_get hf).1 1, (blk_get hf).1 2, (blk_get hf).2.2⟩
/-- The object as it is read. -/
theorem obj_seesS {w : World} {o h : Nat} {l : M ByteArray Int} {tb : Nat} {f : List Nat} (hS : (objS o h l tb).p w f) : ∃ x rb, GoodS o h l x ∧ SeesS w h x rb ∧ (∃ f, (blkA tb 87 #[.pointer (some ⟨rb, 0, none⟩), .int .i64 o, .int .i64 l.length]).p w f) := by
  obtain ⟨⟨x, rb⟩, hq⟩ := hS
  have hst : Star w [pureA (GoodS o h l x), blkA tb 87 #[ptrS rb, .int .i64 o, .int .i64 l.length], treeS h x rb] f := hq
  obtain ⟨_, ⟨h0, _⟩, _⟩ := Star.get 0 rfl hst
  obtain ⟨f1, h1, _⟩ := Star.get 1 rfl hst
  obtain ⟨f2, h2, _⟩ := Star.get 2 rfl hst
  exact ⟨x, rb, h0, ⟨f2, h2⟩, ⟨f1, h1⟩⟩
theorem LenS_calls {o h : Nat} {l : M ByteArray Int} (tb : Nat) (w : World) {f : List Nat} (hS : (objS o h l tb).p w f) :
    Calls Try.prog 22 #[.pointer (some ⟨tb, 0, none⟩)] w fun e w' => e = .returned (.int .i64 l.length) ∧ w = w' := by
  obtain ⟨x, rb, _, _, _, hb⟩ := obj_seesS hS
  have c2 := (blk_get hb).1 2
  have c2l := (blk_get hb).2.2
  simp only [List.getElem?_toArray, List.getElem?_cons_zero, List.getElem?_cons_succ] at c2
  clear hb hS
  go_enter Try.func22, Try.ntmps22
  go_wp2
  go_ret
  exact ⟨rfl, rfl⟩
/-- What a search is about at a node. -/
structure AtS (w : World) (o : Nat) (R : Option Int) (k : ByteArray) (h : Nat) (x : TS) (b : Nat) : Prop where
  sees : SeesS w h x b
  body : ∃ lo, Body o h lo (o - 1) x
  asc : AscM (toL h x)
  get : getT h x k = R
set_option maxHeartbeats 4000000 in
theorem GetS_calls {o h : Nat} {l : M ByteArray Int} (tb : Nat) (k : ByteArray) (w : World) (ho' : o ≤ 1024) {f : List Nat} (hS : (objS o h l tb).p w f) :
    Calls Try.prog 21 #[.pointer (some ⟨tb, 0, none⟩), encS k] w fun e w' => e = .returned (.tuple #[((getM l k).map valS).getD (.int .i64 0), .bool (getM l k).isSome]) ∧ Below w.heap.size w w' := by
  obtain ⟨x, rb, ⟨g1, g2, g3⟩, hx, _, hb⟩ := obj_seesS hS
  have c0 := (blk_get hb).1 0
  have c0l := (blk_get hb).2.2
  simp only [List.getElem?_toArray, List.getElem?_cons_zero] at c0
  have hget := getT_spec k h _ _ x g1 g2
  rw [g3] at hget
  obtain ⟨R, hR⟩ : ∃ R, getM l k = R := ⟨_, rfl⟩
  rw [hR] at hget ⊢
  have HA := Lib.hid (⟨hx, ⟨_, g1⟩, g2, hget⟩ : AtS w o R k h x rb)
  obtain ⟨kk, hkk⟩ : ∃ kk, encS k = kk := ⟨_, rfl⟩
  rw [hkk]
  have Hkk := Lib.hid hkk
  have Ho' := Lib.hid ho'
  clear hb hS hx g1 g2 g3 hget hR hkk ho'
  go_enter Try.func21, Try.ntmps21
  go_wp2
  go_loopg [6] h (fun n z wr => ∃ x b, z = .pointer (some ⟨b, 0, none⟩) ∧ RowKit.Hid (AtS wr o R k n x b) ∧ RowKit.Hid (Below w.heap.size w wr))
  case atStart => exact ⟨x, rb, rfl, HA, Below.refl _ _⟩
  case round =>
    obtain ⟨y, b, rfl, Ha, Hb⟩ := hrel
    clear c0 c0l HA
    obtain ⟨⟨lo, hbd⟩, ha, hg⟩ := And.intro Ha.out.body (And.intro Ha.out.asc Ha.out.get)
    obtain ⟨ks, va, vc, pa, pc, hn⟩ := Ha.out.sees.node
    obtain ⟨_, c1, c2, cl⟩ := hn.cells
    obtain ⟨_, hbk⟩ := hn.blk
    have hlen : y.es.length < 1099511627776 := by have := hbd.hi; have := Ho'.out; omega
    have HF := Lib.hid (findS_calls b ks _ _ y.es k wr hbk hn.keys (asc_es ha) hlen)
    rw [Hkk.out] at HF
    have HL := Lib.hid (fun w (hb : Below wr.heap.size wr w) => leafS_calls b ks _ pa y.cs.length pc w (f := _) ((blkA b 85 _).loc hbk fun k hk => hb.block k ((blkA b 85 _).lt hbk k hk)))
    unfold ptrS at HF HL
    have HC1 : RowKit.Hid (∀ w', Below wr.heap.size wr w' → w'.cell? ⟨b, 1, none⟩ = some (.slice va y.es.length vc) ∧ w'.cell? ⟨b, 2, none⟩ = some (.slice pa y.cs.length pc) ∧ b < w'.heap.size) := fun w' hb => ⟨(hb.cell (p := ⟨b, 1, none⟩) cl).trans c1, (hb.cell (p := ⟨b, 2, none⟩) cl).trans c2, Nat.lt_of_lt_of_le cl hb.size⟩
    have hple := posK_le y.es k
    cases hh : hasK y.es k with
    | true =>
      rw [hh] at HF
      obtain ⟨z, m, hd, he⟩ := hasK_yes hh
      have hz : y.es[posK y.es k]? = some z := by rw [getElem?_drop0, hd]; rfl
      have hi := (List.getElem?_eq_some_iff.1 hz).1
      obtain ⟨gv, rfl, hgv, hcv⟩ := hn.vals _ hi
      rw [(List.getElem?_eq_some_iff.1 hz).2] at hcv
      have HC2 : RowKit.Hid (∀ w', Below wr.heap.size wr w' → w'.cell? ⟨gv, posK y.es k, none⟩ = some (valS z.2) ∧ gv < w'.heap.size) := fun w' hb => ⟨(hb.cell (p := ⟨gv, _, none⟩) hgv).trans hcv, Nat.lt_of_lt_of_le hgv hb.size⟩
      have HR : RowKit.Hid (R = some z.2) := by
        show _ = _
        rw [← hg]
        cases gk <;> simp [getT, hh, hz]
      obtain ⟨i, hi'⟩ : ∃ i, posK y.es k = i := ⟨_, rfl⟩
      obtain ⟨n, hn'⟩ : ∃ n, y.es.length = n := ⟨_, rfl⟩
      obtain ⟨vv, hvv⟩ : ∃ vv, valS z.2 = vv := ⟨_, rfl⟩
      have Hvv := Lib.hid hvv
      rw [hi', hn'] at hi
      rw [hi'] at HF HC2
      rw [hn'] at HC1
      rw [hvv] at HC2
      have i1 : (i : Int) < n := by omega
      clear c1 c2 cl hbd ha hg hn hbk hlen HL hple hh hd he hz hgv hcv hi' hn' hvv Ha
      go_wp2_with fail
      (with_reducible refine HF.out.mono ?_)
      rintro e w1 ⟨rfl, hb1⟩
      obtain ⟨c1, -, c3⟩ := HC1.out _ hb1
      obtain ⟨c4, c5⟩ := HC2.out _ hb1
      have Hb1 := Lib.hid (Hb.out.trans (hb1.mono Hb.out.size))
      clear hb1 HF
      go_wp2
      exact bodyPost_ret (v := .tuple #[vv, .bool true]) (by simp [results, Try.results21, go_sem]) rfl ⟨by rw [HR.out, ← Hvv.out]; rfl, Hb1.out⟩
    | false =>
      rw [hh] at HF
      cases gk with
      | zero =>
        have hcs : y.cs.length = 0 := by rw [hbd.2.2]; rfl
        rw [hcs] at HL
        have HR : RowKit.Hid (R = none) := by
          show _ = _
          rw [← hg]
          simp [getT, hh]
        generalize posK y.es k = i at *
        generalize y.es.length = n at *
        clear c1 c2 cl hbd ha hg hn hbk hlen hple hh hcs Ha HC1
        go_wp2_with fail
        (with_reducible refine HF.out.mono ?_)
        rintro e w1 ⟨rfl, hb1⟩
        have HL1 := Lib.hid (HL.out _ hb1)
        have Hb1 := Lib.hid (Hb.out.trans (hb1.mono Hb.out.size))
        clear hb1 HF HL
        go_wp2_with fail
        (with_reducible refine HL1.out.mono ?_)
        rintro e w2 ⟨rfl, rfl⟩
        go_wp2
        exact bodyPost_ret (v := .tuple #[(.int .i64 0), .bool false]) (by simp [results, Try.results21, go_sem]) rfl ⟨by rw [HR.out]; rfl, Hb1.out⟩
      | succ g =>
        obtain ⟨b1, b2, b3, b4⟩ := hbd
        obtain ⟨c, hc⟩ : ∃ c, y.cs[posK y.es k]? = some c := ⟨_, List.getElem?_eq_getElem (by omega)⟩
        have hi := (List.getElem?_eq_some_iff.1 hc).1
        obtain ⟨gp, cb, rfl, hgp, hcp, hkid⟩ := hn.kids _ _ hc
        have hz : (y.cs.length == 0) = false := beq_false_of_ne (by omega)
        rw [hz] at HL
        have HA2 : RowKit.Hid (∀ w', Below wr.heap.size wr w' → AtS w' o R k g c cb) := fun w' hb => ⟨(hkid _ rfl).below hb, ⟨_, b4 c (List.mem_of_getElem? hc)⟩, asc_kid2S b3 hc ha, by rw [← hg]; simp [getT, hh, hc]⟩
        have HC2 : RowKit.Hid (∀ w', Below wr.heap.size wr w' → w'.cell? ⟨gp, posK y.es k, none⟩ = some (.pointer (some ⟨cb, 0, none⟩)) ∧ gp < w'.heap.size) := fun w' hb => ⟨(hb.cell (p := ⟨gp, _, none⟩) hgp).trans hcp, Nat.lt_of_lt_of_le hgp hb.size⟩
        generalize posK y.es k = i at *
        generalize y.es.length = n at *
        generalize y.cs.length = m at *
        have i1 : (i : Int) < m := by omega
        clear c1 c2 cl ha hg hn hbk hlen hple hh hz b1 b2 b3 b4 hc hgp hcp hkid Ha
        go_wp2_with fail
        (with_reducible refine HF.out.mono ?_)
        rintro e w1 ⟨rfl, hb1⟩
        have HL1 := Lib.hid (HL.out _ hb1)
        have HA1 := Lib.hid (HA2.out _ hb1)
        obtain ⟨-, c2, c3⟩ := HC1.out _ hb1
        obtain ⟨c4, c5⟩ := HC2.out _ hb1
        have Hb1 := Lib.hid (Hb.out.trans (hb1.mono Hb.out.size))
        clear hb1 HF HL HA2
        go_wp2_with fail
        (with_reducible refine HL1.out.mono ?_)
        rintro e w2 ⟨rfl, rfl⟩
        clear HL1
        go_wp2
        go_roundg g
        case rel => exact ⟨c, cb, rfl, HA1, Hb1⟩
        case measure => omega
end Go.Proofs.Ytldofiankhimjaa
/- depth: the number of levels of a tree whose nodes are as they should be (S). -/
namespace Go.Proofs.Ytldofiankhimjaa
open Go.RowKit
def DepS (w : World) (_o : Nat) (h : Nat) (b tb : Nat) (root : Bool) : Prop :=
  Calls Try.prog 50 #[.pointer (some ⟨tb, 0, none⟩), .pointer (some ⟨b, 0, none⟩), .bool root] w fun e w' => e = .returned (.int .i64 (h + 1 : Nat)) ∧ Below w.heap.size w w'
structure TbS (w : World) (o tb : Nat) : Prop where
  blk : ∃ r n f, (blkA tb 87 #[r, .int .i64 o, n]).p w f
theorem TbS.below {w w' : World} {o tb : Nat} (h : TbS w o tb) (hb : Below w.heap.size w w') : TbS w' o tb := by
  obtain ⟨r, n, f, hf⟩ := h.blk
  exact ⟨r, n, f, (blkA tb 87 _).loc hf fun k hk => hb.block k ((blkA tb 87 _).lt hf k hk)⟩
theorem SeesS.cap {w : World} {h : Nat} {x : TS} {b : Nat} (hs : SeesS w h x b) {pa : Option Addr} {m pc : Nat} (hc : w.cell? ⟨b, 2, none⟩ = some (.slice pa m pc)) : m ≤ pc := by
  obtain ⟨f, hf⟩ := hs
  rw [treeS_eq] at hf
  obtain ⟨⟨ks, vs, ps, bs⟩, hst⟩ := hf
  have hst : Star w (nodeLS (kidS h) x b (ks, vs, ps, bs)) f := hst
  obtain ⟨f1, h1, _⟩ := Star.get 1 rfl hst
  obtain ⟨f4, h4, _⟩ := Star.get 4 rfl hst
  simp only at h1 h4
  obtain ⟨pa', pc', e, h5, h6, -⟩ := sl_get h4
  have c2 := (blk_get h1).1 2
  simp only [List.getElem?_toArray, List.getElem?_cons_zero, List.getElem?_cons_succ] at c2
  rw [hc] at c2
  injection c2 with c2
  rw [e] at c2
  injection c2 with e1 e2 e3
  omega
set_option maxHeartbeats 4000000 in
set_option maxRecDepth 20000 in
theorem depstepS {o : Nat} (ho : 3 ≤ o) (ho' : o ≤ 1024) (h : Nat) (x : TS) (b tb : Nat) (root : Bool) (lo : Nat) (w : World) (hT : TbS w o tb) (hS : SeesS w h x b) (hb : Body o h lo (o - 1) x) (hr : root = false → least o ≤ lo) (hp : h ≠ 0 → 0 < x.es.length)
    (hh : h < 1099511627776)
    (hrec : ∀ h', h = h' + 1 → ∀ c cb w', Below w.heap.size w w' → SeesS w' h' c cb → Body o h' (least o) (o - 1) c → DepS w' o h' cb tb false) : DepS w o h b tb root := by
  unfold DepS
  have HT := Lib.hid hT
  have HREC := Lib.hid hrec
  obtain ⟨tr, tn, tf, htf⟩ := hT.blk
  have t1 := (blk_get htf).1 1
  have tl := (blk_get htf).2.2
  simp only [List.getElem?_toArray, List.getElem?_cons_zero, List.getElem?_cons_succ] at t1
  have HLst := Lib.hid (fun w' (hb : Below w.heap.size w w') => leastS_calls tb tr o tn w' (f := _) ho ho' ((blkA tb 87 _).loc htf fun k hk => hb.block k ((blkA tb 87 _).lt htf k hk)))
  obtain ⟨ks, va, vc, pa, pc, hn⟩ := hS.node
  have Hn := Lib.hid hn
  obtain ⟨c0, c1, c2, cl⟩ := hn.cells
  obtain ⟨_, hbk⟩ := hn.blk
  obtain ⟨ka, kc, rfl, hkm, -⟩ := hn.keys.shape
  have HL := Lib.hid (fun w' (hb : Below w.heap.size w w') => leafS_calls b _ _ pa x.cs.length pc w' (f := _) ((blkA b 85 _).loc hbk fun k hk => hb.block k ((blkA b 85 _).lt hbk k hk)))
  unfold ptrS at HL
  have hlo := hb.lo
  have hhi := hb.hi
  have Hb := Lib.hid hb
  have Ho := Lib.hid ho
  have Hlen : RowKit.Hid (x.cs.length = if h = 0 then 0 else x.es.length + 1) := by
    show _ = _
    cases h with
    | zero => rw [hb.2.2]; rfl
    | succ h => rw [if_neg (by omega)]; exact hb.2.2.1
  obtain ⟨n, hn'⟩ : ∃ n, x.es.length = n := ⟨_, rfl⟩
  obtain ⟨m, hm'⟩ : ∃ m, x.cs.length = m := ⟨_, rfl⟩
  have Hm' := Lib.hid hm'
  have Hcap : RowKit.Hid (m ≤ pc) := by
    rw [hm'] at c2
    exact hS.cap c2
  rw [hn'] at c0 c1 hlo hhi hp Hlen
  rw [hm'] at c2 HL Hlen
  obtain ⟨ls, hls⟩ : ∃ ls, least o = ls := ⟨_, rfl⟩
  have hnl : root = false → ls ≤ n := fun e => by have := hr e; omega
  rw [hls] at HLst
  have q1 : ¬ (o : Int) - 1 < n := by omega
  have hno : n < 1025 := by omega
  have e1 : IntKind.i64.wrap ((o : Int) - 1) = o - 1 := IntWalk.i64_in _ (by omega)
  have e2 : decide (IntKind.i64.wrap ((o : Int) - 1) < n) = false := by rw [e1]; simp; omega
  have Hls := Lib.hid hls
  have Hhh := Lib.hid hh
  have Hp := Lib.hid hp
  clear hT hrec htf hn hbk hkm hb hr ho hn' hm' hlo hhi hp hls hS hh tr tn tf
  go_enter Try.func50, Try.ntmps50
  go_upto_region 1 with (fail)
  go_cut [47] (fun z wx => z = .bool false ∧ ∃ q, wx = w.drewN q)
  case first =>
    clear HREC Hp c2
    cases root with
    | true =>
      go_quiet (fail)
      go_step
      go_step
      go_meet
      exact ⟨rfl, _, rfl⟩
    | false =>
      have q2 : ¬ n < ls := by have := hnl rfl; omega
      go_quiet ((go_at_call 72; exact Calls.quiet_of_same ((HLst.out _ (below_drewN _ _)).mono fun _ _ ⟨h1, h2⟩ => ⟨h1, h2.symm⟩)))
      go_step
      go_step
      go_meet
      exact ⟨rfl, _, rfl⟩
  obtain ⟨rfl, q, rfl⟩ := hcut
  have HB1 : RowKit.Hid (Below w.heap.size w (w.drewN q)) := below_drewN _ _
  clear q1 e1 e2 hnl HLst
  have HL1 := Lib.hid (HL.out _ HB1.out)
  replace c0 : (w.drewN q).cell? ⟨b, 0, none⟩ = some (.slice ka n kc) := (HB1.out.cell (p := ⟨b, 0, none⟩) cl).trans c0
  replace c1 : (w.drewN q).cell? ⟨b, 1, none⟩ = some (.slice va n vc) := (HB1.out.cell (p := ⟨b, 1, none⟩) cl).trans c1
  replace c2 : (w.drewN q).cell? ⟨b, 2, none⟩ = some (.slice pa m pc) := (HB1.out.cell (p := ⟨b, 2, none⟩) cl).trans c2
  replace cl : b < (w.drewN q).heap.size := Nat.lt_of_lt_of_le cl HB1.out.size
  clear t1 tl HL
  generalize w.drewN q = w1 at *
  cases h with
  | zero =>
    have Hm0 : RowKit.Hid (m = 0) := Hlen.out
    obtain rfl := Hm0.out
    go_wp2_with fail
    (with_reducible refine HL1.out.mono ?_)
    rintro e w2 ⟨rfl, rfl⟩
    go_wp2
    go_ret
    exact ⟨rfl, HB1.out⟩
  | succ h =>
    have Hm0 : RowKit.Hid (m = n + 1) := Hlen.out
    have hn0 := Hp.out (by omega)
    obtain rfl := Hm0.out
    go_wp2_with fail
    (with_reducible refine HL1.out.mono ?_)
    rintro e w2 ⟨rfl, rfl⟩
    clear HL1 Hlen
    go_upto_region 5 with (fail)
    go_cut [69] (fun z wx => z = .bool false ∧ ∃ q, wx = w1.drewN q)
    case first =>
      go_quiet (fail)
      go_step
      go_step
      go_meet
      exact ⟨by rw [beq_false_of_ne (by omega)], _, rfl⟩
    obtain ⟨rfl, q2, rfl⟩ := hcut
    have HB2 : RowKit.Hid (Below w.heap.size w (w1.drewN q2)) := HB1.out.trans ((below_drewN _ _).mono HB1.out.size)
    replace c2 : (w1.drewN q2).cell? ⟨b, 2, none⟩ = some (.slice pa (n + 1) pc) := ((below_drewN w1 q2).cell (p := ⟨b, 2, none⟩) cl).trans c2
    replace cl : b < (w1.drewN q2).heap.size := Nat.lt_of_lt_of_le cl (below_drewN w1 q2).size
    clear c0 c1
    generalize w1.drewN q2 = w2 at *
    obtain ⟨-, -, b3, b4⟩ := Hb.out
    obtain ⟨g, hpa⟩ : ∃ g, pa = some ⟨g, 0, none⟩ := by
      obtain ⟨g, cb, e, -⟩ := Hn.out.kids 0 _ (List.getElem?_eq_getElem (by have := Hm'.out; omega))
      exact ⟨g, e⟩
    subst hpa
    have HK : RowKit.Hid (∀ i, i < n + 1 → ∃ cb, ∀ w', Below w.heap.size w w' → w'.cell? ⟨g, i, none⟩ = some (.pointer (some ⟨cb, 0, none⟩)) ∧ g < w'.heap.size ∧ DepS w' o h cb tb false) := by
      intro i hi
      have hc : x.cs[i]? = some (x.cs[i]'(by have := Hm'.out; omega)) := List.getElem?_eq_getElem _
      obtain ⟨g', cb, e, hg, hcp, hkid⟩ := Hn.out.kids i _ hc
      injection e with e
      injection e with e
      subst e
      refine ⟨cb, fun w' hb => ⟨(hb.cell (p := ⟨g, i, none⟩) hg).trans hcp, Nat.lt_of_lt_of_le hg hb.size, ?_⟩⟩
      exact HREC.out h rfl _ cb w' hb ((hkid h rfl).below hb) (b4 _ (List.mem_of_getElem? hc))
    have hpc : n + 1 ≤ pc := Hcap.out
    clear HREC Hn Hb b3 b4 Hp Hm' Hm0
    obtain ⟨cb, hcb⟩ := HK.out 0 (by omega)
    obtain ⟨c3, c3l, hd⟩ := hcb w2 HB2.out
    have HD := Lib.hid hd
    clear hcb hd
    unfold DepS at HD
    go_wp2_with fail
    (with_reducible refine HD.out.mono ?_)
    rintro e w3 ⟨rfl, hb3⟩
    have HB3 := Lib.hid (HB2.out.trans (hb3.mono HB2.out.size))
    replace c2 : w3.cell? ⟨b, 2, none⟩ = some (.slice (some ⟨g, 0, none⟩) (n + 1) pc) := (hb3.cell (p := ⟨b, 2, none⟩) cl).trans c2
    replace cl : b < w3.heap.size := Nat.lt_of_lt_of_le cl hb3.size
    clear HD c3 c3l hb3
    have hh2 : h + 1 < 1099511627776 := Hhh.out
    obtain ⟨H, hH⟩ : ∃ H, h + 1 = H := ⟨_, rfl⟩
    have HeH := Lib.hid hH
    rw [hH] at hh2 ⊢
    clear hH Hhh Hcap
    go_wp2
    clear c2 cl
    go_loopg [84] n (fun gk z wr => ∃ k : Nat, k + gk = n ∧ z = .int .i64 k ∧ RowKit.Hid (Below w.heap.size w wr))
    case atStart => exact ⟨0, Nat.zero_add _, rfl, HB3⟩
    case round =>
      obtain ⟨k, hk, rfl, Hb⟩ := hrel
      by_cases hkn : k < n
      · obtain ⟨cb, hcb⟩ := HK.out (1 + k) (by omega)
        obtain ⟨c3, c3l, hd⟩ := hcb wr Hb.out
        unfold DepS at hd
        rw [HeH.out] at hd
        have HD := Lib.hid hd
        have hkn' : decide ((k : Int) < n) = true := by simp; omega
        have Hk := Lib.hid hk
        clear hcb hd hk
        go_wp2_with fail
        (with_reducible refine HD.out.mono ?_)
        rintro e w4 ⟨rfl, hb4⟩
        have HB4 := Lib.hid (Hb.out.trans (hb4.mono Hb.out.size))
        clear hb4 HD
        go_wp2
        go_roundg (gk - 1)
        case rel => exact ⟨k + 1, by have := Hk.out; omega, by go_num, HB4⟩
        case measure => have := Hk.out; omega
      · obtain rfl : k = n := by omega
        have hkn' : decide ((k : Int) < k) = false := by simp
        clear hk
        go_wp2
        go_ret
        exact ⟨by rw [HeH.out]; rfl, Hb.out⟩
theorem depthS_calls {o : Nat} (ho : 3 ≤ o) (ho' : o ≤ 1024) (tb : Nat) : ∀ (h : Nat) (x : TS) (b : Nat) (root : Bool) (lo : Nat) (w : World), TbS w o tb → SeesS w h x b → Body o h lo (o - 1) x → (root = false → least o ≤ lo) → (h ≠ 0 → 0 < x.es.length) → h < 1099511627776 → DepS w o h b tb root
  | 0, x, b, root, lo, w, hT, hS, hb, hr, hp, hh => depstepS ho ho' 0 x b tb root lo w hT hS hb hr hp hh fun _ e => nomatch e
  | h + 1, x, b, root, lo, w, hT, hS, hb, hr, hp, hh => depstepS ho ho' (h + 1) x b tb root lo w hT hS hb hr hp hh fun h' e c cb w' hbw hs hbd => by
    obtain rfl : h = h' := by omega
    exact depthS_calls ho ho' tb h c cb false _ w' (hT.below hbw) hs hbd (fun _ => Nat.le_refl _) (fun _ => by have := hbd.lo; have := (least_two ho).1; omega) (by omega)
end Go.Proofs.Ytldofiankhimjaa
/- Slices of elements of several cells as pieces; append. -/
namespace Go.Proofs.Ytldofiankhimjaa
open Go Go.RowKit
/-- A slice of n elements of several cells, in a block of its own. -/
def rowA (t : TypeId) (size : Nat) (v : Value) (n : Nat) (xs : List Value) : Asn :=
  ⟨fun w fp => w.ownsRow 0 t size v n xs ∧ fp = v.ownBlock.toList, fun h k hk => by
    rw [h.2] at hk
    exact (h.1.lt k (by cases hv : v.ownBlock <;> simp_all)).2, fun h hs => ⟨own_loc h.1 (by rw [← h.2]; exact hs), h.2⟩⟩
theorem row_nil (w : World) (t : TypeId) (size : Nat) : (rowA t size (.slice none 0 0) 0 []).p w [] := ⟨World.ownsRow_nil _ _ _ _, rfl⟩
theorem St.nilR {w0 w : World} {fp0 : List Nat} {L : List Asn} (t : TypeId) (size : Nat) (hs : St w0 fp0 L w) : St w0 fp0 (rowA t size (.slice none 0 0) 0 [] :: L) w := by
  obtain ⟨fp, h1, h2⟩ := hs
  exact ⟨fp, ⟨[], fp, row_nil _ _ _, h1, by simp, rfl⟩, h2⟩
theorem row_shape {w : World} {t : TypeId} {size : Nat} {v : Value} {n : Nat} {xs : List Value} {f : List Nat} (h : (rowA t size v n xs).p w f) : ∃ a c, v = .slice a n c ∧ n ≤ c ∧ c ≤ maxLen ∧ ∀ i, i < n * size → ∃ g, a = some ⟨g, 0, none⟩ ∧ g < w.heap.size ∧ w.cell? ⟨g, i, none⟩ = xs[i]? ∧ ∀ j, w.frozen? ⟨g, j, none⟩ = false := by
  obtain ⟨ho, _⟩ := h
  have ho' := ho
  rcases ho'.2 with ⟨rfl, h0⟩ | ⟨g, cap, cur, rfl, hb, hg, hn, hc, hs, ht⟩
  · subst h0
    exact ⟨none, 0, rfl, Nat.le_refl _, Nat.zero_le _, fun i hi => by simp at hi⟩
  · exact ⟨_, cap, rfl, hn, hc, fun i hi => ⟨g, rfl, (Array.getElem?_eq_some_iff.1 hg).1, ho.cellAt i hi, fun j => ho.frozenAt j⟩⟩
/-- One element of several cells in a block of its own. -/
def boxsA (t : TypeId) (s : Value) (x : Array Value) : Asn :=
  ⟨fun w fp => ∃ vb, s = .slice (some ⟨vb, 0, none⟩) 1 1 ∧ w.heap[vb]? = some (.cells x t (0, 0)) ∧ fp = [vb], fun ⟨vb, _, h1, h2⟩ k hk => by
    rw [h2] at hk
    obtain rfl := List.mem_singleton.1 hk
    exact (Array.getElem?_eq_some_iff.1 h1).1, fun ⟨vb, h0, h1, h2⟩ hs => ⟨vb, h0, (hs vb (by rw [h2]; simp)).trans h1, h2⟩⟩
theorem boxs_new (w : World) (t : TypeId) (x : Array Value) : (boxsA t (.slice (some ⟨w.heap.size, 0, none⟩) 1 1) x).p (w.alloc (.cells x t)) [w.heap.size] ∧ Tr w (w.alloc (.cells x t)) [] [w.heap.size] := by
  have hb := (Below.refl w.heap.size w).alloc (Nat.le_refl _) (.cells x t (0, 0))
  refine ⟨⟨_, rfl, heap_alloc_new w _, rfl⟩, hb.os, hb.tape, hb.output, hb.size, fun k hk _ => hb.block k hk, fun k hk => .inr ?_⟩
  rw [List.mem_singleton.1 hk]
  exact Nat.le_refl _
theorem St.boxs {w0 w : World} {fp0 : List Nat} {L : List Asn} (h : St w0 fp0 L w) (i : Nat) (hi : L[i]? = some Ytldofiankhimjaa.emp) (t : TypeId) (x : Array Value) : St w0 fp0 (L.set i (boxsA t (.slice (some ⟨w.heap.size, 0, none⟩) 1 1) x)) (w.alloc (.cells x t)) := by
  obtain ⟨f, h1, h2⟩ := h.get i hi
  obtain rfl : f = [] := h1
  obtain ⟨h3, h4⟩ := boxs_new w t x
  exact h2 _ _ _ h3 h4
theorem St.setP' {w0 w : World} {fp0 : List Nat} {L : List Asn} (h : St w0 fp0 L w) (i : Nat) {P0 : Prop} (hi : L[i]? = some (pureA P0)) (P : Prop) (hP : P) : St w0 fp0 (L.set i (pureA P)) w := by
  obtain ⟨f, h1, h2⟩ := h.get i hi
  obtain rfl : f = [] := h1.2
  exact h2 _ _ _ ⟨hP, rfl⟩ (Tr.refl _ _)
theorem spell_eval {a : Act} {k : Nat} {v : Value} (h : a.tmps[k]?.getD undef = v) : a.eval (.tmp k) = v := by
  rw [← h]
  show a.tmps.getD k undef = _
  rw [Array.getD_eq_getD_getElem?]
section
variable {P : Program}
theorem run_append_op {a : Act} {w w' : World} {o : Oper} {s x : Operand} {t : TypeId} {v v2 v' : Value} (ho : o.op = .call { callee := .builtin .append, args := #[s, x], argTypes := #[t, t] }) (hs : a.eval s = v) (hx : a.eval x = v2)
    (hr : (Builtin.append_ #[t, t] o.type #[v, v2]).run P w = .ok v' w') : (execOp a.eval o).run P w = .ok (.value v') w' := by
  unfold execOp
  simp only [ho, resolve, invoke, builtin, Sem.run_bind, Sem.run_pure, Result.andThen_ok, List.map_toArray, List.map_cons, List.map_nil, hs, hx, hr]
/-- append of one element to a piece. -/
theorem row_append (w : World) (t ty e : TypeId) (i : TypeInfo) (z : Value) (size bytes : Nat) (ht : P.underlying t = some (.slice e)) (hi : P.info? e = some i) (hz : i.zero = some z)
    (hsize : i.size = size) (hby : i.bytes = bytes) (hzs : z.cells.size = size) (hsz : 0 < size)
    {v : Value} {n : Nat} {xs : List Value} {f : List Nat} (hown : (rowA e size v n xs).p w f) (vb : Nat) (news : List Value) (et : TypeId) (hb : w.heap[vb]? = some (.cells news.toArray et (0, 0))) (hl : news.length = size) (h1 : ∀ u ∈ news, u.oneCell' = true)
    (h63 : n + 1 ≤ maxLen) (hbytes : (n + 1) * bytes ≤ 140737488355328) :
    ∃ v' w' f', (Builtin.append_ #[t, t] ty #[v, .slice (some ⟨vb, 0, none⟩) 1 1]).run P w = .ok v' w' ∧ (rowA e size v' (n + 1) (xs ++ news)).p w' f' ∧ Tr w w' f f' := by
  obtain ⟨ho, rfl⟩ := hown
  obtain ⟨v', w', hr, h2, h3, h4⟩ := run_append_block (P := P) w 0 t ty e i z size bytes ht hi hz hsize hby hzs hsz v n xs ho ⟨vb, 0, none⟩ 1 1 news (by rw [hl]; omega) (fun j u hu => by
    rw [Addr.add_lit, Nat.zero_add, cell_of_row w vb j _ et (0, 0) hb]
    simpa using hu) h1 (by omega) h63 hbytes (Nat.zero_le _)
  exact ⟨v', w', _, hr, ⟨h2, rfl⟩, Tr.of_grown h3 h4⟩
/-- append of a slice to a piece. -/
theorem row_append_row (w : World) (t ty e : TypeId) (i : TypeInfo) (z : Value) (size bytes : Nat) (ht : P.underlying t = some (.slice e)) (hi : P.info? e = some i) (hz : i.zero = some z)
    (hsize : i.size = size) (hby : i.bytes = bytes) (hzs : z.cells.size = size) (hsz : 0 < size)
    {v : Value} {n : Nat} {xs : List Value} {f : List Nat} (hown : (rowA e size v n xs).p w f) {s : Value} {m : Nat} {ys : List Value} {g : List Nat} (hsrc : (rowA e size s m ys).p w g) (h1 : ∀ u ∈ ys, u.oneCell' = true)
    (h63 : n + m ≤ maxLen) (hbytes : (n + m) * bytes ≤ 140737488355328) :
    ∃ v' w' f', (Builtin.append_ #[t, t] ty #[v, s]).run P w = .ok v' w' ∧ (rowA e size v' (n + m) (xs ++ ys)).p w' f' ∧ Tr w w' f f' := by
  obtain ⟨ho, rfl⟩ := hown
  obtain ⟨ho2, _⟩ := hsrc
  rcases ho2.2 with ⟨rfl, rfl⟩ | ⟨g', cap', cur', rfl, _⟩
  · have hys : ys = [] := List.length_eq_zero_iff.1 (by rw [ho2.1, Nat.zero_mul])
    subst hys
    refine ⟨v, w, _, run_append_owned_none (P := P) (w := w) 0 t ty e i size ht hi v n xs ho, ⟨by simpa using ho, rfl⟩, Tr.refl _ _⟩
  · have hnews := ho2.cells (g := g') rfl
    by_cases hm : 0 < m
    · obtain ⟨v', w', hr, h2, h3, h4⟩ := run_append_block (P := P) w 0 t ty e i z size bytes ht hi hz hsize hby hzs hsz v n xs ho _ m cap' ys ho2.1 hnews h1 hm h63 hbytes (Nat.zero_le _)
      exact ⟨v', w', _, hr, ⟨h2, rfl⟩, Tr.of_grown h3 h4⟩
    · obtain rfl : m = 0 := by omega
      obtain ⟨v', w', hr, h2, h3, h4⟩ := run_append_own (P := P) w 0 t ty e i z size bytes ht hi hz hsize hby hzs hsz v n xs ho _ 0 cap' ys ho2.1 hnews h1 h63 hbytes (Nat.zero_le _)
      refine ⟨v', w', _, hr, ⟨h2, rfl⟩, Tr.of_grown h3 fun k hk => ?_⟩
      subst hsize
      rcases ho.2 with ⟨rfl, rfl⟩ | ⟨gv, cap, cur, rfl, hbg, hg, hnc, hcm, hcs, htake⟩
      · have := h4.2 ⟨rfl, rfl⟩
        subst this
        cases hk
      · have hfit : n * i.size + ys.length ≤ cur.size := by rw [ho2.1, hcs, Nat.zero_mul, Nat.add_zero]; exact Nat.mul_le_mul_right _ hnc
        have hr2 := run_append_room (P := P) w t ty e i ht hi gv n cap cur hg _ 0 cap' ys ho2.1 hnews h1 (by omega) hfit
        rw [hr2] at hr
        injection hr with hr _
        subst hr
        exact .inl hk
end
end Go.Proofs.Ytldofiankhimjaa
/- Entries (S). -/
namespace Go.Proofs.Ytldofiankhimjaa
open Go Go.RowKit
theorem infoEntS : (Try.prog.info? 95).map (fun i => (i.zero, i.size, i.bytes)) = some (some (.agg #[(.string .empty), (.int .i64 0)]), 2, 24) := by kernel_rfl
def entsS (l : M ByteArray Int) : List Value := l.flatMap fun e => [encS e.1, valS e.2]
theorem entsS_snoc (l : M ByteArray Int) (e : ByteArray × Int) : entsS (l ++ [e]) = entsS l ++ [encS e.1, valS e.2] := by simp [entsS]
theorem entsS_length (l : M ByteArray Int) : (entsS l).length = l.length * 2 := by
  induction l with
  | nil => rfl
  | cons x l ih => simp only [entsS, List.flatMap_cons, List.length_append, List.length_cons, List.length_nil] at ih ⊢; rw [ih]; omega
theorem entsS_at (l : M ByteArray Int) (i : Nat) (h : i < l.length) : (entsS l)[i * 2]? = some (encS l[i].1) ∧ (entsS l)[i * 2 + 1]? = some (valS l[i].2) := by
  induction l generalizing i with
  | nil => simp at h
  | cons x l ih =>
    have e : entsS (x :: l) = encS x.1 :: valS x.2 :: entsS l := rfl
    cases i with
    | zero => exact ⟨rfl, rfl⟩
    | succ i =>
      have := ih i (by simpa using h)
      rw [e, show (i + 1) * 2 = i * 2 + 1 + 1 by omega, show i * 2 + 1 + 1 + 1 = (i * 2 + 1) + 1 + 1 by omega]
      simpa using this
def entS (v : Value) (l : M ByteArray Int) : Asn := rowA 95 2 v l.length (entsS l)
theorem runEntS (w : World) (ty : TypeId) {v : Value} {l : M ByteArray Int} {f : List Nat} (hown : (rowA 95 2 v l.length (entsS l)).p w f) (vb : Nat) (y : ByteArray × Int) (hb : w.heap[vb]? = some (.cells #[encS y.1, valS y.2] 95 (0, 0))) (hlen : l.length + 1 < 1099511627776) :
    ∃ v' w' f', (Builtin.append_ #[91, 91] ty #[v, .slice (some ⟨vb, 0, none⟩) 1 1]).run Try.prog w = .ok v' w' ∧ (rowA 95 2 v' (l.length + 1) (entsS l ++ [encS y.1, valS y.2])).p w' f' ∧ Tr w w' f f' := by
  obtain ⟨i0, ii, iz0, iz1, iz2⟩ := info_parts infoEntS
  exact row_append w 91 ty 95 i0 (.agg #[(.string .empty), (.int .i64 0)]) 2 24 (by kernel_rfl) ii iz0 iz1 iz2 rfl (by omega) hown vb [encS y.1, valS y.2] 95 hb rfl
    (by intro u hu; simp only [List.mem_cons, List.not_mem_nil, or_false] at hu; rcases hu with rfl | rfl <;> rfl) (by unfold maxLen; omega) (by omega)
end Go.Proofs.Ytldofiankhimjaa
/- collect: its region that appends (S). -/
namespace Go.Proofs.Ytldofiankhimjaa
open Go Go.RowKit
noncomputable def oCo10S : Array Oper := ((Try.f48.body).bind fun c => opsOf c 10).getD #[]
set_option maxHeartbeats 4000000 in
set_option maxRecDepth 100000 in
theorem rCo10S {Q : Exit → Act → World → Prop} {a : Act} {w w0 : World} {fp0 : List Nat} (b gk nk ck gv nv cv : Nat) (ps vo : Value) (es l : M ByteArray Int) (y : ByteArray × Int) (i : Nat) (hy : es[i]? = some y) (hik : i < nk) (hiv : i < nv) (_hek : nk = es.length) (hev : nv = es.length) (hlen : l.length + 1 < 1099511627776) (R : List Asn) (ops : Array Oper) (hops : ops = oCo10S) (hsz : a.tmps.size = 88) (h0 : a.eval (.tmp 0) = .pointer (some ⟨b, 0, none⟩)) (h9 : a.eval (.tmp 9) = .int .i64 i) (_h1 : a.eval (.tmp 1) = vo)
    (hS : St w0 fp0 ([pick false (boxsA 95 (a.eval (.tmp 85)) #[encS y.1, valS y.2]) emp, pick false (rowA 95 2 (a.eval (.tmp 86)) (l.length + 1) (entsS l ++ [encS y.1, valS y.2])) (rowA 95 2 vo l.length (entsS l)), pick false (pureA ((a.eval (.tmp 1)) = (a.eval (.tmp 86)))) (pureA ((a.eval (.tmp 1)) = vo)), blkA b 85 #[.slice (some ⟨gk, 0, none⟩) nk ck, .slice (some ⟨gv, 0, none⟩) nv cv, ps], slA 9 (.slice (some ⟨gk, 0, none⟩) nk ck) (keysS es), slA 3 (.slice (some ⟨gv, 0, none⟩) nv cv) (valsS es)] ++ R) w)
    (hQ : ∀ (u : Nat → Value) w1, St w0 fp0 ([pick true (boxsA 95 (u 85) #[encS y.1, valS y.2]) emp, pick true (rowA 95 2 (u 86) (l.length + 1) (entsS l ++ [encS y.1, valS y.2])) (rowA 95 2 vo l.length (entsS l)), pick true (pureA ((u 1) = (u 86))) (pureA ((u 1) = vo)), blkA b 85 #[.slice (some ⟨gk, 0, none⟩) nk ck, .slice (some ⟨gv, 0, none⟩) nv cv, ps], slA 9 (.slice (some ⟨gk, 0, none⟩) nk ck) (keysS es), slA 3 (.slice (some ⟨gv, 0, none⟩) nv cv) (valsS es)] ++ R) w1 → Q .normal (putL a (([69, 70, 71, 72, 73, 74, 75, 76, 77, 78, 79, 80, 81, 82, 83, 84, 85, 86, 1] : List Nat).map fun d => (d, u d))) w1) : (Code.region 10 ops true).wp Try.prog Q a w := by
  subst hops
  have hyk : ∀ h, (keysS es)[i]'h = encS y.1 := by intro h; simp only [keysS, List.getElem_map]; rw [(List.getElem?_eq_some_iff.1 hy).2]
  have hyv : ∀ h, (valsS es)[i]'h = valS y.2 := by intro h; simp only [valsS, List.getElem_map]; rw [(List.getElem?_eq_some_iff.1 hy).2]
  have hsize : oCo10S.size = 19 := by kernel_rfl
  have hE : Looks (fun L g w => St w0 fp0 ([pick (L 16) (boxsA 95 (g 85) #[encS y.1, valS y.2]) emp, pick (L 17) (rowA 95 2 (g 86) (l.length + 1) (entsS l ++ [encS y.1, valS y.2])) (rowA 95 2 vo l.length (entsS l)), pick (L 18) (pureA ((g 1) = (g 86))) (pureA ((g 1) = vo)), blkA b 85 #[.slice (some ⟨gk, 0, none⟩) nk ck, .slice (some ⟨gv, 0, none⟩) nv cv, ps], slA 9 (.slice (some ⟨gk, 0, none⟩) nk ck) (keysS es), slA 3 (.slice (some ⟨gv, 0, none⟩) nv cv) (valsS es)] ++ R) w) [16, 17, 18] [85, 86, 1] := by
    intro L L' g g' w hL hg h
    simpa only [← hL 16 (by decide), ← hL 17 (by decide), ← hL 18 (by decide), ← hg 85 (by decide), ← hg 86 (by decide), ← hg 1 (by decide)] using h
  have hn1 : (([(0, 69, vo), (1, 70, .pointer (some ⟨b, 0, none⟩)), (2, 71, .pointer (some ⟨b, 0, none⟩)), (3, 72, .pointer (some ⟨b, 0, none⟩)), (4, 73, .slice (some ⟨gk, 0, none⟩) nk ck), (5, 74, .int .i64 i), (6, 75, .pointer (some ⟨gk, i, none⟩)), (7, 76, encS y.1), (8, 77, .pointer (some ⟨b, 0, none⟩)), (9, 78, .pointer (some ⟨b, 0, none⟩)), (10, 79, .pointer (some ⟨b, 1, none⟩)), (11, 80, .slice (some ⟨gv, 0, none⟩) nv cv), (12, 81, .int .i64 i), (13, 82, .pointer (some ⟨gv, i, none⟩)), (14, 83, valS y.2), (15, 84, .agg #[encS y.1, valS y.2])] : List (Nat × Nat × Value)).map (·.1)).Nodup := by
    show List.Nodup [0, 1, 2, 3, 4, 5, 6, 7, 8, 9, 10, 11, 12, 13, 14, 15]
    decide
  have hn2 : (([(0, 69, vo), (1, 70, .pointer (some ⟨b, 0, none⟩)), (2, 71, .pointer (some ⟨b, 0, none⟩)), (3, 72, .pointer (some ⟨b, 0, none⟩)), (4, 73, .slice (some ⟨gk, 0, none⟩) nk ck), (5, 74, .int .i64 i), (6, 75, .pointer (some ⟨gk, i, none⟩)), (7, 76, encS y.1), (8, 77, .pointer (some ⟨b, 0, none⟩)), (9, 78, .pointer (some ⟨b, 0, none⟩)), (10, 79, .pointer (some ⟨b, 1, none⟩)), (11, 80, .slice (some ⟨gv, 0, none⟩) nv cv), (12, 81, .int .i64 i), (13, 82, .pointer (some ⟨gv, i, none⟩)), (14, 83, valS y.2), (15, 84, .agg #[encS y.1, valS y.2])] : List (Nat × Nat × Value)).map (·.2.1)).Nodup := by
    show List.Nodup [69, 70, 71, 72, 73, 74, 75, 76, 77, 78, 79, 80, 81, 82, 83, 84]
    decide
  refine wp_region_vals (ops' := oCo10S) [69, 70, 71, 72, 73, 74, 75, 76, 77, 78, 79, 80, 81, 82, 83, 84, 85, 86, 1] [(0, 69, vo), (1, 70, .pointer (some ⟨b, 0, none⟩)), (2, 71, .pointer (some ⟨b, 0, none⟩)), (3, 72, .pointer (some ⟨b, 0, none⟩)), (4, 73, .slice (some ⟨gk, 0, none⟩) nk ck), (5, 74, .int .i64 i), (6, 75, .pointer (some ⟨gk, i, none⟩)), (7, 76, encS y.1), (8, 77, .pointer (some ⟨b, 0, none⟩)), (9, 78, .pointer (some ⟨b, 0, none⟩)), (10, 79, .pointer (some ⟨b, 1, none⟩)), (11, 80, .slice (some ⟨gv, 0, none⟩) nv cv), (12, 81, .int .i64 i), (13, 82, .pointer (some ⟨gv, i, none⟩)), (14, 83, valS y.2), (15, 84, .agg #[encS y.1, valS y.2])] (fun L g w => St w0 fp0 ([pick (L 16) (boxsA 95 (g 85) #[encS y.1, valS y.2]) emp, pick (L 17) (rowA 95 2 (g 86) (l.length + 1) (entsS l ++ [encS y.1, valS y.2])) (rowA 95 2 vo l.length (entsS l)), pick (L 18) (pureA ((g 1) = (g 86))) (pureA ((g 1) = vo)), blkA b 85 #[.slice (some ⟨gk, 0, none⟩) nk ck, .slice (some ⟨gv, 0, none⟩) nv cv, ps], slA 9 (.slice (some ⟨gk, 0, none⟩) nk ck) (keysS es), slA 3 (.slice (some ⟨gv, 0, none⟩) nv cv) (valsS es)] ++ R) w) rfl (by kernel_rfl) (by kernel_rfl) (hS.mono (below_drew w)) ?_ ?_
  · intro oi o L a1 w1 ho hL hdep hI
    have hoi : oi < 19 := by have := (Array.getElem?_eq_some_iff.1 ho).1; omega
    have h1sz : a1.tmps.size = 88 := hI.frame.size.trans hsz
    rcases (by omega : oi = 0 ∨ oi = 1 ∨ oi = 2 ∨ oi = 3 ∨ oi = 4 ∨ oi = 5 ∨ oi = 6 ∨ oi = 7 ∨ oi = 8 ∨ oi = 9 ∨ oi = 10 ∨ oi = 11 ∨ oi = 12 ∨ oi = 13 ∨ oi = 14 ∨ oi = 15 ∨ oi = 16 ∨ oi = 17 ∨ oi = 18) with rfl | rfl | rfl | rfl | rfl | rfl | rfl | rfl | rfl | rfl | rfl | rfl | rfl | rfl | rfl | rfl | rfl | rfl | rfl
    · have hl : oCo10S[0]? = some ⟨some 69, Op.move (Operand.tmp 1), _, _, _, none⟩ := rfl
      obtain rfl := oI ho hl
      have hS1 := hI.eff
      have e17 : L 17 = false := hI.no hL (by kernel_rfl : waitsB oCo10S 17 0 = true)
      have e18 : L 18 = false := hI.no hL (by kernel_rfl : waitsB oCo10S 18 0 = true)
      simp only [e17, e18, pick_false] at hS1
      obtain ⟨_, hP, _⟩ := hS1.has 2 rfl
      have hcell := eval_spell hP
      exact hI.rd hE hsz 0 69 (vo) ho rfl rfl hdep (by decide) (vals_at hn1 hn2 0 rfl) (by simp [go_sem, execOp, Act.eval, hcell])
    · have hl : oCo10S[1]? = some ⟨some 70, Op.move (Operand.tmp 0), _, _, _, none⟩ := rfl
      obtain rfl := oI ho hl
      have x0 := hI.old 0 (.pointer (some ⟨b, 0, none⟩)) (by decide) h0
      exact hI.rd hE hsz 1 70 (.pointer (some ⟨b, 0, none⟩)) ho rfl rfl hdep (by decide) (vals_at hn1 hn2 1 rfl) (by simp [go_sem, execOp, Act.eval, x0])
    · have hl : oCo10S[2]? = some ⟨some 71, Op.nilCheck (Operand.tmp 70), _, _, _, none⟩ := rfl
      obtain rfl := oI ho hl
      have x70 := hI.val 1 70 (.pointer (some ⟨b, 0, none⟩)) (mG (i := 1) rfl) (dK ho hdep (by kernel_rfl : waitsB oCo10S 2 1 = true))
      exact hI.rd hE hsz 2 71 (.pointer (some ⟨b, 0, none⟩)) ho rfl rfl hdep (by decide) (vals_at hn1 hn2 2 rfl) (by simp [go_sem, execOp, Act.eval, x70])
    · have hl : oCo10S[3]? = some ⟨some 72, Op.fieldAddr _ (Operand.tmp 71) 0, _, _, _, none⟩ := rfl
      obtain rfl := oI ho hl
      have x71 := hI.val 2 71 (.pointer (some ⟨b, 0, none⟩)) (mG (i := 2) rfl) (dK ho hdep (by kernel_rfl : waitsB oCo10S 3 2 = true))
      exact hI.rd hE hsz 3 72 (.pointer (some ⟨b, 0, none⟩)) ho rfl rfl hdep (by decide) (vals_at hn1 hn2 3 rfl) (by simp [go_sem, execOp, Act.eval, x71])
    · have hl : oCo10S[4]? = some ⟨some 73, Op.load _ (Operand.tmp 72), _, _, _, none⟩ := rfl
      obtain rfl := oI ho hl
      have x72 := hI.val 3 72 (.pointer (some ⟨b, 0, none⟩)) (mG (i := 3) rfl) (dK ho hdep (by kernel_rfl : waitsB oCo10S 4 3 = true))
      have hS1 := hI.eff
      have e18 : L 18 = false := hI.no hL (by kernel_rfl : waitsB oCo10S 18 4 = true)
      simp only [e18, pick_false] at hS1
      obtain ⟨_, hp⟩ := hS1.has 3 rfl
      have hcell := (blk_get hp).1 0
      have hlt := (blk_get hp).2.2
      simp only [List.getElem?_toArray, List.getElem?_cons_zero] at hcell
      exact hI.rd hE hsz 4 73 (.slice (some ⟨gk, 0, none⟩) nk ck) ho rfl rfl hdep (by decide) (vals_at hn1 hn2 4 rfl) (by simp [go_sem, execOp, Act.eval, x72, hcell])
    · have hl : oCo10S[5]? = some ⟨some 74, Op.move (Operand.tmp 9), _, _, _, none⟩ := rfl
      obtain rfl := oI ho hl
      have x9 := hI.old 9 (.int .i64 i) (by decide) h9
      exact hI.rd hE hsz 5 74 (.int .i64 i) ho rfl rfl hdep (by decide) (vals_at hn1 hn2 5 rfl) (by simp [go_sem, execOp, Act.eval, x9])
    · have hl : oCo10S[6]? = some ⟨some 75, Op.indexAddr _ (Operand.tmp 73) (Operand.tmp 74), _, _, _, none⟩ := rfl
      obtain rfl := oI ho hl
      have x73 := hI.val 4 73 (.slice (some ⟨gk, 0, none⟩) nk ck) (mG (i := 4) rfl) (dK ho hdep (by kernel_rfl : waitsB oCo10S 6 4 = true))
      have x74 := hI.val 5 74 (.int .i64 i) (mG (i := 5) rfl) (dK ho hdep (by kernel_rfl : waitsB oCo10S 6 5 = true))
      exact hI.rd hE hsz 6 75 (.pointer (some ⟨gk, i, none⟩)) ho rfl rfl hdep (by decide) (vals_at hn1 hn2 6 rfl) (by simp [go_sem, execOp, Act.eval, x73, x74, hik])
    · have hl : oCo10S[7]? = some ⟨some 76, Op.load _ (Operand.tmp 75), _, _, _, none⟩ := rfl
      obtain rfl := oI ho hl
      have x75 := hI.val 6 75 (.pointer (some ⟨gk, i, none⟩)) (mG (i := 6) rfl) (dK ho hdep (by kernel_rfl : waitsB oCo10S 7 6 = true))
      have hS1 := hI.eff
      have e18 : L 18 = false := hI.no hL (by kernel_rfl : waitsB oCo10S 18 7 = true)
      simp only [e18, pick_false] at hS1
      obtain ⟨_, hp⟩ := hS1.has 4 rfl
      obtain ⟨hcell, _, hlt, _⟩ := sl_elem hp (i) (by rw [keysS_length]; omega)
      rw [hyk] at hcell
      exact hI.rd hE hsz 7 76 (encS y.1) ho rfl rfl hdep (by decide) (vals_at hn1 hn2 7 rfl) (by simp [go_sem, execOp, Act.eval, x75, hcell])
    · have hl : oCo10S[8]? = some ⟨some 77, Op.move (Operand.tmp 0), _, _, _, none⟩ := rfl
      obtain rfl := oI ho hl
      have x0 := hI.old 0 (.pointer (some ⟨b, 0, none⟩)) (by decide) h0
      exact hI.rd hE hsz 8 77 (.pointer (some ⟨b, 0, none⟩)) ho rfl rfl hdep (by decide) (vals_at hn1 hn2 8 rfl) (by simp [go_sem, execOp, Act.eval, x0])
    · have hl : oCo10S[9]? = some ⟨some 78, Op.nilCheck (Operand.tmp 77), _, _, _, none⟩ := rfl
      obtain rfl := oI ho hl
      have x77 := hI.val 8 77 (.pointer (some ⟨b, 0, none⟩)) (mG (i := 8) rfl) (dK ho hdep (by kernel_rfl : waitsB oCo10S 9 8 = true))
      exact hI.rd hE hsz 9 78 (.pointer (some ⟨b, 0, none⟩)) ho rfl rfl hdep (by decide) (vals_at hn1 hn2 9 rfl) (by simp [go_sem, execOp, Act.eval, x77])
    · have hl : oCo10S[10]? = some ⟨some 79, Op.fieldAddr _ (Operand.tmp 78) 1, _, _, _, none⟩ := rfl
      obtain rfl := oI ho hl
      have x78 := hI.val 9 78 (.pointer (some ⟨b, 0, none⟩)) (mG (i := 9) rfl) (dK ho hdep (by kernel_rfl : waitsB oCo10S 10 9 = true))
      exact hI.rd hE hsz 10 79 (.pointer (some ⟨b, 1, none⟩)) ho rfl rfl hdep (by decide) (vals_at hn1 hn2 10 rfl) (by simp [go_sem, execOp, Act.eval, x78])
    · have hl : oCo10S[11]? = some ⟨some 80, Op.load _ (Operand.tmp 79), _, _, _, none⟩ := rfl
      obtain rfl := oI ho hl
      have x79 := hI.val 10 79 (.pointer (some ⟨b, 1, none⟩)) (mG (i := 10) rfl) (dK ho hdep (by kernel_rfl : waitsB oCo10S 11 10 = true))
      have hS1 := hI.eff
      have e18 : L 18 = false := hI.no hL (by kernel_rfl : waitsB oCo10S 18 11 = true)
      simp only [e18, pick_false] at hS1
      obtain ⟨_, hp⟩ := hS1.has 3 rfl
      have hcell := (blk_get hp).1 1
      have hlt := (blk_get hp).2.2
      simp only [List.getElem?_toArray, List.getElem?_cons_zero, List.getElem?_cons_succ] at hcell
      exact hI.rd hE hsz 11 80 (.slice (some ⟨gv, 0, none⟩) nv cv) ho rfl rfl hdep (by decide) (vals_at hn1 hn2 11 rfl) (by simp [go_sem, execOp, Act.eval, x79, hcell])
    · have hl : oCo10S[12]? = some ⟨some 81, Op.move (Operand.tmp 9), _, _, _, none⟩ := rfl
      obtain rfl := oI ho hl
      have x9 := hI.old 9 (.int .i64 i) (by decide) h9
      exact hI.rd hE hsz 12 81 (.int .i64 i) ho rfl rfl hdep (by decide) (vals_at hn1 hn2 12 rfl) (by simp [go_sem, execOp, Act.eval, x9])
    · have hl : oCo10S[13]? = some ⟨some 82, Op.indexAddr _ (Operand.tmp 80) (Operand.tmp 81), _, _, _, none⟩ := rfl
      obtain rfl := oI ho hl
      have x80 := hI.val 11 80 (.slice (some ⟨gv, 0, none⟩) nv cv) (mG (i := 11) rfl) (dK ho hdep (by kernel_rfl : waitsB oCo10S 13 11 = true))
      have x81 := hI.val 12 81 (.int .i64 i) (mG (i := 12) rfl) (dK ho hdep (by kernel_rfl : waitsB oCo10S 13 12 = true))
      exact hI.rd hE hsz 13 82 (.pointer (some ⟨gv, i, none⟩)) ho rfl rfl hdep (by decide) (vals_at hn1 hn2 13 rfl) (by simp [go_sem, execOp, Act.eval, x80, x81, hiv])
    · have hl : oCo10S[14]? = some ⟨some 83, Op.load _ (Operand.tmp 82), _, _, _, none⟩ := rfl
      obtain rfl := oI ho hl
      have x82 := hI.val 13 82 (.pointer (some ⟨gv, i, none⟩)) (mG (i := 13) rfl) (dK ho hdep (by kernel_rfl : waitsB oCo10S 14 13 = true))
      have hS1 := hI.eff
      have e18 : L 18 = false := hI.no hL (by kernel_rfl : waitsB oCo10S 18 14 = true)
      simp only [e18, pick_false] at hS1
      obtain ⟨_, hp⟩ := hS1.has 5 rfl
      obtain ⟨hcell, _, hlt, _⟩ := sl_elem hp (i) (by rw [valsS_length]; omega)
      rw [hyv] at hcell
      exact hI.rd hE hsz 14 83 (valS y.2) ho rfl rfl hdep (by decide) (vals_at hn1 hn2 14 rfl) (by simp [go_sem, execOp, Act.eval, x82, hcell])
    · have hl : oCo10S[15]? = some ⟨some 84, Op.build _ #[(0, Operand.tmp 76), (1, Operand.tmp 83)], _, _, _, none⟩ := rfl
      obtain rfl := oI ho hl
      have x76 := hI.val 7 76 (encS y.1) (mG (i := 7) rfl) (dK ho hdep (by kernel_rfl : waitsB oCo10S 15 7 = true))
      have x83 := hI.val 14 83 (valS y.2) (mG (i := 14) rfl) (dK ho hdep (by kernel_rfl : waitsB oCo10S 15 14 = true))
      exact hI.rd hE hsz 15 84 (.agg #[encS y.1, valS y.2]) ho rfl rfl hdep (by decide) (vals_at hn1 hn2 15 rfl) (by simp [go_sem, execOp, Act.eval, x76, x83, encS, valS])
    · have hl : oCo10S[16]? = some ⟨some 85, Op.buildSlice _ 1 #[(0, Operand.tmp 84)], _, _, _, none⟩ := rfl
      obtain rfl := oI ho hl
      have x84 := hI.val 15 84 (.agg #[encS y.1, valS y.2]) (mG (i := 15) rfl) (dK ho hdep (by kernel_rfl : waitsB oCo10S 16 15 = true))
      have hS1 := hI.eff
      have e16 : L 16 = false := hL
      have e17 : L 17 = false := hI.no hL (by kernel_rfl : waitsB oCo10S 17 16 = true)
      have e18 : L 18 = false := hI.no hL (by kernel_rfl : waitsB oCo10S 18 16 = true)
      simp only [e16, e17, e18, pick_false] at hS1
      refine inv_value ho rfl (v := .slice (some ⟨w1.heap.size, 0, none⟩) 1 1) (w' := w1.alloc (.cells #[encS y.1, valS y.2] 95)) (by simp [go_sem, execOp, Act.eval, x84, encS, valS]) (hI.put 16 85 _ ho hdep (by decide) (by intro t ht; exact vals_ne2 rfl rfl (by decide : 16 ∉ [0, 1, 2, 3, 4, 5, 6, 7, 8, 9, 10, 11, 12, 13, 14, 15]) (by decide : 85 ∉ [69, 70, 71, 72, 73, 74, 75, 76, 77, 78, 79, 80, 81, 82, 83, 84]) ht) ?_)
      have hS2 := St.boxs hS1 0 rfl 95 #[encS y.1, valS y.2]
      simp only [e16, e17, e18, Bool.or_false, Bool.or_true, Nat.reduceEqDiff, decide_true, decide_false, pick_true, pick_false, eval_put_same (by rw [h1sz]; decide : 85 < a1.tmps.size), eval_put_ne (by decide : 85 ≠ 86), eval_put_ne (by decide : 85 ≠ 1)]
      exact hS2
    · have hl : oCo10S[17]? = some ⟨some 86, Op.call ⟨Callee.builtin Builtin.append, #[Operand.tmp 69, Operand.tmp 85], _⟩, _, _, _, none⟩ := rfl
      obtain rfl := oI ho hl
      have x69 := hI.val 0 69 (vo) (mG (i := 0) rfl) (dK ho hdep (by kernel_rfl : waitsB oCo10S 17 0 = true))
      have hS1 := hI.eff
      have e16 : L 16 = true := dK ho hdep (by kernel_rfl : waitsB oCo10S 17 16 = true)
      have e17 : L 17 = false := hL
      have e18 : L 18 = false := hI.no hL (by kernel_rfl : waitsB oCo10S 18 17 = true)
      simp only [e16, e17, e18, pick_true, pick_false] at hS1
      obtain ⟨f, g, hbx, hrw, _, _, hset⟩ := hS1.two 0 1 (by decide) rfl rfl
      obtain ⟨vb, hgb, hvb, rfl⟩ := hbx
      obtain ⟨v2, w2, f2, hr2, ho2, ht2⟩ := runEntS w1 _ hrw vb y hvb hlen
      refine inv_value ho rfl (v := v2) (w' := w2) (run_append_op (s := .tmp 69) (x := .tmp 85) (t := 91) rfl (spell_eval x69) hgb hr2) (hI.put 17 86 _ ho hdep (by decide) (by intro t ht; exact vals_ne2 rfl rfl (by decide : 17 ∉ [0, 1, 2, 3, 4, 5, 6, 7, 8, 9, 10, 11, 12, 13, 14, 15]) (by decide : 86 ∉ [69, 70, 71, 72, 73, 74, 75, 76, 77, 78, 79, 80, 81, 82, 83, 84]) ht) ?_)
      have hS2 := hset _ _ _ ho2 ht2
      simp only [e16, e17, e18, Bool.or_false, Bool.or_true, Nat.reduceEqDiff, decide_true, decide_false, pick_true, pick_false, eval_put_same (by rw [h1sz]; decide : 86 < a1.tmps.size), eval_put_ne (by decide : 86 ≠ 85), eval_put_ne (by decide : 86 ≠ 1)]
      exact hS2
    · have hl : oCo10S[18]? = some ⟨some 1, Op.assign (Operand.tmp 86), _, _, _, none⟩ := rfl
      obtain rfl := oI ho hl
      have hS1 := hI.eff
      have e16 : L 16 = true := dK ho hdep (by kernel_rfl : waitsB oCo10S 18 16 = true)
      have e17 : L 17 = true := dK ho hdep (by kernel_rfl : waitsB oCo10S 18 17 = true)
      have e18 : L 18 = false := hL
      simp only [e16, e17, e18, pick_true, pick_false] at hS1
      refine inv_value ho rfl (v := a1.eval (.tmp 86)) (w' := w1) (by simp [go_sem, execOp, Act.eval]) (hI.put 18 1 _ ho hdep (by decide) (by intro t ht; exact vals_ne2 rfl rfl (by decide : 18 ∉ [0, 1, 2, 3, 4, 5, 6, 7, 8, 9, 10, 11, 12, 13, 14, 15]) (by decide : 1 ∉ [69, 70, 71, 72, 73, 74, 75, 76, 77, 78, 79, 80, 81, 82, 83, 84]) ht) ?_)
      have hS2 := hS1.setP' 2 rfl True trivial
      simp only [e16, e17, e18, Bool.or_false, Bool.or_true, Nat.reduceEqDiff, decide_true, decide_false, pick_true, eval_put_same (by rw [h1sz]; decide : 1 < a1.tmps.size), eval_put_ne (by decide : 1 ≠ 85), eval_put_ne (by decide : 1 ≠ 86)]
      exact hS2
  · intro L a1 w1 hL hI
    have hS1 := hI.eff
    simp only [hL 16 (by rw [hsize]; decide), hL 17 (by rw [hsize]; decide), hL 18 (by rw [hsize]; decide), pick_true] at hS1
    have := hQ (fun d => a1.eval (.tmp d)) w1  hS1
    have e := hI.frame.eq
    rw [e]
    exact this
end Go.Proofs.Ytldofiankhimjaa
/- Plain: the entries of a tree in a range, node by node. -/
namespace Go.Proofs.Ytldofiankhimjaa
open T
section
variable {κ ν : Type}
def kidL : Nat → T κ ν → Nat → M κ ν
  | 0, _, _ => []
  | h + 1, x, i => match x.cs[i]? with
    | some c => toL h c
    | none => []
def partL : Nat → T κ ν → Nat → M κ ν
  | 0, x, i => x.es.take i
  | h + 1, x, i => pre (toL h) (x.es.take i) (x.cs.take i)
theorem pre_snoc (f : T κ ν → M κ ν) : ∀ (A : M κ ν) (C : List (T κ ν)) (a : κ × ν) (c : T κ ν), A.length = C.length → pre f (A ++ [a]) (C ++ [c]) = pre f A C ++ f c ++ [a]
  | [], [], a, c, _ => by simp [pre]
  | x :: A, y :: C, a, c, h => by
    rw [List.cons_append, List.cons_append, pre, pre, pre_snoc f A C a c (by simpa using h)]
    simp
  | [], _ :: _, _, _, h => by simp at h
  | _ :: _, [], _, _, h => by simp at h
theorem part_zero (h : Nat) (x : T κ ν) : partL h x 0 = [] := by
  cases h <;> simp [partL, pre]
theorem part_succ {o h lo hi : Nat} {x : T κ ν} (hb : Body o h lo hi x) {i : Nat} {y : κ × ν} (hy : x.es[i]? = some y) : partL h x (i + 1) = partL h x i ++ kidL h x i ++ [y] := by
  obtain ⟨hi', hy'⟩ := List.getElem?_eq_some_iff.1 hy
  cases h with
  | zero => simp only [partL, kidL, List.append_nil]; rw [List.take_succ_eq_append_getElem hi', hy']
  | succ h =>
    have h3 := hb.2.2.1
    have hc : i < x.cs.length := by omega
    simp only [partL, kidL, List.getElem?_eq_getElem hc]
    rw [List.take_succ_eq_append_getElem hi', List.take_succ_eq_append_getElem hc, hy', pre_snoc _ _ _ _ _ (by simp; omega)]
theorem part_rest {o h lo hi : Nat} {x : T κ ν} (hb : Body o h lo hi x) {i : Nat} {y : κ × ν} (hy : x.es[i]? = some y) : ∃ rest, toL h x = partL h x i ++ kidL h x i ++ y :: rest := by
  obtain ⟨hi', hy'⟩ := List.getElem?_eq_some_iff.1 hy
  cases h with
  | zero => exact ⟨x.es.drop (i + 1), by simp only [partL, kidL, List.append_nil, toL]; exact split_at hy⟩
  | succ h =>
    have h3 := hb.2.2.1
    obtain ⟨c, hc⟩ : ∃ c, x.cs[i]? = some c := ⟨_, List.getElem?_eq_getElem (by omega)⟩
    obtain ⟨d, hd⟩ : ∃ d, x.cs[i + 1]? = some d := ⟨_, List.getElem?_eq_getElem (by omega)⟩
    obtain ⟨t1, t2, t3⟩ := two_at hc hd hy
    refine ⟨toL h d ++ post (toL h) (x.es.drop (i + 1)) (x.cs.drop (i + 2)), ?_⟩
    simp only [partL, kidL, hc]
    conv => lhs; rw [← T.eta x, t1, t2]
    rw [toL_two h _ _ _ _ _ _ _ t3]
    simp
theorem part_end {o h lo hi : Nat} {x : T κ ν} (hb : Body o h lo hi x) : toL h x = partL h x x.es.length ++ kidL h x x.es.length := by
  cases h with
  | zero => simp [partL, kidL, toL]
  | succ h =>
    have h3 := hb.2.2.1
    obtain ⟨es, cs⟩ := x
    simp only [es_node, cs_node] at h3
    obtain ⟨C, c, rfl⟩ := snoc_of (ne_nil (l := cs) (by omega))
    have hl : es.length = C.length := by simp at h3; omega
    rw [toL_last h _ _ _ hl]
    have e1 : (C ++ [c])[es.length]? = some c := by rw [hl]; simp
    have e2 : (C ++ [c]).take es.length = C := by rw [hl]; simp
    simp only [partL, kidL, es_node, cs_node, e1, e2, List.take_length]
end
section
variable {κ ν : Type} [KOrd κ]
def inR (lo hi : Option κ) (e : κ × ν) : Bool := (match lo with | none => true | some k => !decide (ltK e.1 k)) && (match hi with | none => true | some k => decide (ltK e.1 k))
def selM (lo hi : Option κ) (l : M κ ν) : M κ ν := l.filter (inR lo hi)
theorem selM_append (lo hi : Option κ) (l m : M κ ν) : selM lo hi (l ++ m) = selM lo hi l ++ selM lo hi m := List.filter_append _ _
theorem selM_all (l : M κ ν) : selM none none l = l := by
  unfold selM
  rw [List.filter_eq_self]
  intro a _
  rfl
def startI (lo : Option κ) (es : M κ ν) : Nat := match lo with | none => 0 | some k => posK es k
theorem startI_le (lo : Option κ) (es : M κ ν) : startI lo es ≤ es.length := by
  unfold startI
  cases lo with
  | none => exact Nat.zero_le _
  | some k => exact posK_le es k
theorem posK_ge {es : M κ ν} (ha : AscM es) {k : κ} {i : Nat} (h : posK es k ≤ i) {y : κ × ν} (hy : es[i]? = some y) : ¬ ltK y.1 k := by
  obtain ⟨hi, hy'⟩ := List.getElem?_eq_some_iff.1 hy
  have hp : posK es k < es.length := by omega
  have h0 := posK_head (es := es) (k := k) (List.drop_eq_getElem_cons hp)
  by_cases e : posK es k = i
  · subst e; rw [← hy']; exact h0
  · intro hlt
    apply h0
    have := (List.pairwise_iff_getElem.1 ha) (posK es k) i hp hi (by omega)
    rw [hy'] at this
    exact ltK_trans this hlt
theorem sel_start {o h lob hib : Nat} {x : T κ ν} (hb : Body o h lob hib x) (ha : AscM (toL h x)) (lo hi : Option κ) : selM lo hi (partL h x (startI lo x.es)) = [] := by
  cases lo with
  | none => rw [show startI none x.es = 0 from rfl, part_zero]; rfl
  | some k =>
    have hle := posK_le x.es k
    have hall : AllLt (partL h x (posK x.es k)) k := by
      cases h with
      | zero => exact posK_lt x.es k
      | succ h =>
        refine pre_lt (posK_lt x.es k) ?_
        have h3 := hb.2.2.1
        obtain ⟨c, hc⟩ : ∃ c, x.cs[posK x.es k]? = some c := ⟨_, List.getElem?_eq_getElem (by omega)⟩
        have hl1 : (x.es.take (posK x.es k)).length = (x.cs.take (posK x.es k)).length := by simp; omega
        have hxe : toL (h + 1) x = pre (toL h) (x.es.take (posK x.es k)) (x.cs.take (posK x.es k)) ++ toL h c ++ post (toL h) (x.es.drop (posK x.es k)) (x.cs.drop (posK x.es k + 1)) := by
          rw [← toL_split h _ _ _ _ _ hl1, List.take_append_drop, ← split_at hc, T.eta]
        rw [hxe] at ha
        exact (AscM.append.1 (AscM.append.1 ha).1).1
    unfold selM
    rw [List.filter_eq_nil_iff]
    intro a ha'
    have := hall a ha'
    simp [inR, this]
theorem sel_stop {l : M κ ν} {y : κ × ν} {rest : M κ ν} (ha : AscM (l ++ y :: rest)) {lo : Option κ} {k : κ} (hk : ¬ ltK y.1 k) : selM lo (some k) (l ++ y :: rest) = selM lo (some k) l := by
  obtain ⟨_, _, _, h4, _⟩ := ha.mid
  rw [selM_append]
  have : selM lo (some k) (y :: rest) = [] := by
    unfold selM
    rw [List.filter_eq_nil_iff]
    intro a hm
    have hn : ¬ ltK a.1 k := by
      rcases List.mem_cons.1 hm with rfl | hm
      · exact hk
      · exact fun h => hk (ltK_trans (h4 a hm) h)
    simp [inR, hn]
  rw [this, List.append_nil]
theorem sel_take {es : M κ ν} (ha : AscM es) {lo hi : Option κ} {i : Nat} (h : startI lo es ≤ i) {y : κ × ν} (hy : es[i]? = some y) (hh : ∀ k, hi = some k → ltK y.1 k) : selM lo hi [y] = [y] := by
  have h1 : inR lo hi y = true := by
    unfold inR
    cases lo with
    | none =>
      cases hi with
      | none => rfl
      | some k => simp [hh k rfl]
    | some k0 =>
      have := posK_ge ha (show posK es k0 ≤ i from h) hy
      cases hi with
      | none => simp [this]
      | some k => simp [this, hh k rfl]
  unfold selM
  rw [List.filter_cons, if_pos h1]
  rfl
end
end Go.Proofs.Ytldofiankhimjaa
/- collect (S). -/
namespace Go.Proofs.Ytldofiankhimjaa
open Go.RowKit
/-- A key behind a pointer, or none. -/
def optAS (p : Value) : Option ByteArray → Asn
  | none => pureA (p = .pointer none)
  | some k => atA 9 p #[encS k]
theorem St.kidoutS {w0 w : World} {fp0 : List Nat} {L : List Asn} {h i : Nat} {cs : List TS} {bs : List Nat} {c : TS} {cb : Nat} (hl : bs.length = cs.length) (hc : cs[i]? = some c) (hb : bs[i]? = some cb) :
    St w0 fp0 (starA (List.zipWith (treeS h) cs bs) :: L) w ↔ St w0 fp0 (treeS h c cb :: restS h i (i + 1) cs bs :: L) w := by
  rw [zip3S h i (i + 1) (Nat.le_succ i) cs bs hl, mid1S hc, mid1S hb]
  have hp : ((List.zipWith (treeS h) (cs.take i) (bs.take i) ++ (List.zipWith (treeS h) [c] [cb] ++ List.zipWith (treeS h) (cs.drop (i + 1)) (bs.drop (i + 1)))) ++ L).Perm ((List.zipWith (treeS h) (cs.take i) (bs.take i) ++ List.zipWith (treeS h) (cs.drop (i + 1)) (bs.drop (i + 1))) ++ (treeS h c cb :: L)) := by
    classical
    refine List.perm_iff_count.2 fun a => ?_
    simp only [List.zipWith, List.cons_append, List.nil_append, List.count_append, List.count_cons]
    omega
  constructor
  · intro h0
    have h1 : St w0 fp0 (restS h i (i + 1) cs bs :: treeS h c cb :: L) w := St.star.2 ((St.star.1 h0).perm hp)
    exact h1.perm (List.Perm.swap _ _ _)
  · intro h0
    have h1 : St w0 fp0 (restS h i (i + 1) cs bs :: treeS h c cb :: L) w := h0.perm (List.Perm.swap _ _ _)
    exact St.star.2 ((St.star.1 h1).perm hp.symm)
/-- The state of a collection. -/
def CoLS (h : Nat) (es : M ByteArray Int) (cs : List TS) (b : Nat) (ks vs ps : Value) (bs : List Nat) (lo hi : Option ByteArray) (pl ph : Value) (R : List Asn) (v : Value) (l : M ByteArray Int) : List Asn :=
  entS v l :: blkA b 85 #[ks, vs, ps] :: slA 9 ks (keysS es) :: slA 3 vs (valsS es) :: slA 82 ps (bs.map ptrS) :: starA (List.zipWith (kidS h) cs bs) :: optAS pl lo :: optAS ph hi :: R
theorem CoL_lookS {w0 w : World} {fp0 : List Nat} {h : Nat} {es : M ByteArray Int} {cs : List TS} {b : Nat} {ks vs ps : Value} {bs : List Nat} {lo hi : Option ByteArray} {pl ph : Value} {R : List Asn} {v : Value} {l : M ByteArray Int} (hs : St w0 fp0 (CoLS h es cs b ks vs ps bs lo hi pl ph R v l) w) :
    ∃ ka kc va vc pa pc, ks = .slice ka es.length kc ∧ vs = .slice va es.length vc ∧ ps = .slice pa bs.length pc := by
  obtain ⟨_, h1⟩ := hs.has 2 rfl
  obtain ⟨_, h2⟩ := hs.has 3 rfl
  obtain ⟨_, h3⟩ := hs.has 4 rfl
  obtain ⟨ka, kc, e1, _⟩ := sl_get h1
  obtain ⟨va, vc, e2, _⟩ := sl_get h2
  obtain ⟨pa, pc, e3, _⟩ := sl_get h3
  rw [keysS_length] at e1
  rw [valsS_length] at e2
  rw [List.length_map] at e3
  exact ⟨ka, kc, va, vc, pa, pc, e1, e2, e3⟩
theorem CoL_cellsS {w0 w : World} {fp0 : List Nat} {h : Nat} {es : M ByteArray Int} {cs : List TS} {b : Nat} {ks vs ps : Value} {bs : List Nat} {lo hi : Option ByteArray} {pl ph : Value} {R : List Asn} {v : Value} {l : M ByteArray Int} (hs : St w0 fp0 (CoLS h es cs b ks vs ps bs lo hi pl ph R v l) w) :
    w.cell? ⟨b, 0, none⟩ = some ks ∧ w.cell? ⟨b, 1, none⟩ = some vs ∧ w.cell? ⟨b, 2, none⟩ = some ps ∧ b < w.heap.size ∧ (∃ f, (blkA b 85 #[ks, vs, ps]).p w f) ∧ KeysS w es ks := by
  obtain ⟨_, h1⟩ := hs.has 1 rfl
  obtain ⟨_, h2⟩ := hs.has 2 rfl
  exact ⟨(blk_get h1).1 0, (blk_get h1).1 1, (blk_get h1).1 2, (blk_get h1).2.2, ⟨_, h1⟩, ⟨_, h2⟩⟩
def ColS (w0 : World) (fp0 : List Nat) (h : Nat) (x : TS) (b : Nat) (lo hi : Option ByteArray) (pl ph vo : Value) (l : M ByteArray Int) (R : List Asn) (w : World) : Prop :=
  Calls Try.prog 48 #[.pointer (some ⟨b, 0, none⟩), vo, pl, ph] w fun e w' => ∃ v', e = .returned v' ∧ St w0 fp0 (entS v' (l ++ selM lo hi (toL h x)) :: treeS h x b :: optAS pl lo :: optAS ph hi :: R) w'
set_option maxHeartbeats 8000000 in
set_option maxRecDepth 20000 in
theorem colstepS {o : Nat} (ho' : o ≤ 1024) (h : Nat) (x : TS) (b : Nat) (lo hi : Option ByteArray) (pl ph vo : Value) (l : M ByteArray Int) (w0 w : World) (fp0 : List Nat) (R : List Asn) (lob : Nat) (hb : Body o h lob (o - 1) x) (ha : AscM (toL h x)) (hlen : l.length + (toL h x).length < 1099511627776)
    (HREC : ∀ h', h = h' + 1 → ∀ (x : TS) (b : Nat) (vo : Value) (l : M ByteArray Int) (w : World) (R : List Asn) (lob : Nat), Body o h' lob (o - 1) x → AscM (toL h' x) → l.length + (toL h' x).length < 1099511627776 →
      St w0 fp0 (entS vo l :: treeS h' x b :: optAS pl lo :: optAS ph hi :: R) w → ColS w0 fp0 h' x b lo hi pl ph vo l R w)
    (hS : St w0 fp0 (entS vo l :: treeS h x b :: optAS pl lo :: optAS ph hi :: R) w) : ColS w0 fp0 h x b lo hi pl ph vo l R w := by
    have HREC2 := Lib.hid HREC
    clear HREC
    unfold ColS
    obtain ⟨ks, vs, ps, bs, hl, hS1⟩ := (hS.perm (List.Perm.swap _ _ _)).openNS
    have hS2 : St w0 fp0 (CoLS h x.es x.cs b ks vs ps bs lo hi pl ph R vo l) w := by
      refine hS1.perm ?_
      unfold CoLS
      classical
      refine List.perm_iff_count.2 fun a => ?_
      simp only [List.count_cons]
      omega
    have HSb : RowKit.Hid (∀ wx v l', St w0 fp0 (CoLS h x.es x.cs b ks vs ps bs lo hi pl ph R v l') wx → St w0 fp0 (entS v l' :: treeS h x b :: optAS pl lo :: optAS ph hi :: R) wx) := by
      intro wx v l' h0
      have h1 : St w0 fp0 (treeS h x b :: entS v l' :: optAS pl lo :: optAS ph hi :: R) wx := by
        rw [show treeS h x b = treeS h (.node x.es x.cs) b by rw [T.eta]]
        refine St.shutNS (ks := ks) (vs := vs) (ps := ps) hl (h0.perm ?_)
        unfold CoLS
        classical
        refine List.perm_iff_count.2 fun a => ?_
        simp only [List.count_cons]
        omega
      exact h1.perm (List.Perm.swap _ _ _)
    obtain ⟨ka, kc, va, vc, pa, pc, rfl, rfl, rfl⟩ := CoL_lookS hS2
    have HS := Lib.hid hS2
    have hn40 : x.es.length < 1099511627776 := by have := (sub_toL h x).length_le; omega
    have hae : AscM x.es := asc_es ha
    obtain ⟨c0, -, -, cl, ⟨_, hbk⟩, hk⟩ := CoL_cellsS hS2
    have HF := Lib.hid (fun k => findS_calls b _ _ _ x.es k w hbk hk hae hn40)
    unfold ptrS at HF
    have hsi := startI_le lo x.es
    have Hb := Lib.hid hb
    have Ha := Lib.hid ha
    have Hl := Lib.hid hl
    have Hae := Lib.hid hae
    have Hlen := Lib.hid hlen
    have Hstart := Lib.hid (sel_start hb ha lo hi)
    have Hend := Lib.hid (part_end hb)
    have Ho' := Lib.hid ho'
    obtain ⟨n, hn⟩ : ∃ n, x.es.length = n := ⟨_, rfl⟩
    obtain ⟨m, hm⟩ : ∃ m, bs.length = m := ⟨_, rfl⟩
    have Hn := Lib.hid hn
    have Hm := Lib.hid hm
    obtain ⟨i0, hi0⟩ : ∃ i0, startI lo x.es = i0 := ⟨_, rfl⟩
    have Hi0 := Lib.hid hi0
    rw [hn] at c0 hn40 hsi HS HSb
    rw [hm] at HS HSb
    rw [hi0] at hsi Hstart
    clear hS hS1 hS2 hb ha hl hae hlen hn hm hbk hk hi0 ho'
    go_enter Try.func48, Try.ntmps48
    go_upto_region 2 with (fail)
    go_cut [11] (fun z wx => z = .bool lo.isSome ∧ wx = w)
    case first =>
      cases lo with
      | none =>
        obtain ⟨_, hq⟩ := HS.out.has 6 rfl
        obtain rfl := hq.1
        go_wp2_with fail
        go_meet
        exact ⟨rfl, rfl⟩
      | some k =>
        obtain ⟨_, lb, rfl, hq⟩ := HS.out.has 6 rfl
        clear hq
        go_wp2_with fail
        go_meet
        exact ⟨rfl, rfl⟩
    obtain ⟨rfl, rfl⟩ := hcut
    go_upto_if 11 with (fail)
    go_cut [9] (fun z wx => z = .int .i64 i0 ∧ RowKit.Hid (St w0 fp0 (CoLS h x.es x.cs b (.slice ka n kc) (.slice va n vc) (.slice pa m pc) bs lo hi pl ph R vo l) wx))
    case first =>
      cases lo with
      | none =>
        obtain ⟨_, hq⟩ := HS.out.has 6 rfl
        obtain rfl := hq.1
        clear hq
        go_wp2_with fail
        go_meet
        exact ⟨by rw [← Hi0.out]; rfl, HS⟩
      | some k =>
        obtain ⟨_, lb, rfl, hq⟩ := HS.out.has 6 rfl
        have c3 := (blk_get hq).1 0
        have c3l := (blk_get hq).2.2
        simp only [List.getElem?_toArray, List.getElem?_cons_zero] at c3
        have HF1 := Lib.hid (HF.out k)
        obtain ⟨kk, hkk⟩ : ∃ kk, encS k = kk := ⟨_, rfl⟩
        rw [hkk] at c3 HF1
        have e0 : posK x.es k = i0 := Hi0.out
        rw [e0] at HF1
        generalize hasK x.es k = bb at *
        clear hq hkk e0 HF
        go_wp2_with fail
        (with_reducible refine HF1.out.mono ?_)
        rintro e w1 ⟨rfl, hb1⟩
        have HS1 := Lib.hid (HS.out.mono hb1)
        clear hb1 HF1 c3 c3l c0 cl
        go_wp2
        go_meet
        exact ⟨rfl, HS1⟩
    obtain ⟨rfl, HS1⟩ := hcut
    clear HF HS c0 cl
    go_wp2_with fail
    go_loopg [1, 9] (n + 1 - i0) (fun g z i wr => ∃ k : Nat, i = .int .i64 k ∧ g + k = n + 1 ∧ i0 ≤ k ∧ k ≤ n ∧ RowKit.Hid (St w0 fp0 (CoLS h x.es x.cs b (.slice ka n kc) (.slice va n vc) (.slice pa m pc) bs lo hi pl ph R z (l ++ selM lo hi (partL h x k))) wr))
    case atStart => exact ⟨i0, rfl, by omega, Nat.le_refl _, hsi, by rw [Hstart.out, List.append_nil]; exact HS1⟩
    case round =>
      obtain ⟨k, rfl, hg, hik, hkn, HSr⟩ := hrel
      clear HS1
      obtain ⟨c0, c1, c2, cl, ⟨_, hbk⟩, -⟩ := CoL_cellsS HSr.out
      have HL := Lib.hid (leafS_calls b _ _ pa m pc wr hbk)
      unfold ptrS at HL
      obtain ⟨lf, hlf⟩ : ∃ lf, (m == 0) = lf := ⟨_, rfl⟩
      rw [hlf] at HL
      have Hlf := Lib.hid hlf
      clear hlf
      have hle : decide ((k : Int) ≤ n) = true := by simp; omega
      have Hg := Lib.hid hg
      clear hbk hg c1
      go_wp2_with fail
      (with_reducible refine HL.out.mono ?_)
      rintro e w1 ⟨rfl, rfl⟩
      clear HL
      go_upto_if 31 with (fail)
      go_cut [1] from 20 to 86 (fun z wx => RowKit.Hid (St w0 fp0 (CoLS h x.es x.cs b (.slice ka n kc) (.slice va n vc) (.slice pa m pc) bs lo hi pl ph R z (l ++ selM lo hi (partL h x k ++ kidL h x k))) wx))
      case first =>
        cases h with
        | zero =>
          have hm0 : m = 0 := by rw [← Hm.out, Hl.out, Hb.out.2.2]; rfl
          obtain rfl : lf = true := by rw [← Hlf.out, hm0]; rfl
          clear hm0
          go_wp2_with fail
          go_meet
          show RowKit.Hid _
          rw [show kidL 0 x k = [] from rfl, List.append_nil]
          exact HSr
        | succ h =>
          have b3 := Hb.out.2.2.1
          have b4 := Hb.out.2.2.2
          have hkc : k < x.cs.length := by have := Hn.out; omega
          obtain ⟨c, hc⟩ : ∃ c, x.cs[k]? = some c := ⟨_, List.getElem?_eq_getElem hkc⟩
          obtain ⟨cb, hcb⟩ : ∃ cb, bs[k]? = some cb := ⟨_, List.getElem?_eq_getElem (by rw [Hl.out]; exact hkc)⟩
          have hkm : (k : Int) < m := by have := (List.getElem?_eq_some_iff.1 hcb).1; have := Hm.out; omega
          obtain rfl : lf = false := by rw [← Hlf.out]; exact beq_false_of_ne (by omega)
          have hkl : kidL (h + 1) x k = toL h c := by simp only [kidL, hc]
          have hsum : (partL (h + 1) x k).length + (toL h c).length ≤ (toL (h + 1) x).length := by
            rw [← hkl]
            by_cases e : k < x.es.length
            · obtain ⟨rest, hr⟩ := part_rest Hb.out (List.getElem?_eq_getElem e)
              rw [hr]
              simp only [List.length_append]
              omega
            · have e2 : k = x.es.length := by have := Hn.out; omega
              rw [Hend.out, e2, List.length_append]
              exact Nat.le_refl _
          have hfl : (selM lo hi (partL (h + 1) x k)).length ≤ (partL (h + 1) x k).length := List.length_filter_le _ _
          obtain ⟨_, hp4⟩ := HSr.out.has 4 rfl
          obtain ⟨gp, pc', epa, -, -⟩ := sl_some hp4 (by rw [List.length_map]; have := (List.getElem?_eq_some_iff.1 hcb).1; omega)
          injection epa with epa e2 e3
          clear e2 e3
          subst epa
          obtain ⟨c3, -, c3l, -⟩ := sl_elem hp4 k (by rw [List.length_map]; exact (List.getElem?_eq_some_iff.1 hcb).1)
          simp only [List.getElem_map] at c3
          rw [(List.getElem?_eq_some_iff.1 hcb).2] at c3
          unfold ptrS at c3
          have Hkl := Lib.hid hkl
          have hin : St w0 fp0 (entS u1 (l ++ selM lo hi (partL (h + 1) x k)) :: treeS h c cb :: optAS pl lo :: optAS ph hi :: restS h k (k + 1) x.cs bs :: blkA b 85 #[.slice ka n kc, .slice va n vc, .slice (some ⟨gp, 0, none⟩) m pc] :: slA 9 (.slice ka n kc) (keysS x.es) :: slA 3 (.slice va n vc) (valsS x.es) :: slA 82 (.slice (some ⟨gp, 0, none⟩) m pc) (bs.map ptrS) :: R) wr := by
            have h1 : St w0 fp0 (starA (List.zipWith (treeS h) x.cs bs) :: (entS u1 (l ++ selM lo hi (partL (h + 1) x k)) :: blkA b 85 #[.slice ka n kc, .slice va n vc, .slice (some ⟨gp, 0, none⟩) m pc] :: slA 9 (.slice ka n kc) (keysS x.es) :: slA 3 (.slice va n vc) (valsS x.es) :: slA 82 (.slice (some ⟨gp, 0, none⟩) m pc) (bs.map ptrS) :: optAS pl lo :: optAS ph hi :: R)) wr := by
              refine HSr.out.perm ?_
              unfold CoLS
              classical
              refine List.perm_iff_count.2 fun a => ?_
              simp only [List.count_cons, kidS]
              omega
            refine ((St.kidoutS Hl.out hc hcb).1 h1).perm ?_
            classical
            refine List.perm_iff_count.2 fun a => ?_
            simp only [List.count_cons]
            omega
          have HIH := Lib.hid (HREC2.out h rfl c cb u1 _ wr _ _ (b4 c (List.mem_of_getElem? hc)) (asc_kid2S b3 hc Ha.out) (by have := Hlen.out; rw [List.length_append]; omega) hin)
          unfold ColS at HIH
          have Hout : RowKit.Hid (∀ wx v, St w0 fp0 (entS v (l ++ selM lo hi (partL (h + 1) x k) ++ selM lo hi (toL h c)) :: treeS h c cb :: optAS pl lo :: optAS ph hi :: restS h k (k + 1) x.cs bs :: blkA b 85 #[.slice ka n kc, .slice va n vc, .slice (some ⟨gp, 0, none⟩) m pc] :: slA 9 (.slice ka n kc) (keysS x.es) :: slA 3 (.slice va n vc) (valsS x.es) :: slA 82 (.slice (some ⟨gp, 0, none⟩) m pc) (bs.map ptrS) :: R) wx →
              St w0 fp0 (CoLS (h + 1) x.es x.cs b (.slice ka n kc) (.slice va n vc) (.slice (some ⟨gp, 0, none⟩) m pc) bs lo hi pl ph R v (l ++ selM lo hi (partL (h + 1) x k ++ kidL (h + 1) x k))) wx) := by
            intro wx v h0
            rw [Hkl.out, selM_append, ← List.append_assoc]
            have h1 : St w0 fp0 (treeS h c cb :: restS h k (k + 1) x.cs bs :: (entS v (l ++ selM lo hi (partL (h + 1) x k) ++ selM lo hi (toL h c)) :: blkA b 85 #[.slice ka n kc, .slice va n vc, .slice (some ⟨gp, 0, none⟩) m pc] :: slA 9 (.slice ka n kc) (keysS x.es) :: slA 3 (.slice va n vc) (valsS x.es) :: slA 82 (.slice (some ⟨gp, 0, none⟩) m pc) (bs.map ptrS) :: optAS pl lo :: optAS ph hi :: R)) wx := by
              refine h0.perm ?_
              classical
              refine List.perm_iff_count.2 fun a => ?_
              simp only [List.count_cons]
              omega
            refine ((St.kidoutS Hl.out hc hcb).2 h1).perm ?_
            unfold CoLS
            classical
            refine List.perm_iff_count.2 fun a => ?_
            simp only [List.count_cons, kidS]
            omega
          clear HREC2 b3 b4 hkc hc hcb hkl hsum hfl hp4 hin HSr c0 hle hik hkn hn40 hsi
          go_wp2_with fail
          (with_reducible refine HIH.out.mono ?_)
          rintro e w1 ⟨v1, rfl, hs1⟩
          have HS1 := Lib.hid (Hout.out _ _ hs1)
          clear hs1 HIH Hout c2 cl c3 c3l
          go_wp2
          go_meet
          exact HS1
      clear HSr c0 c2 cl hle Hlf
      have HSr := hcut
      clear hcut
      obtain ⟨c0, c1, c2, cl, -, -⟩ := CoL_cellsS HSr.out
      clear c1 c2
      by_cases hke : k = n
      · subst hke
        have hb1 : ((k : Int) == k) = true := by simp
        have HR : RowKit.Hid (∀ q, St w0 fp0 (entS u1 (l ++ selM lo hi (toL h x)) :: treeS h x b :: optAS pl lo :: optAS ph hi :: R) (wc.drewN q)) := by
          intro q
          refine HSb.out _ _ _ ?_
          rw [Hend.out, Hn.out]
          exact HSr.out.mono (below_drewN _ _)
        clear HSr
        go_wp2
        go_quiet (fail)
        go_wp2
        go_ret
        exact ⟨_, rfl, HR.out _⟩
      · have hkl : k < x.es.length := by have := Hn.out; omega
        obtain ⟨y, hy⟩ : ∃ y, x.es[k]? = some y := ⟨_, List.getElem?_eq_getElem hkl⟩
        have hy' := (List.getElem?_eq_some_iff.1 hy).2
        have hkn' : (k : Int) < n := by have := Hn.out; omega
        have hb1 : ((k : Int) == n) = false := beq_false_of_ne (by omega)
        obtain ⟨_, hp2⟩ := HSr.out.has 2 rfl
        obtain ⟨_, hp3⟩ := HSr.out.has 3 rfl
        obtain ⟨gk0, _, eka, -, -⟩ := sl_some hp2 (by rw [keysS_length]; omega)
        injection eka with eka e2 e3
        clear e2 e3
        subst eka
        obtain ⟨gv0, _, eva, -, -⟩ := sl_some hp3 (by rw [valsS_length]; omega)
        injection eva with eva e2 e3
        clear e2 e3
        subst eva
        obtain ⟨c3, -, c3l, -⟩ := sl_elem hp2 k (by rw [keysS_length]; exact hkl)
        simp only [keysS, List.getElem_map] at c3
        rw [hy'] at c3
        obtain ⟨rest, hrest⟩ := part_rest Hb.out hy
        have hasc := Ha.out
        rw [hrest] at hasc
        have Hstop : RowKit.Hid (∀ kh, hi = some kh → ¬ ltK y.1 kh → ∀ q, St w0 fp0 (entS u1 (l ++ selM lo hi (toL h x)) :: treeS h x b :: optAS pl lo :: optAS ph hi :: R) (wc.drewN q)) := by
          intro kh ekh hlt q
          refine HSb.out _ _ _ ?_
          rw [hrest, ekh, sel_stop hasc hlt, ← ekh]
          exact HSr.out.mono (below_drewN _ _)
        have hlen2 : (l ++ selM lo hi (partL h x k ++ kidL h x k)).length + 1 < 1099511627776 := by
          have h1 : (selM lo hi (partL h x k ++ kidL h x k)).length ≤ (partL h x k ++ kidL h x k).length := List.length_filter_le _ _
          have h2 := congrArg List.length hrest
          have := Hlen.out
          simp only [List.length_append, List.length_cons] at h1 h2 ⊢
          omega
        have Hgo : RowKit.Hid ((∀ kh, hi = some kh → ltK y.1 kh) → l ++ selM lo hi (partL h x k ++ kidL h x k) ++ [y] = l ++ selM lo hi (partL h x (k + 1))) := by
          intro hh
          show _ = _
          rw [part_succ Hb.out hy, selM_append _ _ (_ ++ _) [y], sel_take Hae.out (by rw [Hi0.out]; exact hik) hy hh, List.append_assoc]
        have Hy := Lib.hid hy
        have Hlen2 := Lib.hid hlen2
        obtain ⟨ek, hek⟩ : ∃ ek, encS y.1 = ek := ⟨_, rfl⟩
        have Hek := Lib.hid hek
        rw [hek] at c3
        have Hik := Lib.hid hik
        have Hkl := Lib.hid hkl
        have Hkn := Lib.hid hkn'
        clear hy hy' hp2 hp3 hrest hasc hlen2 hek hke hik hkn hkl rest
        go_upto_region 8 with (fail)
        go_cut [67] from 20 to 86 (fun z wx => ∃ t : Bool, z = .bool t ∧ (∃ q, wx = wc.drewN q) ∧ (t = true → ∃ kh, hi = some kh ∧ ¬ ltK y.1 kh) ∧ (t = false → ∀ kh, hi = some kh → ltK y.1 kh))
        case first =>
          cases hi with
          | none =>
            obtain ⟨_, hq⟩ := HSr.out.has 7 rfl
            obtain rfl := hq.1
            clear hq
            go_quiet (fail)
            go_step
            go_step
            go_meet
            exact ⟨false, rfl, ⟨_, rfl⟩, by simp, by simp⟩
          | some kh =>
            obtain ⟨_, hb0, rfl, hq⟩ := HSr.out.has 7 rfl
            have c4 := (blk_get hq).1 0
            have c4l := (blk_get hq).2.2
            simp only [List.getElem?_toArray, List.getElem?_cons_zero] at c4
            have HC : RowKit.Hid (∀ w, Calls Try.prog 49 #[ek, encS kh] w fun e w' => e = .returned (.int .i64 (KOrd.cmp y.1 kh)) ∧ w' = w) := by
              intro w
              rw [← Hek.out]
              exact cmpqS_calls y.1 kh w
            have Hlt : RowKit.Hid (ltK y.1 kh ↔ KOrd.cmp y.1 kh < 0) := Iff.rfl
            generalize (KOrd.cmp y.1 kh : Int) = r at *
            generalize encS kh = eh at *
            clear hq
            go_quiet ((go_at_call 49; exact Calls.quiet_of_same (HC.out _)))
            go_step
            go_step
            go_meet
            refine ⟨decide (0 ≤ r), rfl, ⟨_, rfl⟩, fun h => ⟨kh, rfl, ?_⟩, fun h kh' e => ?_⟩
            · rw [Hlt.out]; simpa using h
            · injection e with e
              subst e
              rw [Hlt.out]; simpa using h
        obtain ⟨t, rfl, ⟨q, rfl⟩, Ht1, Ht2⟩ := hcut
        clear c0 c3 c3l cl hb1
        cases t with
        | true =>
          obtain ⟨kh, ekh, hlt⟩ := Ht1 rfl
          have HR := Lib.hid (Hstop.out kh ekh hlt q)
          clear Ht1 Ht2 hlt ekh HSr
          go_wp2
          go_ret
          exact ⟨_, rfl, HR.out⟩
        | false =>
          have HG := Lib.hid (Hgo.out (Ht2 rfl))
          have HSq := Lib.hid (HSr.out.mono (below_drewN wc q))
          obtain ⟨L, hL⟩ : ∃ L, l ++ selM lo hi (partL h x k ++ kidL h x k) = L := ⟨_, rfl⟩
          rw [hL] at HG HSq Hlen2
          clear Ht1 Ht2 HSr hL Hstop Hgo
          go_upto_region 10 with (fail)
          refine rCo10S (w0 := w0) (fp0 := fp0) b gk0 n kc gv0 n vc (.slice pa m pc) u1 x.es L y k Hy.out (by have := Hkl.out; have := Hn.out; omega) (by have := Hkl.out; have := Hn.out; omega) Hn.out.symm Hn.out.symm Hlen2.out (slA 82 (.slice pa m pc) (bs.map ptrS) :: starA (List.zipWith (kidS h) x.cs bs) :: optAS pl lo :: optAS ph hi :: R) _ (by kernel_rfl) rfl rfl rfl rfl ?_ ?_
          · have h0 : St w0 fp0 (emp :: pureA (u1 = u1) :: CoLS h x.es x.cs b (.slice (some ⟨gk0, 0, none⟩) n kc) (.slice (some ⟨gv0, 0, none⟩) n vc) (.slice pa m pc) bs lo hi pl ph R u1 L) (wc.drewN q) := St.emp.2 (St.pure.2 ⟨rfl, HSq.out⟩)
            have h1 : St w0 fp0 (emp :: entS u1 L :: pureA (u1 = u1) :: blkA b 85 #[.slice (some ⟨gk0, 0, none⟩) n kc, .slice (some ⟨gv0, 0, none⟩) n vc, .slice pa m pc] :: slA 9 (.slice (some ⟨gk0, 0, none⟩) n kc) (keysS x.es) :: slA 3 (.slice (some ⟨gv0, 0, none⟩) n vc) (valsS x.es) :: slA 82 (.slice pa m pc) (bs.map ptrS) :: starA (List.zipWith (kidS h) x.cs bs) :: optAS pl lo :: optAS ph hi :: R) (wc.drewN q) := h0.perm (List.Perm.cons _ (List.Perm.swap _ _ _))
            exact h1
          intro u w3 h3
          have h4 : St w0 fp0 (boxsA 95 (u 85) #[encS y.1, valS y.2] :: pureA (u 1 = u 86) :: CoLS h x.es x.cs b (.slice (some ⟨gk0, 0, none⟩) n kc) (.slice (some ⟨gv0, 0, none⟩) n vc) (.slice pa m pc) bs lo hi pl ph R (u 86) (L ++ [y])) w3 := by
            refine h3.perm ?_
            unfold CoLS entS
            rw [entsS_snoc, List.length_append, List.length_singleton]
            exact (by classical exact List.perm_iff_count.2 fun a => by simp only [pick_true, List.cons_append, List.nil_append, List.count_cons] <;> omega)
          obtain ⟨eu, h5⟩ := St.pure.1 h4.drop
          rw [← eu, HG.out] at h5
          have H5 := Lib.hid h5
          clear h3 h4 h5 HG HSq eu
          simp only [putL, List.map, List.foldl, Act.put, List.setIfInBounds_toArray, List.set_cons_succ, List.set_cons_zero]
          have hkb : (k : Int) + 1 ≤ 1099511627776 := by have := Hkl.out; have := Hn.out; omega
          go_wp2
          go_roundg (n - k)
          case rel => exact ⟨k + 1, by go_num, by have := Hkl.out; have := Hn.out; omega, by have := Hik.out; omega, by have := Hkl.out; have := Hn.out; omega, H5⟩
          case measure => have := Hg.out; have := Hkl.out; have := Hn.out; omega
theorem collectS_calls {o : Nat} (ho' : o ≤ 1024) (lo hi : Option ByteArray) (pl ph : Value) (w0 : World) (fp0 : List Nat) : ∀ (h : Nat) (x : TS) (b : Nat) (vo : Value) (l : M ByteArray Int) (w : World) (R : List Asn) (lob : Nat), Body o h lob (o - 1) x → AscM (toL h x) → l.length + (toL h x).length < 1099511627776 →
    St w0 fp0 (entS vo l :: treeS h x b :: optAS pl lo :: optAS ph hi :: R) w → ColS w0 fp0 h x b lo hi pl ph vo l R w
  | 0, x, b, vo, l, w, R, lob, hb, ha, hlen, hS => colstepS ho' 0 x b lo hi pl ph vo l w0 w fp0 R lob hb ha hlen (fun _ e => nomatch e) hS
  | h + 1, x, b, vo, l, w, R, lob, hb, ha, hlen, hS => colstepS ho' (h + 1) x b lo hi pl ph vo l w0 w fp0 R lob hb ha hlen (fun h' e => by
    obtain rfl : h = h' := by omega
    exact collectS_calls ho' lo hi pl ph w0 fp0 h) hS
end Go.Proofs.Ytldofiankhimjaa
/- A tree is not higher than it has entries. -/
namespace Go.Proofs.Ytldofiankhimjaa
theorem hgt_le {κ ν : Type} {o : Nat} (ho : 3 ≤ o) : ∀ {h lo hi : Nat} {x : T κ ν}, Body o h lo hi x → 0 < x.es.length → h + 1 ≤ (toL h x).length
  | 0, lo, hi, x, hb, hp => hp
  | h + 1, lo, hi, x, hb, hp => by
    obtain ⟨h1, h2, h3, h4⟩ := hb
    obtain ⟨c, C, hcs⟩ : ∃ c C, x.cs = c :: C := by
      cases hx : x.cs with
      | nil => rw [hx] at h3; simp at h3
      | cons c C => exact ⟨c, C, rfl⟩
    have hc := h4 c (by rw [hcs]; simp)
    have h5 := hc.lo
    have h6 := (least_two ho).1
    have h7 := hgt_le ho hc (by omega)
    have e : toL (h + 1) x = toL h c ++ post (toL h) x.es C := by
      rw [← T.eta x, hcs]
      rfl
    have h8 := (sub_post (f := toL h) x.es C).length_le
    rw [e, List.length_append]
    omega
/-- The height of a root: small, for a list that is small. -/
theorem root_hgt {κ ν : Type} {o h lo hi : Nat} {x : T κ ν} (ho : 3 ≤ o) (hb : Body o h lo hi x) (hr : h ≠ 0 → 0 < lo) : h ≤ (toL h x).length := by
  by_cases h0 : h = 0
  · omega
  · have := hgt_le ho hb (by have := hb.lo; have := hr h0; omega)
    omega
end Go.Proofs.Ytldofiankhimjaa
/- Valid: a tree as it should be is valid (S). -/
namespace Go.Proofs.Ytldofiankhimjaa
open Go.RowKit
set_option maxHeartbeats 4000000 in
theorem ValidS_calls {o : Nat} (ho : 3 ≤ o) (ho' : o ≤ 1024) (h : Nat) (l : M ByteArray Int) (tb : Nat) (w0 w : World) (fp0 : List Nat) (R : List Asn) (hlen : l.length < 1099511627775)
    (hS : St w0 fp0 (objS o h l tb :: R) w) :
    Calls Try.prog 23 #[.pointer (some ⟨tb, 0, none⟩)] w fun e w' => e = .returned (.bool true) ∧ St w0 fp0 (objS o h l tb :: R) w' := by
  obtain ⟨x, rb, hg, hS1⟩ := hS.openOS
  obtain ⟨f1, hb⟩ := hS1.has 1 rfl
  obtain ⟨f0, ht⟩ := hS1.has 0 rfl
  have c0 := (blk_get hb).1 0
  have cl := (blk_get hb).2.2
  simp only [List.getElem?_toArray, List.getElem?_cons_zero] at c0
  have h1 : St w0 fp0 (entS (.slice none 0 0) [] :: treeS h x rb :: optAS (.pointer none) none :: optAS (.pointer none) none :: (blkA tb 87 #[ptrS rb, .int .i64 o, .int .i64 l.length] :: R)) w := by
    have h2 : St w0 fp0 (optAS (.pointer none) none :: optAS (.pointer none) none :: treeS h x rb :: (blkA tb 87 #[ptrS rb, .int .i64 o, .int .i64 l.length] :: R)) w := St.pure.2 ⟨rfl, St.pure.2 ⟨rfl, hS1⟩⟩
    refine (h2.nilR 95 2).perm ?_
    classical
    refine List.perm_iff_count.2 fun a => ?_
    simp only [List.count_cons, entS, List.length_nil, entsS, List.flatMap_nil]
    omega
  have HC := Lib.hid (collectS_calls ho' none none (.pointer none) (.pointer none) w0 fp0 h x rb (.slice none 0 0) [] w _ _ hg.1 hg.2.1 (by rw [hg.2.2]; simpa using Nat.lt_succ_of_lt hlen) h1)
  unfold ColS at HC
  unfold ptrS at HC c0
  have Hg := Lib.hid hg
  have Ho := Lib.hid ho
  have Ho' := Lib.hid ho'
  have Hlen := Lib.hid hlen
  have Hh : RowKit.Hid (h < 1099511627776) := by
    have h3 := root_hgt ho hg.1 (fun h0 => by simp [rootBS, h0])
    rw [hg.2.2] at h3
    show h < _
    omega
  clear hS hS1 hg hb ht h1 ho ho' hlen
  go_enter Try.func23, Try.ntmps23
  go_wp2_with fail
  (with_reducible refine HC.out.mono ?_)
  rintro e w1 ⟨v1, rfl, h2⟩
  rw [List.nil_append, selM_all, Hg.out.2.2] at h2
  obtain ⟨_, hr⟩ := h2.has 0 rfl
  obtain ⟨_, hb⟩ := h2.has 4 rfl
  obtain ⟨_, ht⟩ := h2.has 1 rfl
  have c0 := (blk_get hb).1 0
  have c2 := (blk_get hb).1 2
  have cl := (blk_get hb).2.2
  simp only [List.getElem?_toArray, List.getElem?_cons_zero, List.getElem?_cons_succ] at c0 c2
  have HT : RowKit.Hid (TbS w1 o tb) := ⟨_, _, _, hb⟩
  have HSe : RowKit.Hid (SeesS w1 h x rb) := ⟨_, ht⟩
  have HF : RowKit.Hid (∀ w', Below w1.heap.size w1 w' → St w0 fp0 (objS o h l tb :: R) w') := by
    intro w' hbw
    refine St.shutOS (rb := rb) Hg.out ?_
    have h3 := h2.mono hbw
    have h4 : St w0 fp0 ([entS v1 l, optAS (.pointer none) none, optAS (.pointer none) none] ++ (treeS h x rb :: blkA tb 87 #[ptrS rb, .int .i64 o, .int .i64 l.length] :: R)) w' := by
      refine h3.perm ?_
      classical
      refine List.perm_iff_count.2 fun a => ?_
      simp only [List.cons_append, List.nil_append, List.count_cons, ptrS]
      omega
    exact St.drop (St.drop (St.drop h4))
  obtain ⟨ga, gc, rfl, -, -, hcell⟩ := row_shape hr
  have Hcell : RowKit.Hid (∀ i (hi : i < l.length), ∃ g, ga = some ⟨g, 0, none⟩ ∧ g < w1.heap.size ∧ w1.cell? ⟨g, i * 2, none⟩ = some (encS l[i].1)) := by
    intro i hi
    obtain ⟨g, e, hgl, hc, -⟩ := hcell (i * 2) (by omega)
    rw [(entsS_at l i hi).1] at hc
    exact ⟨g, e, hgl, hc⟩
  obtain ⟨N, hN⟩ : ∃ N, l.length = N := ⟨_, rfl⟩
  have HN := Lib.hid hN
  have hN40 : N < 1099511627775 := by have := Hlen.out; omega
  rw [hN] at c2 ⊢
  clear h2 hr hb ht hcell hN HC
  go_wp2
  go_loopg [4] N (fun g z wr => ∃ k : Nat, z = .int .i64 ((k : Int) + 1) ∧ g + k = N ∧ (k = 0 ∨ k < N) ∧ RowKit.Hid (Below w1.heap.size w1 wr))
  case atStart => exact ⟨0, rfl, rfl, .inl rfl, Below.refl _ _⟩
  case round =>
    obtain ⟨k, rfl, hgk, hk0, Hb⟩ := hrel
    by_cases hk : k + 1 < N
    · obtain ⟨g, e, hg1, d0⟩ := Hcell.out k (by rw [HN.out]; omega)
      obtain ⟨g', e', hg2, d1⟩ := Hcell.out (k + 1) (by rw [HN.out]; omega)
      rw [e] at e'
      injection e' with e'
      injection e' with e'
      subst e'
      have hlt : KOrd.cmp (l[k]'(by rw [HN.out]; omega)).1 (l[k + 1]'(by rw [HN.out]; omega)).1 < 0 := List.pairwise_iff_getElem.1 (by have := Hg.out.2.1; rw [Hg.out.2.2] at this; exact this) k (k + 1) _ _ (by omega)
      have HC : RowKit.Hid (∀ w, Calls Try.prog 49 #[encS (l[k]'(by rw [HN.out]; omega)).1, encS (l[k + 1]'(by rw [HN.out]; omega)).1] w fun e w' => e = .returned (.int .i64 (KOrd.cmp (l[k]'(by rw [HN.out]; omega)).1 (l[k + 1]'(by rw [HN.out]; omega)).1)) ∧ w' = w) := fun w => cmpqS_calls _ _ w
      have hk1 : (k : Int) + 1 < N := by omega
      replace d0 : wr.cell? ⟨g, k * 2, none⟩ = _ := (Hb.out.cell (p := ⟨g, k * 2, none⟩) hg1).trans d0
      replace d1 : wr.cell? ⟨g, (k + 1) * 2, none⟩ = _ := (Hb.out.cell (p := ⟨g, (k + 1) * 2, none⟩) hg2).trans d1
      replace hg1 : g < wr.heap.size := Nat.lt_of_lt_of_le hg1 Hb.out.size
      generalize KOrd.cmp (l[k]'(by rw [HN.out]; omega)).1 (l[k + 1]'(by rw [HN.out]; omega)).1 = r at *
      generalize encS (l[k]'(by rw [HN.out]; omega)).1 = ek at *
      generalize encS (l[k + 1]'(by rw [HN.out]; omega)).1 = ek1 at *
      subst e
      have hr0 : decide (r ≥ 0) = false := by simp; omega
      have Hgk := Lib.hid hgk
      clear hg2 hlt hk0 hgk c0 c2 cl
      go_upto_region 5 with (fail)
      go_cut [28] (fun z wx => z = .bool false ∧ ∃ q, wx = wr.drewN q)
      case first =>
        go_quiet ((go_at_call 49; exact Calls.quiet_of_same (HC.out _)))
        go_step
        go_step
        go_meet
        exact ⟨by simp <;> omega, _, rfl⟩
      obtain ⟨rfl, q, rfl⟩ := hcut
      have HB2 : RowKit.Hid (Below w1.heap.size w1 (wr.drewN q)) := Hb.out.trans ((below_drewN _ _).mono Hb.out.size)
      clear d0 d1 hg1 HC
      generalize wr.drewN q = wx at *
      go_wp2
      go_roundg (gk - 1)
      case rel => exact ⟨k + 1, by go_num, by have := Hgk.out; omega, .inr (by omega), HB2⟩
      case measure => have := Hgk.out; omega
    · have hk1 : decide ((k : Int) + 1 < N) = false := by simp; omega
      replace c0 : wr.cell? ⟨tb, 0, none⟩ = _ := (Hb.out.cell (p := ⟨tb, 0, none⟩) cl).trans c0
      replace c2 : wr.cell? ⟨tb, 2, none⟩ = _ := (Hb.out.cell (p := ⟨tb, 2, none⟩) cl).trans c2
      replace cl : tb < wr.heap.size := Nat.lt_of_lt_of_le cl Hb.out.size
      have HD := Lib.hid (depthS_calls Ho.out Ho'.out tb h x rb true _ wr (HT.out.below Hb.out) (HSe.out.below Hb.out) Hg.out.1 (fun e => nomatch e) (fun h0 => by have h5 := Hg.out.1.lo; simp [rootBS, h0] at h5; omega) Hh.out)
      unfold DepS at HD
      have hh1 : decide (((h + 1 : Nat) : Int) ≥ 0) = true := by simp; omega
      generalize h + 1 = H at *
      clear hgk hk0 hk
      go_wp2_with fail
      (with_reducible refine HD.out.mono ?_)
      rintro e w2 ⟨rfl, hb2⟩
      have HR := Lib.hid (HF.out _ (Hb.out.trans (hb2.mono Hb.out.size)))
      clear hb2 HD
      go_wp2
      go_ret
      exact ⟨rfl, HR.out⟩
end Go.Proofs.Ytldofiankhimjaa
/- The law BtreeStrings: what a map of texts with their places holds. -/
namespace Go.Proofs.Ytldofiankhimjaa
open Go Go.RowKit
section
variable {κ ν : Type} [KOrd κ]
theorem mem_putK {l : M κ ν} {k : κ} {v : ν} {y : κ × ν} (ha : AscM l) : y ∈ putM l k v ↔ y = (k, v) ∨ (y ∈ l ∧ y.1 ≠ k) := by
  constructor
  · intro h
    induction l with
    | nil => unfold putM at h; simp at h; exact .inl h
    | cons x l ih =>
      obtain ⟨h1, h2⟩ := AscM.cons.1 ha
      unfold putM at h
      split at h
      · rename_i hlt
        rcases List.mem_cons.1 h with rfl | h
        · exact .inr ⟨by simp, ltK_ne hlt⟩
        · rcases ih h2 h with rfl | ⟨h3, h4⟩
          · exact .inl rfl
          · exact .inr ⟨by simp [h3], h4⟩
      · rename_i hlt
        split at h
        · rename_i he
          rcases List.mem_cons.1 h with rfl | h
          · exact .inl rfl
          · have h5 := h1 y h
            rw [eqK_iff.1 he] at h5
            exact .inr ⟨by simp [h], (ltK_ne h5).symm⟩
        · rename_i he
          have hgt : ltK k x.1 := ltK_of_not hlt (eqK_not.1 (by simpa using he))
          rcases List.mem_cons.1 h with rfl | h
          · exact .inl rfl
          · rcases List.mem_cons.1 h with rfl | h
            · exact .inr ⟨by simp, (ltK_ne hgt).symm⟩
            · exact .inr ⟨by simp [h], (ltK_ne (ltK_trans hgt (h1 y h))).symm⟩
  · intro h
    induction l with
    | nil =>
      rcases h with rfl | ⟨h, -⟩
      · simp [putM]
      · cases h
    | cons x l ih =>
      obtain ⟨h1, h2⟩ := AscM.cons.1 ha
      unfold putM
      split
      · rcases h with rfl | ⟨h, h3⟩
        · exact List.mem_cons_of_mem _ (ih h2 (.inl rfl))
        · rcases List.mem_cons.1 h with rfl | h
          · simp
          · exact List.mem_cons_of_mem _ (ih h2 (.inr ⟨h, h3⟩))
      · split
        · rename_i he
          rcases h with rfl | ⟨h, h3⟩
          · simp
          · rcases List.mem_cons.1 h with rfl | h
            · exact absurd (eqK_iff.1 he) h3
            · simp [h]
        · rcases h with rfl | ⟨h, h3⟩
          · simp
          · exact List.mem_cons_of_mem _ h
theorem getM_mem {l : M κ ν} (ha : AscM l) {k : κ} {v : ν} (h : (k, v) ∈ l) : getM l k = some v := by
  obtain ⟨i, hi⟩ := List.mem_iff_getElem?.1 h
  have e := split_at hi
  rw [e] at ha ⊢
  obtain ⟨-, -, h1, -⟩ := ha.mid
  exact getM_here h1 rfl
theorem putK_len (l : M κ ν) (k : κ) (v : ν) : (putM l k v).length ≤ l.length + 1 := by
  induction l with
  | nil => simp [putM]
  | cons y l ih =>
    unfold putM
    split
    · simp only [List.length_cons]; omega
    · split
      · simp
      · simp
end
abbrev MS := M ByteArray Int
/-- The map of some texts, each with its place (the last). -/
def insS (ks : List ByteArray) : Nat → MS | 0 => [] | m + 1 => match ks[m]? with | some k => putM (insS ks m) k m | none => insS ks m
theorem insS_succ {ks : List ByteArray} {m : Nat} {k : ByteArray} (h : ks[m]? = some k) : insS ks (m + 1) = putM (insS ks m) k m := by
  show (match ks[m]? with | some k => putM (insS ks m) k m | none => insS ks m) = _
  rw [h]
theorem insS_asc (ks : List ByteArray) : ∀ m, AscM (insS ks m)
  | 0 => List.Pairwise.nil
  | m + 1 => by
    show AscM (match ks[m]? with | some k => putM (insS ks m) k m | none => insS ks m)
    cases ks[m]? with
    | none => exact insS_asc ks m
    | some k => exact ascM_putM (insS_asc ks m) _ _
theorem insS_len (ks : List ByteArray) : ∀ m, (insS ks m).length ≤ m
  | 0 => Nat.le_refl _
  | m + 1 => by
    have ih := insS_len ks m
    show (match ks[m]? with | some k => putM (insS ks m) k m | none => insS ks m).length ≤ _
    cases ks[m]? with
    | none => show (insS ks m).length ≤ _; omega
    | some k =>
      have := putK_len (insS ks m) k (m : Int)
      show (putM (insS ks m) k (m : Int)).length ≤ _
      omega
theorem insS_mem (ks : List ByteArray) : ∀ m, m ≤ ks.length → ∀ (k : ByteArray) (v : Int), (k, v) ∈ insS ks m ↔ ∃ i : Nat, v = i ∧ i < m ∧ ks[i]? = some k ∧ ∀ j, i < j → j < m → ks[j]? ≠ some k
  | 0, _, k, v => by
    constructor
    · intro h; cases h
    · rintro ⟨i, -, h, -⟩; omega
  | m + 1, hm, k, v => by
    have hk : ks[m]? = some ks[m] := List.getElem?_eq_getElem (by omega)
    rw [insS_succ hk, mem_putK (insS_asc ks m), insS_mem ks m (by omega) k v]
    constructor
    · rintro (e | ⟨⟨i, rfl, hi, h1, h2⟩, h3⟩)
      · injection e with e1 e2
        subst e1 e2
        exact ⟨m, rfl, by omega, hk, fun j h1 h2 => by omega⟩
      · refine ⟨i, rfl, by omega, h1, fun j hj hjm => ?_⟩
        by_cases e : j = m
        · subst e
          rw [hk]
          exact fun e => h3 (Option.some.inj e).symm
        · exact h2 j hj (by omega)
    · rintro ⟨i, rfl, hi, h1, h2⟩
      by_cases e : i = m
      · subst e
        rw [hk] at h1
        exact .inl (by rw [Option.some.inj h1])
      · refine .inr ⟨⟨i, rfl, by omega, h1, fun j hj hjm => h2 j hj (by omega)⟩, ?_⟩
        intro e2
        exact h2 m (by omega) (by omega) (by rw [hk, ← e2])
/-- Every text has its last place. -/
theorem insS_get (ks : List ByteArray) {j : Nat} (hj : j < ks.length) : ∃ i : Nat, getM (insS ks ks.length) ks[j] = some (i : Int) ∧ i < ks.length ∧ ks[i]? = some ks[j] := by
  have h : ∀ d, ∀ j, j + d = ks.length → ∀ hj : j < ks.length, ∃ i : Nat, j ≤ i ∧ i < ks.length ∧ ks[i]? = some ks[j] ∧ ∀ j', i < j' → j' < ks.length → ks[j']? ≠ some ks[j] := by
    intro d
    induction d using Nat.strongRecOn with
    | _ d ih =>
      intro j hd hj
      by_cases hl : ∃ j', j < j' ∧ j' < ks.length ∧ ks[j']? = some ks[j]
      · obtain ⟨j', h1, h2, h3⟩ := hl
        obtain ⟨i, h4, h5, h6, h7⟩ := ih (ks.length - j') (by omega) j' (by omega) h2
        have e : ks[j'] = ks[j] := by
          rw [List.getElem?_eq_getElem h2] at h3
          exact Option.some.inj h3
        rw [e] at h6 h7
        exact ⟨i, by omega, h5, h6, h7⟩
      · exact ⟨j, Nat.le_refl _, hj, List.getElem?_eq_getElem hj, fun j' h1 h2 h3 => hl ⟨j', h1, h2, h3⟩⟩
  obtain ⟨i, -, h1, h2, h3⟩ := h (ks.length - j) j (by omega) hj
  exact ⟨i, getM_mem (insS_asc ks _) ((insS_mem ks _ (Nat.le_refl _) _ _).2 ⟨i, rfl, h1, h2, h3⟩), h1, h2⟩
/-- A list of texts that can be read. -/
def TextsAt (w : World) (v : Value) (l : List ByteArray) : Prop :=
  l.length ≤ maxLen ∧ ∃ a c, v = .slice a l.length c ∧ l.length ≤ c ∧ ∀ i (hi : i < l.length), ∃ g o, a = some ⟨g, o, none⟩ ∧ g < w.heap.size ∧ w.cell? ⟨g, o + i, none⟩ = some (.string l[i])
end Go.Proofs.Ytldofiankhimjaa
/- How a list of texts is read. -/
namespace Go.Proofs.Ytldofiankhimjaa
open Go.ChangeShapes Go.ChangeAt Go.RowKit
set_option maxRecDepth 100000
theorem c9 : Try.prog.cellsOf 9 = 1 := by kernel_rfl
section
variable {H : Type} {enc : TypeId × Value → H} {w : World}
theorem read_texts {fuel : Nat} {s : Value} {x : DataW H × List MemPlace} (h : DataW.trod enc Try.prog w 0 (fun _ => true) true fuel 37 [s] = some x) : ∃ L, TextsAt w s L := by
  rcases slice_read Try.underlying37 c9 (by omega) h with ⟨a, e⟩ | ⟨b, o, len, cap, k, D, R, e, hb, hlc, hcm, rfl, hxD, hDl, hel⟩
  · cases e
    exact ⟨[], by simp, a, 0, rfl, Nat.le_refl _, fun i hi => absurd hi (by simp)⟩
  · cases e
    have hall : ∀ i, i < D.length → ∃ v : ByteArray, w.cell? ⟨b, o + i, none⟩ = some (.string v) := by
      intro i hi
      obtain ⟨cs', pl, -, hc, ht⟩ := hel i hi
      obtain ⟨v, rfl, -, -⟩ := DataW.trod_string Try.underlying9 ht
      have h0 := hc 0 (by omega)
      rw [Nat.mul_one, Nat.add_zero] at h0
      exact ⟨v, h0⟩
    obtain ⟨f, hf⟩ := Deep.choose_lt hall
    have hlen : ((List.range D.length).map f).length = len := by simp [hDl]
    refine ⟨(List.range D.length).map f, by omega, some ⟨b, o, none⟩, cap, by rw [hlen], by omega, fun i hi => ?_⟩
    have hi' : i < D.length := by simpa using hi
    have e : ((List.range D.length).map f)[i] = f i := by simp
    rw [e]
    exact ⟨b, o, rfl, hb, hf i hi'⟩
theorem open_texts {W : World} {base : Nat} {v : Value} {d : DataW H} {p : List MemPlace} (hok : Value.okWide Try.prog W .any base 37 v) (h : DataW.Trod enc Try.prog W 0 (fun _ => true) true 37 v d p) : ∃ L, TextsAt W v L := by
  obtain ⟨fuel, h⟩ := h
  rw [cell_of_one_slice W Try.underlying37 hok] at h
  exact read_texts h
end
end Go.Proofs.Ytldofiankhimjaa
/- A guard that is met. -/
namespace Go.Proofs.Ytldofiankhimjaa
open Go Go.RowKit
theorem want_g {ops : Array Oper} {o oj : Oper} {j d : Nat} {b : Bool} {tmps : Array Value} (hg : o.guard = some (j, b)) (hj : ops[j]? = some oj) (hd : oj.dst = some d) (hv : tmps[d]?.getD undef = .bool b) : Region.wanted o (yielded ops tmps) = true := by
  have h1 : tmps[d]? = some (.bool b) := by
    cases h : tmps[d]? with
    | none => rw [h] at hv; cases hv
    | some v => rw [h] at hv; exact congrArg some hv
  unfold Region.wanted yielded
  simp [hg, hj, hd, h1]
end Go.Proofs.Ytldofiankhimjaa
/- BtreeStrings: its last region. -/
namespace Go.Proofs.Ytldofiankhimjaa
open Go Go.RowKit
noncomputable def oSt36S : Array Oper := ((Try.f4.body).bind fun c => opsOf c 36).getD #[]
set_option maxHeartbeats 4000000 in
set_option maxRecDepth 100000 in
theorem rSt36S {Q : Exit → Act → World → Prop} {a : Act} {w w0 : World} {fp0 : List Nat} (b4 b9 tb O hh n : Nat) (ll : MS) (hO : 3 ≤ O) (hO' : O ≤ 1024) (hn : ll.length = n) (hL : ll.length < 1000) (R : List Asn) (ops : Array Oper) (hops : ops = oSt36S) (hsz : a.tmps.size = 129) (h4 : a.eval (.tmp 4) = .pointer (some ⟨b4, 0, none⟩)) (h5 : a.eval (.tmp 5) = .pointer (some ⟨tb, 0, none⟩)) (h9 : a.eval (.tmp 9) = .pointer (some ⟨b9, 0, none⟩))
    (hS : St w0 fp0 ([pick false (pureA ((a.eval (.tmp 123)) = .int .i64 n)) emp, pick false (pureA ((a.eval (.tmp 127)) = .bool true)) emp, blkA b4 4 #[vpick false (.bool true) (.bool false)], blkA b9 3 #[.int .i64 n], objS O hh ll tb] ++ R) w)
    (hQ : ∀ (u : Nat → Value) w1, St w0 fp0 ([pick true (pureA ((u 123) = .int .i64 n)) emp, pick true (pureA ((u 127) = .bool true)) emp, blkA b4 4 #[vpick true (.bool true) (.bool false)], blkA b9 3 #[.int .i64 n], objS O hh ll tb] ++ R) w1 → Q .normal (putL a (([121, 122, 123, 124, 125, 126, 127, 128] : List Nat).map fun d => (d, u d))) w1) : (Code.region 36 ops true).wp Try.prog Q a w := by
  subst hops
  have hsize : oSt36S.size = 9 := by kernel_rfl
  have hE : Looks (fun L g w => St w0 fp0 ([pick (L 2) (pureA ((g 123) = .int .i64 n)) emp, pick (L 6) (pureA ((g 127) = .bool true)) emp, blkA b4 4 #[vpick (L 8) (.bool true) (.bool false)], blkA b9 3 #[.int .i64 n], objS O hh ll tb] ++ R) w) [2, 6, 8] [123, 127] := by
    intro L L' g g' w hL hg h
    simpa only [← hL 2 (by decide), ← hL 6 (by decide), ← hL 8 (by decide), ← hg 123 (by decide), ← hg 127 (by decide)] using h
  have hn1 : (([(0, 121, .int .i64 n), (1, 122, .pointer (some ⟨tb, 0, none⟩)), (3, 124, .bool true), (4, 125, .bool true), (5, 126, .pointer (some ⟨tb, 0, none⟩)), (7, 128, .bool true)] : List (Nat × Nat × Value)).map (·.1)).Nodup := by
    show List.Nodup [0, 1, 3, 4, 5, 7]
    decide
  have hn2 : (([(0, 121, .int .i64 n), (1, 122, .pointer (some ⟨tb, 0, none⟩)), (3, 124, .bool true), (4, 125, .bool true), (5, 126, .pointer (some ⟨tb, 0, none⟩)), (7, 128, .bool true)] : List (Nat × Nat × Value)).map (·.2.1)).Nodup := by
    show List.Nodup [121, 122, 124, 125, 126, 128]
    decide
  refine wp_region_vals (ops' := oSt36S) [121, 122, 123, 124, 125, 126, 127, 128] [(0, 121, .int .i64 n), (1, 122, .pointer (some ⟨tb, 0, none⟩)), (3, 124, .bool true), (4, 125, .bool true), (5, 126, .pointer (some ⟨tb, 0, none⟩)), (7, 128, .bool true)] (fun L g w => St w0 fp0 ([pick (L 2) (pureA ((g 123) = .int .i64 n)) emp, pick (L 6) (pureA ((g 127) = .bool true)) emp, blkA b4 4 #[vpick (L 8) (.bool true) (.bool false)], blkA b9 3 #[.int .i64 n], objS O hh ll tb] ++ R) w) rfl (by kernel_rfl) (by kernel_rfl) (hS.mono (below_drew w)) ?_ ?_
  · intro oi o L a1 w1 ho hL hdep hI
    have hoi : oi < 9 := by have := (Array.getElem?_eq_some_iff.1 ho).1; omega
    have h1sz : a1.tmps.size = 129 := hI.frame.size.trans hsz
    rcases (by omega : oi = 0 ∨ oi = 1 ∨ oi = 2 ∨ oi = 3 ∨ oi = 4 ∨ oi = 5 ∨ oi = 6 ∨ oi = 7 ∨ oi = 8) with rfl | rfl | rfl | rfl | rfl | rfl | rfl | rfl | rfl
    · have hl : oSt36S[0]? = some ⟨some 121, Op.load _ (Operand.tmp 9), _, _, _, none⟩ := rfl
      obtain rfl := oI ho hl
      have x9 := hI.old 9 (.pointer (some ⟨b9, 0, none⟩)) (by decide) h9
      have hS1 := hI.eff
      have e8 : L 8 = false := hI.no hL (by kernel_rfl : waitsB oSt36S 8 0 = true)
      simp only [e8, vpick_false] at hS1
      obtain ⟨_, hp⟩ := hS1.has 3 rfl
      have hcell := (blk_get hp).1 0
      have hlt := (blk_get hp).2.2
      simp only [List.getElem?_toArray, List.getElem?_cons_zero] at hcell
      exact hI.rd hE hsz 0 121 (.int .i64 n) ho rfl rfl hdep (by decide) (vals_at hn1 hn2 0 rfl) (by simp [go_sem, execOp, Act.eval, x9, hcell])
    · have hl : oSt36S[1]? = some ⟨some 122, Op.move (Operand.tmp 5), _, _, _, none⟩ := rfl
      obtain rfl := oI ho hl
      have x5 := hI.old 5 (.pointer (some ⟨tb, 0, none⟩)) (by decide) h5
      exact hI.rd hE hsz 1 122 (.pointer (some ⟨tb, 0, none⟩)) ho rfl rfl hdep (by decide) (vals_at hn1 hn2 1 rfl) (by simp [go_sem, execOp, Act.eval, x5])
    · have hl : oSt36S[2]? = some ⟨some 123, Op.call ⟨Callee.value (Operand.func _), #[Operand.tmp 122], _⟩, _, _, _, none⟩ := rfl
      obtain rfl := oI ho hl
      have x122 := hI.val 1 122 (.pointer (some ⟨tb, 0, none⟩)) (mG (i := 1) rfl) (dK ho hdep (by kernel_rfl : waitsB oSt36S 2 1 = true))
      have hS1 := hI.eff
      have e2 : L 2 = false := hL
      have e6 : L 6 = false := hI.no (hI.no hL (by kernel_rfl : waitsB oSt36S 4 2 = true)) (by kernel_rfl : waitsB oSt36S 6 4 = true)
      have e8 : L 8 = false := hI.no hL (by kernel_rfl : waitsB oSt36S 8 2 = true)
      simp only [e2, e6, e8, pick_false, vpick_false] at hS1
      obtain ⟨_, hob⟩ := hS1.has 4 rfl
      have hC := LenS_calls tb w1 hob
      rw [hn] at hC
      refine inv_call ho rfl (f := 22) (by simp [go_sem, Act.eval, x122]) hC ?_
      rintro e w2 ⟨rfl, rfl⟩
      refine ⟨_, rfl, hI.put 2 123 _ ho hdep (by decide) (by intro t ht; exact vals_ne2 rfl rfl (by decide : 2 ∉ [0, 1, 3, 4, 5, 7]) (by decide : 123 ∉ [121, 122, 124, 125, 126, 128]) ht) ?_⟩
      have hS2 := hS1.setP 0 rfl True trivial
      simp only [e2, e6, e8, Bool.or_false, Bool.or_true, Nat.reduceEqDiff, decide_true, decide_false, pick_true, pick_false, vpick_false, eval_put_same (by rw [h1sz]; decide : 123 < a1.tmps.size), eval_put_ne (by decide : 123 ≠ 127)]
      exact hS2
    · have hl : oSt36S[3]? = some ⟨some 124, Op.binOp BinOp.eql _ (Operand.tmp 121) (Operand.tmp 123) _, _, _, _, none⟩ := rfl
      obtain rfl := oI ho hl
      have x121 := hI.val 0 121 (.int .i64 n) (mG (i := 0) rfl) (dK ho hdep (by kernel_rfl : waitsB oSt36S 3 0 = true))
      have hS1 := hI.eff
      have e2 : L 2 = true := dK ho hdep (by kernel_rfl : waitsB oSt36S 3 2 = true)
      have e6 : L 6 = false := hI.no (hI.no hL (by kernel_rfl : waitsB oSt36S 4 3 = true)) (by kernel_rfl : waitsB oSt36S 6 4 = true)
      have e8 : L 8 = false := hI.no hL (by kernel_rfl : waitsB oSt36S 8 3 = true)
      simp only [e2, e6, e8, pick_true, pick_false, vpick_false] at hS1
      obtain ⟨_, hp⟩ := hS1.has 0 rfl
      have hcell := eval_spell hp.1
      exact hI.rd hE hsz 3 124 (.bool true) ho rfl rfl hdep (by decide) (vals_at hn1 hn2 2 rfl) (by simp [go_sem, execOp, Act.eval, x121, hcell])
    · have hl : oSt36S[4]? = some ⟨some 125, Op.move (Operand.tmp 124), _, _, _, none⟩ := rfl
      obtain rfl := oI ho hl
      have x124 := hI.val 3 124 (.bool true) (mG (i := 2) rfl) (dK ho hdep (by kernel_rfl : waitsB oSt36S 4 3 = true))
      exact hI.rd hE hsz 4 125 (.bool true) ho rfl rfl hdep (by decide) (vals_at hn1 hn2 3 rfl) (by simp [go_sem, execOp, Act.eval, x124])
    · have hl : oSt36S[5]? = some ⟨some 126, Op.move (Operand.tmp 5), _, _, _, some (4, true)⟩ := rfl
      obtain rfl := oI ho hl
      have hgj : oSt36S[4]? = some ⟨some 125, Op.move (Operand.tmp 124), _, _, _, none⟩ := rfl
      have x5 := hI.old 5 (.pointer (some ⟨tb, 0, none⟩)) (by decide) h5
      have x125 := hI.val 4 125 (.bool true) (mG (i := 3) rfl) (dK ho hdep (by kernel_rfl : waitsB oSt36S 5 4 = true))
      exact hI.rd hE hsz 5 126 (.pointer (some ⟨tb, 0, none⟩)) ho rfl (want_g rfl hgj rfl x125) hdep (by decide) (vals_at hn1 hn2 4 rfl) (by simp [go_sem, execOp, Act.eval, x5])
    · have hl : oSt36S[6]? = some ⟨some 127, Op.call ⟨Callee.value (Operand.func _), #[Operand.tmp 126], _⟩, _, _, _, some (4, true)⟩ := rfl
      obtain rfl := oI ho hl
      have hgj : oSt36S[4]? = some ⟨some 125, Op.move (Operand.tmp 124), _, _, _, none⟩ := rfl
      have x126 := hI.val 5 126 (.pointer (some ⟨tb, 0, none⟩)) (mG (i := 4) rfl) (dK ho hdep (by kernel_rfl : waitsB oSt36S 6 5 = true))
      have x125 := hI.val 4 125 (.bool true) (mG (i := 3) rfl) (dK ho hdep (by kernel_rfl : waitsB oSt36S 6 4 = true))
      have hS1 := hI.eff
      have e2 : L 2 = true := hI.yes (dK ho hdep (by kernel_rfl : waitsB oSt36S 6 4 = true)) (by kernel_rfl : waitsB oSt36S 4 2 = true)
      have e6 : L 6 = false := hL
      have e8 : L 8 = false := hI.no hL (by kernel_rfl : waitsB oSt36S 8 6 = true)
      simp only [e2, e6, e8, pick_true, pick_false, vpick_false] at hS1
      have hS2 : St w0 fp0 (objS O hh ll tb :: ([pureA (a1.eval (.tmp 123) = .int .i64 n), emp, blkA b4 4 #[.bool false], blkA b9 3 #[.int .i64 n]] ++ R)) w1 := hS1.perm (by classical exact List.perm_iff_count.2 fun a => by simp only [List.cons_append, List.nil_append, List.count_cons] <;> omega)
      refine inv_call ho (want_g rfl hgj rfl x125) (f := 23) (by simp [go_sem, Act.eval, x126]) (ValidS_calls hO hO' hh ll tb w0 w1 fp0 _ (by omega) hS2) ?_
      rintro e w2 ⟨rfl, hs2⟩
      refine ⟨_, rfl, hI.put 6 127 _ ho hdep (by decide) (by intro t ht; exact vals_ne2 rfl rfl (by decide : 6 ∉ [0, 1, 3, 4, 5, 7]) (by decide : 127 ∉ [121, 122, 124, 125, 126, 128]) ht) ?_⟩
      have hS3 : St w0 fp0 ([pureA (a1.eval (.tmp 123) = .int .i64 n), emp, blkA b4 4 #[.bool false], blkA b9 3 #[.int .i64 n], objS O hh ll tb] ++ R) w2 := hs2.perm (by classical exact List.perm_iff_count.2 fun a => by simp only [List.cons_append, List.nil_append, List.count_cons] <;> omega)
      have hS4 := hS3.setP 1 rfl True trivial
      simp only [e2, e6, e8, Bool.or_false, Bool.or_true, Nat.reduceEqDiff, decide_true, decide_false, pick_true, vpick_false, eval_put_same (by rw [h1sz]; decide : 127 < a1.tmps.size), eval_put_ne (by decide : 127 ≠ 123)]
      exact hS4
    · have hl : oSt36S[7]? = some ⟨some 128, Op.pick (Operand.tmp 125) (Operand.tmp 127) (Operand.const (Value.bool false)), _, _, _, none⟩ := rfl
      obtain rfl := oI ho hl
      have x125 := hI.val 4 125 (.bool true) (mG (i := 3) rfl) (dK ho hdep (by kernel_rfl : waitsB oSt36S 7 4 = true))
      have hS1 := hI.eff
      have e2 : L 2 = true := hI.yes (dK ho hdep (by kernel_rfl : waitsB oSt36S 7 4 = true)) (by kernel_rfl : waitsB oSt36S 4 2 = true)
      have e6 : L 6 = true := dK ho hdep (by kernel_rfl : waitsB oSt36S 7 6 = true)
      have e8 : L 8 = false := hI.no hL (by kernel_rfl : waitsB oSt36S 8 7 = true)
      simp only [e2, e6, e8, pick_true, vpick_false] at hS1
      obtain ⟨_, hp⟩ := hS1.has 1 rfl
      have hcell := eval_spell hp.1
      exact hI.rd hE hsz 7 128 (.bool true) ho rfl rfl hdep (by decide) (vals_at hn1 hn2 5 rfl) (by simp [go_sem, execOp, Act.eval, x125, hcell])
    · have hl : oSt36S[8]? = some ⟨none, Op.store _ (Operand.tmp 4) (Operand.tmp 128), _, _, _, none⟩ := rfl
      obtain rfl := oI ho hl
      have x4 := hI.old 4 (.pointer (some ⟨b4, 0, none⟩)) (by decide) h4
      have x128 := hI.val 7 128 (.bool true) (mG (i := 5) rfl) (dK ho hdep (by kernel_rfl : waitsB oSt36S 8 7 = true))
      have hS1 := hI.eff
      have e2 : L 2 = true := dK ho hdep (by kernel_rfl : waitsB oSt36S 8 2 = true)
      have e6 : L 6 = true := dK ho hdep (by kernel_rfl : waitsB oSt36S 8 6 = true)
      have e8 : L 8 = false := hL
      simp only [e2, e6, e8, pick_true, vpick_false] at hS1
      obtain ⟨f, hp, hset⟩ := hS1.get 2 rfl
      have hcell := (blk_get hp).1 0
      have hfz := (blk_get hp).2.1 0
      have hlt := (blk_get hp).2.2
      simp only [List.getElem?_toArray, List.getElem?_cons_zero] at hcell
      refine inv_stored ho rfl rfl (by simp [go_sem, execOp, Act.eval, x4, x128, hcell, hfz]; rfl) (hI.step 8 ho hdep (by intro t ht; exact vals_ne1 rfl (by decide : 8 ∉ [0, 1, 3, 4, 5, 7]) ht) ?_)
      obtain ⟨hb2, ht2⟩ := blk_set hp 0 (.bool true)
      have hS2 := hset _ _ _ hb2 ht2
      simp only [e2, e6, e8, Bool.or_false, Bool.or_true, Nat.reduceEqDiff, decide_true, decide_false, pick_true, vpick_true]
      exact hS2
  · intro L a1 w1 hL hI
    have hS1 := hI.eff
    simp only [hL 2 (by rw [hsize]; decide), hL 6 (by rw [hsize]; decide), hL 8 (by rw [hsize]; decide), pick_true, vpick_true] at hS1
    have := hQ (fun d => a1.eval (.tmp d)) w1  hS1
    have e := hI.frame.eq
    rw [e]
    exact this
end Go.Proofs.Ytldofiankhimjaa
/- Trees in memory (I). -/
namespace Go.Proofs.Ytldofiankhimjaa
open Go.RowKit

def encI (k : Int) : Value := .int .i64 k
def valI (v : Int) : Value := .int .i64 v
abbrev TI := T Int Int
def ptrI (b : Nat) : Value := .pointer (some ⟨b, 0, none⟩)
def keysI (es : M Int Int) : List Value := es.map fun e => encI e.1
def valsI (es : M Int Int) : List Value := es.map fun e => valI e.2
/-- The pieces of a node. -/
def nodeLI (K : TI → Nat → Asn) (x : TI) (b : Nat) (q : Value × Value × Value × List Nat) : List Asn :=
  pureA (q.2.2.2.length = x.cs.length) :: blkA b 70 #[q.1, q.2.1, q.2.2.1] :: slA 3 q.1 (keysI x.es) :: slA 3 q.2.1 (valsI x.es) :: slA 67 q.2.2.1 (q.2.2.2.map ptrI) :: List.zipWith K x.cs q.2.2.2
def nodeI (K : TI → Nat → Asn) (x : TI) (b : Nat) : Asn := exA fun q => starA (nodeLI K x b q)
/-- A tree lies at block b. -/
def treeI : Nat → TI → Nat → Asn
  | 0 => nodeI fun _ _ => emp
  | h + 1 => nodeI (treeI h)
def kidI : Nat → TI → Nat → Asn
  | 0 => fun _ _ => emp
  | h + 1 => treeI h
theorem treeI_eq (h : Nat) : treeI h = nodeI (kidI h) := by cases h <;> rfl
theorem keysI_length (es : M Int Int) : (keysI es).length = es.length := by simp [keysI]
theorem valsI_length (es : M Int Int) : (valsI es).length = es.length := by simp [valsI]
theorem keysI_one (es : M Int Int) : ∀ u ∈ keysI es, u.oneCell' = true := by
  intro u hu
  obtain ⟨e, _, rfl⟩ := List.mem_map.1 hu
  rfl
theorem valsI_one (es : M Int Int) : ∀ u ∈ valsI es, u.oneCell' = true := by
  intro u hu
  obtain ⟨e, _, rfl⟩ := List.mem_map.1 hu
  rfl
theorem ptrI_one (bs : List Nat) : ∀ u ∈ bs.map ptrI, u.oneCell' = true := by
  intro u hu
  obtain ⟨e, _, rfl⟩ := List.mem_map.1 hu
  rfl
theorem St.openI {w0 w : World} {fp0 : List Nat} {L2 : List Asn} {h : Nat} {x : TI} {b : Nat} (hs : St w0 fp0 (treeI h x b :: L2) w) : ∃ q, St w0 fp0 (nodeLI (kidI h) x b q ++ L2) w := by
  rw [treeI_eq] at hs
  exact hs.unfold fun f ⟨q, hq⟩ => ⟨q, hq⟩
theorem St.shutI {w0 w : World} {fp0 : List Nat} {L2 : List Asn} {h : Nat} {x : TI} {b : Nat} (q : Value × Value × Value × List Nat) (hs : St w0 fp0 (nodeLI (kidI h) x b q ++ L2) w) : St w0 fp0 (treeI h x b :: L2) w := by
  rw [treeI_eq]
  exact hs.fold fun f hf => ⟨q, hf⟩
end Go.Proofs.Ytldofiankhimjaa
/- cmp.Compare at integers. -/
namespace Go.Proofs.Ytldofiankhimjaa
open Go.RowKit
theorem nanI_calls (a : Int) (w : World) : Calls Try.prog 62 #[.int .i64 a] w fun e w' => e = .returned (.bool false) ∧ w = w' := by
  go_enter Try.func62, Try.ntmps62
  go_wp2
  go_ret
  exact ⟨by simp, rfl⟩
theorem cmp0I_calls (a b : Int) (w : World) : Calls Try.prog 40 #[encI a, encI b] w fun e w' => e = .returned (.int .i64 (KOrd.cmp a b)) ∧ w = w' := by
  have Hres : RowKit.Hid ((KOrd.cmp a b : Int) = cmpS a b) := rfl
  unfold encI
  go_enter Try.func40, Try.ntmps40
  go_wp2_with fail
  (with_reducible refine (nanI_calls a w).mono ?_)
  rintro e w1 ⟨rfl, rfl⟩
  go_wp2_with fail
  (with_reducible refine (nanI_calls b w).mono ?_)
  rintro e w1 ⟨rfl, rfl⟩
  by_cases h1 : a < b
  · have b1 : decide (a < b) = true := by simp [h1]
    have Hr : RowKit.Hid (KOrd.cmp a b = -1) := by show _ = _; rw [Hres.out]; simp [cmpS, h1]
    clear h1
    go_wp2
    go_ret
    exact ⟨by rw [Hr.out]; rfl, rfl⟩
  · have b1 : decide (a < b) = false := by simp; omega
    by_cases h2 : b < a
    · have b2 : decide (b < a) = true := by simp [h2]
      have Hr : RowKit.Hid (KOrd.cmp a b = 1) := by show _ = _; rw [Hres.out]; simp [cmpS, h1, h2]
      clear h1 h2
      go_wp2
      go_ret
      exact ⟨by rw [Hr.out]; rfl, rfl⟩
    · have b2 : decide (b < a) = false := by simp; omega
      have Hr : RowKit.Hid (KOrd.cmp a b = 0) := by show _ = _; rw [Hres.out]; simp [cmpS, h1, h2]
      clear h1 h2
      go_wp2
      go_ret
      exact ⟨by rw [Hr.out]; rfl, rfl⟩
theorem cmpI_calls (a b : Int) (w : World) : Calls Try.prog 40 #[encI a, encI b] w fun e w' => e = .returned (.int .i64 (KOrd.cmp a b)) ∧ Below w.heap.size w w' :=
  (cmp0I_calls a b w).mono fun _ _ ⟨h1, h2⟩ => ⟨h1, h2 ▸ Below.refl _ _⟩
theorem cmpqI_calls (a b : Int) (w : World) : Calls Try.prog 40 #[encI a, encI b] w fun e w' => e = .returned (.int .i64 (KOrd.cmp a b)) ∧ w' = w :=
  (cmp0I_calls a b w).mono fun _ _ ⟨h1, h2⟩ => ⟨h1, h2.symm⟩
end Go.Proofs.Ytldofiankhimjaa
