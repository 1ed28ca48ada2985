/- Part 9 of the proof: FlBI -/
import Derived.Test.YtldofiankhimjaaZ06
import Derived.Test.YtldofiankhimjaaZ08
import Derived.Test.YtldofiankhimjaaZ01
import Derived.Deep.DeepCutAuto
import Derived.BigQuiet
import Derived.IntWalk
import Derived.Test.YtldofiankhimjaaZ07
/- fill: an entry from the right (I). -/
namespace Go.Proofs.Ytldofiankhimjaa
open Go Go.RowKit
theorem St.peekI {w0 w : World} {fp0 : List Nat} {R : List Asn} {h k : Nat} {x d : TI} {b : Nat} (hc : x.cs[k]? = some d) (hs : St w0 fp0 (treeI (h + 1) x b :: R) w) :
    ∃ kb ka kc, kb < w.heap.size ∧ w.cell? ⟨kb, 0, none⟩ = some (.slice ka d.es.length kc) ∧ ∀ gp np cp, w.cell? ⟨b, 2, none⟩ = some (.slice (some ⟨gp, 0, none⟩) np cp) → w.cell? ⟨gp, k, none⟩ = some (.pointer (some ⟨kb, 0, none⟩)) := by
  obtain ⟨_, hq⟩ := hs.has 0 rfl
  obtain ⟨ks, va, vc, pa, pc, hn⟩ := SeesI.node ⟨_, hq⟩
  obtain ⟨g, cb, rfl, hg, hcell, hk⟩ := hn.kids k d hc
  obtain ⟨ks', _, _, _, _, hn'⟩ := (hk h rfl).node
  obtain ⟨a, c, e, _⟩ := hn'.keys.shape
  obtain ⟨e0, _, _, el⟩ := hn'.cells
  refine ⟨cb, a, c, el, by rw [e0, e], fun gp np cp h2 => ?_⟩
  rw [hn.cells.2.2.1] at h2
  injection h2 with h2
  injection h2 with h2
  injection h2 with h2
  injection h2 with h2
  rw [← h2]
  exact hcell
set_option maxHeartbeats 8000000 in
set_option maxRecDepth 100000 in
theorem fillBI {o h j : Nat} (ho : 3 ≤ o) (ho' : o ≤ 1024) (tb : Nat) (r nn : Value) {x l c : TI} {s : Int × Int} (b : Nat) (w0 w : World) (fp0 : List Nat) (R : List Asn) (h1 : x.cs[j]? = some l) (h2 : x.cs[j + 1]? = some c) (h3 : x.es[j]? = some s)
    (hxl : x.es.length ≤ 2000 ∧ x.cs.length ≤ 2001) (hll : l.es.length ≤ 2000) (hcl : c.es.length ≤ 2000) (hlc : (l.cs = [] ∧ c.cs = []) ∨ (l.cs.length = l.es.length + 1 ∧ c.cs.length = c.es.length + 1)) (hcc : ∀ jm d, j = jm + 1 → x.cs[jm]? = some d → d.es.length ≤ least o) (hgt : least o < c.es.length) (hS : St w0 fp0 (treeI (h + 1) x b :: blkA tb 72 #[r, .int .i64 o, nn] :: R) w) :
    Calls Try.prog 75 #[.pointer (some ⟨tb, 0, none⟩), .pointer (some ⟨b, 0, none⟩), .int .i64 (j : Nat)] w fun e w' => e = .returned (.tuple #[]) ∧ St w0 fp0 (treeI (h + 1) (leftT j x) b :: blkA tb 72 #[r, .int .i64 o, nn] :: R) w' := by
  obtain ⟨ks, vs, ps, bs, lb, lk, lv, lp, lbs, rb, rk, rv, rp, rbs, hl, hbl, hbr, hl1, hl2, hS1⟩ := hS.openTwI h1 h2
  obtain ⟨_, q1⟩ := hS1.has 1 rfl
  obtain ⟨_, q2⟩ := hS1.has 2 rfl
  obtain ⟨_, q3⟩ := hS1.has 3 rfl
  have hix : j < x.es.length := (List.getElem?_eq_some_iff.1 h3).1
  have hib : j + 1 < bs.length := (List.getElem?_eq_some_iff.1 hbr).1
  obtain ⟨gx, cx, rfl, hcx, -⟩ := sl_some q1 (by rw [keysI_length]; omega)
  obtain ⟨gy, cy, rfl, hcy, -⟩ := sl_some q2 (by rw [valsI_length]; omega)
  obtain ⟨gp, cp, rfl, hcp, -⟩ := sl_some q3 (by rw [List.length_map]; omega)
  obtain ⟨d0, -, d0l, -⟩ := sl_elem q3 j (by rw [List.length_map]; omega)
  obtain ⟨d1, -, -, -⟩ := sl_elem q3 (j + 1) (by rw [List.length_map]; omega)
  simp only [List.getElem_map] at d0 d1
  rw [(List.getElem?_eq_some_iff.1 hbl).2] at d0
  rw [(List.getElem?_eq_some_iff.1 hbr).2] at d1
  rw [keysI_length] at hcx hS1
  rw [valsI_length] at hcy hS1
  rw [List.length_map] at hcp hS1
  obtain ⟨_, q0⟩ := hS1.has 0 rfl
  have c2 := (blk_get q0).1 2
  have cl := (blk_get q0).2.2
  obtain ⟨_, q5⟩ := hS1.has 9 rfl
  obtain ⟨_, q6⟩ := hS1.has 10 rfl
  obtain ⟨_, q7⟩ := hS1.has 11 rfl
  obtain ⟨hx, dx, rfl, hdx, -⟩ := sl_some q5 (by rw [keysI_length]; omega)
  obtain ⟨hy, dy, rfl, hdy, -⟩ := sl_some q6 (by rw [valsI_length]; omega)
  obtain ⟨la, lc9, e7, -⟩ := sl_get q7
  subst e7
  rw [keysI_length] at hdx hS1
  rw [valsI_length] at hdy hS1
  rw [List.length_map] at hS1
  obtain ⟨_, q4⟩ := hS1.has 8 rfl
  have e0 := (blk_get q4).1 0
  have el := (blk_get q4).2.2
  have c0 := (blk_get q0).1 0
  simp only [List.getElem?_toArray, List.getElem?_cons_zero, List.getElem?_cons_succ] at c0 c2 e0
  have HLE : RowKit.Hid (∀ q, Calls Try.prog 63 #[.pointer (some ⟨tb, 0, none⟩)] (w.drewN q) fun e w' => e = .returned (.int .i64 (least o)) ∧ w' = w.drewN q) := by
    intro q
    obtain ⟨_, qt'⟩ := St.has (hS1.mono (below_drewN _ q)) 15 rfl
    exact (leastI_calls tb r o nn _ ho ho' qt').mono fun _ _ ⟨a, b⟩ => ⟨a, b.symm⟩
  have HPK : RowKit.Hid (∀ jm d, j = jm + 1 → x.cs[jm]? = some d → d.es.length ≤ least o ∧ ∃ kb ka kc, kb < w.heap.size ∧ w.cell? ⟨kb, 0, none⟩ = some (.slice ka d.es.length kc) ∧ w.cell? ⟨gp, jm, none⟩ = some (.pointer (some ⟨kb, 0, none⟩))) := by
    intro jm d e1 e2
    obtain ⟨kb, ka, kc, p1, p2, p3⟩ := hS.peekI e2
    exact ⟨hcc jm d e1 e2, kb, ka, kc, p1, p2, p3 _ _ _ c2⟩
  obtain ⟨m, Rr, hm⟩ : ∃ m Rr, c.es = m :: Rr := by
    cases hh : c.es with
    | nil => rw [hh] at hgt; simp at hgt
    | cons a b => exact ⟨a, b, rfl⟩
  have hlast : c.es[0]? = some m := by rw [hm]; rfl
  obtain ⟨n, hn⟩ : ∃ n, x.es.length = n := ⟨_, rfl⟩
  obtain ⟨np, hnp⟩ : ∃ np, bs.length = np := ⟨_, rfl⟩
  obtain ⟨ln, hln⟩ : ∃ ln, c.es.length = ln := ⟨_, rfl⟩
  obtain ⟨lz, hlz⟩ : ∃ lz, rbs.length = lz := ⟨_, rfl⟩
  obtain ⟨le, hle⟩ : ∃ le, least o = le := ⟨_, rfl⟩
  have hnb : n ≤ 2000 := by rw [← hn]; exact hxl.1
  have hxc : np = x.cs.length := by rw [← hnp, hl]
  rw [hn] at hS1 hcx hcy hix c0
  rw [hnp] at hS1 hcp c2 hib
  rw [hln] at hS1 hdx hdy e0 hgt hcl
  rw [hlz] at hS1
  rw [hle] at HLE hgt HPK
  unfold ptrI at d0 d1
  obtain ⟨ii, hii⟩ : ∃ ii : Int, ((j : Nat) : Int) = ii := ⟨_, rfl⟩
  rw [hii]
  obtain ⟨jj, hjj⟩ : ∃ jj, j + 1 = jj := ⟨_, rfl⟩
  rw [hjj] at d1 hib
  have s1 : IntKind.i64.wrap (ii + 1) = (jj : Int) := by rw [IntWalk.i64_in _ (by omega)]; omega
  have s2 : 0 ≤ ii := by omega
  have s3 : ii.toNat = j := by omega
  have s4 : (jj : Int) < np := by omega
  have s5 : ii < np := by omega
  have s6 : decide (ii < (n : Int)) = true := by simp; omega
  have s7 : decide ((le : Int) < ln) = true := by simp; omega
  have s7n : decide (le < ln) = true := by simp; omega
  have Hl := Lib.hid hl
  have Hbl := Lib.hid hbl
  have Hbr := Lib.hid hbr
  have Hl1 := Lib.hid hl1
  have Hl2 := Lib.hid hl2
  have Hn := Lib.hid hn
  have Hnp := Lib.hid hnp
  have H1 := Lib.hid h1
  have H2 := Lib.hid h2
  have H3 := Lib.hid h3
  have Hxl := Lib.hid hxl
  have Hll := Lib.hid hll
  have Hcl := Lib.hid hcl
  have Hlc := Lib.hid hlc
  have Hcc := Lib.hid hcc
  have Hgt := Lib.hid hgt
  have HS1 := Lib.hid hS1
  have Hm := Lib.hid hm
  have Hlast := Lib.hid hlast
  have Hln := Lib.hid hln
  have Hlz := Lib.hid hlz
  have Hii := Lib.hid hii
  have Hxc := Lib.hid hxc
  have Hib := Lib.hid (show j + 1 < np by omega)
  clear hS hS1 q0 q1 q2 q3 q4 q5 q6 q7 hl hbl hbr hl1 hl2 hn hnp h1 h2 h3 hxl hll hcl hlc hcc hgt hm hlast hln hlz hle ho ho' hxc hjj hib
  go_enter Try.func75, Try.ntmps75
  go_upto_region 2 with (fail)
  go_cut [21] (fun z wx => z = .bool false ∧ ∃ q, wx = w.drewN q)
  case first =>
    cases j with
    | zero =>
      have t6 : decide (0 < ii) = false := by have := Hii.out; simp; omega
      clear Hii
      go_quiet (fail)
      go_step
      go_step
      go_meet
      exact ⟨rfl, _, rfl⟩
    | succ jm =>
      obtain ⟨d, hd⟩ : ∃ d, x.cs[jm]? = some d := ⟨_, List.getElem?_eq_getElem (by have := Hib.out; have := Hxc.out; omega)⟩
      obtain ⟨hkl, kb, ka, kc, k1, k2, k3⟩ := HPK.out jm d rfl hd
      obtain ⟨kn, hkn⟩ : ∃ kn, d.es.length = kn := ⟨_, rfl⟩
      rw [hkn] at k2 hkl
      have t6 : decide (0 < ii) = true := by have := Hii.out; simp; omega
      have t1 : IntKind.i64.wrap (ii - 1) = (jm : Int) := by have := Hii.out; rw [IntWalk.i64_in _ (by omega)]; omega
      have t4 : (jm : Int) < np := by have := Hib.out; omega
      have t7 : decide ((le : Int) < kn) = false := by simp; omega
      have t7n : decide (le < kn) = false := by simp; omega
      clear hd hkn hkl HPK
      go_quiet ((go_at_call 63; exact Calls.quiet_of_same (HLE.out _)))
      go_step
      go_step
      go_meet
      exact ⟨rfl, _, rfl⟩
  obtain ⟨rfl, q, rfl⟩ := hcut
  clear HPK
  have HLE2 : RowKit.Hid (∀ q', Calls Try.prog 63 #[.pointer (some ⟨tb, 0, none⟩)] ((w.drewN q).drewN q') fun e w' => e = .returned (.int .i64 le) ∧ w' = (w.drewN q).drewN q') := by
    intro q'
    rw [World.drewN_drewN]
    exact HLE.out _
  have HS1 := Lib.hid (HS1.out.mono (below_drewN _ q))
  replace c0 := (show (w.drewN q).cell? _ = _ from c0)
  replace c2 := (show (w.drewN q).cell? _ = _ from c2)
  replace d1 := (show (w.drewN q).cell? _ = _ from d1)
  replace e0 := (show (w.drewN q).cell? _ = _ from e0)
  replace cl : b < (w.drewN q).heap.size := cl
  replace el : rb < (w.drewN q).heap.size := el
  replace d0l : gp < (w.drewN q).heap.size := d0l
  clear HLE d0
  generalize w.drewN q = w1 at *
  go_upto_region 11 with (fail)
  go_cut [171] (fun z wx => z = .bool true ∧ ∃ q, wx = w1.drewN q)
  case first =>
    go_quiet ((go_at_call 63; exact Calls.quiet_of_same (HLE2.out _)))
    go_step
    go_step
    go_meet
    exact ⟨rfl, _, rfl⟩
  obtain ⟨rfl, q2, rfl⟩ := hcut
  have HS2 : RowKit.Hid (St w0 fp0 (blkA b 70 #[.slice (some ⟨gx, 0, none⟩) n cx, .slice (some ⟨gy, 0, none⟩) n cy, .slice (some ⟨gp, 0, none⟩) np cp] :: slA 3 (.slice (some ⟨gx, 0, none⟩) n cx) (keysI x.es) :: slA 3 (.slice (some ⟨gy, 0, none⟩) n cy) (valsI x.es) :: slA 67 (.slice (some ⟨gp, 0, none⟩) np cp) (bs.map ptrI) :: blkA lb 70 #[lk, lv, lp] :: slA 3 lk (keysI l.es) :: slA 3 lv (valsI l.es) :: slA 67 lp (lbs.map ptrI) :: blkA rb 70 #[.slice (some ⟨hx, 0, none⟩) ln dx, .slice (some ⟨hy, 0, none⟩) ln dy, .slice la lz lc9] :: slA 3 (.slice (some ⟨hx, 0, none⟩) ln dx) (keysI c.es) :: slA 3 (.slice (some ⟨hy, 0, none⟩) ln dy) (valsI c.es) :: slA 67 (.slice la lz lc9) (rbs.map ptrI) :: restI h j (j + 2) x.cs bs :: kdAI h l.cs lbs :: kdAI h c.cs rbs :: blkA tb 72 #[r, .int .i64 o, nn] :: R) (w1.drewN q2)) := by
    refine (HS1.out.mono (below_drewN _ _)).perm ?_
    exact (by classical exact List.perm_iff_count.2 fun a => by simp only [twLI, ndLI, List.cons_append, List.nil_append, List.count_cons] <;> omega)
  clear HLE2 HS1
  go_upto_region 13 with (fail)
  clear c0 c2 d1 d0l cl e0 el s1 s2 s3 s4 s5 s6 s7 s7n
  refine region_gen ?_
  intro a0 Ha
  have f1 : a0.eval (.tmp 1) = .pointer (some ⟨b, 0, none⟩) := by rw [Ha.out]; rfl
  have f2 : a0.eval (.tmp 2) = .int .i64 j := by rw [Ha.out, Hii.out]; rfl
  have f6 : a0.eval (.tmp 6) = .pointer (some ⟨lb, 0, none⟩) := by rw [Ha.out]; rfl
  have f9 : a0.eval (.tmp 9) = .pointer (some ⟨rb, 0, none⟩) := by rw [Ha.out]; rfl
  have hF : Fr a0 310 := by rw [Ha.out]; exact ⟨rfl, rfl⟩
  clear Ha
  refine rFl13I (w0 := w0) (fp0 := fp0) b lb gx n cx gy n cy j (.slice (some ⟨gp, 0, none⟩) np cp) lk lv lp x.es l.es s H3.out hix hix Hn.out.symm Hn.out.symm (by have := Hll.out; omega) (slA 67 (.slice (some ⟨gp, 0, none⟩) np cp) (bs.map ptrI) :: slA 67 lp (lbs.map ptrI) :: blkA rb 70 #[.slice (some ⟨hx, 0, none⟩) ln dx, .slice (some ⟨hy, 0, none⟩) ln dy, .slice la lz lc9] :: slA 3 (.slice (some ⟨hx, 0, none⟩) ln dx) (keysI c.es) :: slA 3 (.slice (some ⟨hy, 0, none⟩) ln dy) (valsI c.es) :: slA 67 (.slice la lz lc9) (rbs.map ptrI) :: restI h j (j + 2) x.cs bs :: kdAI h l.cs lbs :: kdAI h c.cs rbs :: blkA tb 72 #[r, .int .i64 o, nn] :: R) _ (by kernel_rfl) hF.size f1 f2 f6 ?_ ?_
  · have h0 := HS2.out
    refine (St.emp.2 (St.emp.2 (h0))).perm ?_
    exact (by classical exact List.perm_iff_count.2 fun a => by simp only [pick_false, vpick_false, List.cons_append, List.nil_append, List.count_cons] <;> omega)
  intro u13 w13 h3
  have HS3 : RowKit.Hid (St w0 fp0 (blkA b 70 #[.slice (some ⟨gx, 0, none⟩) n cx, .slice (some ⟨gy, 0, none⟩) n cy, .slice (some ⟨gp, 0, none⟩) np cp] :: slA 3 (.slice (some ⟨gx, 0, none⟩) n cx) (keysI x.es) :: slA 3 (.slice (some ⟨gy, 0, none⟩) n cy) (valsI x.es) :: slA 67 (.slice (some ⟨gp, 0, none⟩) np cp) (bs.map ptrI) :: blkA lb 70 #[u13 218, u13 231, lp] :: slA 3 (u13 218) (keysI l.es ++ [encI s.1]) :: slA 3 (u13 231) (valsI l.es ++ [valI s.2]) :: slA 67 lp (lbs.map ptrI) :: blkA rb 70 #[.slice (some ⟨hx, 0, none⟩) ln dx, .slice (some ⟨hy, 0, none⟩) ln dy, .slice la lz lc9] :: slA 3 (.slice (some ⟨hx, 0, none⟩) ln dx) (keysI c.es) :: slA 3 (.slice (some ⟨hy, 0, none⟩) ln dy) (valsI c.es) :: slA 67 (.slice la lz lc9) (rbs.map ptrI) :: restI h j (j + 2) x.cs bs :: kdAI h l.cs lbs :: kdAI h c.cs rbs :: blkA tb 72 #[r, .int .i64 o, nn] :: R) w13) := by
    have h4 := h3.drop.drop
    refine h4.perm ?_
    exact (by classical exact List.perm_iff_count.2 fun a => by simp only [pick_true, vpick_true, List.append_eq, List.cons_append, List.nil_append, List.count_cons] <;> omega)
  clear h3 HS2
  go_step
  go_step
  go_step
  replace f1 := (putL_out (u := u13) 204 32 (by omega)).trans f1
  replace f2 := (putL_out (u := u13) 204 32 (by omega)).trans f2
  replace f6 := (putL_out (u := u13) 204 32 (by omega)).trans f6
  replace f9 := (putL_out (u := u13) 204 32 (by omega)).trans f9
  replace hF := hF.put 204 32 u13
  generalize putL a0 _ = a0x at *
  refine rFl14I (w0 := w0) (fp0 := fp0) b rb gx n cx gy n cy hx ln dx hy ln dy j (.slice (some ⟨gp, 0, none⟩) np cp) (.slice la lz lc9) x.es c.es m Hlast.out hix hix Hn.out.symm Hn.out.symm (by have := Hgt.out; omega) (by have := Hgt.out; omega) Hln.out.symm Hln.out.symm (by omega) (slA 67 (.slice (some ⟨gp, 0, none⟩) np cp) (bs.map ptrI) :: blkA lb 70 #[u13 218, u13 231, lp] :: slA 3 (u13 218) (keysI l.es ++ [encI s.1]) :: slA 3 (u13 231) (valsI l.es ++ [valI s.2]) :: slA 67 lp (lbs.map ptrI) :: slA 67 (.slice la lz lc9) (rbs.map ptrI) :: restI h j (j + 2) x.cs bs :: kdAI h l.cs lbs :: kdAI h c.cs rbs :: blkA tb 72 #[r, .int .i64 o, nn] :: R) _ (by kernel_rfl) hF.size f1 f2 f9 ?_ ?_
  · have h0 := HS3.out
    refine (h0).perm ?_
    exact (by classical exact List.perm_iff_count.2 fun a => by simp only [pick_false, List.cons_append, List.nil_append, List.count_cons] <;> omega)
  intro u14 w14 h3
  have HS4 : RowKit.Hid (St w0 fp0 (blkA b 70 #[.slice (some ⟨gx, 0, none⟩) n cx, .slice (some ⟨gy, 0, none⟩) n cy, .slice (some ⟨gp, 0, none⟩) np cp] :: slA 3 (.slice (some ⟨gx, 0, none⟩) n cx) ((keysI x.es).set j (encI m.1)) :: slA 3 (.slice (some ⟨gy, 0, none⟩) n cy) ((valsI x.es).set j (valI m.2)) :: slA 67 (.slice (some ⟨gp, 0, none⟩) np cp) (bs.map ptrI) :: blkA lb 70 #[u13 218, u13 231, lp] :: slA 3 (u13 218) (keysI l.es ++ [encI s.1]) :: slA 3 (u13 231) (valsI l.es ++ [valI s.2]) :: slA 67 lp (lbs.map ptrI) :: blkA rb 70 #[.slice (some ⟨hx, 0, none⟩) ln dx, .slice (some ⟨hy, 0, none⟩) ln dy, .slice la lz lc9] :: slA 3 (.slice (some ⟨hx, 0, none⟩) ln dx) (keysI c.es) :: slA 3 (.slice (some ⟨hy, 0, none⟩) ln dy) (valsI c.es) :: slA 67 (.slice la lz lc9) (rbs.map ptrI) :: restI h j (j + 2) x.cs bs :: kdAI h l.cs lbs :: kdAI h c.cs rbs :: blkA tb 72 #[r, .int .i64 o, nn] :: R) w14) := by
    have h4 := h3
    refine h4.perm ?_
    exact (by classical exact List.perm_iff_count.2 fun a => by simp only [pick_true, List.cons_append, List.nil_append, List.count_cons] <;> omega)
  clear h3 HS3
  go_step
  go_step
  go_step
  replace f1 := (putL_out (u := u14) 236 24 (by omega)).trans f1
  replace f2 := (putL_out (u := u14) 236 24 (by omega)).trans f2
  replace f6 := (putL_out (u := u14) 236 24 (by omega)).trans f6
  replace f9 := (putL_out (u := u14) 236 24 (by omega)).trans f9
  replace hF := hF.put 236 24 u14
  generalize putL a0x _ = a0xx at *
  refine rFl15I (w0 := w0) (fp0 := fp0) rb (.slice (some ⟨hx, 0, none⟩) ln dx) (.slice (some ⟨hy, 0, none⟩) ln dy) (.slice la lz lc9) c.es (by rw [Hln.out]; have := Hgt.out; omega) (by have := Hcl.out; have := Hln.out; omega) (blkA b 70 #[.slice (some ⟨gx, 0, none⟩) n cx, .slice (some ⟨gy, 0, none⟩) n cy, .slice (some ⟨gp, 0, none⟩) np cp] :: slA 3 (.slice (some ⟨gx, 0, none⟩) n cx) ((keysI x.es).set j (encI m.1)) :: slA 3 (.slice (some ⟨gy, 0, none⟩) n cy) ((valsI x.es).set j (valI m.2)) :: slA 67 (.slice (some ⟨gp, 0, none⟩) np cp) (bs.map ptrI) :: blkA lb 70 #[u13 218, u13 231, lp] :: slA 3 (u13 218) (keysI l.es ++ [encI s.1]) :: slA 3 (u13 231) (valsI l.es ++ [valI s.2]) :: slA 67 lp (lbs.map ptrI) :: slA 67 (.slice la lz lc9) (rbs.map ptrI) :: restI h j (j + 2) x.cs bs :: kdAI h l.cs lbs :: kdAI h c.cs rbs :: blkA tb 72 #[r, .int .i64 o, nn] :: R) _ (by kernel_rfl) hF.size f9 ?_ ?_
  · have h0 := HS4.out
    refine (h0).perm ?_
    exact (by classical exact List.perm_iff_count.2 fun a => by simp only [pick_false, vpick_false, List.cons_append, List.nil_append, List.count_cons] <;> omega)
  intro u15 w15 h3
  have HS5 : RowKit.Hid (St w0 fp0 (blkA b 70 #[.slice (some ⟨gx, 0, none⟩) n cx, .slice (some ⟨gy, 0, none⟩) n cy, .slice (some ⟨gp, 0, none⟩) np cp] :: slA 3 (.slice (some ⟨gx, 0, none⟩) n cx) ((keysI x.es).set j (encI m.1)) :: slA 3 (.slice (some ⟨gy, 0, none⟩) n cy) ((valsI x.es).set j (valI m.2)) :: slA 67 (.slice (some ⟨gp, 0, none⟩) np cp) (bs.map ptrI) :: blkA lb 70 #[u13 218, u13 231, lp] :: slA 3 (u13 218) (keysI l.es ++ [encI s.1]) :: slA 3 (u13 231) (valsI l.es ++ [valI s.2]) :: slA 67 lp (lbs.map ptrI) :: blkA rb 70 #[u15 266, u15 271, .slice la lz lc9] :: slA 3 (u15 266) ((keysI c.es).eraseIdx 0) :: slA 3 (u15 271) ((valsI c.es).eraseIdx 0) :: slA 67 (.slice la lz lc9) (rbs.map ptrI) :: restI h j (j + 2) x.cs bs :: kdAI h l.cs lbs :: kdAI h c.cs rbs :: blkA tb 72 #[r, .int .i64 o, nn] :: R) w15) := by
    have h4 := h3
    refine h4.perm ?_
    exact (by classical exact List.perm_iff_count.2 fun a => by simp only [pick_true, vpick_true, List.cons_append, List.nil_append, List.count_cons] <;> omega)
  clear h3 HS4
  go_step
  go_step
  go_step
  replace f1 := (putL_out (u := u15) 260 16 (by omega)).trans f1
  replace f2 := (putL_out (u := u15) 260 16 (by omega)).trans f2
  replace f6 := (putL_out (u := u15) 260 16 (by omega)).trans f6
  replace f9 := (putL_out (u := u15) 260 16 (by omega)).trans f9
  replace hF := hF.put 260 16 u15
  generalize putL a0xx _ = a0xxx at *
  refine rFl16I (w0 := w0) (fp0 := fp0) rb lz lc9 la (u15 266) (u15 271) (blkA b 70 #[.slice (some ⟨gx, 0, none⟩) n cx, .slice (some ⟨gy, 0, none⟩) n cy, .slice (some ⟨gp, 0, none⟩) np cp] :: slA 3 (.slice (some ⟨gx, 0, none⟩) n cx) ((keysI x.es).set j (encI m.1)) :: slA 3 (.slice (some ⟨gy, 0, none⟩) n cy) ((valsI x.es).set j (valI m.2)) :: slA 67 (.slice (some ⟨gp, 0, none⟩) np cp) (bs.map ptrI) :: blkA lb 70 #[u13 218, u13 231, lp] :: slA 3 (u13 218) (keysI l.es ++ [encI s.1]) :: slA 3 (u13 231) (valsI l.es ++ [valI s.2]) :: slA 67 lp (lbs.map ptrI) :: slA 3 (u15 266) ((keysI c.es).eraseIdx 0) :: slA 3 (u15 271) ((valsI c.es).eraseIdx 0) :: slA 67 (.slice la lz lc9) (rbs.map ptrI) :: restI h j (j + 2) x.cs bs :: kdAI h l.cs lbs :: kdAI h c.cs rbs :: blkA tb 72 #[r, .int .i64 o, nn] :: R) _ (by kernel_rfl) hF.size f9 ?_ ?_
  · have h0 := HS5.out
    refine (St.emp.2 (h0)).perm ?_
    exact (by classical exact List.perm_iff_count.2 fun a => by simp only [pick_false, List.cons_append, List.nil_append, List.count_cons] <;> omega)
  intro u16 w16 e278 h3
  have HS6 : RowKit.Hid (St w0 fp0 (pureA (u16 277 = .bool (lz == 0)) :: blkA b 70 #[.slice (some ⟨gx, 0, none⟩) n cx, .slice (some ⟨gy, 0, none⟩) n cy, .slice (some ⟨gp, 0, none⟩) np cp] :: slA 3 (.slice (some ⟨gx, 0, none⟩) n cx) ((keysI x.es).set j (encI m.1)) :: slA 3 (.slice (some ⟨gy, 0, none⟩) n cy) ((valsI x.es).set j (valI m.2)) :: slA 67 (.slice (some ⟨gp, 0, none⟩) np cp) (bs.map ptrI) :: blkA lb 70 #[u13 218, u13 231, lp] :: slA 3 (u13 218) (keysI l.es ++ [encI s.1]) :: slA 3 (u13 231) (valsI l.es ++ [valI s.2]) :: slA 67 lp (lbs.map ptrI) :: blkA rb 70 #[u15 266, u15 271, .slice la lz lc9] :: slA 3 (u15 266) ((keysI c.es).eraseIdx 0) :: slA 3 (u15 271) ((valsI c.es).eraseIdx 0) :: slA 67 (.slice la lz lc9) (rbs.map ptrI) :: restI h j (j + 2) x.cs bs :: kdAI h l.cs lbs :: kdAI h c.cs rbs :: blkA tb 72 #[r, .int .i64 o, nn] :: R) w16) := by
    have h4 := h3
    refine h4.perm ?_
    exact (by classical exact List.perm_iff_count.2 fun a => by simp only [pick_true, List.cons_append, List.nil_append, List.count_cons] <;> omega)
  clear h3 HS5
  go_step
  go_step
  replace f1 := (putL_out (u := u16) 276 3 (by omega)).trans f1
  replace f2 := (putL_out (u := u16) 276 3 (by omega)).trans f2
  replace f6 := (putL_out (u := u16) 276 3 (by omega)).trans f6
  replace f9 := (putL_out (u := u16) 276 3 (by omega)).trans f9
  have f278 := (putL_in (u := u16) 3 276 a0xxx (by omega) (by omega) (by rw [hF.size]; omega)).trans e278
  replace hF := hF.put 276 3 u16
  generalize putL a0xxx _ = a0xxxx at *
  obtain ⟨_, HS7⟩ := St.pure.1 HS6.out
  clear HS6 f1 f2
  have HS7 := Lib.hid HS7
  have HF : RowKit.Hid (∀ lp2 cp2 lbs2 rbs2 wx, KidsOkI w0 fp0 h (l.cs ++ c.cs.take 1) (c.cs.drop 1) (lbs2) (rbs2) (blkA b 70 #[.slice (some ⟨gx, 0, none⟩) n cx, .slice (some ⟨gy, 0, none⟩) n cy, .slice (some ⟨gp, 0, none⟩) np cp] :: slA 3 (.slice (some ⟨gx, 0, none⟩) n cx) ((keysI x.es).set j (encI m.1)) :: slA 3 (.slice (some ⟨gy, 0, none⟩) n cy) ((valsI x.es).set j (valI m.2)) :: slA 67 (.slice (some ⟨gp, 0, none⟩) np cp) (bs.map ptrI) :: blkA lb 70 #[u13 218, u13 231, lp2] :: slA 3 (u13 218) (keysI l.es ++ [encI s.1]) :: slA 3 (u13 231) (valsI l.es ++ [valI s.2]) :: slA 67 lp2 (lbs2.map ptrI) :: blkA rb 70 #[u15 266, u15 271, cp2] :: slA 3 (u15 266) ((keysI c.es).eraseIdx 0) :: slA 3 (u15 271) ((valsI c.es).eraseIdx 0) :: slA 67 cp2 (rbs2.map ptrI) :: restI h j (j + 2) x.cs bs :: blkA tb 72 #[r, .int .i64 o, nn] :: R) wx → St w0 fp0 (treeI (h + 1) (leftT j x) b :: blkA tb 72 #[r, .int .i64 o, nn] :: R) wx) := by
    intro lp2 cp2 lbs2 rbs2 wx hk
    have HK := Lib.hid hk
    have e : leftT j x = .node (x.es.set j m) (x.cs.take j ++ (.node (l.es ++ [s]) (l.cs ++ c.cs.take 1) :: .node Rr (c.cs.drop 1) :: x.cs.drop (j + 2))) := by unfold leftT; rw [H1.out, H2.out, H3.out]; simp only [Hm.out]
    rw [e]
    refine St.shutTwI (R := blkA tb 72 #[r, .int .i64 o, nn] :: R) (lbs := lbs2) (rbs := rbs2) (lk := u13 218) (lv := u13 231) (lp := lp2) (rk := u15 266) (rv := u15 271) (rp := cp2) (ks := (.slice (some ⟨gx, 0, none⟩) n cx)) (vs := (.slice (some ⟨gy, 0, none⟩) n cy)) (ps := (.slice (some ⟨gp, 0, none⟩) np cp)) Hl.out Hbl.out Hbr.out HK.out.1 HK.out.2.1 ?_
    have k1 : keysI (x.es.set j m) = (keysI x.es).set j (encI m.1) := by unfold keysI; rw [List.map_set]
    have k2 : valsI (x.es.set j m) = (valsI x.es).set j (valI m.2) := by unfold valsI; rw [List.map_set]
    have k3 : keysI (l.es ++ [s]) = keysI l.es ++ [encI s.1] := by simp [keysI]
    have k4 : valsI (l.es ++ [s]) = valsI l.es ++ [valI s.2] := by simp [valsI]
    have k5 : keysI Rr = (keysI c.es).eraseIdx 0 := by rw [Hm.out]; rfl
    have k6 : valsI Rr = (valsI c.es).eraseIdx 0 := by rw [Hm.out]; rfl
    refine HK.out.2.2.perm ?_
    unfold twLI ndLI
    rw [k1, k2, k3, k4, k5, k6]
    exact (by classical exact List.perm_iff_count.2 fun a => by simp only [List.cons_append, List.nil_append, List.count_cons] <;> omega)
  refine wp_cond_of f278 (fun hq => ?_) (fun hq => ?_)
  · rcases Hlc.out with ⟨k1, k2⟩ | ⟨k1, k2⟩
    · exfalso
      have hz : lz = 0 := by rw [← Hlz.out, Hl2.out, k2]; rfl
      rw [hz] at hq
      simp at hq
    · have hlz2 : rbs.length = ln + 1 := by rw [Hl2.out, k2, Hln.out]
      obtain ⟨_, q5⟩ := HS7.out.has 11 rfl
      obtain ⟨g2, pc2, e5, -, -⟩ := sl_some q5 (by rw [List.length_map]; omega)
      injection e5 with e51 e52 e53
      clear e52 e53 q5
      subst e51
      obtain ⟨q0, B1, hB⟩ : ∃ q0 B1, rbs = q0 :: B1 := by
        cases hh : rbs with
        | nil => rw [hh] at hlz2; simp at hlz2
        | cons a b => exact ⟨a, b, rfl⟩
      obtain ⟨d, D1, hd⟩ : ∃ d D1, c.cs = d :: D1 := by
        cases hh : c.cs with
        | nil => rw [hh] at k2; simp at k2
        | cons a b => exact ⟨a, b, rfl⟩
      have hq0 : rbs[0]? = some q0 := by rw [hB]; rfl
      have hbo : B1.length = D1.length := by
        have := Hl2.out
        rw [hB, hd] at this
        simpa using this
      have Hfin : RowKit.Hid (∀ lp2 cp2 wx, St w0 fp0 (blkA b 70 #[.slice (some ⟨gx, 0, none⟩) n cx, .slice (some ⟨gy, 0, none⟩) n cy, .slice (some ⟨gp, 0, none⟩) np cp] :: slA 3 (.slice (some ⟨gx, 0, none⟩) n cx) ((keysI x.es).set j (encI m.1)) :: slA 3 (.slice (some ⟨gy, 0, none⟩) n cy) ((valsI x.es).set j (valI m.2)) :: slA 67 (.slice (some ⟨gp, 0, none⟩) np cp) (bs.map ptrI) :: blkA lb 70 #[u13 218, u13 231, lp2] :: slA 3 (u13 218) (keysI l.es ++ [encI s.1]) :: slA 3 (u13 231) (valsI l.es ++ [valI s.2]) :: slA 67 lp2 ((lbs ++ [q0]).map ptrI) :: blkA rb 70 #[u15 266, u15 271, cp2] :: slA 3 (u15 266) ((keysI c.es).eraseIdx 0) :: slA 3 (u15 271) ((valsI c.es).eraseIdx 0) :: slA 67 cp2 ((rbs.eraseIdx 0).map ptrI) :: restI h j (j + 2) x.cs bs :: kdAI h l.cs lbs :: kdAI h c.cs rbs :: blkA tb 72 #[r, .int .i64 o, nn] :: R) wx → KidsOkI w0 fp0 h (l.cs ++ c.cs.take 1) (c.cs.drop 1) (lbs ++ [q0]) (rbs.eraseIdx 0) (blkA b 70 #[.slice (some ⟨gx, 0, none⟩) n cx, .slice (some ⟨gy, 0, none⟩) n cy, .slice (some ⟨gp, 0, none⟩) np cp] :: slA 3 (.slice (some ⟨gx, 0, none⟩) n cx) ((keysI x.es).set j (encI m.1)) :: slA 3 (.slice (some ⟨gy, 0, none⟩) n cy) ((valsI x.es).set j (valI m.2)) :: slA 67 (.slice (some ⟨gp, 0, none⟩) np cp) (bs.map ptrI) :: blkA lb 70 #[u13 218, u13 231, lp2] :: slA 3 (u13 218) (keysI l.es ++ [encI s.1]) :: slA 3 (u13 231) (valsI l.es ++ [valI s.2]) :: slA 67 lp2 ((lbs ++ [q0]).map ptrI) :: blkA rb 70 #[u15 266, u15 271, cp2] :: slA 3 (u15 266) ((keysI c.es).eraseIdx 0) :: slA 3 (u15 271) ((valsI c.es).eraseIdx 0) :: slA 67 cp2 ((rbs.eraseIdx 0).map ptrI) :: restI h j (j + 2) x.cs bs :: blkA tb 72 #[r, .int .i64 o, nn] :: R) wx) := by
        intro lp2 cp2 wx h0
        have hB1 : rbs.eraseIdx 0 = B1 := by rw [hB]; rfl
        have hd1 : l.cs ++ c.cs.take 1 = l.cs ++ [d] := by rw [hd]; rfl
        have hd2 : c.cs.drop 1 = D1 := by rw [hd]; rfl
        rw [hB1] at h0 ⊢
        rw [hd1, hd2]
        have h1 : St w0 fp0 (kdAI h ([d] ++ D1) ([q0] ++ B1) :: kdAI h l.cs lbs :: (blkA b 70 #[.slice (some ⟨gx, 0, none⟩) n cx, .slice (some ⟨gy, 0, none⟩) n cy, .slice (some ⟨gp, 0, none⟩) np cp] :: slA 3 (.slice (some ⟨gx, 0, none⟩) n cx) ((keysI x.es).set j (encI m.1)) :: slA 3 (.slice (some ⟨gy, 0, none⟩) n cy) ((valsI x.es).set j (valI m.2)) :: slA 67 (.slice (some ⟨gp, 0, none⟩) np cp) (bs.map ptrI) :: blkA lb 70 #[u13 218, u13 231, lp2] :: slA 3 (u13 218) (keysI l.es ++ [encI s.1]) :: slA 3 (u13 231) (valsI l.es ++ [valI s.2]) :: slA 67 lp2 ((lbs ++ [q0]).map ptrI) :: blkA rb 70 #[u15 266, u15 271, cp2] :: slA 3 (u15 266) ((keysI c.es).eraseIdx 0) :: slA 3 (u15 271) ((valsI c.es).eraseIdx 0) :: slA 67 cp2 (B1.map ptrI) :: restI h j (j + 2) x.cs bs :: blkA tb 72 #[r, .int .i64 o, nn] :: R)) wx := by
          have e1 : kdAI h ([d] ++ D1) ([q0] ++ B1) = kdAI h c.cs rbs := by rw [hd, hB]; rfl
          rw [e1]
          refine h0.perm ?_
          exact (by classical exact List.perm_iff_count.2 fun a => by simp only [List.count_cons] <;> omega)
        have h2 := (St.kids_appI (A := [d]) (A' := [q0]) rfl).1 h1
        have h3 : St w0 fp0 (kdAI h l.cs lbs :: kdAI h [d] [q0] :: (kdAI h D1 B1 :: (blkA b 70 #[.slice (some ⟨gx, 0, none⟩) n cx, .slice (some ⟨gy, 0, none⟩) n cy, .slice (some ⟨gp, 0, none⟩) np cp] :: slA 3 (.slice (some ⟨gx, 0, none⟩) n cx) ((keysI x.es).set j (encI m.1)) :: slA 3 (.slice (some ⟨gy, 0, none⟩) n cy) ((valsI x.es).set j (valI m.2)) :: slA 67 (.slice (some ⟨gp, 0, none⟩) np cp) (bs.map ptrI) :: blkA lb 70 #[u13 218, u13 231, lp2] :: slA 3 (u13 218) (keysI l.es ++ [encI s.1]) :: slA 3 (u13 231) (valsI l.es ++ [valI s.2]) :: slA 67 lp2 ((lbs ++ [q0]).map ptrI) :: blkA rb 70 #[u15 266, u15 271, cp2] :: slA 3 (u15 266) ((keysI c.es).eraseIdx 0) :: slA 3 (u15 271) ((valsI c.es).eraseIdx 0) :: slA 67 cp2 (B1.map ptrI) :: restI h j (j + 2) x.cs bs :: blkA tb 72 #[r, .int .i64 o, nn] :: R))) wx := by
          refine h2.perm ?_
          exact (by classical exact List.perm_iff_count.2 fun a => by simp only [List.count_cons] <;> omega)
        have h4 := (St.kids_appI Hl1.out).2 h3
        refine ⟨?_, hbo, h4⟩
        rw [List.length_append, List.length_append, Hl1.out]
        rfl
      go_step
      refine rFl17I (w0 := w0) (fp0 := fp0) lb rb g2 lz lc9 (u13 218) (u13 231) lp (u15 266) (u15 271) lbs rbs q0 hq0 (by have := Hlz.out; omega) Hlz.out.symm (by rw [Hl1.out, k1]; have := Hll.out; omega) (blkA b 70 #[.slice (some ⟨gx, 0, none⟩) n cx, .slice (some ⟨gy, 0, none⟩) n cy, .slice (some ⟨gp, 0, none⟩) np cp] :: slA 3 (.slice (some ⟨gx, 0, none⟩) n cx) ((keysI x.es).set j (encI m.1)) :: slA 3 (.slice (some ⟨gy, 0, none⟩) n cy) ((valsI x.es).set j (valI m.2)) :: slA 67 (.slice (some ⟨gp, 0, none⟩) np cp) (bs.map ptrI) :: slA 3 (u13 218) (keysI l.es ++ [encI s.1]) :: slA 3 (u13 231) (valsI l.es ++ [valI s.2]) :: slA 3 (u15 266) ((keysI c.es).eraseIdx 0) :: slA 3 (u15 271) ((valsI c.es).eraseIdx 0) :: restI h j (j + 2) x.cs bs :: kdAI h l.cs lbs :: kdAI h c.cs rbs :: blkA tb 72 #[r, .int .i64 o, nn] :: R) _ (by kernel_rfl) hF.size f6 f9 ?_ ?_
      · have h0 := HS7.out
        refine (St.emp.2 (h0)).perm ?_
        exact (by classical exact List.perm_iff_count.2 fun a => by simp only [pick_false, vpick_false, List.cons_append, List.nil_append, List.count_cons] <;> omega)
      intro u17 w17 h3
      have HS8 : RowKit.Hid (St w0 fp0 (blkA b 70 #[.slice (some ⟨gx, 0, none⟩) n cx, .slice (some ⟨gy, 0, none⟩) n cy, .slice (some ⟨gp, 0, none⟩) np cp] :: slA 3 (.slice (some ⟨gx, 0, none⟩) n cx) ((keysI x.es).set j (encI m.1)) :: slA 3 (.slice (some ⟨gy, 0, none⟩) n cy) ((valsI x.es).set j (valI m.2)) :: slA 67 (.slice (some ⟨gp, 0, none⟩) np cp) (bs.map ptrI) :: blkA lb 70 #[(u13 218), (u13 231), (u17 291)] :: slA 3 (u13 218) (keysI l.es ++ [encI s.1]) :: slA 3 (u13 231) (valsI l.es ++ [valI s.2]) :: slA 67 (u17 291) (lbs.map ptrI ++ [.pointer (some ⟨q0, 0, none⟩)]) :: blkA rb 70 #[u15 266, u15 271, .slice (some ⟨g2, 0, none⟩) lz lc9] :: slA 3 (u15 266) ((keysI c.es).eraseIdx 0) :: slA 3 (u15 271) ((valsI c.es).eraseIdx 0) :: slA 67 (.slice (some ⟨g2, 0, none⟩) lz lc9) (rbs.map ptrI) :: restI h j (j + 2) x.cs bs :: kdAI h l.cs lbs :: kdAI h c.cs rbs :: blkA tb 72 #[r, .int .i64 o, nn] :: R) w17) := by
        have h4 := h3.drop
        refine h4.perm ?_
        exact (by classical exact List.perm_iff_count.2 fun a => by simp only [pick_true, vpick_true, List.append_eq, List.cons_append, List.nil_append, List.count_cons] <;> omega)
      clear h3 HS7
      go_step
      go_step
      replace f6 := (putL_out (u := u17) 279 15 (by omega)).trans f6
      replace f9 := (putL_out (u := u17) 279 15 (by omega)).trans f9
      replace hF := hF.put 279 15 u17
      generalize putL a0xxxx _ = a0xxxxx at *

      refine rFl18I (w0 := w0) (fp0 := fp0) rb (u15 266) (u15 271) (.slice (some ⟨g2, 0, none⟩) lz lc9) rbs (by omega) (by have := Hcl.out; omega) (blkA b 70 #[.slice (some ⟨gx, 0, none⟩) n cx, .slice (some ⟨gy, 0, none⟩) n cy, .slice (some ⟨gp, 0, none⟩) np cp] :: slA 3 (.slice (some ⟨gx, 0, none⟩) n cx) ((keysI x.es).set j (encI m.1)) :: slA 3 (.slice (some ⟨gy, 0, none⟩) n cy) ((valsI x.es).set j (valI m.2)) :: slA 67 (.slice (some ⟨gp, 0, none⟩) np cp) (bs.map ptrI) :: blkA lb 70 #[(u13 218), (u13 231), (u17 291)] :: slA 3 (u13 218) (keysI l.es ++ [encI s.1]) :: slA 3 (u13 231) (valsI l.es ++ [valI s.2]) :: slA 67 (u17 291) (lbs.map ptrI ++ [.pointer (some ⟨q0, 0, none⟩)]) :: slA 3 (u15 266) ((keysI c.es).eraseIdx 0) :: slA 3 (u15 271) ((valsI c.es).eraseIdx 0) :: restI h j (j + 2) x.cs bs :: kdAI h l.cs lbs :: kdAI h c.cs rbs :: blkA tb 72 #[r, .int .i64 o, nn] :: R) _ (by kernel_rfl) hF.size f9 ?_ ?_
      · have h0 := HS8.out
        refine (h0).perm ?_
        exact (by classical exact List.perm_iff_count.2 fun a => by simp only [pick_false, vpick_false, List.cons_append, List.nil_append, List.count_cons] <;> omega)
      intro u18 w18 h3
      have HS9 : RowKit.Hid (St w0 fp0 (blkA b 70 #[.slice (some ⟨gx, 0, none⟩) n cx, .slice (some ⟨gy, 0, none⟩) n cy, .slice (some ⟨gp, 0, none⟩) np cp] :: slA 3 (.slice (some ⟨gx, 0, none⟩) n cx) ((keysI x.es).set j (encI m.1)) :: slA 3 (.slice (some ⟨gy, 0, none⟩) n cy) ((valsI x.es).set j (valI m.2)) :: slA 67 (.slice (some ⟨gp, 0, none⟩) np cp) (bs.map ptrI) :: blkA lb 70 #[(u13 218), (u13 231), (u17 291)] :: slA 3 (u13 218) (keysI l.es ++ [encI s.1]) :: slA 3 (u13 231) (valsI l.es ++ [valI s.2]) :: slA 67 (u17 291) (lbs.map ptrI ++ [.pointer (some ⟨q0, 0, none⟩)]) :: blkA rb 70 #[(u15 266), (u15 271), (u18 299)] :: slA 3 (u15 266) ((keysI c.es).eraseIdx 0) :: slA 3 (u15 271) ((valsI c.es).eraseIdx 0) :: slA 67 (u18 299) ((rbs.map ptrI).eraseIdx 0) :: restI h j (j + 2) x.cs bs :: kdAI h l.cs lbs :: kdAI h c.cs rbs :: blkA tb 72 #[r, .int .i64 o, nn] :: R) w18) := by
        have h4 := h3
        refine h4.perm ?_
        exact (by classical exact List.perm_iff_count.2 fun a => by simp only [pick_true, vpick_true, List.cons_append, List.nil_append, List.count_cons] <;> omega)
      clear h3 HS8
      replace f6 := (putL_out (u := u18) 294 8 (by omega)).trans f6
      replace f9 := (putL_out (u := u18) 294 8 (by omega)).trans f9
      replace hF := hF.put 294 8 u18
      generalize putL a0xxxxx _ = a0xxxxxx at *

      have HE := HF.out _ _ _ _ _ (Hfin.out (u17 291) (u18 299) w18 (by
        refine HS9.out.perm ?_
        rw [map_eraseIdxI]
        rw [show (lbs ++ [q0]).map ptrI = lbs.map ptrI ++ [.pointer (some ⟨q0, 0, none⟩)] by rw [List.map_append]; rfl]))
      have HE := Lib.hid HE
      clear HS9 Hfin HF f6 f9 hB hd hq0 hbo k1 k2 hlz2
      go_wp2
      refine bodyPost_end (results_none rfl _ _ _) hF.defers ?_
      exact ⟨rfl, HE.out⟩
  · rcases Hlc.out with ⟨k1, k2⟩ | ⟨k1, k2⟩
    · have hz : lbs = [] := List.length_eq_zero_iff.1 (by rw [Hl1.out, k1]; rfl)
      have HE := HF.out lp (.slice la lz lc9) lbs rbs w16 (by
        have hr : rbs = [] := List.length_eq_zero_iff.1 (by rw [Hl2.out, k2]; rfl)
        have h0 := HS7.out
        rw [k1, k2, hz, hr] at h0
        rw [k1, k2, hz, hr]
        show KidsOkI w0 fp0 h [] [] [] [] _ _
        refine ⟨rfl, rfl, h0.perm ?_⟩
        exact (by classical exact List.perm_iff_count.2 fun a => by simp only [List.count_cons] <;> omega))
      have HE := Lib.hid HE
      clear HS7 HF f6 f9 f278 hz k1 k2 hq
      go_wp2
      refine bodyPost_end (results_none rfl _ _ _) hF.defers ?_
      exact ⟨rfl, HE.out⟩
    · exfalso
      have hz2 : lz = ln + 1 := by rw [← Hlz.out, Hl2.out, k2, Hln.out]
      rw [hz2] at hq
      simp at hq
end Go.Proofs.Ytldofiankhimjaa
