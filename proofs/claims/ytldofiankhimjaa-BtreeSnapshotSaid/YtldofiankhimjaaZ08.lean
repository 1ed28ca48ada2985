/- Part 8 of the proof: FlAI -/
import Derived.Test.YtldofiankhimjaaZ06
import Derived.Test.YtldofiankhimjaaZ07
import Derived.Test.YtldofiankhimjaaZ01
import Derived.Deep.DeepCutAuto
import Derived.BigQuiet
import Derived.IntWalk
/- fill: an entry from the left (I). -/
namespace Go.Proofs.Ytldofiankhimjaa
open Go Go.RowKit
/-- The kids that two nodes have in the end. -/
def KidsOkI (w0 : World) (fp0 : List Nat) (h : Nat) (lc rc : List TI) (lbs rbs : List Nat) (L : List Asn) (w : World) : Prop := lbs.length = lc.length ∧ rbs.length = rc.length ∧ St w0 fp0 (kdAI h lc lbs :: kdAI h rc rbs :: L) w
set_option maxHeartbeats 8000000 in
set_option maxRecDepth 100000 in
theorem fillAI {o h j : Nat} (ho : 3 ≤ o) (ho' : o ≤ 1024) (tb : Nat) (r nn : Value) {x l c : TI} {s : Int × Int} (b : Nat) (w0 w : World) (fp0 : List Nat) (R : List Asn) (h1 : x.cs[j]? = some l) (h2 : x.cs[j + 1]? = some c) (h3 : x.es[j]? = some s)
    (hxl : x.es.length ≤ 2000 ∧ x.cs.length ≤ 2001) (hll : l.es.length ≤ 2000) (hcl : c.es.length ≤ 2000) (hlc : (l.cs = [] ∧ c.cs = []) ∨ (l.cs.length = l.es.length + 1 ∧ c.cs.length = c.es.length + 1)) (hcc : True) (hgt : least o < l.es.length) (hS : St w0 fp0 (treeI (h + 1) x b :: blkA tb 72 #[r, .int .i64 o, nn] :: R) w) :
    Calls Try.prog 75 #[.pointer (some ⟨tb, 0, none⟩), .pointer (some ⟨b, 0, none⟩), .int .i64 (j + 1 : Nat)] w fun e w' => e = .returned (.tuple #[]) ∧ St w0 fp0 (treeI (h + 1) (rightT j x) b :: blkA tb 72 #[r, .int .i64 o, nn] :: R) w' := by
  obtain ⟨ks, vs, ps, bs, lb, lk, lv, lp, lbs, rb, rk, rv, rp, rbs, hl, hbl, hbr, hl1, hl2, hS1⟩ := hS.openTwI h1 h2
  obtain ⟨_, q1⟩ := hS1.has 1 rfl
  obtain ⟨_, q2⟩ := hS1.has 2 rfl
  obtain ⟨_, q3⟩ := hS1.has 3 rfl
  have hix : j < x.es.length := (List.getElem?_eq_some_iff.1 h3).1
  have hib : j + 1 < bs.length := (List.getElem?_eq_some_iff.1 hbr).1
  obtain ⟨gx, cx, rfl, hcx, -⟩ := sl_some q1 (by rw [keysI_length]; omega)
  obtain ⟨gy, cy, rfl, hcy, -⟩ := sl_some q2 (by rw [valsI_length]; omega)
  obtain ⟨gp, cp, rfl, hcp, -⟩ := sl_some q3 (by rw [List.length_map]; omega)
  obtain ⟨d0, -, d0l, -⟩ := sl_elem q3 j (by rw [List.length_map]; omega)
  obtain ⟨d1, -, -, -⟩ := sl_elem q3 (j + 1) (by rw [List.length_map]; omega)
  simp only [List.getElem_map] at d0 d1
  rw [(List.getElem?_eq_some_iff.1 hbl).2] at d0
  rw [(List.getElem?_eq_some_iff.1 hbr).2] at d1
  rw [keysI_length] at hcx hS1
  rw [valsI_length] at hcy hS1
  rw [List.length_map] at hcp hS1
  obtain ⟨_, q0⟩ := hS1.has 0 rfl
  have c2 := (blk_get q0).1 2
  have cl := (blk_get q0).2.2
  obtain ⟨_, q5⟩ := hS1.has 5 rfl
  obtain ⟨_, q6⟩ := hS1.has 6 rfl
  obtain ⟨_, q7⟩ := hS1.has 7 rfl
  obtain ⟨hx, dx, rfl, hdx, -⟩ := sl_some q5 (by rw [keysI_length]; omega)
  obtain ⟨hy, dy, rfl, hdy, -⟩ := sl_some q6 (by rw [valsI_length]; omega)
  obtain ⟨la, lc9, e7, -⟩ := sl_get q7
  subst e7
  rw [keysI_length] at hdx hS1
  rw [valsI_length] at hdy hS1
  rw [List.length_map] at hS1
  obtain ⟨_, q4⟩ := hS1.has 4 rfl
  have e0 := (blk_get q4).1 0
  have el := (blk_get q4).2.2
  simp only [List.getElem?_toArray, List.getElem?_cons_zero, List.getElem?_cons_succ] at c2 e0
  obtain ⟨_, qt⟩ := hS1.has 15 rfl
  have HLE : RowKit.Hid (∀ q, Calls Try.prog 63 #[.pointer (some ⟨tb, 0, none⟩)] (w.drewN q) fun e w' => e = .returned (.int .i64 (least o)) ∧ w' = w.drewN q) := by
    intro q
    obtain ⟨_, qt'⟩ := St.has (hS1.mono (below_drewN _ q)) 15 rfl
    exact (leastI_calls tb r o nn _ ho ho' qt').mono fun _ _ ⟨a, b⟩ => ⟨a, b.symm⟩
  obtain ⟨m, hm⟩ : ∃ m, l.es.getLast? = some m := ⟨_, List.getLast?_eq_some_getLast (ne_nil (by omega))⟩
  have hlast : l.es[l.es.length - 1]? = some m := by rw [← hm, List.getLast?_eq_getElem?]
  obtain ⟨n, hn⟩ : ∃ n, x.es.length = n := ⟨_, rfl⟩
  obtain ⟨np, hnp⟩ : ∃ np, bs.length = np := ⟨_, rfl⟩
  obtain ⟨ln, hln⟩ : ∃ ln, l.es.length = ln := ⟨_, rfl⟩
  obtain ⟨la1, hla1⟩ : ∃ la1, ln - 1 = la1 := ⟨_, rfl⟩
  obtain ⟨lz, hlz⟩ : ∃ lz, lbs.length = lz := ⟨_, rfl⟩
  obtain ⟨le, hle⟩ : ∃ le, least o = le := ⟨_, rfl⟩
  have hnb : n ≤ 2000 := by rw [← hn]; exact hxl.1
  rw [hn] at hS1 hcx hcy hix
  rw [hnp] at hS1 hcp c2 hib
  rw [hln] at hS1 hdx hdy e0 hlast hgt hll
  rw [hla1] at hlast
  rw [hlz] at hS1
  rw [hle] at HLE hgt
  unfold ptrI at d0 d1
  obtain ⟨ii, hii⟩ : ∃ ii : Int, ((j + 1 : Nat) : Int) = ii := ⟨_, rfl⟩
  rw [hii]
  have s1 : IntKind.i64.wrap (ii - 1) = (j : Int) := by rw [IntWalk.i64_in _ (by omega)]; omega
  have s2 : 0 ≤ ii := by omega
  have s3 : ii.toNat = j + 1 := by omega
  have s4 : (j : Int) < np := by omega
  have s5 : ii < np := by omega
  have s6 : decide (0 < ii) = true := by simp; omega
  have s7 : decide ((le : Int) < ln) = true := by simp; omega
  have s7n : decide (le < ln) = true := by simp; omega
  have s8 : IntKind.i64.wrap ((ln : Int) - 1) = (la1 : Int) := by rw [IntWalk.i64_in _ (by omega)]; omega
  have Hl := Lib.hid hl
  have Hbl := Lib.hid hbl
  have Hbr := Lib.hid hbr
  have Hl1 := Lib.hid hl1
  have Hl2 := Lib.hid hl2
  have Hn := Lib.hid hn
  have Hnp := Lib.hid hnp
  have H1 := Lib.hid h1
  have H2 := Lib.hid h2
  have H3 := Lib.hid h3
  have Hxl := Lib.hid hxl
  have Hll := Lib.hid hll
  have Hcl := Lib.hid hcl
  have Hlc := Lib.hid hlc
  have Hcc := Lib.hid hcc
  have Hgt := Lib.hid hgt
  have HS1 := Lib.hid hS1
  have Hm := Lib.hid hm
  have Hlast := Lib.hid hlast
  have Hln := Lib.hid hln
  have Hla1 := Lib.hid hla1
  have Hlz := Lib.hid hlz
  have Hii := Lib.hid hii
  clear hS hS1 q0 q1 q2 q3 q4 q5 q6 q7 qt hl hbl hbr hl1 hl2 hn hnp h1 h2 h3 hxl hll hcl hlc hcc hgt hm hlast hln hla1 hlz hle hii ho ho'
  go_enter Try.func75, Try.ntmps75
  go_upto_region 2 with (fail)
  go_cut [21] (fun z wx => z = .bool true ∧ ∃ q, wx = w.drewN q)
  case first =>
    go_quiet ((go_at_call 63; exact Calls.quiet_of_same (HLE.out _)))
    go_step
    go_step
    go_meet
    exact ⟨rfl, _, rfl⟩
  obtain ⟨rfl, q, rfl⟩ := hcut
  have HS2 : RowKit.Hid (St w0 fp0 (blkA b 70 #[.slice (some ⟨gx, 0, none⟩) n cx, .slice (some ⟨gy, 0, none⟩) n cy, .slice (some ⟨gp, 0, none⟩) np cp] :: slA 3 (.slice (some ⟨gx, 0, none⟩) n cx) (keysI x.es) :: slA 3 (.slice (some ⟨gy, 0, none⟩) n cy) (valsI x.es) :: slA 67 (.slice (some ⟨gp, 0, none⟩) np cp) (bs.map ptrI) :: blkA lb 70 #[.slice (some ⟨hx, 0, none⟩) ln dx, .slice (some ⟨hy, 0, none⟩) ln dy, .slice la lz lc9] :: slA 3 (.slice (some ⟨hx, 0, none⟩) ln dx) (keysI l.es) :: slA 3 (.slice (some ⟨hy, 0, none⟩) ln dy) (valsI l.es) :: slA 67 (.slice la lz lc9) (lbs.map ptrI) :: blkA rb 70 #[rk, rv, rp] :: slA 3 rk (keysI c.es) :: slA 3 rv (valsI c.es) :: slA 67 rp (rbs.map ptrI) :: restI h j (j + 2) x.cs bs :: kdAI h l.cs lbs :: kdAI h c.cs rbs :: blkA tb 72 #[r, .int .i64 o, nn] :: R) (w.drewN q)) := by
    refine (HS1.out.mono (below_drewN _ _)).perm ?_
    exact (by classical exact List.perm_iff_count.2 fun a => by simp only [twLI, ndLI, List.cons_append, List.nil_append, List.count_cons] <;> omega)
  clear HLE HS1
  go_upto_region 5 with (fail)
  clear c2 d0 d1 d0l cl e0 el s1 s2 s3 s4 s5 s6 s7 s7n s8
  refine region_gen ?_
  intro a0 Ha
  have f1 : a0.eval (.tmp 1) = .pointer (some ⟨b, 0, none⟩) := by rw [Ha.out]; rfl
  have f2 : a0.eval (.tmp 2) = .int .i64 ((j + 1 : Nat) : Int) := by rw [Ha.out, Hii.out]; rfl
  have f6 : a0.eval (.tmp 6) = .pointer (some ⟨rb, 0, none⟩) := by rw [Ha.out]; rfl
  have f7 : a0.eval (.tmp 7) = .pointer (some ⟨lb, 0, none⟩) := by rw [Ha.out]; rfl
  have f8 : a0.eval (.tmp 8) = .int .i64 la1 := by rw [Ha.out]; rfl
  have hF : Fr a0 310 := by rw [Ha.out]; exact ⟨rfl, rfl⟩
  clear Ha
  refine rFl5I (w0 := w0) (fp0 := fp0) b rb gx n cx gy n cy j (.slice (some ⟨gp, 0, none⟩) np cp) rk rv rp x.es c.es s H3.out hix hix Hn.out.symm Hn.out.symm (by have := Hcl.out; omega) (by omega) (slA 67 (.slice (some ⟨gp, 0, none⟩) np cp) (bs.map ptrI) :: blkA lb 70 #[.slice (some ⟨hx, 0, none⟩) ln dx, .slice (some ⟨hy, 0, none⟩) ln dy, .slice la lz lc9] :: slA 3 (.slice (some ⟨hx, 0, none⟩) ln dx) (keysI l.es) :: slA 3 (.slice (some ⟨hy, 0, none⟩) ln dy) (valsI l.es) :: slA 67 (.slice la lz lc9) (lbs.map ptrI) :: slA 67 rp (rbs.map ptrI) :: restI h j (j + 2) x.cs bs :: kdAI h l.cs lbs :: kdAI h c.cs rbs :: blkA tb 72 #[r, .int .i64 o, nn] :: R) _ (by kernel_rfl) hF.size f1 f2 f6 ?_ ?_
  · have h0 := HS2.out
    refine (St.emp.2 (St.emp.2 (h0))).perm ?_
    exact (by classical exact List.perm_iff_count.2 fun a => by simp only [pick_false, vpick_false, List.cons_append, List.nil_append, List.count_cons] <;> omega)
  intro u5 w5 h3
  have HS3 : RowKit.Hid (St w0 fp0 (blkA b 70 #[.slice (some ⟨gx, 0, none⟩) n cx, .slice (some ⟨gy, 0, none⟩) n cy, .slice (some ⟨gp, 0, none⟩) np cp] :: slA 3 (.slice (some ⟨gx, 0, none⟩) n cx) (keysI x.es) :: slA 3 (.slice (some ⟨gy, 0, none⟩) n cy) (valsI x.es) :: slA 67 (.slice (some ⟨gp, 0, none⟩) np cp) (bs.map ptrI) :: blkA lb 70 #[.slice (some ⟨hx, 0, none⟩) ln dx, .slice (some ⟨hy, 0, none⟩) ln dy, .slice la lz lc9] :: slA 3 (.slice (some ⟨hx, 0, none⟩) ln dx) (keysI l.es) :: slA 3 (.slice (some ⟨hy, 0, none⟩) ln dy) (valsI l.es) :: slA 67 (.slice la lz lc9) (lbs.map ptrI) :: blkA rb 70 #[u5 70, u5 84, rp] :: slA 3 (u5 70) ((keysI c.es).take 0 ++ encI s.1 :: (keysI c.es).drop 0) :: slA 3 (u5 84) ((valsI c.es).take 0 ++ valI s.2 :: (valsI c.es).drop 0) :: slA 67 rp (rbs.map ptrI) :: restI h j (j + 2) x.cs bs :: kdAI h l.cs lbs :: kdAI h c.cs rbs :: blkA tb 72 #[r, .int .i64 o, nn] :: R) w5) := by
    have h4 := h3.drop.drop
    refine h4.perm ?_
    exact (by classical exact List.perm_iff_count.2 fun a => by simp only [pick_true, vpick_true, List.append_eq, List.cons_append, List.nil_append, List.count_cons] <;> omega)
  clear h3 HS2
  go_step
  go_step
  go_step
  replace f1 := (putL_out (u := u5) 55 34 (by omega)).trans f1
  replace f2 := (putL_out (u := u5) 55 34 (by omega)).trans f2
  replace f6 := (putL_out (u := u5) 55 34 (by omega)).trans f6
  replace f7 := (putL_out (u := u5) 55 34 (by omega)).trans f7
  replace f8 := (putL_out (u := u5) 55 34 (by omega)).trans f8
  replace hF := hF.put 55 34 u5
  generalize putL a0 _ = a0x at *
  refine rFl6I (w0 := w0) (fp0 := fp0) b lb gx n cx gy n cy hx ln dx hy ln dy j la1 (.slice (some ⟨gp, 0, none⟩) np cp) (.slice la lz lc9) x.es l.es m Hlast.out hix hix Hn.out.symm Hn.out.symm (by have := Hgt.out; have := Hla1.out; omega) (by have := Hgt.out; have := Hla1.out; omega) Hln.out.symm Hln.out.symm (by omega) (slA 67 (.slice (some ⟨gp, 0, none⟩) np cp) (bs.map ptrI) :: slA 67 (.slice la lz lc9) (lbs.map ptrI) :: blkA rb 70 #[u5 70, u5 84, rp] :: slA 3 (u5 70) ((keysI c.es).take 0 ++ encI s.1 :: (keysI c.es).drop 0) :: slA 3 (u5 84) ((valsI c.es).take 0 ++ valI s.2 :: (valsI c.es).drop 0) :: slA 67 rp (rbs.map ptrI) :: restI h j (j + 2) x.cs bs :: kdAI h l.cs lbs :: kdAI h c.cs rbs :: blkA tb 72 #[r, .int .i64 o, nn] :: R) _ (by kernel_rfl) hF.size f1 f2 f7 f8 ?_ ?_
  · have h0 := HS3.out
    refine (h0).perm ?_
    exact (by classical exact List.perm_iff_count.2 fun a => by simp only [pick_false, List.cons_append, List.nil_append, List.count_cons] <;> omega)
  intro u6 w6 h3
  have HS4 : RowKit.Hid (St w0 fp0 (blkA b 70 #[.slice (some ⟨gx, 0, none⟩) n cx, .slice (some ⟨gy, 0, none⟩) n cy, .slice (some ⟨gp, 0, none⟩) np cp] :: slA 3 (.slice (some ⟨gx, 0, none⟩) n cx) ((keysI x.es).set j (encI m.1)) :: slA 3 (.slice (some ⟨gy, 0, none⟩) n cy) ((valsI x.es).set j (valI m.2)) :: slA 67 (.slice (some ⟨gp, 0, none⟩) np cp) (bs.map ptrI) :: blkA lb 70 #[.slice (some ⟨hx, 0, none⟩) ln dx, .slice (some ⟨hy, 0, none⟩) ln dy, .slice la lz lc9] :: slA 3 (.slice (some ⟨hx, 0, none⟩) ln dx) (keysI l.es) :: slA 3 (.slice (some ⟨hy, 0, none⟩) ln dy) (valsI l.es) :: slA 67 (.slice la lz lc9) (lbs.map ptrI) :: blkA rb 70 #[u5 70, u5 84, rp] :: slA 3 (u5 70) ((keysI c.es).take 0 ++ encI s.1 :: (keysI c.es).drop 0) :: slA 3 (u5 84) ((valsI c.es).take 0 ++ valI s.2 :: (valsI c.es).drop 0) :: slA 67 rp (rbs.map ptrI) :: restI h j (j + 2) x.cs bs :: kdAI h l.cs lbs :: kdAI h c.cs rbs :: blkA tb 72 #[r, .int .i64 o, nn] :: R) w6) := by
    have h4 := h3
    refine h4.perm ?_
    exact (by classical exact List.perm_iff_count.2 fun a => by simp only [pick_true, List.cons_append, List.nil_append, List.count_cons] <;> omega)
  clear h3 HS3
  go_step
  go_step
  go_step
  replace f1 := (putL_out (u := u6) 89 28 (by omega)).trans f1
  replace f2 := (putL_out (u := u6) 89 28 (by omega)).trans f2
  replace f6 := (putL_out (u := u6) 89 28 (by omega)).trans f6
  replace f7 := (putL_out (u := u6) 89 28 (by omega)).trans f7
  replace f8 := (putL_out (u := u6) 89 28 (by omega)).trans f8
  replace hF := hF.put 89 28 u6
  generalize putL a0x _ = a0xx at *
  refine rFl7I (w0 := w0) (fp0 := fp0) lb la1 (.slice (some ⟨hx, 0, none⟩) ln dx) (.slice (some ⟨hy, 0, none⟩) ln dy) (.slice la lz lc9) l.es (by rw [Hln.out]; have := Hgt.out; have := Hla1.out; omega) (by have := Hll.out; have := Hln.out; omega) (blkA b 70 #[.slice (some ⟨gx, 0, none⟩) n cx, .slice (some ⟨gy, 0, none⟩) n cy, .slice (some ⟨gp, 0, none⟩) np cp] :: slA 3 (.slice (some ⟨gx, 0, none⟩) n cx) ((keysI x.es).set j (encI m.1)) :: slA 3 (.slice (some ⟨gy, 0, none⟩) n cy) ((valsI x.es).set j (valI m.2)) :: slA 67 (.slice (some ⟨gp, 0, none⟩) np cp) (bs.map ptrI) :: slA 67 (.slice la lz lc9) (lbs.map ptrI) :: blkA rb 70 #[u5 70, u5 84, rp] :: slA 3 (u5 70) ((keysI c.es).take 0 ++ encI s.1 :: (keysI c.es).drop 0) :: slA 3 (u5 84) ((valsI c.es).take 0 ++ valI s.2 :: (valsI c.es).drop 0) :: slA 67 rp (rbs.map ptrI) :: restI h j (j + 2) x.cs bs :: kdAI h l.cs lbs :: kdAI h c.cs rbs :: blkA tb 72 #[r, .int .i64 o, nn] :: R) _ (by kernel_rfl) hF.size f7 f8 ?_ ?_
  · have h0 := HS4.out
    refine (h0).perm ?_
    exact (by classical exact List.perm_iff_count.2 fun a => by simp only [pick_false, vpick_false, List.cons_append, List.nil_append, List.count_cons] <;> omega)
  intro u7 w7 h3
  have HS5 : RowKit.Hid (St w0 fp0 (blkA b 70 #[.slice (some ⟨gx, 0, none⟩) n cx, .slice (some ⟨gy, 0, none⟩) n cy, .slice (some ⟨gp, 0, none⟩) np cp] :: slA 3 (.slice (some ⟨gx, 0, none⟩) n cx) ((keysI x.es).set j (encI m.1)) :: slA 3 (.slice (some ⟨gy, 0, none⟩) n cy) ((valsI x.es).set j (valI m.2)) :: slA 67 (.slice (some ⟨gp, 0, none⟩) np cp) (bs.map ptrI) :: blkA lb 70 #[u7 126, u7 134, .slice la lz lc9] :: slA 3 (u7 126) ((keysI l.es).eraseIdx la1) :: slA 3 (u7 134) ((valsI l.es).eraseIdx la1) :: slA 67 (.slice la lz lc9) (lbs.map ptrI) :: blkA rb 70 #[u5 70, u5 84, rp] :: slA 3 (u5 70) ((keysI c.es).take 0 ++ encI s.1 :: (keysI c.es).drop 0) :: slA 3 (u5 84) ((valsI c.es).take 0 ++ valI s.2 :: (valsI c.es).drop 0) :: slA 67 rp (rbs.map ptrI) :: restI h j (j + 2) x.cs bs :: kdAI h l.cs lbs :: kdAI h c.cs rbs :: blkA tb 72 #[r, .int .i64 o, nn] :: R) w7) := by
    have h4 := h3
    refine h4.perm ?_
    exact (by classical exact List.perm_iff_count.2 fun a => by simp only [pick_true, vpick_true, List.cons_append, List.nil_append, List.count_cons] <;> omega)
  clear h3 HS4
  go_step
  go_step
  go_step
  replace f1 := (putL_out (u := u7) 117 22 (by omega)).trans f1
  replace f2 := (putL_out (u := u7) 117 22 (by omega)).trans f2
  replace f6 := (putL_out (u := u7) 117 22 (by omega)).trans f6
  replace f7 := (putL_out (u := u7) 117 22 (by omega)).trans f7
  replace f8 := (putL_out (u := u7) 117 22 (by omega)).trans f8
  replace hF := hF.put 117 22 u7
  generalize putL a0xx _ = a0xxx at *
  refine rFl8I (w0 := w0) (fp0 := fp0) lb lz lc9 la (u7 126) (u7 134) (blkA b 70 #[.slice (some ⟨gx, 0, none⟩) n cx, .slice (some ⟨gy, 0, none⟩) n cy, .slice (some ⟨gp, 0, none⟩) np cp] :: slA 3 (.slice (some ⟨gx, 0, none⟩) n cx) ((keysI x.es).set j (encI m.1)) :: slA 3 (.slice (some ⟨gy, 0, none⟩) n cy) ((valsI x.es).set j (valI m.2)) :: slA 67 (.slice (some ⟨gp, 0, none⟩) np cp) (bs.map ptrI) :: slA 3 (u7 126) ((keysI l.es).eraseIdx la1) :: slA 3 (u7 134) ((valsI l.es).eraseIdx la1) :: slA 67 (.slice la lz lc9) (lbs.map ptrI) :: blkA rb 70 #[u5 70, u5 84, rp] :: slA 3 (u5 70) ((keysI c.es).take 0 ++ encI s.1 :: (keysI c.es).drop 0) :: slA 3 (u5 84) ((valsI c.es).take 0 ++ valI s.2 :: (valsI c.es).drop 0) :: slA 67 rp (rbs.map ptrI) :: restI h j (j + 2) x.cs bs :: kdAI h l.cs lbs :: kdAI h c.cs rbs :: blkA tb 72 #[r, .int .i64 o, nn] :: R) _ (by kernel_rfl) hF.size f7 ?_ ?_
  · have h0 := HS5.out
    refine (St.emp.2 (h0)).perm ?_
    exact (by classical exact List.perm_iff_count.2 fun a => by simp only [pick_false, List.cons_append, List.nil_append, List.count_cons] <;> omega)
  intro u8 w8 e141 h3
  have HS6 : RowKit.Hid (St w0 fp0 (pureA (u8 140 = .bool (lz == 0)) :: blkA b 70 #[.slice (some ⟨gx, 0, none⟩) n cx, .slice (some ⟨gy, 0, none⟩) n cy, .slice (some ⟨gp, 0, none⟩) np cp] :: slA 3 (.slice (some ⟨gx, 0, none⟩) n cx) ((keysI x.es).set j (encI m.1)) :: slA 3 (.slice (some ⟨gy, 0, none⟩) n cy) ((valsI x.es).set j (valI m.2)) :: slA 67 (.slice (some ⟨gp, 0, none⟩) np cp) (bs.map ptrI) :: blkA lb 70 #[u7 126, u7 134, .slice la lz lc9] :: slA 3 (u7 126) ((keysI l.es).eraseIdx la1) :: slA 3 (u7 134) ((valsI l.es).eraseIdx la1) :: slA 67 (.slice la lz lc9) (lbs.map ptrI) :: blkA rb 70 #[u5 70, u5 84, rp] :: slA 3 (u5 70) ((keysI c.es).take 0 ++ encI s.1 :: (keysI c.es).drop 0) :: slA 3 (u5 84) ((valsI c.es).take 0 ++ valI s.2 :: (valsI c.es).drop 0) :: slA 67 rp (rbs.map ptrI) :: restI h j (j + 2) x.cs bs :: kdAI h l.cs lbs :: kdAI h c.cs rbs :: blkA tb 72 #[r, .int .i64 o, nn] :: R) w8) := by
    have h4 := h3
    refine h4.perm ?_
    exact (by classical exact List.perm_iff_count.2 fun a => by simp only [pick_true, List.cons_append, List.nil_append, List.count_cons] <;> omega)
  clear h3 HS5
  go_step
  go_step
  replace f1 := (putL_out (u := u8) 139 3 (by omega)).trans f1
  replace f2 := (putL_out (u := u8) 139 3 (by omega)).trans f2
  replace f6 := (putL_out (u := u8) 139 3 (by omega)).trans f6
  replace f7 := (putL_out (u := u8) 139 3 (by omega)).trans f7
  replace f8 := (putL_out (u := u8) 139 3 (by omega)).trans f8
  have f141 := (putL_in (u := u8) 3 139 a0xxx (by omega) (by omega) (by rw [hF.size]; omega)).trans e141
  replace hF := hF.put 139 3 u8
  generalize putL a0xxx _ = a0xxxx at *
  obtain ⟨_, HS7⟩ := St.pure.1 HS6.out
  clear HS6 f1 f2
  have HS7 := Lib.hid HS7
  have HF : RowKit.Hid (∀ lp2 cp2 lbs2 rbs2 wx, KidsOkI w0 fp0 h l.cs.dropLast (l.cs.getLast?.toList ++ c.cs) (lbs2) (rbs2) (blkA b 70 #[.slice (some ⟨gx, 0, none⟩) n cx, .slice (some ⟨gy, 0, none⟩) n cy, .slice (some ⟨gp, 0, none⟩) np cp] :: slA 3 (.slice (some ⟨gx, 0, none⟩) n cx) ((keysI x.es).set j (encI m.1)) :: slA 3 (.slice (some ⟨gy, 0, none⟩) n cy) ((valsI x.es).set j (valI m.2)) :: slA 67 (.slice (some ⟨gp, 0, none⟩) np cp) (bs.map ptrI) :: blkA lb 70 #[u7 126, u7 134, lp2] :: slA 3 (u7 126) ((keysI l.es).eraseIdx la1) :: slA 3 (u7 134) ((valsI l.es).eraseIdx la1) :: slA 67 lp2 (lbs2.map ptrI) :: blkA rb 70 #[u5 70, u5 84, cp2] :: slA 3 (u5 70) ((keysI c.es).take 0 ++ encI s.1 :: (keysI c.es).drop 0) :: slA 3 (u5 84) ((valsI c.es).take 0 ++ valI s.2 :: (valsI c.es).drop 0) :: slA 67 cp2 (rbs2.map ptrI) :: restI h j (j + 2) x.cs bs :: blkA tb 72 #[r, .int .i64 o, nn] :: R) wx → St w0 fp0 (treeI (h + 1) (rightT j x) b :: blkA tb 72 #[r, .int .i64 o, nn] :: R) wx) := by
    intro lp2 cp2 lbs2 rbs2 wx hk
    have HK := Lib.hid hk
    have e : rightT j x = .node (x.es.set j m) (x.cs.take j ++ (.node l.es.dropLast l.cs.dropLast :: .node (s :: c.es) (l.cs.getLast?.toList ++ c.cs) :: x.cs.drop (j + 2))) := by unfold rightT; rw [H1.out, H2.out, H3.out]; simp only [Hm.out]
    rw [e]
    refine St.shutTwI (R := blkA tb 72 #[r, .int .i64 o, nn] :: R) (lbs := lbs2) (rbs := rbs2) (lk := u7 126) (lv := u7 134) (lp := lp2) (rk := u5 70) (rv := u5 84) (rp := cp2) (ks := (.slice (some ⟨gx, 0, none⟩) n cx)) (vs := (.slice (some ⟨gy, 0, none⟩) n cy)) (ps := (.slice (some ⟨gp, 0, none⟩) np cp)) Hl.out Hbl.out Hbr.out HK.out.1 HK.out.2.1 ?_
    have hdl : l.es.dropLast = l.es.eraseIdx la1 := by
      rw [List.dropLast_eq_take, List.eraseIdx_eq_take_drop_succ, Hln.out, Hla1.out, List.drop_of_length_le (by have := Hln.out; have := Hla1.out; omega), List.append_nil]
    have k1 : keysI (x.es.set j m) = (keysI x.es).set j (encI m.1) := by unfold keysI; rw [List.map_set]
    have k2 : valsI (x.es.set j m) = (valsI x.es).set j (valI m.2) := by unfold valsI; rw [List.map_set]
    have k3 : keysI l.es.dropLast = (keysI l.es).eraseIdx la1 := by rw [hdl]; unfold keysI; rw [map_eraseIdxI]
    have k4 : valsI l.es.dropLast = (valsI l.es).eraseIdx la1 := by rw [hdl]; unfold valsI; rw [map_eraseIdxI]
    have k5 : keysI (s :: c.es) = (keysI c.es).take 0 ++ encI s.1 :: (keysI c.es).drop 0 := rfl
    have k6 : valsI (s :: c.es) = (valsI c.es).take 0 ++ valI s.2 :: (valsI c.es).drop 0 := rfl
    refine HK.out.2.2.perm ?_
    unfold twLI ndLI
    rw [k1, k2, k3, k4, k5, k6]
    exact (by classical exact List.perm_iff_count.2 fun a => by simp only [List.cons_append, List.nil_append, List.count_cons] <;> omega)
  refine wp_cond_of f141 (fun hq => ?_) (fun hq => ?_)
  · rcases Hlc.out with ⟨k1, k2⟩ | ⟨k1, k2⟩
    · exfalso
      have hz : lz = 0 := by rw [← Hlz.out, Hl1.out, k1]; rfl
      rw [hz] at hq
      simp at hq
    · have hlz2 : lbs.length = la1 + 2 := by rw [Hl1.out, k1]; have := Hln.out; have := Hgt.out; have := Hla1.out; omega
      obtain ⟨_, q5⟩ := HS7.out.has 7 rfl
      obtain ⟨g2, pc2, e5, -, -⟩ := sl_some q5 (by rw [List.length_map]; omega)
      injection e5 with e51 e52 e53
      clear e52 e53 q5
      subst e51
      obtain ⟨q0, hq0⟩ : ∃ q0, lbs[la1 + 1]? = some q0 := ⟨_, List.getElem?_eq_getElem (by omega)⟩
      obtain ⟨C0, d, hd⟩ := snoc_of (l := l.cs) (ne_nil (by omega))
      obtain ⟨B0, q1, hB⟩ := snoc_of (l := lbs) (ne_nil (by omega))
      have hB0 : B0.length = la1 + 1 := by have := congrArg List.length hB; simp at this; omega
      obtain rfl : q0 = q1 := by rw [hB, ← hB0] at hq0; simpa using hq0.symm
      have hbo : B0.length = C0.length := by
        have e1 := congrArg List.length hB
        have e2 := congrArg List.length hd
        have := Hl1.out
        simp at e1 e2
        omega
      have Hfin : RowKit.Hid (∀ lp2 cp2 wx, St w0 fp0 (blkA b 70 #[.slice (some ⟨gx, 0, none⟩) n cx, .slice (some ⟨gy, 0, none⟩) n cy, .slice (some ⟨gp, 0, none⟩) np cp] :: slA 3 (.slice (some ⟨gx, 0, none⟩) n cx) ((keysI x.es).set j (encI m.1)) :: slA 3 (.slice (some ⟨gy, 0, none⟩) n cy) ((valsI x.es).set j (valI m.2)) :: slA 67 (.slice (some ⟨gp, 0, none⟩) np cp) (bs.map ptrI) :: blkA lb 70 #[u7 126, u7 134, lp2] :: slA 3 (u7 126) ((keysI l.es).eraseIdx la1) :: slA 3 (u7 134) ((valsI l.es).eraseIdx la1) :: slA 67 lp2 ((lbs.eraseIdx (la1 + 1)).map ptrI) :: blkA rb 70 #[u5 70, u5 84, cp2] :: slA 3 (u5 70) ((keysI c.es).take 0 ++ encI s.1 :: (keysI c.es).drop 0) :: slA 3 (u5 84) ((valsI c.es).take 0 ++ valI s.2 :: (valsI c.es).drop 0) :: slA 67 cp2 ((q0 :: rbs).map ptrI) :: restI h j (j + 2) x.cs bs :: kdAI h l.cs lbs :: kdAI h c.cs rbs :: blkA tb 72 #[r, .int .i64 o, nn] :: R) wx → KidsOkI w0 fp0 h l.cs.dropLast (l.cs.getLast?.toList ++ c.cs) (lbs.eraseIdx (la1 + 1)) (q0 :: rbs) (blkA b 70 #[.slice (some ⟨gx, 0, none⟩) n cx, .slice (some ⟨gy, 0, none⟩) n cy, .slice (some ⟨gp, 0, none⟩) np cp] :: slA 3 (.slice (some ⟨gx, 0, none⟩) n cx) ((keysI x.es).set j (encI m.1)) :: slA 3 (.slice (some ⟨gy, 0, none⟩) n cy) ((valsI x.es).set j (valI m.2)) :: slA 67 (.slice (some ⟨gp, 0, none⟩) np cp) (bs.map ptrI) :: blkA lb 70 #[u7 126, u7 134, lp2] :: slA 3 (u7 126) ((keysI l.es).eraseIdx la1) :: slA 3 (u7 134) ((valsI l.es).eraseIdx la1) :: slA 67 lp2 ((lbs.eraseIdx (la1 + 1)).map ptrI) :: blkA rb 70 #[u5 70, u5 84, cp2] :: slA 3 (u5 70) ((keysI c.es).take 0 ++ encI s.1 :: (keysI c.es).drop 0) :: slA 3 (u5 84) ((valsI c.es).take 0 ++ valI s.2 :: (valsI c.es).drop 0) :: slA 67 cp2 ((q0 :: rbs).map ptrI) :: restI h j (j + 2) x.cs bs :: blkA tb 72 #[r, .int .i64 o, nn] :: R) wx) := by
        intro lp2 cp2 wx h0
        have hB1 : lbs.eraseIdx (la1 + 1) = B0 := by
          rw [hB, List.eraseIdx_eq_take_drop_succ, ← hB0]
          simp
        have hd1 : l.cs.dropLast = C0 := by rw [hd, List.dropLast_concat]
        have hd2 : l.cs.getLast?.toList ++ c.cs = d :: c.cs := by rw [hd, List.getLast?_concat]; rfl
        rw [hB1] at h0 ⊢
        rw [hd1, hd2]
        have h1 : St w0 fp0 (kdAI h (C0 ++ [d]) (B0 ++ [q0]) :: kdAI h c.cs rbs :: (blkA b 70 #[.slice (some ⟨gx, 0, none⟩) n cx, .slice (some ⟨gy, 0, none⟩) n cy, .slice (some ⟨gp, 0, none⟩) np cp] :: slA 3 (.slice (some ⟨gx, 0, none⟩) n cx) ((keysI x.es).set j (encI m.1)) :: slA 3 (.slice (some ⟨gy, 0, none⟩) n cy) ((valsI x.es).set j (valI m.2)) :: slA 67 (.slice (some ⟨gp, 0, none⟩) np cp) (bs.map ptrI) :: blkA lb 70 #[u7 126, u7 134, lp2] :: slA 3 (u7 126) ((keysI l.es).eraseIdx la1) :: slA 3 (u7 134) ((valsI l.es).eraseIdx la1) :: slA 67 lp2 (B0.map ptrI) :: blkA rb 70 #[u5 70, u5 84, cp2] :: slA 3 (u5 70) ((keysI c.es).take 0 ++ encI s.1 :: (keysI c.es).drop 0) :: slA 3 (u5 84) ((valsI c.es).take 0 ++ valI s.2 :: (valsI c.es).drop 0) :: slA 67 cp2 ((q0 :: rbs).map ptrI) :: restI h j (j + 2) x.cs bs :: blkA tb 72 #[r, .int .i64 o, nn] :: R)) wx := by
          rw [← hd, ← hB]
          refine h0.perm ?_
          exact (by classical exact List.perm_iff_count.2 fun a => by simp only [List.count_cons] <;> omega)
        have h2 := (St.kids_appI hbo).1 h1
        have h3 : St w0 fp0 (kdAI h [d] [q0] :: kdAI h c.cs rbs :: (kdAI h C0 B0 :: (blkA b 70 #[.slice (some ⟨gx, 0, none⟩) n cx, .slice (some ⟨gy, 0, none⟩) n cy, .slice (some ⟨gp, 0, none⟩) np cp] :: slA 3 (.slice (some ⟨gx, 0, none⟩) n cx) ((keysI x.es).set j (encI m.1)) :: slA 3 (.slice (some ⟨gy, 0, none⟩) n cy) ((valsI x.es).set j (valI m.2)) :: slA 67 (.slice (some ⟨gp, 0, none⟩) np cp) (bs.map ptrI) :: blkA lb 70 #[u7 126, u7 134, lp2] :: slA 3 (u7 126) ((keysI l.es).eraseIdx la1) :: slA 3 (u7 134) ((valsI l.es).eraseIdx la1) :: slA 67 lp2 (B0.map ptrI) :: blkA rb 70 #[u5 70, u5 84, cp2] :: slA 3 (u5 70) ((keysI c.es).take 0 ++ encI s.1 :: (keysI c.es).drop 0) :: slA 3 (u5 84) ((valsI c.es).take 0 ++ valI s.2 :: (valsI c.es).drop 0) :: slA 67 cp2 ((q0 :: rbs).map ptrI) :: restI h j (j + 2) x.cs bs :: blkA tb 72 #[r, .int .i64 o, nn] :: R))) wx := by
          refine h2.perm ?_
          exact (by classical exact List.perm_iff_count.2 fun a => by simp only [List.count_cons] <;> omega)
        have h4 := (St.kids_appI (A := [d]) (A' := [q0]) rfl).2 h3
        refine ⟨hbo, ?_, ?_⟩
        · rw [List.length_cons, List.length_cons, Hl2.out]
        · exact h4.perm (List.Perm.swap _ _ _)
      go_step
      refine rFl9I (w0 := w0) (fp0 := fp0) rb lb g2 lz lc9 la1 (u5 70) (u5 84) rp (u7 126) (u7 134) rbs lbs q0 hq0 (by have := Hlz.out; omega) Hlz.out.symm (by rw [Hl2.out, k2]; have := Hcl.out; omega) (by have := Hll.out; have := Hln.out; have := Hla1.out; omega) (blkA b 70 #[.slice (some ⟨gx, 0, none⟩) n cx, .slice (some ⟨gy, 0, none⟩) n cy, .slice (some ⟨gp, 0, none⟩) np cp] :: slA 3 (.slice (some ⟨gx, 0, none⟩) n cx) ((keysI x.es).set j (encI m.1)) :: slA 3 (.slice (some ⟨gy, 0, none⟩) n cy) ((valsI x.es).set j (valI m.2)) :: slA 67 (.slice (some ⟨gp, 0, none⟩) np cp) (bs.map ptrI) :: slA 3 (u7 126) ((keysI l.es).eraseIdx la1) :: slA 3 (u7 134) ((valsI l.es).eraseIdx la1) :: slA 3 (u5 70) ((keysI c.es).take 0 ++ encI s.1 :: (keysI c.es).drop 0) :: slA 3 (u5 84) ((valsI c.es).take 0 ++ valI s.2 :: (valsI c.es).drop 0) :: restI h j (j + 2) x.cs bs :: kdAI h l.cs lbs :: kdAI h c.cs rbs :: blkA tb 72 #[r, .int .i64 o, nn] :: R) _ (by kernel_rfl) hF.size f6 f7 f8 ?_ ?_
      · have h0 := HS7.out
        refine (St.emp.2 (h0)).perm ?_
        exact (by classical exact List.perm_iff_count.2 fun a => by simp only [pick_false, vpick_false, List.cons_append, List.nil_append, List.count_cons] <;> omega)
      intro u9 w9 h3
      have HS8 : RowKit.Hid (St w0 fp0 (blkA b 70 #[.slice (some ⟨gx, 0, none⟩) n cx, .slice (some ⟨gy, 0, none⟩) n cy, .slice (some ⟨gp, 0, none⟩) np cp] :: slA 3 (.slice (some ⟨gx, 0, none⟩) n cx) ((keysI x.es).set j (encI m.1)) :: slA 3 (.slice (some ⟨gy, 0, none⟩) n cy) ((valsI x.es).set j (valI m.2)) :: slA 67 (.slice (some ⟨gp, 0, none⟩) np cp) (bs.map ptrI) :: blkA lb 70 #[u7 126, u7 134, .slice (some ⟨g2, 0, none⟩) lz lc9] :: slA 3 (u7 126) ((keysI l.es).eraseIdx la1) :: slA 3 (u7 134) ((valsI l.es).eraseIdx la1) :: slA 67 (.slice (some ⟨g2, 0, none⟩) lz lc9) (lbs.map ptrI) :: blkA rb 70 #[(u5 70), (u5 84), (u9 156)] :: slA 3 (u5 70) ((keysI c.es).take 0 ++ encI s.1 :: (keysI c.es).drop 0) :: slA 3 (u5 84) ((valsI c.es).take 0 ++ valI s.2 :: (valsI c.es).drop 0) :: slA 67 (u9 156) ((rbs.map ptrI).take 0 ++ (.pointer (some ⟨q0, 0, none⟩)) :: (rbs.map ptrI).drop 0) :: restI h j (j + 2) x.cs bs :: kdAI h l.cs lbs :: kdAI h c.cs rbs :: blkA tb 72 #[r, .int .i64 o, nn] :: R) w9) := by
        have h4 := h3.drop
        refine h4.perm ?_
        exact (by classical exact List.perm_iff_count.2 fun a => by simp only [pick_true, vpick_true, List.append_eq, List.cons_append, List.nil_append, List.count_cons] <;> omega)
      clear h3 HS7
      go_step
      go_step
      replace f7 := (putL_out (u := u9) 142 17 (by omega)).trans f7
      replace f8 := (putL_out (u := u9) 142 17 (by omega)).trans f8
      replace f6 := (putL_out (u := u9) 142 17 (by omega)).trans f6
      replace hF := hF.put 142 17 u9
      generalize putL a0xxxx _ = a0xxxxx at *

      refine rFl10I (w0 := w0) (fp0 := fp0) lb la1 (u7 126) (u7 134) (.slice (some ⟨g2, 0, none⟩) lz lc9) lbs (by omega) (by have := Hll.out; have := Hln.out; have := Hla1.out; omega) (blkA b 70 #[.slice (some ⟨gx, 0, none⟩) n cx, .slice (some ⟨gy, 0, none⟩) n cy, .slice (some ⟨gp, 0, none⟩) np cp] :: slA 3 (.slice (some ⟨gx, 0, none⟩) n cx) ((keysI x.es).set j (encI m.1)) :: slA 3 (.slice (some ⟨gy, 0, none⟩) n cy) ((valsI x.es).set j (valI m.2)) :: slA 67 (.slice (some ⟨gp, 0, none⟩) np cp) (bs.map ptrI) :: slA 3 (u7 126) ((keysI l.es).eraseIdx la1) :: slA 3 (u7 134) ((valsI l.es).eraseIdx la1) :: blkA rb 70 #[(u5 70), (u5 84), (u9 156)] :: slA 3 (u5 70) ((keysI c.es).take 0 ++ encI s.1 :: (keysI c.es).drop 0) :: slA 3 (u5 84) ((valsI c.es).take 0 ++ valI s.2 :: (valsI c.es).drop 0) :: slA 67 (u9 156) ((rbs.map ptrI).take 0 ++ (.pointer (some ⟨q0, 0, none⟩)) :: (rbs.map ptrI).drop 0) :: restI h j (j + 2) x.cs bs :: kdAI h l.cs lbs :: kdAI h c.cs rbs :: blkA tb 72 #[r, .int .i64 o, nn] :: R) _ (by kernel_rfl) hF.size f7 f8 ?_ ?_
      · have h0 := HS8.out
        refine (h0).perm ?_
        exact (by classical exact List.perm_iff_count.2 fun a => by simp only [pick_false, vpick_false, List.cons_append, List.nil_append, List.count_cons] <;> omega)
      intro u10 w10 h3
      have HS9 : RowKit.Hid (St w0 fp0 (blkA b 70 #[.slice (some ⟨gx, 0, none⟩) n cx, .slice (some ⟨gy, 0, none⟩) n cy, .slice (some ⟨gp, 0, none⟩) np cp] :: slA 3 (.slice (some ⟨gx, 0, none⟩) n cx) ((keysI x.es).set j (encI m.1)) :: slA 3 (.slice (some ⟨gy, 0, none⟩) n cy) ((valsI x.es).set j (valI m.2)) :: slA 67 (.slice (some ⟨gp, 0, none⟩) np cp) (bs.map ptrI) :: blkA lb 70 #[(u7 126), (u7 134), (u10 168)] :: slA 3 (u7 126) ((keysI l.es).eraseIdx la1) :: slA 3 (u7 134) ((valsI l.es).eraseIdx la1) :: slA 67 (u10 168) ((lbs.map ptrI).eraseIdx (la1 + 1)) :: blkA rb 70 #[(u5 70), (u5 84), (u9 156)] :: slA 3 (u5 70) ((keysI c.es).take 0 ++ encI s.1 :: (keysI c.es).drop 0) :: slA 3 (u5 84) ((valsI c.es).take 0 ++ valI s.2 :: (valsI c.es).drop 0) :: slA 67 (u9 156) ((rbs.map ptrI).take 0 ++ (.pointer (some ⟨q0, 0, none⟩)) :: (rbs.map ptrI).drop 0) :: restI h j (j + 2) x.cs bs :: kdAI h l.cs lbs :: kdAI h c.cs rbs :: blkA tb 72 #[r, .int .i64 o, nn] :: R) w10) := by
        have h4 := h3
        refine h4.perm ?_
        exact (by classical exact List.perm_iff_count.2 fun a => by simp only [pick_true, vpick_true, List.cons_append, List.nil_append, List.count_cons] <;> omega)
      clear h3 HS8
      replace f7 := (putL_out (u := u10) 159 12 (by omega)).trans f7
      replace f8 := (putL_out (u := u10) 159 12 (by omega)).trans f8
      replace f6 := (putL_out (u := u10) 159 12 (by omega)).trans f6
      replace hF := hF.put 159 12 u10
      generalize putL a0xxxxx _ = a0xxxxxx at *

      have HE := HF.out _ _ _ _ _ (Hfin.out (u10 168) (u9 156) w10 (by
        refine HS9.out.perm ?_
        rw [map_eraseIdxI]
        rw [show (q0 :: rbs).map ptrI = (rbs.map ptrI).take 0 ++ (.pointer (some ⟨q0, 0, none⟩)) :: (rbs.map ptrI).drop 0 from rfl]))
      have HE := Lib.hid HE
      clear HS9 Hfin HF f6 f7 f8 hB hd hq0 hB0 hbo k1 k2 hlz2
      go_wp2
      refine bodyPost_end (results_none rfl _ _ _) hF.defers ?_
      exact ⟨rfl, HE.out⟩
  · rcases Hlc.out with ⟨k1, k2⟩ | ⟨k1, k2⟩
    · have hz : lbs = [] := List.length_eq_zero_iff.1 (by rw [Hl1.out, k1]; rfl)
      have HE := HF.out (.slice la lz lc9) rp lbs rbs w8 (by
        have hr : rbs = [] := List.length_eq_zero_iff.1 (by rw [Hl2.out, k2]; rfl)
        have h0 := HS7.out
        rw [k1, k2, hz, hr] at h0
        rw [k1, k2, hz, hr]
        show KidsOkI w0 fp0 h [] [] [] [] _ _
        refine ⟨rfl, rfl, h0.perm ?_⟩
        exact (by classical exact List.perm_iff_count.2 fun a => by simp only [List.count_cons] <;> omega))
      have HE := Lib.hid HE
      clear HS7 HF f6 f7 f8 f141 hz k1 k2 hq
      go_wp2
      refine bodyPost_end (results_none rfl _ _ _) hF.defers ?_
      exact ⟨rfl, HE.out⟩
    · exfalso
      have hz2 : lz = ln + 1 := by rw [← Hlz.out, Hl1.out, k1, Hln.out]
      rw [hz2] at hq
      simp at hq
end Go.Proofs.Ytldofiankhimjaa
