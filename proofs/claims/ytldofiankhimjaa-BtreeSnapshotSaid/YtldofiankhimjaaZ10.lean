/- Part 10 of the proof: FlI -/
import Derived.Test.YtldofiankhimjaaZ09
import Derived.Deep.CutRange
/- fill (I). -/
namespace Go.Proofs.Ytldofiankhimjaa
open Go Go.RowKit
set_option maxHeartbeats 8000000 in
set_option maxRecDepth 100000 in
theorem fillM0I {o h : Nat} (ho : 3 ≤ o) (ho' : o ≤ 1024) (tb : Nat) (r nn : Value) {x x' : TI} (b : Nat) (w0 w : World) (fp0 : List Nat) (R : List Asn) (hlen : x.cs.length = x.es.length + 1) (hpos : 0 < x.es.length) (hi : 0 < x.cs.length) (hxl : x.es.length ≤ 2000)
    (hA : ∀ jm d, 0 = jm + 1 → x.cs[jm]? = some d → d.es.length ≤ least o) (hB : ∀ d, 0 < x.es.length → x.cs[0 + 1]? = some d → d.es.length ≤ least o)
    (HM : ∀ w1, St w0 fp0 (treeI (h + 1) x b :: blkA tb 72 #[r, .int .i64 o, nn] :: R) w1 → Calls Try.prog 86 #[.pointer (some ⟨tb, 0, none⟩), .pointer (some ⟨b, 0, none⟩), .int .i64 ((0 - 1 : Nat) : Int)] w1 fun e w' => e = .returned (.tuple #[]) ∧ St w0 fp0 (treeI (h + 1) x' b :: blkA tb 72 #[r, .int .i64 o, nn] :: R) w')
    (hS : St w0 fp0 (treeI (h + 1) x b :: blkA tb 72 #[r, .int .i64 o, nn] :: R) w) :
    Calls Try.prog 75 #[.pointer (some ⟨tb, 0, none⟩), .pointer (some ⟨b, 0, none⟩), .int .i64 (0 : Nat)] w fun e w' => e = .returned (.tuple #[]) ∧ St w0 fp0 (treeI (h + 1) x' b :: blkA tb 72 #[r, .int .i64 o, nn] :: R) w' := by
  obtain ⟨_, hq⟩ := hS.has 0 rfl
  obtain ⟨ks, va, vc, pa, cp, hn⟩ := SeesI.node ⟨_, hq⟩
  obtain ⟨ka, kc, rfl, _, _⟩ := hn.keys.shape
  obtain ⟨ci, hci⟩ : ∃ c, x.cs[0]? = some c := ⟨_, List.getElem?_eq_getElem hi⟩
  obtain ⟨gp, cb, rfl, hgp, d0, -⟩ := hn.kids 0 ci hci
  obtain ⟨c0, -, c2, cl⟩ := hn.cells
  have HLE : RowKit.Hid (∀ q q', Calls Try.prog 63 #[.pointer (some ⟨tb, 0, none⟩)] ((w.drewN q).drewN q') fun e w' => e = .returned (.int .i64 (least o)) ∧ w' = (w.drewN q).drewN q') := by
    intro q q'
    obtain ⟨_, qt'⟩ := St.has ((hS.mono (below_drewN _ q)).mono (below_drewN _ q')) 1 rfl
    exact (leastI_calls tb r o nn _ ho ho' qt').mono fun _ _ ⟨a, b⟩ => ⟨a, b.symm⟩
  have HPA : RowKit.Hid (∀ jm d, 0 = jm + 1 → x.cs[jm]? = some d → d.es.length ≤ least o ∧ ∃ kb ka kc, kb < w.heap.size ∧ w.cell? ⟨kb, 0, none⟩ = some (.slice ka d.es.length kc) ∧ w.cell? ⟨gp, jm, none⟩ = some (.pointer (some ⟨kb, 0, none⟩))) := by
    intro jm d e1 e2
    obtain ⟨kb, ka, kc, p1, p2, p3⟩ := hS.peekI e2
    exact ⟨hA jm d e1 e2, kb, ka, kc, p1, p2, p3 _ _ _ c2⟩
  have HPB : RowKit.Hid (∀ d, 0 < x.es.length → x.cs[0 + 1]? = some d → d.es.length ≤ least o ∧ ∃ kb ka kc, kb < w.heap.size ∧ w.cell? ⟨kb, 0, none⟩ = some (.slice ka d.es.length kc) ∧ w.cell? ⟨gp, 0 + 1, none⟩ = some (.pointer (some ⟨kb, 0, none⟩))) := by
    intro d e1 e2
    obtain ⟨kb, ka, kc, p1, p2, p3⟩ := hS.peekI e2
    exact ⟨hB d e1 e2, kb, ka, kc, p1, p2, p3 _ _ _ c2⟩
  have HS := Lib.hid hS
  have HM2 := Lib.hid HM
  have Hlen := Lib.hid hlen
  obtain ⟨n, hn'⟩ : ∃ n, x.es.length = n := ⟨_, rfl⟩
  obtain ⟨np, hnp⟩ : ∃ np, x.cs.length = np := ⟨_, rfl⟩
  obtain ⟨le, hle⟩ : ∃ le, least o = le := ⟨_, rfl⟩
  rw [hn'] at c0 hpos hxl HPB
  rw [hnp] at c2 hi
  rw [hle] at HLE HPA HPB
  have hnn : np = n + 1 := by omega
  have Hn := Lib.hid hn'
  have Hnp := Lib.hid hnp
  obtain ⟨ii, hii⟩ : ∃ ii : Int, ((0 : Nat) : Int) = ii := ⟨_, rfl⟩
  rw [hii]
  have s2 : 0 ≤ ii := by omega
  have s3 : ii.toNat = 0 := by omega
  have s5 : ii < np := by omega
  have Hii := Lib.hid hii
  have Hpos := Lib.hid hpos
  have Hnn := Lib.hid hnn
  have Hi := Lib.hid hi
  have Hxl := Lib.hid hxl
  clear hq hn hci hS HM hA hB hlen hn' hnp hle hii hpos hnn hi hxl ho ho'
  go_enter Try.func75, Try.ntmps75
  go_upto_region 2 with (fail)
  go_cut [21] (fun z wx => z = .bool false ∧ ∃ q, wx = w.drewN q)
  case first =>
    have t6 : decide (0 < ii) = false := by have := Hii.out; simp; omega
    clear Hii
    go_quiet (fail)
    go_step
    go_step
    go_meet
    exact ⟨rfl, _, rfl⟩
  obtain ⟨rfl, q, rfl⟩ := hcut
  clear HPA
  have HLE2 := Lib.hid (HLE.out q)
  have HS1 := Lib.hid (HS.out.mono (below_drewN _ q))
  have HPB1 : RowKit.Hid (∀ d, 0 < n → x.cs[0 + 1]? = some d → d.es.length ≤ le ∧ ∃ kb ka kc, kb < (w.drewN q).heap.size ∧ (w.drewN q).cell? ⟨kb, 0, none⟩ = some (.slice ka d.es.length kc) ∧ (w.drewN q).cell? ⟨gp, 0 + 1, none⟩ = some (.pointer (some ⟨kb, 0, none⟩))) := HPB.out
  replace c0 := (show (w.drewN q).cell? _ = _ from c0)
  replace c2 := (show (w.drewN q).cell? _ = _ from c2)
  replace cl : b < (w.drewN q).heap.size := cl
  replace hgp : gp < (w.drewN q).heap.size := hgp
  clear HLE d0 HPB HS
  generalize w.drewN q = w1 at *
  go_upto_region 11 with (fail)
  go_cut [171] (fun z wx => z = .bool false ∧ ∃ q, wx = w1.drewN q)
  case first =>
    by_cases hin : 0 < n
    · obtain ⟨d, hd⟩ : ∃ d, x.cs[0 + 1]? = some d := ⟨_, List.getElem?_eq_getElem (by have := Hnn.out; have := Hnp.out; omega)⟩
      obtain ⟨hkl, kb, ka', kc', k1, k2, k3⟩ := HPB1.out d hin hd
      obtain ⟨kn, hkn⟩ : ∃ kn, d.es.length = kn := ⟨_, rfl⟩
      rw [hkn] at k2 hkl
      obtain ⟨jj, hjj⟩ : ∃ jj, 0 + 1 = jj := ⟨_, rfl⟩
      rw [hjj] at k3
      have t6 : decide (ii < (n : Int)) = true := by have := Hii.out; simp; omega
      have t1 : IntKind.i64.wrap (ii + 1) = (jj : Int) := by have := Hii.out; have := Hxl.out; rw [IntWalk.i64_in _ (by omega)]; omega
      have t4 : (jj : Int) < np := by have := Hnn.out; omega
      have t7 : decide ((le : Int) < kn) = false := by simp; omega
      have t7n : decide (le < kn) = false := by simp; omega
      clear hd hkn hkl hjj hin HPB1
      go_quiet ((go_at_call 63; exact Calls.quiet_of_same (HLE2.out _)))
      go_step
      go_step
      go_meet
      exact ⟨rfl, _, rfl⟩
    · exfalso
      have := Hpos.out
      omega
  obtain ⟨rfl, q2, rfl⟩ := hcut
  have HM3 := Lib.hid (HM2.out _ (HS1.out.mono (below_drewN _ q2)))
  clear HM2 HPB1 HLE2 c0 c2 cl hgp HS1
  have t6 : decide (0 < ii) = false := by have := Hii.out; simp; omega
  have e1 : (((0 - 1 : Nat) : Nat) : Int) = ii := by have := Hii.out; omega
  rw [e1] at HM3
  clear Hii e1
  go_wp2_with fail
  (with_reducible refine HM3.out.mono ?_)
  rintro e w2 ⟨rfl, hs⟩
  have Hs := Lib.hid hs
  clear hs HM3
  go_wp2
  refine bodyPost_end (results_none rfl _ _ _) rfl ?_
  exact ⟨rfl, Hs.out⟩
set_option maxHeartbeats 8000000 in
set_option maxRecDepth 100000 in
theorem fillM1I {o h im : Nat} (ho : 3 ≤ o) (ho' : o ≤ 1024) (tb : Nat) (r nn : Value) {x x' : TI} (b : Nat) (w0 w : World) (fp0 : List Nat) (R : List Asn) (hlen : x.cs.length = x.es.length + 1) (hpos : 0 < x.es.length) (hi : im + 1 < x.cs.length) (hxl : x.es.length ≤ 2000)
    (hA : ∀ jm d, im + 1 = jm + 1 → x.cs[jm]? = some d → d.es.length ≤ least o) (hB : ∀ d, (im + 1) < x.es.length → x.cs[(im + 1) + 1]? = some d → d.es.length ≤ least o)
    (HM : ∀ w1, St w0 fp0 (treeI (h + 1) x b :: blkA tb 72 #[r, .int .i64 o, nn] :: R) w1 → Calls Try.prog 86 #[.pointer (some ⟨tb, 0, none⟩), .pointer (some ⟨b, 0, none⟩), .int .i64 (((im + 1) - 1 : Nat) : Int)] w1 fun e w' => e = .returned (.tuple #[]) ∧ St w0 fp0 (treeI (h + 1) x' b :: blkA tb 72 #[r, .int .i64 o, nn] :: R) w')
    (hin : im + 1 < x.es.length)
    (hS : St w0 fp0 (treeI (h + 1) x b :: blkA tb 72 #[r, .int .i64 o, nn] :: R) w) :
    Calls Try.prog 75 #[.pointer (some ⟨tb, 0, none⟩), .pointer (some ⟨b, 0, none⟩), .int .i64 ((im + 1) : Nat)] w fun e w' => e = .returned (.tuple #[]) ∧ St w0 fp0 (treeI (h + 1) x' b :: blkA tb 72 #[r, .int .i64 o, nn] :: R) w' := by
  obtain ⟨_, hq⟩ := hS.has 0 rfl
  obtain ⟨ks, va, vc, pa, cp, hn⟩ := SeesI.node ⟨_, hq⟩
  obtain ⟨ka, kc, rfl, _, _⟩ := hn.keys.shape
  obtain ⟨ci, hci⟩ : ∃ c, x.cs[(im + 1)]? = some c := ⟨_, List.getElem?_eq_getElem hi⟩
  obtain ⟨gp, cb, rfl, hgp, d0, -⟩ := hn.kids (im + 1) ci hci
  obtain ⟨c0, -, c2, cl⟩ := hn.cells
  have HLE : RowKit.Hid (∀ q q', Calls Try.prog 63 #[.pointer (some ⟨tb, 0, none⟩)] ((w.drewN q).drewN q') fun e w' => e = .returned (.int .i64 (least o)) ∧ w' = (w.drewN q).drewN q') := by
    intro q q'
    obtain ⟨_, qt'⟩ := St.has ((hS.mono (below_drewN _ q)).mono (below_drewN _ q')) 1 rfl
    exact (leastI_calls tb r o nn _ ho ho' qt').mono fun _ _ ⟨a, b⟩ => ⟨a, b.symm⟩
  have HPA : RowKit.Hid (∀ jm d, (im + 1) = jm + 1 → x.cs[jm]? = some d → d.es.length ≤ least o ∧ ∃ kb ka kc, kb < w.heap.size ∧ w.cell? ⟨kb, 0, none⟩ = some (.slice ka d.es.length kc) ∧ w.cell? ⟨gp, jm, none⟩ = some (.pointer (some ⟨kb, 0, none⟩))) := by
    intro jm d e1 e2
    obtain ⟨kb, ka, kc, p1, p2, p3⟩ := hS.peekI e2
    exact ⟨hA jm d e1 e2, kb, ka, kc, p1, p2, p3 _ _ _ c2⟩
  have HPB : RowKit.Hid (∀ d, (im + 1) < x.es.length → x.cs[(im + 1) + 1]? = some d → d.es.length ≤ least o ∧ ∃ kb ka kc, kb < w.heap.size ∧ w.cell? ⟨kb, 0, none⟩ = some (.slice ka d.es.length kc) ∧ w.cell? ⟨gp, (im + 1) + 1, none⟩ = some (.pointer (some ⟨kb, 0, none⟩))) := by
    intro d e1 e2
    obtain ⟨kb, ka, kc, p1, p2, p3⟩ := hS.peekI e2
    exact ⟨hB d e1 e2, kb, ka, kc, p1, p2, p3 _ _ _ c2⟩
  have HS := Lib.hid hS
  have HM2 := Lib.hid HM
  have Hlen := Lib.hid hlen
  obtain ⟨n, hn'⟩ : ∃ n, x.es.length = n := ⟨_, rfl⟩
  obtain ⟨np, hnp⟩ : ∃ np, x.cs.length = np := ⟨_, rfl⟩
  obtain ⟨le, hle⟩ : ∃ le, least o = le := ⟨_, rfl⟩
  rw [hn'] at c0 hpos hxl HPB
  rw [hnp] at c2 hi
  rw [hle] at HLE HPA HPB
  have hnn : np = n + 1 := by omega
  rw [hn'] at hin
  have Hin := Lib.hid hin
  have Hn := Lib.hid hn'
  have Hnp := Lib.hid hnp
  obtain ⟨ii, hii⟩ : ∃ ii : Int, (((im + 1) : Nat) : Int) = ii := ⟨_, rfl⟩
  rw [hii]
  have s2 : 0 ≤ ii := by omega
  have s3 : ii.toNat = (im + 1) := by omega
  have s5 : ii < np := by omega
  have Hii := Lib.hid hii
  have Hpos := Lib.hid hpos
  have Hnn := Lib.hid hnn
  have Hi := Lib.hid hi
  have Hxl := Lib.hid hxl
  clear hin hq hn hci hS HM hA hB hlen hn' hnp hle hii hpos hnn hi hxl ho ho'
  go_enter Try.func75, Try.ntmps75
  go_upto_region 2 with (fail)
  go_cut [21] (fun z wx => z = .bool false ∧ ∃ q, wx = w.drewN q)
  case first =>
    obtain ⟨d, hd⟩ : ∃ d, x.cs[im]? = some d := ⟨_, List.getElem?_eq_getElem (by have := Hi.out; have := Hnp.out; omega)⟩
    obtain ⟨hkl, kb, ka', kc', k1, k2, k3⟩ := HPA.out im d rfl hd
    obtain ⟨kn, hkn⟩ : ∃ kn, d.es.length = kn := ⟨_, rfl⟩
    rw [hkn] at k2 hkl
    have t6 : decide (0 < ii) = true := by have := Hii.out; simp; omega
    have t1 : IntKind.i64.wrap (ii - 1) = (im : Int) := by have := Hii.out; have := Hi.out; have := Hnn.out; have := Hxl.out; rw [IntWalk.i64_in _ (by omega)]; omega
    have t4 : (im : Int) < np := by have := Hi.out; omega
    have t7 : decide ((le : Int) < kn) = false := by simp; omega
    have t7n : decide (le < kn) = false := by simp; omega
    have HLE0 : RowKit.Hid (∀ q', Calls Try.prog 63 #[.pointer (some ⟨tb, 0, none⟩)] (w.drewN q') fun e w' => e = .returned (.int .i64 le) ∧ w' = w.drewN q') := fun q' => HLE.out 0 q'
    clear hd hkn hkl HPA HPB
    go_quiet ((go_at_call 63; exact Calls.quiet_of_same (HLE0.out _)))
    go_step
    go_step
    go_meet
    exact ⟨rfl, _, rfl⟩
  obtain ⟨rfl, q, rfl⟩ := hcut
  clear HPA
  have HLE2 := Lib.hid (HLE.out q)
  have HS1 := Lib.hid (HS.out.mono (below_drewN _ q))
  have HPB1 : RowKit.Hid (∀ d, (im + 1) < n → x.cs[(im + 1) + 1]? = some d → d.es.length ≤ le ∧ ∃ kb ka kc, kb < (w.drewN q).heap.size ∧ (w.drewN q).cell? ⟨kb, 0, none⟩ = some (.slice ka d.es.length kc) ∧ (w.drewN q).cell? ⟨gp, (im + 1) + 1, none⟩ = some (.pointer (some ⟨kb, 0, none⟩))) := HPB.out
  replace c0 := (show (w.drewN q).cell? _ = _ from c0)
  replace c2 := (show (w.drewN q).cell? _ = _ from c2)
  replace cl : b < (w.drewN q).heap.size := cl
  replace hgp : gp < (w.drewN q).heap.size := hgp
  clear HLE d0 HPB HS
  generalize w.drewN q = w1 at *
  go_upto_region 11 with (fail)
  go_cut [171] (fun z wx => z = .bool false ∧ ∃ q, wx = w1.drewN q)
  case first =>
    have hin := Hin.out
    obtain ⟨d, hd⟩ : ∃ d, x.cs[(im + 1) + 1]? = some d := ⟨_, List.getElem?_eq_getElem (by have := Hnn.out; have := Hnp.out; omega)⟩
    obtain ⟨hkl, kb, ka', kc', k1, k2, k3⟩ := HPB1.out d hin hd
    obtain ⟨kn, hkn⟩ : ∃ kn, d.es.length = kn := ⟨_, rfl⟩
    rw [hkn] at k2 hkl
    obtain ⟨jj, hjj⟩ : ∃ jj, (im + 1) + 1 = jj := ⟨_, rfl⟩
    rw [hjj] at k3
    have t6 : decide (ii < (n : Int)) = true := by have := Hii.out; simp; omega
    have t1 : IntKind.i64.wrap (ii + 1) = (jj : Int) := by have := Hii.out; have := Hxl.out; rw [IntWalk.i64_in _ (by omega)]; omega
    have t4 : (jj : Int) < np := by have := Hnn.out; omega
    have t7 : decide ((le : Int) < kn) = false := by simp; omega
    have t7n : decide (le < kn) = false := by simp; omega
    clear hd hkn hkl hjj hin HPB1
    go_quiet ((go_at_call 63; exact Calls.quiet_of_same (HLE2.out _)))
    go_step
    go_step
    go_meet
    exact ⟨rfl, _, rfl⟩
  obtain ⟨rfl, q2, rfl⟩ := hcut
  have HM3 := Lib.hid (HM2.out _ (HS1.out.mono (below_drewN _ q2)))
  clear HM2 HPB1 HLE2 c0 c2 cl hgp HS1
  have t6 : decide (0 < ii) = true := by have := Hii.out; simp; omega
  have t1 : IntKind.i64.wrap (ii - 1) = (im : Int) := by have := Hii.out; have := Hi.out; have := Hnn.out; have := Hxl.out; rw [IntWalk.i64_in _ (by omega)]; omega
  rw [show im + 1 - 1 = im from rfl] at HM3
  go_wp2_with fail
  (with_reducible refine HM3.out.mono ?_)
  rintro e w2 ⟨rfl, hs⟩
  have Hs := Lib.hid hs
  clear hs HM3
  go_wp2
  refine bodyPost_end (results_none rfl _ _ _) rfl ?_
  exact ⟨rfl, Hs.out⟩
set_option maxHeartbeats 8000000 in
set_option maxRecDepth 100000 in
theorem fillM2I {o h im : Nat} (ho : 3 ≤ o) (ho' : o ≤ 1024) (tb : Nat) (r nn : Value) {x x' : TI} (b : Nat) (w0 w : World) (fp0 : List Nat) (R : List Asn) (hlen : x.cs.length = x.es.length + 1) (hpos : 0 < x.es.length) (hi : im + 1 < x.cs.length) (hxl : x.es.length ≤ 2000)
    (hA : ∀ jm d, im + 1 = jm + 1 → x.cs[jm]? = some d → d.es.length ≤ least o) (hB : ∀ d, (im + 1) < x.es.length → x.cs[(im + 1) + 1]? = some d → d.es.length ≤ least o)
    (HM : ∀ w1, St w0 fp0 (treeI (h + 1) x b :: blkA tb 72 #[r, .int .i64 o, nn] :: R) w1 → Calls Try.prog 86 #[.pointer (some ⟨tb, 0, none⟩), .pointer (some ⟨b, 0, none⟩), .int .i64 (((im + 1) - 1 : Nat) : Int)] w1 fun e w' => e = .returned (.tuple #[]) ∧ St w0 fp0 (treeI (h + 1) x' b :: blkA tb 72 #[r, .int .i64 o, nn] :: R) w')
    (hin : ¬ im + 1 < x.es.length)
    (hS : St w0 fp0 (treeI (h + 1) x b :: blkA tb 72 #[r, .int .i64 o, nn] :: R) w) :
    Calls Try.prog 75 #[.pointer (some ⟨tb, 0, none⟩), .pointer (some ⟨b, 0, none⟩), .int .i64 ((im + 1) : Nat)] w fun e w' => e = .returned (.tuple #[]) ∧ St w0 fp0 (treeI (h + 1) x' b :: blkA tb 72 #[r, .int .i64 o, nn] :: R) w' := by
  obtain ⟨_, hq⟩ := hS.has 0 rfl
  obtain ⟨ks, va, vc, pa, cp, hn⟩ := SeesI.node ⟨_, hq⟩
  obtain ⟨ka, kc, rfl, _, _⟩ := hn.keys.shape
  obtain ⟨ci, hci⟩ : ∃ c, x.cs[(im + 1)]? = some c := ⟨_, List.getElem?_eq_getElem hi⟩
  obtain ⟨gp, cb, rfl, hgp, d0, -⟩ := hn.kids (im + 1) ci hci
  obtain ⟨c0, -, c2, cl⟩ := hn.cells
  have HLE : RowKit.Hid (∀ q q', Calls Try.prog 63 #[.pointer (some ⟨tb, 0, none⟩)] ((w.drewN q).drewN q') fun e w' => e = .returned (.int .i64 (least o)) ∧ w' = (w.drewN q).drewN q') := by
    intro q q'
    obtain ⟨_, qt'⟩ := St.has ((hS.mono (below_drewN _ q)).mono (below_drewN _ q')) 1 rfl
    exact (leastI_calls tb r o nn _ ho ho' qt').mono fun _ _ ⟨a, b⟩ => ⟨a, b.symm⟩
  have HPA : RowKit.Hid (∀ jm d, (im + 1) = jm + 1 → x.cs[jm]? = some d → d.es.length ≤ least o ∧ ∃ kb ka kc, kb < w.heap.size ∧ w.cell? ⟨kb, 0, none⟩ = some (.slice ka d.es.length kc) ∧ w.cell? ⟨gp, jm, none⟩ = some (.pointer (some ⟨kb, 0, none⟩))) := by
    intro jm d e1 e2
    obtain ⟨kb, ka, kc, p1, p2, p3⟩ := hS.peekI e2
    exact ⟨hA jm d e1 e2, kb, ka, kc, p1, p2, p3 _ _ _ c2⟩
  have HPB : RowKit.Hid (∀ d, (im + 1) < x.es.length → x.cs[(im + 1) + 1]? = some d → d.es.length ≤ least o ∧ ∃ kb ka kc, kb < w.heap.size ∧ w.cell? ⟨kb, 0, none⟩ = some (.slice ka d.es.length kc) ∧ w.cell? ⟨gp, (im + 1) + 1, none⟩ = some (.pointer (some ⟨kb, 0, none⟩))) := by
    intro d e1 e2
    obtain ⟨kb, ka, kc, p1, p2, p3⟩ := hS.peekI e2
    exact ⟨hB d e1 e2, kb, ka, kc, p1, p2, p3 _ _ _ c2⟩
  have HS := Lib.hid hS
  have HM2 := Lib.hid HM
  have Hlen := Lib.hid hlen
  obtain ⟨n, hn'⟩ : ∃ n, x.es.length = n := ⟨_, rfl⟩
  obtain ⟨np, hnp⟩ : ∃ np, x.cs.length = np := ⟨_, rfl⟩
  obtain ⟨le, hle⟩ : ∃ le, least o = le := ⟨_, rfl⟩
  rw [hn'] at c0 hpos hxl HPB
  rw [hnp] at c2 hi
  rw [hle] at HLE HPA HPB
  have hnn : np = n + 1 := by omega
  rw [hn'] at hin
  have Hin := Lib.hid hin
  have Hn := Lib.hid hn'
  have Hnp := Lib.hid hnp
  obtain ⟨ii, hii⟩ : ∃ ii : Int, (((im + 1) : Nat) : Int) = ii := ⟨_, rfl⟩
  rw [hii]
  have s2 : 0 ≤ ii := by omega
  have s3 : ii.toNat = (im + 1) := by omega
  have s5 : ii < np := by omega
  have Hii := Lib.hid hii
  have Hpos := Lib.hid hpos
  have Hnn := Lib.hid hnn
  have Hi := Lib.hid hi
  have Hxl := Lib.hid hxl
  clear hin hq hn hci hS HM hA hB hlen hn' hnp hle hii hpos hnn hi hxl ho ho'
  go_enter Try.func75, Try.ntmps75
  go_upto_region 2 with (fail)
  go_cut [21] (fun z wx => z = .bool false ∧ ∃ q, wx = w.drewN q)
  case first =>
    obtain ⟨d, hd⟩ : ∃ d, x.cs[im]? = some d := ⟨_, List.getElem?_eq_getElem (by have := Hi.out; have := Hnp.out; omega)⟩
    obtain ⟨hkl, kb, ka', kc', k1, k2, k3⟩ := HPA.out im d rfl hd
    obtain ⟨kn, hkn⟩ : ∃ kn, d.es.length = kn := ⟨_, rfl⟩
    rw [hkn] at k2 hkl
    have t6 : decide (0 < ii) = true := by have := Hii.out; simp; omega
    have t1 : IntKind.i64.wrap (ii - 1) = (im : Int) := by have := Hii.out; have := Hi.out; have := Hnn.out; have := Hxl.out; rw [IntWalk.i64_in _ (by omega)]; omega
    have t4 : (im : Int) < np := by have := Hi.out; omega
    have t7 : decide ((le : Int) < kn) = false := by simp; omega
    have t7n : decide (le < kn) = false := by simp; omega
    have HLE0 : RowKit.Hid (∀ q', Calls Try.prog 63 #[.pointer (some ⟨tb, 0, none⟩)] (w.drewN q') fun e w' => e = .returned (.int .i64 le) ∧ w' = w.drewN q') := fun q' => HLE.out 0 q'
    clear hd hkn hkl HPA HPB
    go_quiet ((go_at_call 63; exact Calls.quiet_of_same (HLE0.out _)))
    go_step
    go_step
    go_meet
    exact ⟨rfl, _, rfl⟩
  obtain ⟨rfl, q, rfl⟩ := hcut
  clear HPA
  have HLE2 := Lib.hid (HLE.out q)
  have HS1 := Lib.hid (HS.out.mono (below_drewN _ q))
  have HPB1 : RowKit.Hid (∀ d, (im + 1) < n → x.cs[(im + 1) + 1]? = some d → d.es.length ≤ le ∧ ∃ kb ka kc, kb < (w.drewN q).heap.size ∧ (w.drewN q).cell? ⟨kb, 0, none⟩ = some (.slice ka d.es.length kc) ∧ (w.drewN q).cell? ⟨gp, (im + 1) + 1, none⟩ = some (.pointer (some ⟨kb, 0, none⟩))) := HPB.out
  replace c0 := (show (w.drewN q).cell? _ = _ from c0)
  replace c2 := (show (w.drewN q).cell? _ = _ from c2)
  replace cl : b < (w.drewN q).heap.size := cl
  replace hgp : gp < (w.drewN q).heap.size := hgp
  clear HLE d0 HPB HS
  generalize w.drewN q = w1 at *
  go_upto_region 11 with (fail)
  go_cut [171] (fun z wx => z = .bool false ∧ ∃ q, wx = w1.drewN q)
  case first =>
    have hin := Hin.out
    have t6 : decide (ii < (n : Int)) = false := by have := Hii.out; simp; omega
    clear hin HPB1
    go_quiet (fail)
    go_step
    go_step
    go_meet
    exact ⟨rfl, _, rfl⟩
  obtain ⟨rfl, q2, rfl⟩ := hcut
  have HM3 := Lib.hid (HM2.out _ (HS1.out.mono (below_drewN _ q2)))
  clear HM2 HPB1 HLE2 c0 c2 cl hgp HS1
  have t6 : decide (0 < ii) = true := by have := Hii.out; simp; omega
  have t1 : IntKind.i64.wrap (ii - 1) = (im : Int) := by have := Hii.out; have := Hi.out; have := Hnn.out; have := Hxl.out; rw [IntWalk.i64_in _ (by omega)]; omega
  rw [show im + 1 - 1 = im from rfl] at HM3
  go_wp2_with fail
  (with_reducible refine HM3.out.mono ?_)
  rintro e w2 ⟨rfl, hs⟩
  have Hs := Lib.hid hs
  clear hs HM3
  go_wp2
  refine bodyPost_end (results_none rfl _ _ _) rfl ?_
  exact ⟨rfl, Hs.out⟩
theorem cnt_ofI {x : TI} {i : Nat} {c : TI} (h : x.cs[i]? = some c) : cntT x i = c.es.length := by unfold cntT; rw [h]
/-- **fill.** -/
theorem fillI_calls {o h i : Nat} (ho : 3 ≤ o) (ho' : o ≤ 1024) (tb : Nat) (r nn : Value) {x : TI} (b : Nat) (w0 w : World) (fp0 : List Nat) (R : List Asn) (hsh : Short o h i x) (hxl : x.es.length ≤ o - 1) (hS : St w0 fp0 (treeI (h + 1) x b :: blkA tb 72 #[r, .int .i64 o, nn] :: R) w) :
    Calls Try.prog 75 #[.pointer (some ⟨tb, 0, none⟩), .pointer (some ⟨b, 0, none⟩), .int .i64 (i : Nat)] w fun e w' => e = .returned (.tuple #[]) ∧ St w0 fp0 (treeI (h + 1) (fillT o i x) b :: blkA tb 72 #[r, .int .i64 o, nn] :: R) w' := by
  have hx2 : x.es.length ≤ 2000 ∧ x.cs.length ≤ 2001 := by have := hsh.len; omega
  obtain ⟨hl1, hl2⟩ := least_two ho
  have hkid : ∀ (j : Nat) (c : TI), x.cs[j]? = some c → (∃ lo, Body o h lo (o - 1) c) ∧ c.es.length ≤ 2000 := by
    intro j c hc
    by_cases e : j = i
    · subst e
      have := (hsh.kid c hc).1
      exact ⟨⟨_, this⟩, by have := this.hi; omega⟩
    · have := hsh.rest j c e hc
      exact ⟨⟨_, this⟩, by have := this.hi; omega⟩
  have hcs : ∀ (j : Nat) (c : TI) (j' : Nat) (c' : TI), x.cs[j]? = some c → x.cs[j']? = some c' → (c.cs = [] ∧ c'.cs = []) ∨ (c.cs.length = c.es.length + 1 ∧ c'.cs.length = c'.es.length + 1) := by
    intro j c j' c' h1 h2
    obtain ⟨⟨_, b1⟩, _⟩ := hkid j c h1
    obtain ⟨⟨_, b2⟩, _⟩ := hkid j' c' h2
    rcases b1.kids with ⟨e, k⟩ | ⟨h', e, k, _⟩
    · subst e; exact .inl ⟨k, b2.2.2⟩
    · subst e; exact .inr ⟨k, b2.2.2.1⟩
  have hcl : ∀ (j : Nat) (c : TI), x.cs[j]? = some c → c.cs.length ≤ 2001 := by
    intro j c h1
    have := (hkid j c h1).2
    rcases hcs j c j c h1 h1 with ⟨k, _⟩ | ⟨k, _⟩
    · rw [k]; simp
    · omega
  obtain ⟨g1, g2, g3, g4, g5⟩ := hsh
  have hM : ∀ j w1, j + 1 < x.cs.length → St w0 fp0 (treeI (h + 1) x b :: blkA tb 72 #[r, .int .i64 o, nn] :: R) w1 → Calls Try.prog 86 #[.pointer (some ⟨tb, 0, none⟩), .pointer (some ⟨b, 0, none⟩), .int .i64 (j : Int)] w1 fun e w' => e = .returned (.tuple #[]) ∧ St w0 fp0 (treeI (h + 1) (mergeT j x) b :: blkA tb 72 #[r, .int .i64 o, nn] :: R) w' := by
    intro j w1 hj hs
    obtain ⟨l, hl⟩ : ∃ l, x.cs[j]? = some l := ⟨_, List.getElem?_eq_getElem (by omega)⟩
    obtain ⟨c, hc⟩ : ∃ c, x.cs[j + 1]? = some c := ⟨_, List.getElem?_eq_getElem hj⟩
    obtain ⟨s, hs'⟩ : ∃ s, x.es[j]? = some s := ⟨_, List.getElem?_eq_getElem (by omega)⟩
    exact mergeI_calls _ b w0 w1 fp0 _ hl hc hs' hx2 (hkid _ _ hl).2 (hkid _ _ hc).2 (hcl _ _ hl) (hcl _ _ hc) hs
  unfold fillT
  by_cases c1 : 0 < i ∧ least o < cntT x (i - 1)
  · rw [if_pos c1]
    obtain ⟨hi0, hc1⟩ := c1
    obtain ⟨j, rfl⟩ : ∃ j, i = j + 1 := ⟨i - 1, by omega⟩
    simp only [Nat.add_sub_cancel] at hc1 ⊢
    obtain ⟨l, hl⟩ : ∃ l, x.cs[j]? = some l := ⟨_, List.getElem?_eq_getElem (by omega)⟩
    obtain ⟨c, hc⟩ : ∃ c, x.cs[j + 1]? = some c := ⟨_, List.getElem?_eq_getElem g3⟩
    obtain ⟨s, hs⟩ : ∃ s, x.es[j]? = some s := ⟨_, List.getElem?_eq_getElem (by omega)⟩
    rw [cnt_ofI hl] at hc1
    exact fillAI ho ho' tb r nn b w0 w fp0 R hl hc hs hx2 (hkid _ _ hl).2 (hkid _ _ hc).2 (hcs _ _ _ _ hl hc) trivial hc1 hS
  · rw [if_neg c1]
    have hA : ∀ jm d, i = jm + 1 → x.cs[jm]? = some d → d.es.length ≤ least o := by
      intro jm d e hd
      subst e
      have : ¬ least o < cntT x jm := fun hh => c1 ⟨by omega, hh⟩
      rw [cnt_ofI hd] at this
      omega
    by_cases c2 : i < x.es.length ∧ least o < cntT x (i + 1)
    · rw [if_pos c2]
      obtain ⟨hi0, hc1⟩ := c2
      obtain ⟨l, hl⟩ : ∃ l, x.cs[i]? = some l := ⟨_, List.getElem?_eq_getElem g3⟩
      obtain ⟨c, hc⟩ : ∃ c, x.cs[i + 1]? = some c := ⟨_, List.getElem?_eq_getElem (by omega)⟩
      obtain ⟨s, hs⟩ : ∃ s, x.es[i]? = some s := ⟨_, List.getElem?_eq_getElem hi0⟩
      rw [cnt_ofI hc] at hc1
      exact fillBI ho ho' tb r nn b w0 w fp0 R hl hc hs hx2 (hkid _ _ hl).2 (hkid _ _ hc).2 (hcs _ _ _ _ hl hc) hA hc1 hS
    · rw [if_neg c2]
      have hB : ∀ d, i < x.es.length → x.cs[i + 1]? = some d → d.es.length ≤ least o := by
        intro d hi0 hd
        have : ¬ least o < cntT x (i + 1) := fun hh => c2 ⟨hi0, hh⟩
        rw [cnt_ofI hd] at this
        omega
      by_cases c3 : 0 < i
      · rw [if_pos c3]
        obtain ⟨jm, rfl⟩ : ∃ jm, i = jm + 1 := ⟨i - 1, by omega⟩
        by_cases hin : jm + 1 < x.es.length
        · exact fillM1I ho ho' tb r nn b w0 w fp0 R g1 g2 g3 hx2.1 hA hB (fun w1 hs => hM jm w1 (by omega) hs) hin hS
        · exact fillM2I ho ho' tb r nn b w0 w fp0 R g1 g2 g3 hx2.1 hA hB (fun w1 hs => hM jm w1 (by omega) hs) hin hS
      · rw [if_neg c3]
        obtain rfl : i = 0 := by omega
        exact fillM0I ho ho' tb r nn b w0 w fp0 R g1 g2 g3 hx2.1 hA hB (fun w1 hs => hM 0 w1 (by omega) hs) hS
end Go.Proofs.Ytldofiankhimjaa
