/- Part 15 of the proof: LoR -/
import Derived.Test.YtldofiankhimjaaZ14
import Derived.IntWalk
/- the laws: regions that draw. -/
namespace Go.Proofs.Ytldofiankhimjaa
open Go Go.RowKit
noncomputable def oIo5I : Array Oper := ((Try.f3.body).bind fun c => opsOf c 5).getD #[]
set_option maxHeartbeats 4000000 in
set_option maxRecDepth 100000 in
theorem rIo5I {Q : Exit → Act → World → Prop} {a : Act} {w w0 : World} {fp0 : List Nat} (b3 : Nat) (n0 n1 : Int) (R : List Asn) (ops : Array Oper) (hops : ops = oIo5I) (hsz : a.tmps.size = 86) (h3 : a.eval (.tmp 3) = .pointer (some ⟨b3, 0, none⟩))
    (hS : St w0 fp0 ([pick false (freshA (a.eval (.tmp 16)) (clampO n0)) emp, pick false (freshA (a.eval (.tmp 19)) (clampO n1)) emp, pick false (pureA ((a.eval (.tmp 5)) = (a.eval (.tmp 16)))) (pureA True), pick false (pureA ((a.eval (.tmp 6)) = (a.eval (.tmp 19)))) (pureA True), blkA b3 23 #[.int .i64 n0, .int .i64 n1]] ++ R) w)
    (hQ : ∀ (u : Nat → Value) w1, St w0 fp0 ([pick true (freshA (u 16) (clampO n0)) emp, pick true (freshA (u 19) (clampO n1)) emp, pick true (pureA ((u 5) = (u 16))) (pureA True), pick true (pureA ((u 6) = (u 19))) (pureA True), blkA b3 23 #[.int .i64 n0, .int .i64 n1]] ++ R) w1 → Q .normal (putL a (([14, 15, 16, 17, 18, 19, 5, 6] : List Nat).map fun d => (d, u d))) w1) : (Code.region 5 ops true).wp Try.prog Q a w := by
  subst hops
  have hsize : oIo5I.size = 8 := by kernel_rfl
  have hE : Looks (fun L g w => St w0 fp0 ([pick (L 2) (freshA (g 16) (clampO n0)) emp, pick (L 5) (freshA (g 19) (clampO n1)) emp, pick (L 6) (pureA ((g 5) = (g 16))) (pureA True), pick (L 7) (pureA ((g 6) = (g 19))) (pureA True), blkA b3 23 #[.int .i64 n0, .int .i64 n1]] ++ R) w) [2, 5, 6, 7] [16, 19, 5, 6] := by
    intro L L' g g' w hL hg h
    simpa only [← hL 2 (by decide), ← hL 5 (by decide), ← hL 6 (by decide), ← hL 7 (by decide), ← hg 16 (by decide), ← hg 19 (by decide), ← hg 5 (by decide), ← hg 6 (by decide)] using h
  have hn1 : (([(0, 14, .pointer (some ⟨b3, 0, none⟩)), (1, 15, .int .i64 n0), (3, 17, .pointer (some ⟨b3, 1, none⟩)), (4, 18, .int .i64 n1)] : List (Nat × Nat × Value)).map (·.1)).Nodup := by
    show List.Nodup [0, 1, 3, 4]
    decide
  have hn2 : (([(0, 14, .pointer (some ⟨b3, 0, none⟩)), (1, 15, .int .i64 n0), (3, 17, .pointer (some ⟨b3, 1, none⟩)), (4, 18, .int .i64 n1)] : List (Nat × Nat × Value)).map (·.2.1)).Nodup := by
    show List.Nodup [14, 15, 17, 18]
    decide
  refine wp_region_vals (ops' := oIo5I) [14, 15, 16, 17, 18, 19, 5, 6] [(0, 14, .pointer (some ⟨b3, 0, none⟩)), (1, 15, .int .i64 n0), (3, 17, .pointer (some ⟨b3, 1, none⟩)), (4, 18, .int .i64 n1)] (fun L g w => St w0 fp0 ([pick (L 2) (freshA (g 16) (clampO n0)) emp, pick (L 5) (freshA (g 19) (clampO n1)) emp, pick (L 6) (pureA ((g 5) = (g 16))) (pureA True), pick (L 7) (pureA ((g 6) = (g 19))) (pureA True), blkA b3 23 #[.int .i64 n0, .int .i64 n1]] ++ R) w) rfl (by kernel_rfl) (by kernel_rfl) (hS.mono (below_drew w)) ?_ ?_
  · intro oi o L a1 w1 ho hL hdep hI
    have hoi : oi < 8 := by have := (Array.getElem?_eq_some_iff.1 ho).1; omega
    have h1sz : a1.tmps.size = 86 := hI.frame.size.trans hsz
    rcases (by omega : oi = 0 ∨ oi = 1 ∨ oi = 2 ∨ oi = 3 ∨ oi = 4 ∨ oi = 5 ∨ oi = 6 ∨ oi = 7) with rfl | rfl | rfl | rfl | rfl | rfl | rfl | rfl
    · have hl : oIo5I[0]? = some ⟨some 14, Op.indexAddr _ (Operand.tmp 3) (Operand.const (Value.int IntKind.i64 0)), _, _, _, none⟩ := rfl
      obtain rfl := oI ho hl
      have x3 := hI.old 3 (.pointer (some ⟨b3, 0, none⟩)) (by decide) h3
      exact hI.rd hE hsz 0 14 (.pointer (some ⟨b3, 0, none⟩)) ho rfl rfl hdep (by decide) (vals_at hn1 hn2 0 rfl) (by simp [go_sem, execOp, Act.eval, x3])
    · have hl : oIo5I[1]? = some ⟨some 15, Op.load _ (Operand.tmp 14), _, _, _, none⟩ := rfl
      obtain rfl := oI ho hl
      have x14 := hI.val 0 14 (.pointer (some ⟨b3, 0, none⟩)) (mG (i := 0) rfl) (dK ho hdep (by kernel_rfl : waitsB oIo5I 1 0 = true))
      have hS1 := hI.eff
      have e2 : L 2 = false := hI.no hL (by kernel_rfl : waitsB oIo5I 2 1 = true)
      have e5 : L 5 = false := hI.no (hI.no hL (by kernel_rfl : waitsB oIo5I 2 1 = true)) (by kernel_rfl : waitsB oIo5I 5 2 = true)
      have e6 : L 6 = false := hI.no hL (by kernel_rfl : waitsB oIo5I 6 1 = true)
      have e7 : L 7 = false := hI.no hL (by kernel_rfl : waitsB oIo5I 7 1 = true)
      simp only [e2, e5, e6, e7, pick_false] at hS1
      obtain ⟨_, hp⟩ := hS1.has 4 rfl
      have hcell := (blk_get hp).1 0
      have hlt := (blk_get hp).2.2
      simp only [List.getElem?_toArray, List.getElem?_cons_zero] at hcell
      exact hI.rd hE hsz 1 15 (.int .i64 n0) ho rfl rfl hdep (by decide) (vals_at hn1 hn2 1 rfl) (by simp [go_sem, execOp, Act.eval, x14, hcell])
    · have hl : oIo5I[2]? = some ⟨some 16, Op.call ⟨Callee.value (Operand.func _), #[Operand.tmp 15], _⟩, _, _, _, none⟩ := rfl
      obtain rfl := oI ho hl
      have x15 := hI.val 1 15 (.int .i64 n0) (mG (i := 1) rfl) (dK ho hdep (by kernel_rfl : waitsB oIo5I 2 1 = true))
      have hS1 := hI.eff
      have e2 : L 2 = false := hL
      have e5 : L 5 = false := hI.no hL (by kernel_rfl : waitsB oIo5I 5 2 = true)
      have e6 : L 6 = false := hI.no hL (by kernel_rfl : waitsB oIo5I 6 2 = true)
      have e7 : L 7 = false := hI.no hL (by kernel_rfl : waitsB oIo5I 7 2 = true)
      simp only [e2, e5, e6, e7, pick_false] at hS1
      refine inv_call ho rfl (f := 11) (by simp [go_sem, Act.eval, x15]) (NewI_calls n0 w0 w1 fp0 _ hS1) ?_
      rintro e w2 ⟨tb2, rfl, hs2⟩
      refine ⟨_, rfl, hI.put 2 16 _ ho hdep (by decide) (by intro t ht; exact vals_ne2 rfl rfl (by decide : 2 ∉ [0, 1, 3, 4]) (by decide : 16 ∉ [14, 15, 17, 18]) ht) ?_⟩
      have hS3 : St w0 fp0 (emp :: ([freshA (ptrI tb2) (clampO n0), emp, pureA True, pureA True, blkA b3 23 #[.int .i64 n0, .int .i64 n1]] ++ R)) w2 := (St.freshA_in hs2).perm (by classical exact List.perm_iff_count.2 fun a => by simp only [List.cons_append, List.nil_append, List.count_cons] <;> omega)
      have hS4 := St.emp.1 hS3
      simp only [e2, e5, e6, e7, Bool.or_false, Bool.or_true, Nat.reduceEqDiff, decide_true, decide_false, pick_true, pick_false, eval_put_same (by rw [h1sz]; decide : 16 < a1.tmps.size), eval_put_ne (by decide : 16 ≠ 19), eval_put_ne (by decide : 16 ≠ 5), eval_put_ne (by decide : 16 ≠ 6)]
      exact hS4
    · have hl : oIo5I[3]? = some ⟨some 17, Op.indexAddr _ (Operand.tmp 3) (Operand.const (Value.int IntKind.i64 1)), _, _, _, none⟩ := rfl
      obtain rfl := oI ho hl
      have x3 := hI.old 3 (.pointer (some ⟨b3, 0, none⟩)) (by decide) h3
      exact hI.rd hE hsz 3 17 (.pointer (some ⟨b3, 1, none⟩)) ho rfl rfl hdep (by decide) (vals_at hn1 hn2 2 rfl) (by simp [go_sem, execOp, Act.eval, x3])
    · have hl : oIo5I[4]? = some ⟨some 18, Op.load _ (Operand.tmp 17), _, _, _, none⟩ := rfl
      obtain rfl := oI ho hl
      have x17 := hI.val 3 17 (.pointer (some ⟨b3, 1, none⟩)) (mG (i := 2) rfl) (dK ho hdep (by kernel_rfl : waitsB oIo5I 4 3 = true))
      have hS1 := hI.eff
      have e5 : L 5 = false := hI.no hL (by kernel_rfl : waitsB oIo5I 5 4 = true)
      have e6 : L 6 = false := hI.no (hI.no hL (by kernel_rfl : waitsB oIo5I 5 4 = true)) (by kernel_rfl : waitsB oIo5I 6 5 = true)
      have e7 : L 7 = false := hI.no hL (by kernel_rfl : waitsB oIo5I 7 4 = true)
      simp only [e5, e6, e7, pick_false] at hS1
      obtain ⟨_, hp⟩ := hS1.has 4 rfl
      have hcell := (blk_get hp).1 1
      have hlt := (blk_get hp).2.2
      simp only [List.getElem?_toArray, List.getElem?_cons_zero, List.getElem?_cons_succ] at hcell
      exact hI.rd hE hsz 4 18 (.int .i64 n1) ho rfl rfl hdep (by decide) (vals_at hn1 hn2 3 rfl) (by simp [go_sem, execOp, Act.eval, x17, hcell])
    · have hl : oIo5I[5]? = some ⟨some 19, Op.call ⟨Callee.value (Operand.func _), #[Operand.tmp 18], _⟩, _, _, _, none⟩ := rfl
      obtain rfl := oI ho hl
      have x18 := hI.val 4 18 (.int .i64 n1) (mG (i := 3) rfl) (dK ho hdep (by kernel_rfl : waitsB oIo5I 5 4 = true))
      have hS1 := hI.eff
      have e2 : L 2 = true := dK ho hdep (by kernel_rfl : waitsB oIo5I 5 2 = true)
      have e5 : L 5 = false := hL
      have e6 : L 6 = false := hI.no hL (by kernel_rfl : waitsB oIo5I 6 5 = true)
      have e7 : L 7 = false := hI.no hL (by kernel_rfl : waitsB oIo5I 7 5 = true)
      simp only [e2, e5, e6, e7, pick_true, pick_false] at hS1
      refine inv_call ho rfl (f := 11) (by simp [go_sem, Act.eval, x18]) (NewI_calls n1 w0 w1 fp0 _ hS1) ?_
      rintro e w2 ⟨tb2, rfl, hs2⟩
      refine ⟨_, rfl, hI.put 5 19 _ ho hdep (by decide) (by intro t ht; exact vals_ne2 rfl rfl (by decide : 5 ∉ [0, 1, 3, 4]) (by decide : 19 ∉ [14, 15, 17, 18]) ht) ?_⟩
      have hS3 : St w0 fp0 (emp :: ([freshA (a1.eval (.tmp 16)) (clampO n0), freshA (ptrI tb2) (clampO n1), pureA True, pureA True, blkA b3 23 #[.int .i64 n0, .int .i64 n1]] ++ R)) w2 := (St.freshA_in hs2).perm (by classical exact List.perm_iff_count.2 fun a => by simp only [List.cons_append, List.nil_append, List.count_cons] <;> omega)
      have hS4 := St.emp.1 hS3
      simp only [e2, e5, e6, e7, Bool.or_false, Bool.or_true, Nat.reduceEqDiff, decide_true, decide_false, pick_true, pick_false, eval_put_same (by rw [h1sz]; decide : 19 < a1.tmps.size), eval_put_ne (by decide : 19 ≠ 16), eval_put_ne (by decide : 19 ≠ 5), eval_put_ne (by decide : 19 ≠ 6)]
      exact hS4
    · have hl : oIo5I[6]? = some ⟨some 5, Op.assign (Operand.tmp 16), _, _, _, none⟩ := rfl
      obtain rfl := oI ho hl
      have hS1 := hI.eff
      have e2 : L 2 = true := dK ho hdep (by kernel_rfl : waitsB oIo5I 6 2 = true)
      have e5 : L 5 = true := dK ho hdep (by kernel_rfl : waitsB oIo5I 6 5 = true)
      have e6 : L 6 = false := hL
      have e7 : L 7 = false := hI.no hL (by kernel_rfl : waitsB oIo5I 7 6 = true)
      simp only [e2, e5, e6, e7, pick_true, pick_false] at hS1
      refine inv_value ho rfl (v := a1.eval (.tmp 16)) (w' := w1) (by simp [go_sem, execOp, Act.eval]) (hI.put 6 5 _ ho hdep (by decide) (by intro t ht; exact vals_ne2 rfl rfl (by decide : 6 ∉ [0, 1, 3, 4]) (by decide : 5 ∉ [14, 15, 17, 18]) ht) ?_)
      have hS2 := hS1.setP' 2 rfl True trivial
      simp only [e2, e5, e6, e7, Bool.or_false, Bool.or_true, Nat.reduceEqDiff, decide_true, decide_false, pick_true, pick_false, eval_put_same (by rw [h1sz]; decide : 5 < a1.tmps.size), eval_put_ne (by decide : 5 ≠ 16), eval_put_ne (by decide : 5 ≠ 19), eval_put_ne (by decide : 5 ≠ 6)]
      exact hS2
    · have hl : oIo5I[7]? = some ⟨some 6, Op.assign (Operand.tmp 19), _, _, _, none⟩ := rfl
      obtain rfl := oI ho hl
      have hS1 := hI.eff
      have e2 : L 2 = true := dK ho hdep (by kernel_rfl : waitsB oIo5I 7 2 = true)
      have e5 : L 5 = true := dK ho hdep (by kernel_rfl : waitsB oIo5I 7 5 = true)
      have e6 : L 6 = true := dK ho hdep (by kernel_rfl : waitsB oIo5I 7 6 = true)
      have e7 : L 7 = false := hL
      simp only [e2, e5, e6, e7, pick_true, pick_false] at hS1
      refine inv_value ho rfl (v := a1.eval (.tmp 19)) (w' := w1) (by simp [go_sem, execOp, Act.eval]) (hI.put 7 6 _ ho hdep (by decide) (by intro t ht; exact vals_ne2 rfl rfl (by decide : 7 ∉ [0, 1, 3, 4]) (by decide : 6 ∉ [14, 15, 17, 18]) ht) ?_)
      have hS2 := hS1.setP' 3 rfl True trivial
      simp only [e2, e5, e6, e7, Bool.or_false, Bool.or_true, Nat.reduceEqDiff, decide_true, decide_false, pick_true, eval_put_same (by rw [h1sz]; decide : 6 < a1.tmps.size), eval_put_ne (by decide : 6 ≠ 16), eval_put_ne (by decide : 6 ≠ 19), eval_put_ne (by decide : 6 ≠ 5)]
      exact hS2
  · intro L a1 w1 hL hI
    have hS1 := hI.eff
    simp only [hL 2 (by rw [hsize]; decide), hL 5 (by rw [hsize]; decide), hL 6 (by rw [hsize]; decide), hL 7 (by rw [hsize]; decide), pick_true] at hS1
    have := hQ (fun d => a1.eval (.tmp d)) w1  hS1
    have e := hI.frame.eq
    rw [e]
    exact this
noncomputable def oIo12I : Array Oper := ((Try.f3.body).bind fun c => opsOf c 12).getD #[]
set_option maxHeartbeats 4000000 in
set_option maxRecDepth 100000 in
theorem rIo12I {Q : Exit → Act → World → Prop} {a : Act} {w w0 : World} {fp0 : List Nat} (g o n c tb O i j : Nat) (k : Int) (l : MI) (hO : 3 ≤ O) (hO' : O ≤ 1024) (hlen : l.length < 1099511627775) (hj : i + j + 1 = n) (hn : n < 1000000) (hkr : -9223372036854775808 ≤ k ∧ k ≤ 9223372036854775807) (hk : ∀ (L : List Asn) w1, St w0 fp0 L w1 → w1.cell? ⟨g, o + j, none⟩ = some (.int .i64 k)) (R : List Asn) (ops : Array Oper) (hops : ops = oIo12I) (hsz : a.tmps.size = 86) (h0 : a.eval (.tmp 0) = .slice (some ⟨g, o, none⟩) n c) (h6 : a.eval (.tmp 6) = .pointer (some ⟨tb, 0, none⟩)) (h7 : a.eval (.tmp 7) = .int .i64 i)
    (hS : St w0 fp0 ([pick false (hobjA O tb (putM l k (k.tdiv 2))) (hobjA O tb l)] ++ R) w)
    (hQ : ∀ (u : Nat → Value) w1, St w0 fp0 ([pick true (hobjA O tb (putM l k (k.tdiv 2))) (hobjA O tb l)] ++ R) w1 → Q .normal (putL a (([38, 39, 40, 41, 42, 43, 44, 45, 46, 47, 48, 49, 50, 51, 52, 53, 54, 55, 56] : List Nat).map fun d => (d, u d))) w1) : (Code.region 12 ops true).wp Try.prog Q a w := by
  subst hops
  have hw1 : IntKind.i64.wrap ((n : Int) - 1) = (n : Int) - 1 := IntWalk.i64_in _ (by omega)
  have hw2 : IntKind.i64.wrap ((n : Int) - 1 - (i : Int)) = (j : Int) := by rw [IntWalk.i64_in _ (by omega)]; omega
  have hjn : j < n := by omega
  have hw3 : IntKind.i64.wrap (k.tdiv 2) = k.tdiv 2 := half_in hkr.1 hkr.2
  have hsize : oIo12I.size = 19 := by kernel_rfl
  have hE : Looks (fun L g w => St w0 fp0 ([pick (L 18) (hobjA O tb (putM l k (k.tdiv 2))) (hobjA O tb l)] ++ R) w) [18] [56] := by
    intro L L' g g' w hL hg h
    simpa only [← hL 18 (by decide), ← hg 56 (by decide)] using h
  have hn1 : (([(0, 38, .pointer (some ⟨tb, 0, none⟩)), (1, 39, .slice (some ⟨g, o, none⟩) n c), (2, 40, .slice (some ⟨g, o, none⟩) n c), (3, 41, .int .i64 n), (4, 42, .int .i64 ((n : Int) - 1)), (5, 43, .int .i64 i), (6, 44, .int .i64 j), (7, 45, .pointer (some ⟨g, o + j, none⟩)), (8, 46, .int .i64 k), (9, 47, .slice (some ⟨g, o, none⟩) n c), (10, 48, .slice (some ⟨g, o, none⟩) n c), (11, 49, .int .i64 n), (12, 50, .int .i64 ((n : Int) - 1)), (13, 51, .int .i64 i), (14, 52, .int .i64 j), (15, 53, .pointer (some ⟨g, o + j, none⟩)), (16, 54, .int .i64 k), (17, 55, .int .i64 (k.tdiv 2))] : List (Nat × Nat × Value)).map (·.1)).Nodup := by
    show List.Nodup [0, 1, 2, 3, 4, 5, 6, 7, 8, 9, 10, 11, 12, 13, 14, 15, 16, 17]
    decide
  have hn2 : (([(0, 38, .pointer (some ⟨tb, 0, none⟩)), (1, 39, .slice (some ⟨g, o, none⟩) n c), (2, 40, .slice (some ⟨g, o, none⟩) n c), (3, 41, .int .i64 n), (4, 42, .int .i64 ((n : Int) - 1)), (5, 43, .int .i64 i), (6, 44, .int .i64 j), (7, 45, .pointer (some ⟨g, o + j, none⟩)), (8, 46, .int .i64 k), (9, 47, .slice (some ⟨g, o, none⟩) n c), (10, 48, .slice (some ⟨g, o, none⟩) n c), (11, 49, .int .i64 n), (12, 50, .int .i64 ((n : Int) - 1)), (13, 51, .int .i64 i), (14, 52, .int .i64 j), (15, 53, .pointer (some ⟨g, o + j, none⟩)), (16, 54, .int .i64 k), (17, 55, .int .i64 (k.tdiv 2))] : List (Nat × Nat × Value)).map (·.2.1)).Nodup := by
    show List.Nodup [38, 39, 40, 41, 42, 43, 44, 45, 46, 47, 48, 49, 50, 51, 52, 53, 54, 55]
    decide
  refine wp_region_vals (ops' := oIo12I) [38, 39, 40, 41, 42, 43, 44, 45, 46, 47, 48, 49, 50, 51, 52, 53, 54, 55, 56] [(0, 38, .pointer (some ⟨tb, 0, none⟩)), (1, 39, .slice (some ⟨g, o, none⟩) n c), (2, 40, .slice (some ⟨g, o, none⟩) n c), (3, 41, .int .i64 n), (4, 42, .int .i64 ((n : Int) - 1)), (5, 43, .int .i64 i), (6, 44, .int .i64 j), (7, 45, .pointer (some ⟨g, o + j, none⟩)), (8, 46, .int .i64 k), (9, 47, .slice (some ⟨g, o, none⟩) n c), (10, 48, .slice (some ⟨g, o, none⟩) n c), (11, 49, .int .i64 n), (12, 50, .int .i64 ((n : Int) - 1)), (13, 51, .int .i64 i), (14, 52, .int .i64 j), (15, 53, .pointer (some ⟨g, o + j, none⟩)), (16, 54, .int .i64 k), (17, 55, .int .i64 (k.tdiv 2))] (fun L g w => St w0 fp0 ([pick (L 18) (hobjA O tb (putM l k (k.tdiv 2))) (hobjA O tb l)] ++ R) w) rfl (by kernel_rfl) (by kernel_rfl) (hS.mono (below_drew w)) ?_ ?_
  · intro oi o L a1 w1 ho hL hdep hI
    have hoi : oi < 19 := by have := (Array.getElem?_eq_some_iff.1 ho).1; omega
    have h1sz : a1.tmps.size = 86 := hI.frame.size.trans hsz
    rcases (by omega : oi = 0 ∨ oi = 1 ∨ oi = 2 ∨ oi = 3 ∨ oi = 4 ∨ oi = 5 ∨ oi = 6 ∨ oi = 7 ∨ oi = 8 ∨ oi = 9 ∨ oi = 10 ∨ oi = 11 ∨ oi = 12 ∨ oi = 13 ∨ oi = 14 ∨ oi = 15 ∨ oi = 16 ∨ oi = 17 ∨ oi = 18) with rfl | rfl | rfl | rfl | rfl | rfl | rfl | rfl | rfl | rfl | rfl | rfl | rfl | rfl | rfl | rfl | rfl | rfl | rfl
    · have hl : oIo12I[0]? = some ⟨some 38, Op.move (Operand.tmp 6), _, _, _, none⟩ := rfl
      obtain rfl := oI ho hl
      have x6 := hI.old 6 (.pointer (some ⟨tb, 0, none⟩)) (by decide) h6
      exact hI.rd hE hsz 0 38 (.pointer (some ⟨tb, 0, none⟩)) ho rfl rfl hdep (by decide) (vals_at hn1 hn2 0 rfl) (by simp [go_sem, execOp, Act.eval, x6])
    · have hl : oIo12I[1]? = some ⟨some 39, Op.move (Operand.tmp 0), _, _, _, none⟩ := rfl
      obtain rfl := oI ho hl
      have x0 := hI.old 0 (.slice (some ⟨g, o, none⟩) n c) (by decide) h0
      exact hI.rd hE hsz 1 39 (.slice (some ⟨g, o, none⟩) n c) ho rfl rfl hdep (by decide) (vals_at hn1 hn2 1 rfl) (by simp [go_sem, execOp, Act.eval, x0])
    · have hl : oIo12I[2]? = some ⟨some 40, Op.move (Operand.tmp 0), _, _, _, none⟩ := rfl
      obtain rfl := oI ho hl
      have x0 := hI.old 0 (.slice (some ⟨g, o, none⟩) n c) (by decide) h0
      exact hI.rd hE hsz 2 40 (.slice (some ⟨g, o, none⟩) n c) ho rfl rfl hdep (by decide) (vals_at hn1 hn2 2 rfl) (by simp [go_sem, execOp, Act.eval, x0])
    · have hl : oIo12I[3]? = some ⟨some 41, Op.call ⟨Callee.builtin Builtin.len, #[Operand.tmp 40], _⟩, _, _, _, none⟩ := rfl
      obtain rfl := oI ho hl
      have x40 := hI.val 2 40 (.slice (some ⟨g, o, none⟩) n c) (mG (i := 2) rfl) (dK ho hdep (by kernel_rfl : waitsB oIo12I 3 2 = true))
      exact hI.rd hE hsz 3 41 (.int .i64 n) ho rfl rfl hdep (by decide) (vals_at hn1 hn2 3 rfl) (by simp [go_sem, Act.eval, x40])
    · have hl : oIo12I[4]? = some ⟨some 42, Op.binOp BinOp.sub _ (Operand.tmp 41) (Operand.const (Value.int IntKind.i64 1)) _, _, _, _, none⟩ := rfl
      obtain rfl := oI ho hl
      have x41 := hI.val 3 41 (.int .i64 n) (mG (i := 3) rfl) (dK ho hdep (by kernel_rfl : waitsB oIo12I 4 3 = true))
      exact hI.rd hE hsz 4 42 (.int .i64 ((n : Int) - 1)) ho rfl rfl hdep (by decide) (vals_at hn1 hn2 4 rfl) (by simp [go_sem, execOp, Act.eval, x41, hw1])
    · have hl : oIo12I[5]? = some ⟨some 43, Op.move (Operand.tmp 7), _, _, _, none⟩ := rfl
      obtain rfl := oI ho hl
      have x7 := hI.old 7 (.int .i64 i) (by decide) h7
      exact hI.rd hE hsz 5 43 (.int .i64 i) ho rfl rfl hdep (by decide) (vals_at hn1 hn2 5 rfl) (by simp [go_sem, execOp, Act.eval, x7])
    · have hl : oIo12I[6]? = some ⟨some 44, Op.binOp BinOp.sub _ (Operand.tmp 42) (Operand.tmp 43) _, _, _, _, none⟩ := rfl
      obtain rfl := oI ho hl
      have x42 := hI.val 4 42 (.int .i64 ((n : Int) - 1)) (mG (i := 4) rfl) (dK ho hdep (by kernel_rfl : waitsB oIo12I 6 4 = true))
      have x43 := hI.val 5 43 (.int .i64 i) (mG (i := 5) rfl) (dK ho hdep (by kernel_rfl : waitsB oIo12I 6 5 = true))
      exact hI.rd hE hsz 6 44 (.int .i64 j) ho rfl rfl hdep (by decide) (vals_at hn1 hn2 6 rfl) (by simp [go_sem, execOp, Act.eval, x42, x43, hw2])
    · have hl : oIo12I[7]? = some ⟨some 45, Op.indexAddr _ (Operand.tmp 39) (Operand.tmp 44), _, _, _, none⟩ := rfl
      obtain rfl := oI ho hl
      have x39 := hI.val 1 39 (.slice (some ⟨g, o, none⟩) n c) (mG (i := 1) rfl) (dK ho hdep (by kernel_rfl : waitsB oIo12I 7 1 = true))
      have x44 := hI.val 6 44 (.int .i64 j) (mG (i := 6) rfl) (dK ho hdep (by kernel_rfl : waitsB oIo12I 7 6 = true))
      exact hI.rd hE hsz 7 45 (.pointer (some ⟨g, o + j, none⟩)) ho rfl rfl hdep (by decide) (vals_at hn1 hn2 7 rfl) (by simp [go_sem, execOp, Act.eval, x39, x44, hjn])
    · have hl : oIo12I[8]? = some ⟨some 46, Op.load _ (Operand.tmp 45), _, _, _, none⟩ := rfl
      obtain rfl := oI ho hl
      have x45 := hI.val 7 45 (.pointer (some ⟨g, o + j, none⟩)) (mG (i := 7) rfl) (dK ho hdep (by kernel_rfl : waitsB oIo12I 8 7 = true))
      have hS1 := hI.eff
      have e18 : L 18 = false := hI.no hL (by kernel_rfl : waitsB oIo12I 18 8 = true)
      simp only [e18, pick_false] at hS1
      have hcell := hk _ _ hS1
      exact hI.rd hE hsz 8 46 (.int .i64 k) ho rfl rfl hdep (by decide) (vals_at hn1 hn2 8 rfl) (by simp [go_sem, execOp, Act.eval, x45, hcell])
    · have hl : oIo12I[9]? = some ⟨some 47, Op.move (Operand.tmp 0), _, _, _, none⟩ := rfl
      obtain rfl := oI ho hl
      have x0 := hI.old 0 (.slice (some ⟨g, o, none⟩) n c) (by decide) h0
      exact hI.rd hE hsz 9 47 (.slice (some ⟨g, o, none⟩) n c) ho rfl rfl hdep (by decide) (vals_at hn1 hn2 9 rfl) (by simp [go_sem, execOp, Act.eval, x0])
    · have hl : oIo12I[10]? = some ⟨some 48, Op.move (Operand.tmp 0), _, _, _, none⟩ := rfl
      obtain rfl := oI ho hl
      have x0 := hI.old 0 (.slice (some ⟨g, o, none⟩) n c) (by decide) h0
      exact hI.rd hE hsz 10 48 (.slice (some ⟨g, o, none⟩) n c) ho rfl rfl hdep (by decide) (vals_at hn1 hn2 10 rfl) (by simp [go_sem, execOp, Act.eval, x0])
    · have hl : oIo12I[11]? = some ⟨some 49, Op.call ⟨Callee.builtin Builtin.len, #[Operand.tmp 48], _⟩, _, _, _, none⟩ := rfl
      obtain rfl := oI ho hl
      have x48 := hI.val 10 48 (.slice (some ⟨g, o, none⟩) n c) (mG (i := 10) rfl) (dK ho hdep (by kernel_rfl : waitsB oIo12I 11 10 = true))
      exact hI.rd hE hsz 11 49 (.int .i64 n) ho rfl rfl hdep (by decide) (vals_at hn1 hn2 11 rfl) (by simp [go_sem, Act.eval, x48])
    · have hl : oIo12I[12]? = some ⟨some 50, Op.binOp BinOp.sub _ (Operand.tmp 49) (Operand.const (Value.int IntKind.i64 1)) _, _, _, _, none⟩ := rfl
      obtain rfl := oI ho hl
      have x49 := hI.val 11 49 (.int .i64 n) (mG (i := 11) rfl) (dK ho hdep (by kernel_rfl : waitsB oIo12I 12 11 = true))
      exact hI.rd hE hsz 12 50 (.int .i64 ((n : Int) - 1)) ho rfl rfl hdep (by decide) (vals_at hn1 hn2 12 rfl) (by simp [go_sem, execOp, Act.eval, x49, hw1])
    · have hl : oIo12I[13]? = some ⟨some 51, Op.move (Operand.tmp 7), _, _, _, none⟩ := rfl
      obtain rfl := oI ho hl
      have x7 := hI.old 7 (.int .i64 i) (by decide) h7
      exact hI.rd hE hsz 13 51 (.int .i64 i) ho rfl rfl hdep (by decide) (vals_at hn1 hn2 13 rfl) (by simp [go_sem, execOp, Act.eval, x7])
    · have hl : oIo12I[14]? = some ⟨some 52, Op.binOp BinOp.sub _ (Operand.tmp 50) (Operand.tmp 51) _, _, _, _, none⟩ := rfl
      obtain rfl := oI ho hl
      have x50 := hI.val 12 50 (.int .i64 ((n : Int) - 1)) (mG (i := 12) rfl) (dK ho hdep (by kernel_rfl : waitsB oIo12I 14 12 = true))
      have x51 := hI.val 13 51 (.int .i64 i) (mG (i := 13) rfl) (dK ho hdep (by kernel_rfl : waitsB oIo12I 14 13 = true))
      exact hI.rd hE hsz 14 52 (.int .i64 j) ho rfl rfl hdep (by decide) (vals_at hn1 hn2 14 rfl) (by simp [go_sem, execOp, Act.eval, x50, x51, hw2])
    · have hl : oIo12I[15]? = some ⟨some 53, Op.indexAddr _ (Operand.tmp 47) (Operand.tmp 52), _, _, _, none⟩ := rfl
      obtain rfl := oI ho hl
      have x47 := hI.val 9 47 (.slice (some ⟨g, o, none⟩) n c) (mG (i := 9) rfl) (dK ho hdep (by kernel_rfl : waitsB oIo12I 15 9 = true))
      have x52 := hI.val 14 52 (.int .i64 j) (mG (i := 14) rfl) (dK ho hdep (by kernel_rfl : waitsB oIo12I 15 14 = true))
      exact hI.rd hE hsz 15 53 (.pointer (some ⟨g, o + j, none⟩)) ho rfl rfl hdep (by decide) (vals_at hn1 hn2 15 rfl) (by simp [go_sem, execOp, Act.eval, x47, x52, hjn])
    · have hl : oIo12I[16]? = some ⟨some 54, Op.load _ (Operand.tmp 53), _, _, _, none⟩ := rfl
      obtain rfl := oI ho hl
      have x53 := hI.val 15 53 (.pointer (some ⟨g, o + j, none⟩)) (mG (i := 15) rfl) (dK ho hdep (by kernel_rfl : waitsB oIo12I 16 15 = true))
      have hS1 := hI.eff
      have hcell := hk _ _ hS1
      exact hI.rd hE hsz 16 54 (.int .i64 k) ho rfl rfl hdep (by decide) (vals_at hn1 hn2 16 rfl) (by simp [go_sem, execOp, Act.eval, x53, hcell])
    · have hl : oIo12I[17]? = some ⟨some 55, Op.binOp BinOp.quo _ (Operand.tmp 54) (Operand.const (Value.int IntKind.i64 2)) _, _, _, _, none⟩ := rfl
      obtain rfl := oI ho hl
      have x54 := hI.val 16 54 (.int .i64 k) (mG (i := 16) rfl) (dK ho hdep (by kernel_rfl : waitsB oIo12I 17 16 = true))
      exact hI.rd hE hsz 17 55 (.int .i64 (k.tdiv 2)) ho rfl rfl hdep (by decide) (vals_at hn1 hn2 17 rfl) (by simp [go_sem, execOp, Act.eval, x54, hw3])
    · have hl : oIo12I[18]? = some ⟨some 56, Op.call ⟨Callee.value (Operand.func _), #[Operand.tmp 38, Operand.tmp 46, Operand.tmp 55], _⟩, _, _, _, none⟩ := rfl
      obtain rfl := oI ho hl
      have x38 := hI.val 0 38 (.pointer (some ⟨tb, 0, none⟩)) (mG (i := 0) rfl) (dK ho hdep (by kernel_rfl : waitsB oIo12I 18 0 = true))
      have x46 := hI.val 8 46 (.int .i64 k) (mG (i := 8) rfl) (dK ho hdep (by kernel_rfl : waitsB oIo12I 18 8 = true))
      have x55 := hI.val 17 55 (.int .i64 (k.tdiv 2)) (mG (i := 17) rfl) (dK ho hdep (by kernel_rfl : waitsB oIo12I 18 17 = true))
      have hS1 := hI.eff
      have e18 : L 18 = false := hL
      simp only [e18, pick_false] at hS1
      obtain ⟨h0, hs0⟩ := St.hobj.1 hS1
      refine inv_call ho rfl (f := 12) (by simp [go_sem, Act.eval, x38, x46, x55, ptrI, encI, valI]) (PutI_calls hO hO' h0 l tb k (k.tdiv 2) w0 w1 fp0 _ hlen hs0) ?_
      rintro e w2 ⟨rfl, h2, hs2⟩
      refine ⟨_, rfl, hI.put 18 56 _ ho hdep (by decide) (by intro t ht; exact vals_ne2 rfl rfl (by decide : 18 ∉ [0, 1, 2, 3, 4, 5, 6, 7, 8, 9, 10, 11, 12, 13, 14, 15, 16, 17]) (by decide : 56 ∉ [38, 39, 40, 41, 42, 43, 44, 45, 46, 47, 48, 49, 50, 51, 52, 53, 54, 55]) ht) ?_⟩
      have hS2 := St.hobj.2 ⟨h2, hs2⟩
      simp only [e18, Bool.or_true, decide_true, pick_true]
      exact hS2
  · intro L a1 w1 hL hI
    have hS1 := hI.eff
    simp only [hL 18 (by rw [hsize]; decide), pick_true] at hS1
    have := hQ (fun d => a1.eval (.tmp d)) w1  hS1
    have e := hI.frame.eq
    rw [e]
    exact this
noncomputable def oIt9I : Array Oper := ((Try.f6.body).bind fun c => opsOf c 9).getD #[]
set_option maxHeartbeats 4000000 in
set_option maxRecDepth 100000 in
theorem rIt9I {Q : Exit → Act → World → Prop} {a : Act} {w w0 : World} {fp0 : List Nat} (b4 : Nat) (lo hi : Int) (vl : Value) (l : MI) (hlen : l.length < 1000000) (R : List Asn) (ops : Array Oper) (hops : ops = oIt9I) (hsz : a.tmps.size = 91) (h4 : a.eval (.tmp 4) = .pointer (some ⟨b4, 0, none⟩)) (h8 : a.eval (.tmp 8) = vl)
    (hS : St w0 fp0 ([pick false (prA (a.eval (.tmp 36)) (l.drop (posK l lo))) emp, pick false (prA (a.eval (.tmp 42)) (betF lo hi l)) emp, pick false (threeA (a.eval (.tmp 43)) vl (a.eval (.tmp 36)) (a.eval (.tmp 42))) emp, prA vl l, blkA b4 23 #[.int .i64 lo, .int .i64 hi]] ++ R) w)
    (hQ : ∀ (u : Nat → Value) w1, (u 44 = .int .i64 3) → (u 45 = .int .i64 0) → St w0 fp0 ([pick true (prA (u 36) (l.drop (posK l lo))) emp, pick true (prA (u 42) (betF lo hi l)) emp, pick true (threeA (u 43) vl (u 36) (u 42)) emp, prA vl l, blkA b4 23 #[.int .i64 lo, .int .i64 hi]] ++ R) w1 → Q .normal (putL a (([32, 33, 34, 35, 36, 37, 38, 39, 40, 41, 42, 43, 44, 45] : List Nat).map fun d => (d, u d))) w1) : (Code.region 9 ops true).wp Try.prog Q a w := by
  subst hops
  have hsize : oIt9I.size = 14 := by kernel_rfl
  have hE : Looks (fun L g w => St w0 fp0 ([pick (L 4) (prA (g 36) (l.drop (posK l lo))) emp, pick (L 10) (prA (g 42) (betF lo hi l)) emp, pick (L 11) (threeA (g 43) vl (g 36) (g 42)) emp, prA vl l, blkA b4 23 #[.int .i64 lo, .int .i64 hi]] ++ R) w) [4, 10, 11] [36, 42, 43] := by
    intro L L' g g' w hL hg h
    simpa only [← hL 4 (by decide), ← hL 10 (by decide), ← hL 11 (by decide), ← hg 36 (by decide), ← hg 42 (by decide), ← hg 43 (by decide)] using h
  have hn1 : (([(0, 32, vl), (1, 33, vl), (2, 34, .pointer (some ⟨b4, 0, none⟩)), (3, 35, .int .i64 lo), (5, 37, vl), (6, 38, .pointer (some ⟨b4, 0, none⟩)), (7, 39, .int .i64 lo), (8, 40, .pointer (some ⟨b4, 1, none⟩)), (9, 41, .int .i64 hi), (12, 44, .int .i64 3), (13, 45, .int .i64 0)] : List (Nat × Nat × Value)).map (·.1)).Nodup := by
    show List.Nodup [0, 1, 2, 3, 5, 6, 7, 8, 9, 12, 13]
    decide
  have hn2 : (([(0, 32, vl), (1, 33, vl), (2, 34, .pointer (some ⟨b4, 0, none⟩)), (3, 35, .int .i64 lo), (5, 37, vl), (6, 38, .pointer (some ⟨b4, 0, none⟩)), (7, 39, .int .i64 lo), (8, 40, .pointer (some ⟨b4, 1, none⟩)), (9, 41, .int .i64 hi), (12, 44, .int .i64 3), (13, 45, .int .i64 0)] : List (Nat × Nat × Value)).map (·.2.1)).Nodup := by
    show List.Nodup [32, 33, 34, 35, 37, 38, 39, 40, 41, 44, 45]
    decide
  refine wp_region_vals (ops' := oIt9I) [32, 33, 34, 35, 36, 37, 38, 39, 40, 41, 42, 43, 44, 45] [(0, 32, vl), (1, 33, vl), (2, 34, .pointer (some ⟨b4, 0, none⟩)), (3, 35, .int .i64 lo), (5, 37, vl), (6, 38, .pointer (some ⟨b4, 0, none⟩)), (7, 39, .int .i64 lo), (8, 40, .pointer (some ⟨b4, 1, none⟩)), (9, 41, .int .i64 hi), (12, 44, .int .i64 3), (13, 45, .int .i64 0)] (fun L g w => St w0 fp0 ([pick (L 4) (prA (g 36) (l.drop (posK l lo))) emp, pick (L 10) (prA (g 42) (betF lo hi l)) emp, pick (L 11) (threeA (g 43) vl (g 36) (g 42)) emp, prA vl l, blkA b4 23 #[.int .i64 lo, .int .i64 hi]] ++ R) w) rfl (by kernel_rfl) (by kernel_rfl) (hS.mono (below_drew w)) ?_ ?_
  · intro oi o L a1 w1 ho hL hdep hI
    have hoi : oi < 14 := by have := (Array.getElem?_eq_some_iff.1 ho).1; omega
    have h1sz : a1.tmps.size = 91 := hI.frame.size.trans hsz
    rcases (by omega : oi = 0 ∨ oi = 1 ∨ oi = 2 ∨ oi = 3 ∨ oi = 4 ∨ oi = 5 ∨ oi = 6 ∨ oi = 7 ∨ oi = 8 ∨ oi = 9 ∨ oi = 10 ∨ oi = 11 ∨ oi = 12 ∨ oi = 13) with rfl | rfl | rfl | rfl | rfl | rfl | rfl | rfl | rfl | rfl | rfl | rfl | rfl | rfl
    · have hl : oIt9I[0]? = some ⟨some 32, Op.move (Operand.tmp 8), _, _, _, none⟩ := rfl
      obtain rfl := oI ho hl
      have x8 := hI.old 8 (vl) (by decide) h8
      exact hI.rd hE hsz 0 32 (vl) ho rfl rfl hdep (by decide) (vals_at hn1 hn2 0 rfl) (by simp [go_sem, execOp, Act.eval, x8])
    · have hl : oIt9I[1]? = some ⟨some 33, Op.move (Operand.tmp 8), _, _, _, none⟩ := rfl
      obtain rfl := oI ho hl
      have x8 := hI.old 8 (vl) (by decide) h8
      exact hI.rd hE hsz 1 33 (vl) ho rfl rfl hdep (by decide) (vals_at hn1 hn2 1 rfl) (by simp [go_sem, execOp, Act.eval, x8])
    · have hl : oIt9I[2]? = some ⟨some 34, Op.indexAddr _ (Operand.tmp 4) (Operand.const (Value.int IntKind.i64 0)), _, _, _, none⟩ := rfl
      obtain rfl := oI ho hl
      have x4 := hI.old 4 (.pointer (some ⟨b4, 0, none⟩)) (by decide) h4
      exact hI.rd hE hsz 2 34 (.pointer (some ⟨b4, 0, none⟩)) ho rfl rfl hdep (by decide) (vals_at hn1 hn2 2 rfl) (by simp [go_sem, execOp, Act.eval, x4])
    · have hl : oIt9I[3]? = some ⟨some 35, Op.load _ (Operand.tmp 34), _, _, _, none⟩ := rfl
      obtain rfl := oI ho hl
      have x34 := hI.val 2 34 (.pointer (some ⟨b4, 0, none⟩)) (mG (i := 2) rfl) (dK ho hdep (by kernel_rfl : waitsB oIt9I 3 2 = true))
      have hS1 := hI.eff
      have e4 : L 4 = false := hI.no hL (by kernel_rfl : waitsB oIt9I 4 3 = true)
      have e10 : L 10 = false := hI.no (hI.no hL (by kernel_rfl : waitsB oIt9I 4 3 = true)) (by kernel_rfl : waitsB oIt9I 10 4 = true)
      have e11 : L 11 = false := hI.no (hI.no hL (by kernel_rfl : waitsB oIt9I 4 3 = true)) (by kernel_rfl : waitsB oIt9I 11 4 = true)
      simp only [e4, e10, e11, pick_false] at hS1
      obtain ⟨_, hp⟩ := hS1.has 4 rfl
      have hcell := (blk_get hp).1 0
      have hlt := (blk_get hp).2.2
      simp only [List.getElem?_toArray, List.getElem?_cons_zero] at hcell
      exact hI.rd hE hsz 3 35 (.int .i64 lo) ho rfl rfl hdep (by decide) (vals_at hn1 hn2 3 rfl) (by simp [go_sem, execOp, Act.eval, x34, hcell])
    · have hl : oIt9I[4]? = some ⟨some 36, Op.call ⟨Callee.value (Operand.func _), #[Operand.tmp 33, Operand.tmp 35], _⟩, _, _, _, none⟩ := rfl
      obtain rfl := oI ho hl
      have x33 := hI.val 1 33 (vl) (mG (i := 1) rfl) (dK ho hdep (by kernel_rfl : waitsB oIt9I 4 1 = true))
      have x35 := hI.val 3 35 (.int .i64 lo) (mG (i := 3) rfl) (dK ho hdep (by kernel_rfl : waitsB oIt9I 4 3 = true))
      have hS1 := hI.eff
      have e4 : L 4 = false := hL
      have e10 : L 10 = false := hI.no hL (by kernel_rfl : waitsB oIt9I 10 4 = true)
      have e11 : L 11 = false := hI.no hL (by kernel_rfl : waitsB oIt9I 11 4 = true)
      simp only [e4, e10, e11, pick_false] at hS1
      have hS2 : St w0 fp0 (prA vl l :: ([emp, emp, emp, blkA b4 23 #[.int .i64 lo, .int .i64 hi]] ++ R)) w1 := hS1.perm (by classical exact List.perm_iff_count.2 fun a => by simp only [List.cons_append, List.nil_append, List.count_cons] <;> omega)
      refine inv_call ho rfl (f := 27) (by simp [go_sem, Act.eval, x33, x35]) (RFrom_calls l lo vl (by omega) w0 w1 fp0 _ hS2) ?_
      rintro e w2 ⟨v2, rfl, hs2⟩
      refine ⟨_, rfl, hI.put 4 36 _ ho hdep (by decide) (by intro t ht; exact vals_ne2 rfl rfl (by decide : 4 ∉ [0, 1, 2, 3, 5, 6, 7, 8, 9, 12, 13]) (by decide : 36 ∉ [32, 33, 34, 35, 37, 38, 39, 40, 41, 44, 45]) ht) ?_⟩
      have hS3 : St w0 fp0 (emp :: ([prA v2 (l.drop (posK l lo)), emp, emp, prA vl l, blkA b4 23 #[.int .i64 lo, .int .i64 hi]] ++ R)) w2 := hs2.perm (by classical exact List.perm_iff_count.2 fun a => by simp only [List.cons_append, List.nil_append, List.count_cons] <;> omega)
      have hS4 := St.emp.1 hS3
      simp only [e4, e10, e11, Bool.or_false, Bool.or_true, Nat.reduceEqDiff, decide_true, decide_false, pick_true, pick_false, eval_put_same (by rw [h1sz]; decide : 36 < a1.tmps.size), eval_put_ne (by decide : 36 ≠ 42), eval_put_ne (by decide : 36 ≠ 43)]
      exact hS4
    · have hl : oIt9I[5]? = some ⟨some 37, Op.move (Operand.tmp 8), _, _, _, none⟩ := rfl
      obtain rfl := oI ho hl
      have x8 := hI.old 8 (vl) (by decide) h8
      exact hI.rd hE hsz 5 37 (vl) ho rfl rfl hdep (by decide) (vals_at hn1 hn2 4 rfl) (by simp [go_sem, execOp, Act.eval, x8])
    · have hl : oIt9I[6]? = some ⟨some 38, Op.indexAddr _ (Operand.tmp 4) (Operand.const (Value.int IntKind.i64 0)), _, _, _, none⟩ := rfl
      obtain rfl := oI ho hl
      have x4 := hI.old 4 (.pointer (some ⟨b4, 0, none⟩)) (by decide) h4
      exact hI.rd hE hsz 6 38 (.pointer (some ⟨b4, 0, none⟩)) ho rfl rfl hdep (by decide) (vals_at hn1 hn2 5 rfl) (by simp [go_sem, execOp, Act.eval, x4])
    · have hl : oIt9I[7]? = some ⟨some 39, Op.load _ (Operand.tmp 38), _, _, _, none⟩ := rfl
      obtain rfl := oI ho hl
      have x38 := hI.val 6 38 (.pointer (some ⟨b4, 0, none⟩)) (mG (i := 5) rfl) (dK ho hdep (by kernel_rfl : waitsB oIt9I 7 6 = true))
      have hS1 := hI.eff
      have e10 : L 10 = false := hI.no hL (by kernel_rfl : waitsB oIt9I 10 7 = true)
      have e11 : L 11 = false := hI.no (hI.no hL (by kernel_rfl : waitsB oIt9I 10 7 = true)) (by kernel_rfl : waitsB oIt9I 11 10 = true)
      simp only [e10, e11, pick_false] at hS1
      obtain ⟨_, hp⟩ := hS1.has 4 rfl
      have hcell := (blk_get hp).1 0
      have hlt := (blk_get hp).2.2
      simp only [List.getElem?_toArray, List.getElem?_cons_zero] at hcell
      exact hI.rd hE hsz 7 39 (.int .i64 lo) ho rfl rfl hdep (by decide) (vals_at hn1 hn2 6 rfl) (by simp [go_sem, execOp, Act.eval, x38, hcell])
    · have hl : oIt9I[8]? = some ⟨some 40, Op.indexAddr _ (Operand.tmp 4) (Operand.const (Value.int IntKind.i64 1)), _, _, _, none⟩ := rfl
      obtain rfl := oI ho hl
      have x4 := hI.old 4 (.pointer (some ⟨b4, 0, none⟩)) (by decide) h4
      exact hI.rd hE hsz 8 40 (.pointer (some ⟨b4, 1, none⟩)) ho rfl rfl hdep (by decide) (vals_at hn1 hn2 7 rfl) (by simp [go_sem, execOp, Act.eval, x4])
    · have hl : oIt9I[9]? = some ⟨some 41, Op.load _ (Operand.tmp 40), _, _, _, none⟩ := rfl
      obtain rfl := oI ho hl
      have x40 := hI.val 8 40 (.pointer (some ⟨b4, 1, none⟩)) (mG (i := 7) rfl) (dK ho hdep (by kernel_rfl : waitsB oIt9I 9 8 = true))
      have hS1 := hI.eff
      have e10 : L 10 = false := hI.no hL (by kernel_rfl : waitsB oIt9I 10 9 = true)
      have e11 : L 11 = false := hI.no (hI.no hL (by kernel_rfl : waitsB oIt9I 10 9 = true)) (by kernel_rfl : waitsB oIt9I 11 10 = true)
      simp only [e10, e11, pick_false] at hS1
      obtain ⟨_, hp⟩ := hS1.has 4 rfl
      have hcell := (blk_get hp).1 1
      have hlt := (blk_get hp).2.2
      simp only [List.getElem?_toArray, List.getElem?_cons_zero, List.getElem?_cons_succ] at hcell
      exact hI.rd hE hsz 9 41 (.int .i64 hi) ho rfl rfl hdep (by decide) (vals_at hn1 hn2 8 rfl) (by simp [go_sem, execOp, Act.eval, x40, hcell])
    · have hl : oIt9I[10]? = some ⟨some 42, Op.call ⟨Callee.value (Operand.func _), #[Operand.tmp 37, Operand.tmp 39, Operand.tmp 41], _⟩, _, _, _, none⟩ := rfl
      obtain rfl := oI ho hl
      have x37 := hI.val 5 37 (vl) (mG (i := 4) rfl) (dK ho hdep (by kernel_rfl : waitsB oIt9I 10 5 = true))
      have x39 := hI.val 7 39 (.int .i64 lo) (mG (i := 6) rfl) (dK ho hdep (by kernel_rfl : waitsB oIt9I 10 7 = true))
      have x41 := hI.val 9 41 (.int .i64 hi) (mG (i := 8) rfl) (dK ho hdep (by kernel_rfl : waitsB oIt9I 10 9 = true))
      have hS1 := hI.eff
      have e4 : L 4 = true := dK ho hdep (by kernel_rfl : waitsB oIt9I 10 4 = true)
      have e10 : L 10 = false := hL
      have e11 : L 11 = false := hI.no hL (by kernel_rfl : waitsB oIt9I 11 10 = true)
      simp only [e4, e10, e11, pick_true, pick_false] at hS1
      have hS2 : St w0 fp0 (prA vl l :: ([prA (a1.eval (.tmp 36)) (l.drop (posK l lo)), emp, emp, blkA b4 23 #[.int .i64 lo, .int .i64 hi]] ++ R)) w1 := hS1.perm (by classical exact List.perm_iff_count.2 fun a => by simp only [List.cons_append, List.nil_append, List.count_cons] <;> omega)
      refine inv_call ho rfl (f := 30) (by simp [go_sem, Act.eval, x37, x39, x41]) (RBetween_calls l lo hi vl (by omega) w0 w1 fp0 _ hS2) ?_
      rintro e w2 ⟨v2, rfl, hs2⟩
      refine ⟨_, rfl, hI.put 10 42 _ ho hdep (by decide) (by intro t ht; exact vals_ne2 rfl rfl (by decide : 10 ∉ [0, 1, 2, 3, 5, 6, 7, 8, 9, 12, 13]) (by decide : 42 ∉ [32, 33, 34, 35, 37, 38, 39, 40, 41, 44, 45]) ht) ?_⟩
      have hS3 : St w0 fp0 (emp :: ([prA (a1.eval (.tmp 36)) (l.drop (posK l lo)), prA v2 (betF lo hi l), emp, prA vl l, blkA b4 23 #[.int .i64 lo, .int .i64 hi]] ++ R)) w2 := hs2.perm (by classical exact List.perm_iff_count.2 fun a => by simp only [List.cons_append, List.nil_append, List.count_cons] <;> omega)
      have hS4 := St.emp.1 hS3
      simp only [e4, e10, e11, Bool.or_false, Bool.or_true, Nat.reduceEqDiff, decide_true, decide_false, pick_true, pick_false, eval_put_same (by rw [h1sz]; decide : 42 < a1.tmps.size), eval_put_ne (by decide : 42 ≠ 36), eval_put_ne (by decide : 42 ≠ 43)]
      exact hS4
    · have hl : oIt9I[11]? = some ⟨some 43, Op.buildSlice _ 3 #[(0, Operand.tmp 32), (1, Operand.tmp 36), (2, Operand.tmp 42)], _, _, _, none⟩ := rfl
      obtain rfl := oI ho hl
      have x32 := hI.val 0 32 (vl) (mG (i := 0) rfl) (dK ho hdep (by kernel_rfl : waitsB oIt9I 11 0 = true))
      have hS1 := hI.eff
      have e4 : L 4 = true := dK ho hdep (by kernel_rfl : waitsB oIt9I 11 4 = true)
      have e10 : L 10 = true := dK ho hdep (by kernel_rfl : waitsB oIt9I 11 10 = true)
      have e11 : L 11 = false := hL
      simp only [e4, e10, e11, pick_true, pick_false] at hS1
      obtain ⟨_, hp3⟩ := hS1.has 3 rfl
      obtain ⟨a3, c3, ev3, -⟩ := row_shape hp3
      obtain ⟨_, hp0⟩ := hS1.has 0 rfl
      obtain ⟨a36, c36, ev36, -⟩ := row_shape hp0
      obtain ⟨_, hp1⟩ := hS1.has 1 rfl
      obtain ⟨a42, c42, ev42, -⟩ := row_shape hp1
      have hv36 := eval_spell ev36
      have hv42 := eval_spell ev42
      refine inv_value ho rfl (v := .slice (some ⟨w1.heap.size, 0, none⟩) 3 3) (w' := w1.alloc (.cells #[vl, a1.eval (.tmp 36), a1.eval (.tmp 42)] 31)) (by simp [go_sem, execOp, Act.eval, x32, ev3, hv36, hv42]) (hI.put 11 43 _ ho hdep (by decide) (by intro t ht; exact vals_ne2 rfl rfl (by decide : 11 ∉ [0, 1, 2, 3, 5, 6, 7, 8, 9, 12, 13]) (by decide : 43 ∉ [32, 33, 34, 35, 37, 38, 39, 40, 41, 44, 45]) ht) ?_)
      have hs2 := St.threeA_in hS1 vl (a1.eval (.tmp 36)) (a1.eval (.tmp 42))
      have hS3 : St w0 fp0 (emp :: ([prA (a1.eval (.tmp 36)) (l.drop (posK l lo)), prA (a1.eval (.tmp 42)) (betF lo hi l), threeA (.slice (some ⟨w1.heap.size, 0, none⟩) 3 3) vl (a1.eval (.tmp 36)) (a1.eval (.tmp 42)), prA vl l, blkA b4 23 #[.int .i64 lo, .int .i64 hi]] ++ R)) _ := hs2.perm (by classical exact List.perm_iff_count.2 fun a => by simp only [List.cons_append, List.nil_append, List.count_cons] <;> omega)
      have hS4 := St.emp.1 hS3
      simp only [e4, e10, e11, Bool.or_false, Bool.or_true, Nat.reduceEqDiff, decide_true, decide_false, pick_true, eval_put_same (by rw [h1sz]; decide : 43 < a1.tmps.size), eval_put_ne (by decide : 43 ≠ 36), eval_put_ne (by decide : 43 ≠ 42)]
      exact hS4
    · have hl : oIt9I[12]? = some ⟨some 44, Op.call ⟨Callee.builtin Builtin.len, #[Operand.tmp 43], _⟩, _, _, _, none⟩ := rfl
      obtain rfl := oI ho hl
      have hS1 := hI.eff
      have e4 : L 4 = true := hI.yes (dK ho hdep (by kernel_rfl : waitsB oIt9I 12 11 = true)) (by kernel_rfl : waitsB oIt9I 11 4 = true)
      have e10 : L 10 = true := hI.yes (dK ho hdep (by kernel_rfl : waitsB oIt9I 12 11 = true)) (by kernel_rfl : waitsB oIt9I 11 10 = true)
      have e11 : L 11 = true := dK ho hdep (by kernel_rfl : waitsB oIt9I 12 11 = true)
      simp only [e4, e10, e11, pick_true] at hS1
      obtain ⟨_, hp⟩ := hS1.has 2 rfl
      obtain ⟨b43, hv⟩ := three_shape hp
      have hcell := eval_spell hv
      exact hI.rd hE hsz 12 44 (.int .i64 3) ho rfl rfl hdep (by decide) (vals_at hn1 hn2 9 rfl) (by simp [go_sem, Act.eval, hcell])
    · have hl : oIt9I[13]? = some ⟨some 45, Op.move (Operand.const (Value.int IntKind.i64 0)), _, _, _, none⟩ := rfl
      obtain rfl := oI ho hl
      exact hI.rd hE hsz 13 45 (.int .i64 0) ho rfl rfl hdep (by decide) (vals_at hn1 hn2 10 rfl) (by simp [go_sem, execOp, Act.eval])
  · intro L a1 w1 hL hI
    have hS1 := hI.eff
    simp only [hL 4 (by rw [hsize]; decide), hL 10 (by rw [hsize]; decide), hL 11 (by rw [hsize]; decide), pick_true] at hS1
    have := hQ (fun d => a1.eval (.tmp d)) w1 (hI.vals (12, 44, .int .i64 3) (mG (i := 9) rfl) (hL 12 (by rw [hsize]; decide))) (hI.vals (13, 45, .int .i64 0) (mG (i := 10) rfl) (hL 13 (by rw [hsize]; decide))) hS1
    have e := hI.frame.eq
    rw [e]
    exact this
end Go.Proofs.Ytldofiankhimjaa
