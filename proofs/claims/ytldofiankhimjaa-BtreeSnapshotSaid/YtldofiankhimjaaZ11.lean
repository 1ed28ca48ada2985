/- Part 11 of the proof: ReRI, ReI, DeI, DlI, Rs, Rt, RfF -/
import Derived.Test.YtldofiankhimjaaZ10
import Derived.Test.YtldofiankhimjaaZ02
import Derived.Test.YtldofiankhimjaaZ03
import Derived.Deep.DeepCutAuto
import Derived.BigQuiet
import Derived.Test.YtldofiankhimjaaZ00
import Derived.IntWalk
/- remove: its regions (I). -/
namespace Go.Proofs.Ytldofiankhimjaa
open Go Go.RowKit
noncomputable def oRe7I : Array Oper := ((Try.f52.body).bind fun c => opsOf c 7).getD #[]
set_option maxHeartbeats 4000000 in
set_option maxRecDepth 100000 in
theorem rRe7I {Q : Exit → Act → World → Prop} {a : Act} {w w0 : World} {fp0 : List Nat} (b i : Nat) (xk xv xp : Value) (xe : M Int Int) (hi : i < xe.length) (hlen : xe.length < 1099511627776) (R : List Asn) (ops : Array Oper) (hops : ops = oRe7I) (hsz : a.tmps.size = 136) (h1 : a.eval (.tmp 1) = .pointer (some ⟨b, 0, none⟩)) (h8 : a.eval (.tmp 8) = .int .i64 i)
    (hS : St w0 fp0 ([blkA b 70 #[vpick false (a.eval (.tmp 41)) xk, vpick false (a.eval (.tmp 49)) xv, xp], pick false (slA 3 (a.eval (.tmp 41)) ((keysI xe).eraseIdx i)) (slA 3 xk (keysI xe)), pick false (slA 3 (a.eval (.tmp 49)) ((valsI xe).eraseIdx i)) (slA 3 xv (valsI xe))] ++ R) w)
    (hQ : ∀ (u : Nat → Value) w1, St w0 fp0 ([blkA b 70 #[vpick true (u 41) xk, vpick true (u 49) xv, xp], pick true (slA 3 (u 41) ((keysI xe).eraseIdx i)) (slA 3 xk (keysI xe)), pick true (slA 3 (u 49) ((valsI xe).eraseIdx i)) (slA 3 xv (valsI xe))] ++ R) w1 → Q .normal (putL a (([32, 33, 34, 35, 36, 37, 38, 39, 40, 41, 42, 43, 44, 45, 46, 47, 48, 49, 50, 51, 52, 53] : List Nat).map fun d => (d, u d))) w1) : (Code.region 7 ops true).wp Try.prog Q a w := by
  subst hops
  have hw : IntKind.i64.wrap ((i : Int) + (1 : Int)) = (i : Int) + (1 : Int) := by rw [IntKind.wrap_i64]; omega
  have hsize : oRe7I.size = 24 := by kernel_rfl
  have hE : Looks (fun L g w => St w0 fp0 ([blkA b 70 #[vpick (L 20) (g 41) xk, vpick (L 23) (g 49) xv, xp], pick (L 9) (slA 3 (g 41) ((keysI xe).eraseIdx i)) (slA 3 xk (keysI xe)), pick (L 17) (slA 3 (g 49) ((valsI xe).eraseIdx i)) (slA 3 xv (valsI xe))] ++ R) w) [9, 17, 20, 23] [41, 49] := by
    intro L L' g g' w hL hg h
    simpa only [← hL 9 (by decide), ← hL 17 (by decide), ← hL 20 (by decide), ← hL 23 (by decide), ← hg 41 (by decide), ← hg 49 (by decide)] using h
  have hn1 : (([(0, 32, .pointer (some ⟨b, 0, none⟩)), (1, 33, .pointer (some ⟨b, 0, none⟩)), (2, 34, .pointer (some ⟨b, 0, none⟩)), (3, 35, .pointer (some ⟨b, 0, none⟩)), (4, 36, .pointer (some ⟨b, 0, none⟩)), (5, 37, xk), (6, 38, .int .i64 i), (7, 39, .int .i64 i), (8, 40, .int .i64 ((i : Int) + 1)), (10, 42, .pointer (some ⟨b, 0, none⟩)), (11, 43, .pointer (some ⟨b, 0, none⟩)), (12, 44, .pointer (some ⟨b, 1, none⟩)), (13, 45, xv), (14, 46, .int .i64 i), (15, 47, .int .i64 i), (16, 48, .int .i64 ((i : Int) + 1)), (18, 50, .pointer (some ⟨b, 0, none⟩)), (19, 51, .pointer (some ⟨b, 0, none⟩)), (21, 52, .pointer (some ⟨b, 0, none⟩)), (22, 53, .pointer (some ⟨b, 1, none⟩))] : List (Nat × Nat × Value)).map (·.1)).Nodup := by
    show List.Nodup [0, 1, 2, 3, 4, 5, 6, 7, 8, 10, 11, 12, 13, 14, 15, 16, 18, 19, 21, 22]
    decide
  have hn2 : (([(0, 32, .pointer (some ⟨b, 0, none⟩)), (1, 33, .pointer (some ⟨b, 0, none⟩)), (2, 34, .pointer (some ⟨b, 0, none⟩)), (3, 35, .pointer (some ⟨b, 0, none⟩)), (4, 36, .pointer (some ⟨b, 0, none⟩)), (5, 37, xk), (6, 38, .int .i64 i), (7, 39, .int .i64 i), (8, 40, .int .i64 ((i : Int) + 1)), (10, 42, .pointer (some ⟨b, 0, none⟩)), (11, 43, .pointer (some ⟨b, 0, none⟩)), (12, 44, .pointer (some ⟨b, 1, none⟩)), (13, 45, xv), (14, 46, .int .i64 i), (15, 47, .int .i64 i), (16, 48, .int .i64 ((i : Int) + 1)), (18, 50, .pointer (some ⟨b, 0, none⟩)), (19, 51, .pointer (some ⟨b, 0, none⟩)), (21, 52, .pointer (some ⟨b, 0, none⟩)), (22, 53, .pointer (some ⟨b, 1, none⟩))] : List (Nat × Nat × Value)).map (·.2.1)).Nodup := by
    show List.Nodup [32, 33, 34, 35, 36, 37, 38, 39, 40, 42, 43, 44, 45, 46, 47, 48, 50, 51, 52, 53]
    decide
  refine wp_region_vals (ops' := oRe7I) [32, 33, 34, 35, 36, 37, 38, 39, 40, 41, 42, 43, 44, 45, 46, 47, 48, 49, 50, 51, 52, 53] [(0, 32, .pointer (some ⟨b, 0, none⟩)), (1, 33, .pointer (some ⟨b, 0, none⟩)), (2, 34, .pointer (some ⟨b, 0, none⟩)), (3, 35, .pointer (some ⟨b, 0, none⟩)), (4, 36, .pointer (some ⟨b, 0, none⟩)), (5, 37, xk), (6, 38, .int .i64 i), (7, 39, .int .i64 i), (8, 40, .int .i64 ((i : Int) + 1)), (10, 42, .pointer (some ⟨b, 0, none⟩)), (11, 43, .pointer (some ⟨b, 0, none⟩)), (12, 44, .pointer (some ⟨b, 1, none⟩)), (13, 45, xv), (14, 46, .int .i64 i), (15, 47, .int .i64 i), (16, 48, .int .i64 ((i : Int) + 1)), (18, 50, .pointer (some ⟨b, 0, none⟩)), (19, 51, .pointer (some ⟨b, 0, none⟩)), (21, 52, .pointer (some ⟨b, 0, none⟩)), (22, 53, .pointer (some ⟨b, 1, none⟩))] (fun L g w => St w0 fp0 ([blkA b 70 #[vpick (L 20) (g 41) xk, vpick (L 23) (g 49) xv, xp], pick (L 9) (slA 3 (g 41) ((keysI xe).eraseIdx i)) (slA 3 xk (keysI xe)), pick (L 17) (slA 3 (g 49) ((valsI xe).eraseIdx i)) (slA 3 xv (valsI xe))] ++ R) w) rfl (by kernel_rfl) (by kernel_rfl) (hS.mono (below_drew w)) ?_ ?_
  · intro oi o L a1 w1 ho hL hdep hI
    have hoi : oi < 24 := by have := (Array.getElem?_eq_some_iff.1 ho).1; omega
    have h1sz : a1.tmps.size = 136 := hI.frame.size.trans hsz
    rcases (by omega : oi = 0 ∨ oi = 1 ∨ oi = 2 ∨ oi = 3 ∨ oi = 4 ∨ oi = 5 ∨ oi = 6 ∨ oi = 7 ∨ oi = 8 ∨ oi = 9 ∨ oi = 10 ∨ oi = 11 ∨ oi = 12 ∨ oi = 13 ∨ oi = 14 ∨ oi = 15 ∨ oi = 16 ∨ oi = 17 ∨ oi = 18 ∨ oi = 19 ∨ oi = 20 ∨ oi = 21 ∨ oi = 22 ∨ oi = 23) with rfl | rfl | rfl | rfl | rfl | rfl | rfl | rfl | rfl | rfl | rfl | rfl | rfl | rfl | rfl | rfl | rfl | rfl | rfl | rfl | rfl | rfl | rfl | rfl
    · have hl : oRe7I[0]? = some ⟨some 32, Op.move (Operand.tmp 1), _, _, _, none⟩ := rfl
      obtain rfl := oI ho hl
      have x1 := hI.old 1 (.pointer (some ⟨b, 0, none⟩)) (by decide) h1
      exact hI.rd hE hsz 0 32 (.pointer (some ⟨b, 0, none⟩)) ho rfl rfl hdep (by decide) (vals_at hn1 hn2 0 rfl) (by simp [go_sem, execOp, Act.eval, x1])
    · have hl : oRe7I[1]? = some ⟨some 33, Op.move (Operand.tmp 1), _, _, _, none⟩ := rfl
      obtain rfl := oI ho hl
      have x1 := hI.old 1 (.pointer (some ⟨b, 0, none⟩)) (by decide) h1
      exact hI.rd hE hsz 1 33 (.pointer (some ⟨b, 0, none⟩)) ho rfl rfl hdep (by decide) (vals_at hn1 hn2 1 rfl) (by simp [go_sem, execOp, Act.eval, x1])
    · have hl : oRe7I[2]? = some ⟨some 34, Op.move (Operand.tmp 1), _, _, _, none⟩ := rfl
      obtain rfl := oI ho hl
      have x1 := hI.old 1 (.pointer (some ⟨b, 0, none⟩)) (by decide) h1
      exact hI.rd hE hsz 2 34 (.pointer (some ⟨b, 0, none⟩)) ho rfl rfl hdep (by decide) (vals_at hn1 hn2 2 rfl) (by simp [go_sem, execOp, Act.eval, x1])
    · have hl : oRe7I[3]? = some ⟨some 35, Op.nilCheck (Operand.tmp 34), _, _, _, none⟩ := rfl
      obtain rfl := oI ho hl
      have x34 := hI.val 2 34 (.pointer (some ⟨b, 0, none⟩)) (mG (i := 2) rfl) (dK ho hdep (by kernel_rfl : waitsB oRe7I 3 2 = true))
      exact hI.rd hE hsz 3 35 (.pointer (some ⟨b, 0, none⟩)) ho rfl rfl hdep (by decide) (vals_at hn1 hn2 3 rfl) (by simp [go_sem, execOp, Act.eval, x34])
    · have hl : oRe7I[4]? = some ⟨some 36, Op.fieldAddr _ (Operand.tmp 35) 0, _, _, _, none⟩ := rfl
      obtain rfl := oI ho hl
      have x35 := hI.val 3 35 (.pointer (some ⟨b, 0, none⟩)) (mG (i := 3) rfl) (dK ho hdep (by kernel_rfl : waitsB oRe7I 4 3 = true))
      exact hI.rd hE hsz 4 36 (.pointer (some ⟨b, 0, none⟩)) ho rfl rfl hdep (by decide) (vals_at hn1 hn2 4 rfl) (by simp [go_sem, execOp, Act.eval, x35])
    · have hl : oRe7I[5]? = some ⟨some 37, Op.load _ (Operand.tmp 36), _, _, _, none⟩ := rfl
      obtain rfl := oI ho hl
      have x36 := hI.val 4 36 (.pointer (some ⟨b, 0, none⟩)) (mG (i := 4) rfl) (dK ho hdep (by kernel_rfl : waitsB oRe7I 5 4 = true))
      have hS1 := hI.eff
      have e9 : L 9 = false := hI.no hL (by kernel_rfl : waitsB oRe7I 9 5 = true)
      have e17 : L 17 = false := hI.no (hI.no hL (by kernel_rfl : waitsB oRe7I 9 5 = true)) (by kernel_rfl : waitsB oRe7I 17 9 = true)
      have e20 : L 20 = false := hI.no hL (by kernel_rfl : waitsB oRe7I 20 5 = true)
      have e23 : L 23 = false := hI.no hL (by kernel_rfl : waitsB oRe7I 23 5 = true)
      simp only [e9, e17, e20, e23, pick_false, vpick_false] at hS1
      obtain ⟨_, hp⟩ := hS1.has 0 rfl
      have hcell := (blk_get hp).1 0
      have hlt := (blk_get hp).2.2
      simp only [List.getElem?_toArray, List.getElem?_cons_zero] at hcell
      exact hI.rd hE hsz 5 37 (xk) ho rfl rfl hdep (by decide) (vals_at hn1 hn2 5 rfl) (by simp [go_sem, execOp, Act.eval, x36, hcell])
    · have hl : oRe7I[6]? = some ⟨some 38, Op.move (Operand.tmp 8), _, _, _, none⟩ := rfl
      obtain rfl := oI ho hl
      have x8 := hI.old 8 (.int .i64 i) (by decide) h8
      exact hI.rd hE hsz 6 38 (.int .i64 i) ho rfl rfl hdep (by decide) (vals_at hn1 hn2 6 rfl) (by simp [go_sem, execOp, Act.eval, x8])
    · have hl : oRe7I[7]? = some ⟨some 39, Op.move (Operand.tmp 8), _, _, _, none⟩ := rfl
      obtain rfl := oI ho hl
      have x8 := hI.old 8 (.int .i64 i) (by decide) h8
      exact hI.rd hE hsz 7 39 (.int .i64 i) ho rfl rfl hdep (by decide) (vals_at hn1 hn2 7 rfl) (by simp [go_sem, execOp, Act.eval, x8])
    · have hl : oRe7I[8]? = some ⟨some 40, Op.binOp BinOp.add _ (Operand.tmp 39) (Operand.const (Value.int IntKind.i64 1)) _, _, _, _, none⟩ := rfl
      obtain rfl := oI ho hl
      have x39 := hI.val 7 39 (.int .i64 i) (mG (i := 7) rfl) (dK ho hdep (by kernel_rfl : waitsB oRe7I 8 7 = true))
      exact hI.rd hE hsz 8 40 (.int .i64 ((i : Int) + 1)) ho rfl rfl hdep (by decide) (vals_at hn1 hn2 8 rfl) (by simp [go_sem, execOp, Act.eval, x39, hw])
    · have hl : oRe7I[9]? = some ⟨some 41, Op.call ⟨Callee.value (Operand.func _), #[Operand.tmp 37, Operand.tmp 38, Operand.tmp 40], _⟩, _, _, _, none⟩ := rfl
      obtain rfl := oI ho hl
      have x37 := hI.val 5 37 (xk) (mG (i := 5) rfl) (dK ho hdep (by kernel_rfl : waitsB oRe7I 9 5 = true))
      have x38 := hI.val 6 38 (.int .i64 i) (mG (i := 6) rfl) (dK ho hdep (by kernel_rfl : waitsB oRe7I 9 6 = true))
      have x40 := hI.val 8 40 (.int .i64 ((i : Int) + 1)) (mG (i := 8) rfl) (dK ho hdep (by kernel_rfl : waitsB oRe7I 9 8 = true))
      have hS1 := hI.eff
      have e9 : L 9 = false := hL
      have e17 : L 17 = false := hI.no hL (by kernel_rfl : waitsB oRe7I 17 9 = true)
      have e20 : L 20 = false := hI.no hL (by kernel_rfl : waitsB oRe7I 20 9 = true)
      have e23 : L 23 = false := hI.no hL (by kernel_rfl : waitsB oRe7I 23 9 = true)
      simp only [e9, e17, e20, e23, pick_false, vpick_false] at hS1
      obtain ⟨f, hsl, hset⟩ := hS1.get 1 rfl
      refine inv_call ho rfl (f := 73) (by simp [go_sem, Act.eval, x37, x38, x40]) (delI_calls _ _ (i) _ hsl (by rw [keysI_length]; exact hi) (by rw [keysI_length]; exact hlen) (keysI_one xe)) ?_
      rintro e w2 ⟨an, nn, cn, f', rfl, hsl', htr⟩
      refine ⟨_, rfl, hI.put 9 41 _ ho hdep (by decide) (by intro t ht; exact vals_ne2 rfl rfl (by decide : 9 ∉ [0, 1, 2, 3, 4, 5, 6, 7, 8, 10, 11, 12, 13, 14, 15, 16, 18, 19, 21, 22]) (by decide : 41 ∉ [32, 33, 34, 35, 36, 37, 38, 39, 40, 42, 43, 44, 45, 46, 47, 48, 50, 51, 52, 53]) ht) ?_⟩
      have hS2 := hset _ _ _ hsl' htr
      simp only [e9, e17, e20, e23, Bool.or_false, Bool.or_true, Nat.reduceEqDiff, decide_true, decide_false, pick_true, pick_false, vpick_false, eval_put_same (by rw [h1sz]; decide : 41 < a1.tmps.size), eval_put_ne (by decide : 41 ≠ 49)]
      exact hS2
    · have hl : oRe7I[10]? = some ⟨some 42, Op.move (Operand.tmp 1), _, _, _, none⟩ := rfl
      obtain rfl := oI ho hl
      have x1 := hI.old 1 (.pointer (some ⟨b, 0, none⟩)) (by decide) h1
      exact hI.rd hE hsz 10 42 (.pointer (some ⟨b, 0, none⟩)) ho rfl rfl hdep (by decide) (vals_at hn1 hn2 9 rfl) (by simp [go_sem, execOp, Act.eval, x1])
    · have hl : oRe7I[11]? = some ⟨some 43, Op.nilCheck (Operand.tmp 42), _, _, _, none⟩ := rfl
      obtain rfl := oI ho hl
      have x42 := hI.val 10 42 (.pointer (some ⟨b, 0, none⟩)) (mG (i := 9) rfl) (dK ho hdep (by kernel_rfl : waitsB oRe7I 11 10 = true))
      exact hI.rd hE hsz 11 43 (.pointer (some ⟨b, 0, none⟩)) ho rfl rfl hdep (by decide) (vals_at hn1 hn2 10 rfl) (by simp [go_sem, execOp, Act.eval, x42])
    · have hl : oRe7I[12]? = some ⟨some 44, Op.fieldAddr _ (Operand.tmp 43) 1, _, _, _, none⟩ := rfl
      obtain rfl := oI ho hl
      have x43 := hI.val 11 43 (.pointer (some ⟨b, 0, none⟩)) (mG (i := 10) rfl) (dK ho hdep (by kernel_rfl : waitsB oRe7I 12 11 = true))
      exact hI.rd hE hsz 12 44 (.pointer (some ⟨b, 1, none⟩)) ho rfl rfl hdep (by decide) (vals_at hn1 hn2 11 rfl) (by simp [go_sem, execOp, Act.eval, x43])
    · have hl : oRe7I[13]? = some ⟨some 45, Op.load _ (Operand.tmp 44), _, _, _, none⟩ := rfl
      obtain rfl := oI ho hl
      have x44 := hI.val 12 44 (.pointer (some ⟨b, 1, none⟩)) (mG (i := 11) rfl) (dK ho hdep (by kernel_rfl : waitsB oRe7I 13 12 = true))
      have hS1 := hI.eff
      have e17 : L 17 = false := hI.no hL (by kernel_rfl : waitsB oRe7I 17 13 = true)
      have e20 : L 20 = false := hI.no hL (by kernel_rfl : waitsB oRe7I 20 13 = true)
      have e23 : L 23 = false := hI.no hL (by kernel_rfl : waitsB oRe7I 23 13 = true)
      simp only [e17, e20, e23, pick_false, vpick_false] at hS1
      obtain ⟨_, hp⟩ := hS1.has 0 rfl
      have hcell := (blk_get hp).1 1
      have hlt := (blk_get hp).2.2
      simp only [List.getElem?_toArray, List.getElem?_cons_zero, List.getElem?_cons_succ] at hcell
      exact hI.rd hE hsz 13 45 (xv) ho rfl rfl hdep (by decide) (vals_at hn1 hn2 12 rfl) (by simp [go_sem, execOp, Act.eval, x44, hcell])
    · have hl : oRe7I[14]? = some ⟨some 46, Op.move (Operand.tmp 8), _, _, _, none⟩ := rfl
      obtain rfl := oI ho hl
      have x8 := hI.old 8 (.int .i64 i) (by decide) h8
      exact hI.rd hE hsz 14 46 (.int .i64 i) ho rfl rfl hdep (by decide) (vals_at hn1 hn2 13 rfl) (by simp [go_sem, execOp, Act.eval, x8])
    · have hl : oRe7I[15]? = some ⟨some 47, Op.move (Operand.tmp 8), _, _, _, none⟩ := rfl
      obtain rfl := oI ho hl
      have x8 := hI.old 8 (.int .i64 i) (by decide) h8
      exact hI.rd hE hsz 15 47 (.int .i64 i) ho rfl rfl hdep (by decide) (vals_at hn1 hn2 14 rfl) (by simp [go_sem, execOp, Act.eval, x8])
    · have hl : oRe7I[16]? = some ⟨some 48, Op.binOp BinOp.add _ (Operand.tmp 47) (Operand.const (Value.int IntKind.i64 1)) _, _, _, _, none⟩ := rfl
      obtain rfl := oI ho hl
      have x47 := hI.val 15 47 (.int .i64 i) (mG (i := 14) rfl) (dK ho hdep (by kernel_rfl : waitsB oRe7I 16 15 = true))
      exact hI.rd hE hsz 16 48 (.int .i64 ((i : Int) + 1)) ho rfl rfl hdep (by decide) (vals_at hn1 hn2 15 rfl) (by simp [go_sem, execOp, Act.eval, x47, hw])
    · have hl : oRe7I[17]? = some ⟨some 49, Op.call ⟨Callee.value (Operand.func _), #[Operand.tmp 45, Operand.tmp 46, Operand.tmp 48], _⟩, _, _, _, none⟩ := rfl
      obtain rfl := oI ho hl
      have x45 := hI.val 13 45 (xv) (mG (i := 12) rfl) (dK ho hdep (by kernel_rfl : waitsB oRe7I 17 13 = true))
      have x46 := hI.val 14 46 (.int .i64 i) (mG (i := 13) rfl) (dK ho hdep (by kernel_rfl : waitsB oRe7I 17 14 = true))
      have x48 := hI.val 16 48 (.int .i64 ((i : Int) + 1)) (mG (i := 15) rfl) (dK ho hdep (by kernel_rfl : waitsB oRe7I 17 16 = true))
      have hS1 := hI.eff
      have e9 : L 9 = true := dK ho hdep (by kernel_rfl : waitsB oRe7I 17 9 = true)
      have e17 : L 17 = false := hL
      have e20 : L 20 = false := hI.no hL (by kernel_rfl : waitsB oRe7I 20 17 = true)
      have e23 : L 23 = false := hI.no hL (by kernel_rfl : waitsB oRe7I 23 17 = true)
      simp only [e9, e17, e20, e23, pick_true, pick_false, vpick_false] at hS1
      obtain ⟨f, hsl, hset⟩ := hS1.get 2 rfl
      refine inv_call ho rfl (f := 73) (by simp [go_sem, Act.eval, x45, x46, x48]) (delI_calls _ _ (i) _ hsl (by rw [valsI_length]; exact hi) (by rw [valsI_length]; exact hlen) (valsI_one xe)) ?_
      rintro e w2 ⟨an, nn, cn, f', rfl, hsl', htr⟩
      refine ⟨_, rfl, hI.put 17 49 _ ho hdep (by decide) (by intro t ht; exact vals_ne2 rfl rfl (by decide : 17 ∉ [0, 1, 2, 3, 4, 5, 6, 7, 8, 10, 11, 12, 13, 14, 15, 16, 18, 19, 21, 22]) (by decide : 49 ∉ [32, 33, 34, 35, 36, 37, 38, 39, 40, 42, 43, 44, 45, 46, 47, 48, 50, 51, 52, 53]) ht) ?_⟩
      have hS2 := hset _ _ _ hsl' htr
      simp only [e9, e17, e20, e23, Bool.or_false, Bool.or_true, Nat.reduceEqDiff, decide_true, decide_false, pick_true, vpick_false, eval_put_same (by rw [h1sz]; decide : 49 < a1.tmps.size), eval_put_ne (by decide : 49 ≠ 41)]
      exact hS2
    · have hl : oRe7I[18]? = some ⟨some 50, Op.nilCheck (Operand.tmp 32), _, _, _, none⟩ := rfl
      obtain rfl := oI ho hl
      have x32 := hI.val 0 32 (.pointer (some ⟨b, 0, none⟩)) (mG (i := 0) rfl) (dK ho hdep (by kernel_rfl : waitsB oRe7I 18 0 = true))
      exact hI.rd hE hsz 18 50 (.pointer (some ⟨b, 0, none⟩)) ho rfl rfl hdep (by decide) (vals_at hn1 hn2 16 rfl) (by simp [go_sem, execOp, Act.eval, x32])
    · have hl : oRe7I[19]? = some ⟨some 51, Op.fieldAddr _ (Operand.tmp 50) 0, _, _, _, none⟩ := rfl
      obtain rfl := oI ho hl
      have x50 := hI.val 18 50 (.pointer (some ⟨b, 0, none⟩)) (mG (i := 16) rfl) (dK ho hdep (by kernel_rfl : waitsB oRe7I 19 18 = true))
      exact hI.rd hE hsz 19 51 (.pointer (some ⟨b, 0, none⟩)) ho rfl rfl hdep (by decide) (vals_at hn1 hn2 17 rfl) (by simp [go_sem, execOp, Act.eval, x50])
    · have hl : oRe7I[20]? = some ⟨none, Op.store _ (Operand.tmp 51) (Operand.tmp 41), _, _, _, none⟩ := rfl
      obtain rfl := oI ho hl
      have x51 := hI.val 19 51 (.pointer (some ⟨b, 0, none⟩)) (mG (i := 17) rfl) (dK ho hdep (by kernel_rfl : waitsB oRe7I 20 19 = true))
      have hS1 := hI.eff
      have e9 : L 9 = true := dK ho hdep (by kernel_rfl : waitsB oRe7I 20 9 = true)
      have e17 : L 17 = true := dK ho hdep (by kernel_rfl : waitsB oRe7I 20 17 = true)
      have e20 : L 20 = false := hL
      have e23 : L 23 = false := hI.no hL (by kernel_rfl : waitsB oRe7I 23 20 = true)
      simp only [e9, e17, e20, e23, pick_true, vpick_false] at hS1
      obtain ⟨_, hpv⟩ := hS1.has 1 rfl
      obtain ⟨av, nv, cv, hv⟩ := sl_shape hpv
      have xv := eval_spell hv
      obtain ⟨f, hp, hset⟩ := hS1.get 0 rfl
      have hcell := (blk_get hp).1 0
      have hfz := (blk_get hp).2.1 0
      have hlt := (blk_get hp).2.2
      simp only [List.getElem?_toArray, List.getElem?_cons_zero] at hcell
      refine inv_stored ho rfl rfl (by simp [go_sem, execOp, Act.eval, x51, xv, hcell, hfz]; rfl) (hI.step 20 ho hdep (by intro t ht; exact vals_ne1 rfl (by decide : 20 ∉ [0, 1, 2, 3, 4, 5, 6, 7, 8, 10, 11, 12, 13, 14, 15, 16, 18, 19, 21, 22]) ht) ?_)
      obtain ⟨hb2, ht2⟩ := blk_set hp 0 (a1.eval (.tmp 41))
      have hS2 := hset _ _ _ hb2 ht2
      simp only [e9, e17, e20, e23, Bool.or_false, Bool.or_true, Nat.reduceEqDiff, decide_true, decide_false, pick_true, vpick_true, vpick_false]
      rw [hv] at hS2
      rw [hv]
      exact hS2
    · have hl : oRe7I[21]? = some ⟨some 52, Op.nilCheck (Operand.tmp 33), _, _, _, none⟩ := rfl
      obtain rfl := oI ho hl
      have x33 := hI.val 1 33 (.pointer (some ⟨b, 0, none⟩)) (mG (i := 1) rfl) (dK ho hdep (by kernel_rfl : waitsB oRe7I 21 1 = true))
      exact hI.rd hE hsz 21 52 (.pointer (some ⟨b, 0, none⟩)) ho rfl rfl hdep (by decide) (vals_at hn1 hn2 18 rfl) (by simp [go_sem, execOp, Act.eval, x33])
    · have hl : oRe7I[22]? = some ⟨some 53, Op.fieldAddr _ (Operand.tmp 52) 1, _, _, _, none⟩ := rfl
      obtain rfl := oI ho hl
      have x52 := hI.val 21 52 (.pointer (some ⟨b, 0, none⟩)) (mG (i := 18) rfl) (dK ho hdep (by kernel_rfl : waitsB oRe7I 22 21 = true))
      exact hI.rd hE hsz 22 53 (.pointer (some ⟨b, 1, none⟩)) ho rfl rfl hdep (by decide) (vals_at hn1 hn2 19 rfl) (by simp [go_sem, execOp, Act.eval, x52])
    · have hl : oRe7I[23]? = some ⟨none, Op.store _ (Operand.tmp 53) (Operand.tmp 49), _, _, _, none⟩ := rfl
      obtain rfl := oI ho hl
      have x53 := hI.val 22 53 (.pointer (some ⟨b, 1, none⟩)) (mG (i := 19) rfl) (dK ho hdep (by kernel_rfl : waitsB oRe7I 23 22 = true))
      have hS1 := hI.eff
      have e9 : L 9 = true := dK ho hdep (by kernel_rfl : waitsB oRe7I 23 9 = true)
      have e17 : L 17 = true := dK ho hdep (by kernel_rfl : waitsB oRe7I 23 17 = true)
      have e20 : L 20 = true := dK ho hdep (by kernel_rfl : waitsB oRe7I 23 20 = true)
      have e23 : L 23 = false := hL
      simp only [e9, e17, e20, e23, pick_true, vpick_true, vpick_false] at hS1
      obtain ⟨_, hpv⟩ := hS1.has 2 rfl
      obtain ⟨av, nv, cv, hv⟩ := sl_shape hpv
      have xv := eval_spell hv
      obtain ⟨f, hp, hset⟩ := hS1.get 0 rfl
      have hcell := (blk_get hp).1 1
      have hfz := (blk_get hp).2.1 1
      have hlt := (blk_get hp).2.2
      simp only [List.getElem?_toArray, List.getElem?_cons_zero, List.getElem?_cons_succ] at hcell
      refine inv_stored ho rfl rfl (by simp [go_sem, execOp, Act.eval, x53, xv, hcell, hfz]; rfl) (hI.step 23 ho hdep (by intro t ht; exact vals_ne1 rfl (by decide : 23 ∉ [0, 1, 2, 3, 4, 5, 6, 7, 8, 10, 11, 12, 13, 14, 15, 16, 18, 19, 21, 22]) ht) ?_)
      obtain ⟨hb2, ht2⟩ := blk_set hp 1 (a1.eval (.tmp 49))
      have hS2 := hset _ _ _ hb2 ht2
      simp only [e9, e17, e20, e23, Bool.or_false, Bool.or_true, Nat.reduceEqDiff, decide_true, decide_false, pick_true, vpick_true]
      rw [hv] at hS2
      rw [hv]
      exact hS2
  · intro L a1 w1 hL hI
    have hS1 := hI.eff
    simp only [hL 9 (by rw [hsize]; decide), hL 17 (by rw [hsize]; decide), hL 20 (by rw [hsize]; decide), hL 23 (by rw [hsize]; decide), pick_true, vpick_true] at hS1
    have := hQ (fun d => a1.eval (.tmp d)) w1  hS1
    have e := hI.frame.eq
    rw [e]
    exact this
noncomputable def oRe13I : Array Oper := ((Try.f52.body).bind fun c => opsOf c 13).getD #[]
set_option maxHeartbeats 4000000 in
set_option maxRecDepth 100000 in
theorem rRe13I {Q : Exit → Act → World → Prop} {a : Act} {w w0 : World} {fp0 : List Nat} (b cb gx nx cx gy ny cy gp np cp i h o lo : Nat) (xe : M Int Int) (bs : List Nat) (c : TI) (m : Int × Int) (hcb : bs[i]? = some cb) (hik : i < nx) (hiv : i < ny) (hip : i < np) (hek : nx = xe.length) (_hev : ny = xe.length) (hep : np = bs.length) (h3o : 3 ≤ o) (hoo : o ≤ 1024) (hbd : Body o h lo (o - 1) c) (hpos : 0 < c.es.length) (hmx : maxT h c = some m) (R : List Asn) (ops : Array Oper) (hops : ops = oRe13I) (hsz : a.tmps.size = 136) (h1 : a.eval (.tmp 1) = .pointer (some ⟨b, 0, none⟩)) (h8 : a.eval (.tmp 8) = .int .i64 i)
    (hS : St w0 fp0 ([pick false (pureA ((a.eval (.tmp 82)) = .tuple #[encI m.1, valI m.2])) emp, blkA b 70 #[.slice (some ⟨gx, 0, none⟩) nx cx, .slice (some ⟨gy, 0, none⟩) ny cy, .slice (some ⟨gp, 0, none⟩) np cp], pick false (slA 3 (.slice (some ⟨gx, 0, none⟩) nx cx) ((keysI xe).set i (encI m.1))) (slA 3 (.slice (some ⟨gx, 0, none⟩) nx cx) (keysI xe)), pick false (slA 3 (.slice (some ⟨gy, 0, none⟩) ny cy) ((valsI xe).set i (valI m.2))) (slA 3 (.slice (some ⟨gy, 0, none⟩) ny cy) (valsI xe)), slA 67 (.slice (some ⟨gp, 0, none⟩) np cp) (bs.map ptrI), treeI h c cb] ++ R) w)
    (hQ : ∀ (u : Nat → Value) w1, St w0 fp0 ([pick true (pureA ((u 82) = .tuple #[encI m.1, valI m.2])) emp, blkA b 70 #[.slice (some ⟨gx, 0, none⟩) nx cx, .slice (some ⟨gy, 0, none⟩) ny cy, .slice (some ⟨gp, 0, none⟩) np cp], pick true (slA 3 (.slice (some ⟨gx, 0, none⟩) nx cx) ((keysI xe).set i (encI m.1))) (slA 3 (.slice (some ⟨gx, 0, none⟩) nx cx) (keysI xe)), pick true (slA 3 (.slice (some ⟨gy, 0, none⟩) ny cy) ((valsI xe).set i (valI m.2))) (slA 3 (.slice (some ⟨gy, 0, none⟩) ny cy) (valsI xe)), slA 67 (.slice (some ⟨gp, 0, none⟩) np cp) (bs.map ptrI), treeI h c cb] ++ R) w1 → Q .normal (putL a (([65, 66, 67, 68, 69, 70, 71, 72, 73, 74, 75, 76, 77, 78, 79, 80, 81, 82, 64, 83, 84, 85, 86] : List Nat).map fun d => (d, u d))) w1) : (Code.region 13 ops true).wp Try.prog Q a w := by
  subst hops
  have hyq : ∀ h, (bs.map ptrI)[i]'h = .pointer (some ⟨cb, 0, none⟩) := by intro h; simp only [List.getElem_map]; rw [(List.getElem?_eq_some_iff.1 hcb).2]; rfl
  have hsize : oRe13I.size = 25 := by kernel_rfl
  have hE : Looks (fun L g w => St w0 fp0 ([pick (L 17) (pureA ((g 82) = .tuple #[encI m.1, valI m.2])) emp, blkA b 70 #[.slice (some ⟨gx, 0, none⟩) nx cx, .slice (some ⟨gy, 0, none⟩) ny cy, .slice (some ⟨gp, 0, none⟩) np cp], pick (L 22) (slA 3 (.slice (some ⟨gx, 0, none⟩) nx cx) ((keysI xe).set i (encI m.1))) (slA 3 (.slice (some ⟨gx, 0, none⟩) nx cx) (keysI xe)), pick (L 24) (slA 3 (.slice (some ⟨gy, 0, none⟩) ny cy) ((valsI xe).set i (valI m.2))) (slA 3 (.slice (some ⟨gy, 0, none⟩) ny cy) (valsI xe)), slA 67 (.slice (some ⟨gp, 0, none⟩) np cp) (bs.map ptrI), treeI h c cb] ++ R) w) [17, 22, 24] [82] := by
    intro L L' g g' w hL hg h
    simpa only [← hL 17 (by decide), ← hL 22 (by decide), ← hL 24 (by decide), ← hg 82 (by decide)] using h
  have hn1 : (([(0, 65, .pointer (some ⟨b, 0, none⟩)), (1, 66, .pointer (some ⟨b, 0, none⟩)), (2, 67, .pointer (some ⟨b, 0, none⟩)), (3, 68, .slice (some ⟨gx, 0, none⟩) nx cx), (4, 69, .int .i64 i), (5, 70, .pointer (some ⟨b, 0, none⟩)), (6, 71, .pointer (some ⟨b, 0, none⟩)), (7, 72, .pointer (some ⟨b, 1, none⟩)), (8, 73, .slice (some ⟨gy, 0, none⟩) ny cy), (9, 74, .int .i64 i), (10, 75, .pointer (some ⟨b, 0, none⟩)), (11, 76, .pointer (some ⟨b, 0, none⟩)), (12, 77, .pointer (some ⟨b, 2, none⟩)), (13, 78, .slice (some ⟨gp, 0, none⟩) np cp), (14, 79, .int .i64 i), (15, 80, .pointer (some ⟨gp, i, none⟩)), (16, 81, .pointer (some ⟨cb, 0, none⟩)), (18, 64, .tuple #[encI m.1, valI m.2]), (19, 83, encI m.1), (20, 84, valI m.2), (21, 85, .pointer (some ⟨gx, i, none⟩)), (23, 86, .pointer (some ⟨gy, i, none⟩))] : List (Nat × Nat × Value)).map (·.1)).Nodup := by
    show List.Nodup [0, 1, 2, 3, 4, 5, 6, 7, 8, 9, 10, 11, 12, 13, 14, 15, 16, 18, 19, 20, 21, 23]
    decide
  have hn2 : (([(0, 65, .pointer (some ⟨b, 0, none⟩)), (1, 66, .pointer (some ⟨b, 0, none⟩)), (2, 67, .pointer (some ⟨b, 0, none⟩)), (3, 68, .slice (some ⟨gx, 0, none⟩) nx cx), (4, 69, .int .i64 i), (5, 70, .pointer (some ⟨b, 0, none⟩)), (6, 71, .pointer (some ⟨b, 0, none⟩)), (7, 72, .pointer (some ⟨b, 1, none⟩)), (8, 73, .slice (some ⟨gy, 0, none⟩) ny cy), (9, 74, .int .i64 i), (10, 75, .pointer (some ⟨b, 0, none⟩)), (11, 76, .pointer (some ⟨b, 0, none⟩)), (12, 77, .pointer (some ⟨b, 2, none⟩)), (13, 78, .slice (some ⟨gp, 0, none⟩) np cp), (14, 79, .int .i64 i), (15, 80, .pointer (some ⟨gp, i, none⟩)), (16, 81, .pointer (some ⟨cb, 0, none⟩)), (18, 64, .tuple #[encI m.1, valI m.2]), (19, 83, encI m.1), (20, 84, valI m.2), (21, 85, .pointer (some ⟨gx, i, none⟩)), (23, 86, .pointer (some ⟨gy, i, none⟩))] : List (Nat × Nat × Value)).map (·.2.1)).Nodup := by
    show List.Nodup [65, 66, 67, 68, 69, 70, 71, 72, 73, 74, 75, 76, 77, 78, 79, 80, 81, 64, 83, 84, 85, 86]
    decide
  refine wp_region_vals (ops' := oRe13I) [65, 66, 67, 68, 69, 70, 71, 72, 73, 74, 75, 76, 77, 78, 79, 80, 81, 82, 64, 83, 84, 85, 86] [(0, 65, .pointer (some ⟨b, 0, none⟩)), (1, 66, .pointer (some ⟨b, 0, none⟩)), (2, 67, .pointer (some ⟨b, 0, none⟩)), (3, 68, .slice (some ⟨gx, 0, none⟩) nx cx), (4, 69, .int .i64 i), (5, 70, .pointer (some ⟨b, 0, none⟩)), (6, 71, .pointer (some ⟨b, 0, none⟩)), (7, 72, .pointer (some ⟨b, 1, none⟩)), (8, 73, .slice (some ⟨gy, 0, none⟩) ny cy), (9, 74, .int .i64 i), (10, 75, .pointer (some ⟨b, 0, none⟩)), (11, 76, .pointer (some ⟨b, 0, none⟩)), (12, 77, .pointer (some ⟨b, 2, none⟩)), (13, 78, .slice (some ⟨gp, 0, none⟩) np cp), (14, 79, .int .i64 i), (15, 80, .pointer (some ⟨gp, i, none⟩)), (16, 81, .pointer (some ⟨cb, 0, none⟩)), (18, 64, .tuple #[encI m.1, valI m.2]), (19, 83, encI m.1), (20, 84, valI m.2), (21, 85, .pointer (some ⟨gx, i, none⟩)), (23, 86, .pointer (some ⟨gy, i, none⟩))] (fun L g w => St w0 fp0 ([pick (L 17) (pureA ((g 82) = .tuple #[encI m.1, valI m.2])) emp, blkA b 70 #[.slice (some ⟨gx, 0, none⟩) nx cx, .slice (some ⟨gy, 0, none⟩) ny cy, .slice (some ⟨gp, 0, none⟩) np cp], pick (L 22) (slA 3 (.slice (some ⟨gx, 0, none⟩) nx cx) ((keysI xe).set i (encI m.1))) (slA 3 (.slice (some ⟨gx, 0, none⟩) nx cx) (keysI xe)), pick (L 24) (slA 3 (.slice (some ⟨gy, 0, none⟩) ny cy) ((valsI xe).set i (valI m.2))) (slA 3 (.slice (some ⟨gy, 0, none⟩) ny cy) (valsI xe)), slA 67 (.slice (some ⟨gp, 0, none⟩) np cp) (bs.map ptrI), treeI h c cb] ++ R) w) rfl (by kernel_rfl) (by kernel_rfl) (hS.mono (below_drew w)) ?_ ?_
  · intro oi o L a1 w1 ho hL hdep hI
    have hoi : oi < 25 := by have := (Array.getElem?_eq_some_iff.1 ho).1; omega
    have h1sz : a1.tmps.size = 136 := hI.frame.size.trans hsz
    rcases (by omega : oi = 0 ∨ oi = 1 ∨ oi = 2 ∨ oi = 3 ∨ oi = 4 ∨ oi = 5 ∨ oi = 6 ∨ oi = 7 ∨ oi = 8 ∨ oi = 9 ∨ oi = 10 ∨ oi = 11 ∨ oi = 12 ∨ oi = 13 ∨ oi = 14 ∨ oi = 15 ∨ oi = 16 ∨ oi = 17 ∨ oi = 18 ∨ oi = 19 ∨ oi = 20 ∨ oi = 21 ∨ oi = 22 ∨ oi = 23 ∨ oi = 24) with rfl | rfl | rfl | rfl | rfl | rfl | rfl | rfl | rfl | rfl | rfl | rfl | rfl | rfl | rfl | rfl | rfl | rfl | rfl | rfl | rfl | rfl | rfl | rfl | rfl
    · have hl : oRe13I[0]? = some ⟨some 65, Op.move (Operand.tmp 1), _, _, _, none⟩ := rfl
      obtain rfl := oI ho hl
      have x1 := hI.old 1 (.pointer (some ⟨b, 0, none⟩)) (by decide) h1
      exact hI.rd hE hsz 0 65 (.pointer (some ⟨b, 0, none⟩)) ho rfl rfl hdep (by decide) (vals_at hn1 hn2 0 rfl) (by simp [go_sem, execOp, Act.eval, x1])
    · have hl : oRe13I[1]? = some ⟨some 66, Op.nilCheck (Operand.tmp 65), _, _, _, none⟩ := rfl
      obtain rfl := oI ho hl
      have x65 := hI.val 0 65 (.pointer (some ⟨b, 0, none⟩)) (mG (i := 0) rfl) (dK ho hdep (by kernel_rfl : waitsB oRe13I 1 0 = true))
      exact hI.rd hE hsz 1 66 (.pointer (some ⟨b, 0, none⟩)) ho rfl rfl hdep (by decide) (vals_at hn1 hn2 1 rfl) (by simp [go_sem, execOp, Act.eval, x65])
    · have hl : oRe13I[2]? = some ⟨some 67, Op.fieldAddr _ (Operand.tmp 66) 0, _, _, _, none⟩ := rfl
      obtain rfl := oI ho hl
      have x66 := hI.val 1 66 (.pointer (some ⟨b, 0, none⟩)) (mG (i := 1) rfl) (dK ho hdep (by kernel_rfl : waitsB oRe13I 2 1 = true))
      exact hI.rd hE hsz 2 67 (.pointer (some ⟨b, 0, none⟩)) ho rfl rfl hdep (by decide) (vals_at hn1 hn2 2 rfl) (by simp [go_sem, execOp, Act.eval, x66])
    · have hl : oRe13I[3]? = some ⟨some 68, Op.load _ (Operand.tmp 67), _, _, _, none⟩ := rfl
      obtain rfl := oI ho hl
      have x67 := hI.val 2 67 (.pointer (some ⟨b, 0, none⟩)) (mG (i := 2) rfl) (dK ho hdep (by kernel_rfl : waitsB oRe13I 3 2 = true))
      have hS1 := hI.eff
      have e22 : L 22 = false := hI.no hL (by kernel_rfl : waitsB oRe13I 22 3 = true)
      have e24 : L 24 = false := hI.no hL (by kernel_rfl : waitsB oRe13I 24 3 = true)
      simp only [e22, e24, pick_false] at hS1
      obtain ⟨_, hp⟩ := hS1.has 1 rfl
      have hcell := (blk_get hp).1 0
      have hlt := (blk_get hp).2.2
      simp only [List.getElem?_toArray, List.getElem?_cons_zero] at hcell
      exact hI.rd hE hsz 3 68 (.slice (some ⟨gx, 0, none⟩) nx cx) ho rfl rfl hdep (by decide) (vals_at hn1 hn2 3 rfl) (by simp [go_sem, execOp, Act.eval, x67, hcell])
    · have hl : oRe13I[4]? = some ⟨some 69, Op.move (Operand.tmp 8), _, _, _, none⟩ := rfl
      obtain rfl := oI ho hl
      have x8 := hI.old 8 (.int .i64 i) (by decide) h8
      exact hI.rd hE hsz 4 69 (.int .i64 i) ho rfl rfl hdep (by decide) (vals_at hn1 hn2 4 rfl) (by simp [go_sem, execOp, Act.eval, x8])
    · have hl : oRe13I[5]? = some ⟨some 70, Op.move (Operand.tmp 1), _, _, _, none⟩ := rfl
      obtain rfl := oI ho hl
      have x1 := hI.old 1 (.pointer (some ⟨b, 0, none⟩)) (by decide) h1
      exact hI.rd hE hsz 5 70 (.pointer (some ⟨b, 0, none⟩)) ho rfl rfl hdep (by decide) (vals_at hn1 hn2 5 rfl) (by simp [go_sem, execOp, Act.eval, x1])
    · have hl : oRe13I[6]? = some ⟨some 71, Op.nilCheck (Operand.tmp 70), _, _, _, none⟩ := rfl
      obtain rfl := oI ho hl
      have x70 := hI.val 5 70 (.pointer (some ⟨b, 0, none⟩)) (mG (i := 5) rfl) (dK ho hdep (by kernel_rfl : waitsB oRe13I 6 5 = true))
      exact hI.rd hE hsz 6 71 (.pointer (some ⟨b, 0, none⟩)) ho rfl rfl hdep (by decide) (vals_at hn1 hn2 6 rfl) (by simp [go_sem, execOp, Act.eval, x70])
    · have hl : oRe13I[7]? = some ⟨some 72, Op.fieldAddr _ (Operand.tmp 71) 1, _, _, _, none⟩ := rfl
      obtain rfl := oI ho hl
      have x71 := hI.val 6 71 (.pointer (some ⟨b, 0, none⟩)) (mG (i := 6) rfl) (dK ho hdep (by kernel_rfl : waitsB oRe13I 7 6 = true))
      exact hI.rd hE hsz 7 72 (.pointer (some ⟨b, 1, none⟩)) ho rfl rfl hdep (by decide) (vals_at hn1 hn2 7 rfl) (by simp [go_sem, execOp, Act.eval, x71])
    · have hl : oRe13I[8]? = some ⟨some 73, Op.load _ (Operand.tmp 72), _, _, _, none⟩ := rfl
      obtain rfl := oI ho hl
      have x72 := hI.val 7 72 (.pointer (some ⟨b, 1, none⟩)) (mG (i := 7) rfl) (dK ho hdep (by kernel_rfl : waitsB oRe13I 8 7 = true))
      have hS1 := hI.eff
      have e22 : L 22 = false := hI.no hL (by kernel_rfl : waitsB oRe13I 22 8 = true)
      have e24 : L 24 = false := hI.no hL (by kernel_rfl : waitsB oRe13I 24 8 = true)
      simp only [e22, e24, pick_false] at hS1
      obtain ⟨_, hp⟩ := hS1.has 1 rfl
      have hcell := (blk_get hp).1 1
      have hlt := (blk_get hp).2.2
      simp only [List.getElem?_toArray, List.getElem?_cons_zero, List.getElem?_cons_succ] at hcell
      exact hI.rd hE hsz 8 73 (.slice (some ⟨gy, 0, none⟩) ny cy) ho rfl rfl hdep (by decide) (vals_at hn1 hn2 8 rfl) (by simp [go_sem, execOp, Act.eval, x72, hcell])
    · have hl : oRe13I[9]? = some ⟨some 74, Op.move (Operand.tmp 8), _, _, _, none⟩ := rfl
      obtain rfl := oI ho hl
      have x8 := hI.old 8 (.int .i64 i) (by decide) h8
      exact hI.rd hE hsz 9 74 (.int .i64 i) ho rfl rfl hdep (by decide) (vals_at hn1 hn2 9 rfl) (by simp [go_sem, execOp, Act.eval, x8])
    · have hl : oRe13I[10]? = some ⟨some 75, Op.move (Operand.tmp 1), _, _, _, none⟩ := rfl
      obtain rfl := oI ho hl
      have x1 := hI.old 1 (.pointer (some ⟨b, 0, none⟩)) (by decide) h1
      exact hI.rd hE hsz 10 75 (.pointer (some ⟨b, 0, none⟩)) ho rfl rfl hdep (by decide) (vals_at hn1 hn2 10 rfl) (by simp [go_sem, execOp, Act.eval, x1])
    · have hl : oRe13I[11]? = some ⟨some 76, Op.nilCheck (Operand.tmp 75), _, _, _, none⟩ := rfl
      obtain rfl := oI ho hl
      have x75 := hI.val 10 75 (.pointer (some ⟨b, 0, none⟩)) (mG (i := 10) rfl) (dK ho hdep (by kernel_rfl : waitsB oRe13I 11 10 = true))
      exact hI.rd hE hsz 11 76 (.pointer (some ⟨b, 0, none⟩)) ho rfl rfl hdep (by decide) (vals_at hn1 hn2 11 rfl) (by simp [go_sem, execOp, Act.eval, x75])
    · have hl : oRe13I[12]? = some ⟨some 77, Op.fieldAddr _ (Operand.tmp 76) 2, _, _, _, none⟩ := rfl
      obtain rfl := oI ho hl
      have x76 := hI.val 11 76 (.pointer (some ⟨b, 0, none⟩)) (mG (i := 11) rfl) (dK ho hdep (by kernel_rfl : waitsB oRe13I 12 11 = true))
      exact hI.rd hE hsz 12 77 (.pointer (some ⟨b, 2, none⟩)) ho rfl rfl hdep (by decide) (vals_at hn1 hn2 12 rfl) (by simp [go_sem, execOp, Act.eval, x76])
    · have hl : oRe13I[13]? = some ⟨some 78, Op.load _ (Operand.tmp 77), _, _, _, none⟩ := rfl
      obtain rfl := oI ho hl
      have x77 := hI.val 12 77 (.pointer (some ⟨b, 2, none⟩)) (mG (i := 12) rfl) (dK ho hdep (by kernel_rfl : waitsB oRe13I 13 12 = true))
      have hS1 := hI.eff
      have e22 : L 22 = false := hI.no hL (by kernel_rfl : waitsB oRe13I 22 13 = true)
      have e24 : L 24 = false := hI.no hL (by kernel_rfl : waitsB oRe13I 24 13 = true)
      simp only [e22, e24, pick_false] at hS1
      obtain ⟨_, hp⟩ := hS1.has 1 rfl
      have hcell := (blk_get hp).1 2
      have hlt := (blk_get hp).2.2
      simp only [List.getElem?_toArray, List.getElem?_cons_zero, List.getElem?_cons_succ] at hcell
      exact hI.rd hE hsz 13 78 (.slice (some ⟨gp, 0, none⟩) np cp) ho rfl rfl hdep (by decide) (vals_at hn1 hn2 13 rfl) (by simp [go_sem, execOp, Act.eval, x77, hcell])
    · have hl : oRe13I[14]? = some ⟨some 79, Op.move (Operand.tmp 8), _, _, _, none⟩ := rfl
      obtain rfl := oI ho hl
      have x8 := hI.old 8 (.int .i64 i) (by decide) h8
      exact hI.rd hE hsz 14 79 (.int .i64 i) ho rfl rfl hdep (by decide) (vals_at hn1 hn2 14 rfl) (by simp [go_sem, execOp, Act.eval, x8])
    · have hl : oRe13I[15]? = some ⟨some 80, Op.indexAddr _ (Operand.tmp 78) (Operand.tmp 79), _, _, _, none⟩ := rfl
      obtain rfl := oI ho hl
      have x78 := hI.val 13 78 (.slice (some ⟨gp, 0, none⟩) np cp) (mG (i := 13) rfl) (dK ho hdep (by kernel_rfl : waitsB oRe13I 15 13 = true))
      have x79 := hI.val 14 79 (.int .i64 i) (mG (i := 14) rfl) (dK ho hdep (by kernel_rfl : waitsB oRe13I 15 14 = true))
      exact hI.rd hE hsz 15 80 (.pointer (some ⟨gp, i, none⟩)) ho rfl rfl hdep (by decide) (vals_at hn1 hn2 15 rfl) (by simp [go_sem, execOp, Act.eval, x78, x79, hip])
    · have hl : oRe13I[16]? = some ⟨some 81, Op.load _ (Operand.tmp 80), _, _, _, none⟩ := rfl
      obtain rfl := oI ho hl
      have x80 := hI.val 15 80 (.pointer (some ⟨gp, i, none⟩)) (mG (i := 15) rfl) (dK ho hdep (by kernel_rfl : waitsB oRe13I 16 15 = true))
      have hS1 := hI.eff
      have e17 : L 17 = false := hI.no hL (by kernel_rfl : waitsB oRe13I 17 16 = true)
      have e22 : L 22 = false := hI.no hL (by kernel_rfl : waitsB oRe13I 22 16 = true)
      have e24 : L 24 = false := hI.no hL (by kernel_rfl : waitsB oRe13I 24 16 = true)
      simp only [e17, e22, e24, pick_false] at hS1
      obtain ⟨_, hp⟩ := hS1.has 4 rfl
      obtain ⟨hcell, _, hlt, _⟩ := sl_elem hp (i) (by rw [List.length_map]; omega)
      rw [hyq] at hcell
      exact hI.rd hE hsz 16 81 (.pointer (some ⟨cb, 0, none⟩)) ho rfl rfl hdep (by decide) (vals_at hn1 hn2 16 rfl) (by simp [go_sem, execOp, Act.eval, x80, hcell])
    · have hl : oRe13I[17]? = some ⟨some 82, Op.call ⟨Callee.value (Operand.func _), #[Operand.tmp 81], _⟩, _, _, _, none⟩ := rfl
      obtain rfl := oI ho hl
      have x81 := hI.val 16 81 (.pointer (some ⟨cb, 0, none⟩)) (mG (i := 16) rfl) (dK ho hdep (by kernel_rfl : waitsB oRe13I 17 16 = true))
      have hS1 := hI.eff
      have e17 : L 17 = false := hL
      have e22 : L 22 = false := hI.no hL (by kernel_rfl : waitsB oRe13I 22 17 = true)
      have e24 : L 24 = false := hI.no hL (by kernel_rfl : waitsB oRe13I 24 17 = true)
      simp only [e17, e22, e24, pick_false] at hS1
      obtain ⟨_, hq⟩ := hS1.has 5 rfl
      refine inv_call ho rfl (f := 74) (by simp [go_sem, Act.eval, x81]) (maxI_calls h3o hoo h c cb m w1 ⟨⟨_, hq⟩, ⟨_, hbd⟩, hpos, hmx⟩) ?_
      rintro e w2 ⟨rfl, hb2⟩
      refine ⟨_, rfl, hI.put 17 82 _ ho hdep (by decide) (by intro t ht; exact vals_ne2 rfl rfl (by decide : 17 ∉ [0, 1, 2, 3, 4, 5, 6, 7, 8, 9, 10, 11, 12, 13, 14, 15, 16, 18, 19, 20, 21, 23]) (by decide : 82 ∉ [65, 66, 67, 68, 69, 70, 71, 72, 73, 74, 75, 76, 77, 78, 79, 80, 81, 64, 83, 84, 85, 86]) ht) ?_⟩
      have hS2 := (hS1.mono hb2).setP 0 rfl True trivial
      simp only [e17, e22, e24, Bool.or_false, Bool.or_true, Nat.reduceEqDiff, decide_true, decide_false, pick_true, pick_false, eval_put_same (by rw [h1sz]; decide : 82 < a1.tmps.size)]
      exact hS2
    · have hl : oRe13I[18]? = some ⟨some 64, Op.move (Operand.tmp 82), _, _, _, none⟩ := rfl
      obtain rfl := oI ho hl
      have hS1 := hI.eff
      have e17 : L 17 = true := dK ho hdep (by kernel_rfl : waitsB oRe13I 18 17 = true)
      have e22 : L 22 = false := hI.no hL (by kernel_rfl : waitsB oRe13I 22 18 = true)
      have e24 : L 24 = false := hI.no hL (by kernel_rfl : waitsB oRe13I 24 18 = true)
      simp only [e17, e22, e24, pick_true, pick_false] at hS1
      obtain ⟨_, hP, _⟩ := hS1.has 0 rfl
      have hcell := eval_spell hP
      exact hI.rd hE hsz 18 64 (.tuple #[encI m.1, valI m.2]) ho rfl rfl hdep (by decide) (vals_at hn1 hn2 17 rfl) (by simp [go_sem, execOp, Act.eval, hcell])
    · have hl : oRe13I[19]? = some ⟨some 83, Op.extract (Operand.tmp 64) 0, _, _, _, none⟩ := rfl
      obtain rfl := oI ho hl
      have x64 := hI.val 18 64 (.tuple #[encI m.1, valI m.2]) (mG (i := 17) rfl) (dK ho hdep (by kernel_rfl : waitsB oRe13I 19 18 = true))
      exact hI.rd hE hsz 19 83 (encI m.1) ho rfl rfl hdep (by decide) (vals_at hn1 hn2 18 rfl) (by simp [go_sem, execOp, Act.eval, x64])
    · have hl : oRe13I[20]? = some ⟨some 84, Op.extract (Operand.tmp 64) 1, _, _, _, none⟩ := rfl
      obtain rfl := oI ho hl
      have x64 := hI.val 18 64 (.tuple #[encI m.1, valI m.2]) (mG (i := 17) rfl) (dK ho hdep (by kernel_rfl : waitsB oRe13I 20 18 = true))
      exact hI.rd hE hsz 20 84 (valI m.2) ho rfl rfl hdep (by decide) (vals_at hn1 hn2 19 rfl) (by simp [go_sem, execOp, Act.eval, x64])
    · have hl : oRe13I[21]? = some ⟨some 85, Op.indexAddr _ (Operand.tmp 68) (Operand.tmp 69), _, _, _, none⟩ := rfl
      obtain rfl := oI ho hl
      have x68 := hI.val 3 68 (.slice (some ⟨gx, 0, none⟩) nx cx) (mG (i := 3) rfl) (dK ho hdep (by kernel_rfl : waitsB oRe13I 21 3 = true))
      have x69 := hI.val 4 69 (.int .i64 i) (mG (i := 4) rfl) (dK ho hdep (by kernel_rfl : waitsB oRe13I 21 4 = true))
      exact hI.rd hE hsz 21 85 (.pointer (some ⟨gx, i, none⟩)) ho rfl rfl hdep (by decide) (vals_at hn1 hn2 20 rfl) (by simp [go_sem, execOp, Act.eval, x68, x69, hik])
    · have hl : oRe13I[22]? = some ⟨none, Op.store _ (Operand.tmp 85) (Operand.tmp 83), _, _, _, none⟩ := rfl
      obtain rfl := oI ho hl
      have x85 := hI.val 21 85 (.pointer (some ⟨gx, i, none⟩)) (mG (i := 20) rfl) (dK ho hdep (by kernel_rfl : waitsB oRe13I 22 21 = true))
      have x83 := hI.val 19 83 (encI m.1) (mG (i := 18) rfl) (dK ho hdep (by kernel_rfl : waitsB oRe13I 22 19 = true))
      have hS1 := hI.eff
      have e17 : L 17 = true := dK ho hdep (by kernel_rfl : waitsB oRe13I 22 17 = true)
      have e22 : L 22 = false := hL
      have e24 : L 24 = false := hI.no hL (by kernel_rfl : waitsB oRe13I 24 22 = true)
      simp only [e17, e22, e24, pick_true, pick_false] at hS1
      obtain ⟨f, hp, hset⟩ := hS1.get 2 rfl
      obtain ⟨hcell, hfz, hlt, _⟩ := sl_elem hp (i) (by rw [keysI_length]; omega)
      refine inv_stored ho rfl rfl (by simp [go_sem, execOp, Act.eval, x85, x83, hcell, hfz, encI]; rfl) (hI.step 22 ho hdep (by intro t ht; exact vals_ne1 rfl (by decide : 22 ∉ [0, 1, 2, 3, 4, 5, 6, 7, 8, 9, 10, 11, 12, 13, 14, 15, 16, 18, 19, 20, 21, 23]) ht) ?_)
      obtain ⟨hb2, ht2⟩ := sl_set hp (i) (encI m.1)
      have hS2 := hset _ _ _ hb2 ht2
      simp only [e17, e22, e24, Bool.or_false, Bool.or_true, Nat.reduceEqDiff, decide_true, decide_false, pick_true, pick_false]
      exact hS2
    · have hl : oRe13I[23]? = some ⟨some 86, Op.indexAddr _ (Operand.tmp 73) (Operand.tmp 74), _, _, _, none⟩ := rfl
      obtain rfl := oI ho hl
      have x73 := hI.val 8 73 (.slice (some ⟨gy, 0, none⟩) ny cy) (mG (i := 8) rfl) (dK ho hdep (by kernel_rfl : waitsB oRe13I 23 8 = true))
      have x74 := hI.val 9 74 (.int .i64 i) (mG (i := 9) rfl) (dK ho hdep (by kernel_rfl : waitsB oRe13I 23 9 = true))
      exact hI.rd hE hsz 23 86 (.pointer (some ⟨gy, i, none⟩)) ho rfl rfl hdep (by decide) (vals_at hn1 hn2 21 rfl) (by simp [go_sem, execOp, Act.eval, x73, x74, hiv])
    · have hl : oRe13I[24]? = some ⟨none, Op.store _ (Operand.tmp 86) (Operand.tmp 84), _, _, _, none⟩ := rfl
      obtain rfl := oI ho hl
      have x86 := hI.val 23 86 (.pointer (some ⟨gy, i, none⟩)) (mG (i := 21) rfl) (dK ho hdep (by kernel_rfl : waitsB oRe13I 24 23 = true))
      have x84 := hI.val 20 84 (valI m.2) (mG (i := 19) rfl) (dK ho hdep (by kernel_rfl : waitsB oRe13I 24 20 = true))
      have hS1 := hI.eff
      have e17 : L 17 = true := dK ho hdep (by kernel_rfl : waitsB oRe13I 24 17 = true)
      have e22 : L 22 = true := dK ho hdep (by kernel_rfl : waitsB oRe13I 24 22 = true)
      have e24 : L 24 = false := hL
      simp only [e17, e22, e24, pick_true, pick_false] at hS1
      obtain ⟨f, hp, hset⟩ := hS1.get 3 rfl
      obtain ⟨hcell, hfz, hlt, _⟩ := sl_elem hp (i) (by rw [valsI_length]; omega)
      refine inv_stored ho rfl rfl (by simp [go_sem, execOp, Act.eval, x86, x84, hcell, hfz, valI]; rfl) (hI.step 24 ho hdep (by intro t ht; exact vals_ne1 rfl (by decide : 24 ∉ [0, 1, 2, 3, 4, 5, 6, 7, 8, 9, 10, 11, 12, 13, 14, 15, 16, 18, 19, 20, 21, 23]) ht) ?_)
      obtain ⟨hb2, ht2⟩ := sl_set hp (i) (valI m.2)
      have hS2 := hset _ _ _ hb2 ht2
      simp only [e17, e22, e24, Bool.or_false, Bool.or_true, Nat.reduceEqDiff, decide_true, decide_false, pick_true]
      exact hS2
  · intro L a1 w1 hL hI
    have hS1 := hI.eff
    simp only [hL 17 (by rw [hsize]; decide), hL 22 (by rw [hsize]; decide), hL 24 (by rw [hsize]; decide), pick_true] at hS1
    have := hQ (fun d => a1.eval (.tmp d)) w1  hS1
    have e := hI.frame.eq
    rw [e]
    exact this
noncomputable def oRe14I : Array Oper := ((Try.f52.body).bind fun c => opsOf c 14).getD #[]
set_option maxHeartbeats 4000000 in
set_option maxRecDepth 100000 in
theorem rRe14I {Q : Exit → Act → World → Prop} {a : Act} {w w0 : World} {fp0 : List Nat} (tb b cb gx nx cx gp np cp i h _o : Nat) (xv _r _nn : Value) (xe : M Int Int) (bs : List Nat) (c cq : TI) (y : Int × Int) (hcb : bs[i]? = some cb) (hy : xe[i]? = some y) (hik : i < nx) (hip : i < np) (hek : nx = xe.length) (hep : np = bs.length) (R : List Asn) (ops : Array Oper) (hops : ops = oRe14I) (hsz : a.tmps.size = 136) (h0 : a.eval (.tmp 0) = .pointer (some ⟨tb, 0, none⟩)) (h1 : a.eval (.tmp 1) = .pointer (some ⟨b, 0, none⟩)) (h8 : a.eval (.tmp 8) = .int .i64 i) (HC : ∀ w, St w0 fp0 ([treeI h c cb, blkA b 70 #[.slice (some ⟨gx, 0, none⟩) nx cx, xv, .slice (some ⟨gp, 0, none⟩) np cp], slA 3 (.slice (some ⟨gx, 0, none⟩) nx cx) (keysI xe), slA 67 (.slice (some ⟨gp, 0, none⟩) np cp) (bs.map ptrI)] ++ R) w → Calls Try.prog 52 #[.pointer (some ⟨tb, 0, none⟩), .pointer (some ⟨cb, 0, none⟩), encI y.1] w fun e w2 => (∃ v, e = .returned v) ∧ St w0 fp0 ([treeI h cq cb, blkA b 70 #[.slice (some ⟨gx, 0, none⟩) nx cx, xv, .slice (some ⟨gp, 0, none⟩) np cp], slA 3 (.slice (some ⟨gx, 0, none⟩) nx cx) (keysI xe), slA 67 (.slice (some ⟨gp, 0, none⟩) np cp) (bs.map ptrI)] ++ R) w2)
    (hS : St w0 fp0 ([pick false (treeI h cq cb) (treeI h c cb), blkA b 70 #[.slice (some ⟨gx, 0, none⟩) nx cx, xv, .slice (some ⟨gp, 0, none⟩) np cp], slA 3 (.slice (some ⟨gx, 0, none⟩) nx cx) (keysI xe), slA 67 (.slice (some ⟨gp, 0, none⟩) np cp) (bs.map ptrI)] ++ R) w)
    (hQ : ∀ (u : Nat → Value) w1, St w0 fp0 ([pick true (treeI h cq cb) (treeI h c cb), blkA b 70 #[.slice (some ⟨gx, 0, none⟩) nx cx, xv, .slice (some ⟨gp, 0, none⟩) np cp], slA 3 (.slice (some ⟨gx, 0, none⟩) nx cx) (keysI xe), slA 67 (.slice (some ⟨gp, 0, none⟩) np cp) (bs.map ptrI)] ++ R) w1 → Q .normal (putL a (([87, 88, 89, 90, 91, 92, 93, 94, 95, 96, 97, 98, 99, 100, 101, 102] : List Nat).map fun d => (d, u d))) w1) : (Code.region 14 ops true).wp Try.prog Q a w := by
  subst hops
  have hyq : ∀ h, (bs.map ptrI)[i]'h = .pointer (some ⟨cb, 0, none⟩) := by intro h; simp only [List.getElem_map]; rw [(List.getElem?_eq_some_iff.1 hcb).2]; rfl
  have hyk : ∀ h, (keysI xe)[i]'h = encI y.1 := by intro h; simp only [keysI, List.getElem_map]; rw [(List.getElem?_eq_some_iff.1 hy).2]
  have hsize : oRe14I.size = 16 := by kernel_rfl
  have hE : Looks (fun L g w => St w0 fp0 ([pick (L 15) (treeI h cq cb) (treeI h c cb), blkA b 70 #[.slice (some ⟨gx, 0, none⟩) nx cx, xv, .slice (some ⟨gp, 0, none⟩) np cp], slA 3 (.slice (some ⟨gx, 0, none⟩) nx cx) (keysI xe), slA 67 (.slice (some ⟨gp, 0, none⟩) np cp) (bs.map ptrI)] ++ R) w) [15] [102] := by
    intro L L' g g' w hL hg h
    simpa only [← hL 15 (by decide), ← hg 102 (by decide)] using h
  have hn1 : (([(0, 87, .pointer (some ⟨tb, 0, none⟩)), (1, 88, .pointer (some ⟨b, 0, none⟩)), (2, 89, .pointer (some ⟨b, 0, none⟩)), (3, 90, .pointer (some ⟨b, 2, none⟩)), (4, 91, .slice (some ⟨gp, 0, none⟩) np cp), (5, 92, .int .i64 i), (6, 93, .pointer (some ⟨gp, i, none⟩)), (7, 94, .pointer (some ⟨cb, 0, none⟩)), (8, 95, .pointer (some ⟨b, 0, none⟩)), (9, 96, .pointer (some ⟨b, 0, none⟩)), (10, 97, .pointer (some ⟨b, 0, none⟩)), (11, 98, .slice (some ⟨gx, 0, none⟩) nx cx), (12, 99, .int .i64 i), (13, 100, .pointer (some ⟨gx, i, none⟩)), (14, 101, encI y.1)] : List (Nat × Nat × Value)).map (·.1)).Nodup := by
    show List.Nodup [0, 1, 2, 3, 4, 5, 6, 7, 8, 9, 10, 11, 12, 13, 14]
    decide
  have hn2 : (([(0, 87, .pointer (some ⟨tb, 0, none⟩)), (1, 88, .pointer (some ⟨b, 0, none⟩)), (2, 89, .pointer (some ⟨b, 0, none⟩)), (3, 90, .pointer (some ⟨b, 2, none⟩)), (4, 91, .slice (some ⟨gp, 0, none⟩) np cp), (5, 92, .int .i64 i), (6, 93, .pointer (some ⟨gp, i, none⟩)), (7, 94, .pointer (some ⟨cb, 0, none⟩)), (8, 95, .pointer (some ⟨b, 0, none⟩)), (9, 96, .pointer (some ⟨b, 0, none⟩)), (10, 97, .pointer (some ⟨b, 0, none⟩)), (11, 98, .slice (some ⟨gx, 0, none⟩) nx cx), (12, 99, .int .i64 i), (13, 100, .pointer (some ⟨gx, i, none⟩)), (14, 101, encI y.1)] : List (Nat × Nat × Value)).map (·.2.1)).Nodup := by
    show List.Nodup [87, 88, 89, 90, 91, 92, 93, 94, 95, 96, 97, 98, 99, 100, 101]
    decide
  refine wp_region_vals (ops' := oRe14I) [87, 88, 89, 90, 91, 92, 93, 94, 95, 96, 97, 98, 99, 100, 101, 102] [(0, 87, .pointer (some ⟨tb, 0, none⟩)), (1, 88, .pointer (some ⟨b, 0, none⟩)), (2, 89, .pointer (some ⟨b, 0, none⟩)), (3, 90, .pointer (some ⟨b, 2, none⟩)), (4, 91, .slice (some ⟨gp, 0, none⟩) np cp), (5, 92, .int .i64 i), (6, 93, .pointer (some ⟨gp, i, none⟩)), (7, 94, .pointer (some ⟨cb, 0, none⟩)), (8, 95, .pointer (some ⟨b, 0, none⟩)), (9, 96, .pointer (some ⟨b, 0, none⟩)), (10, 97, .pointer (some ⟨b, 0, none⟩)), (11, 98, .slice (some ⟨gx, 0, none⟩) nx cx), (12, 99, .int .i64 i), (13, 100, .pointer (some ⟨gx, i, none⟩)), (14, 101, encI y.1)] (fun L g w => St w0 fp0 ([pick (L 15) (treeI h cq cb) (treeI h c cb), blkA b 70 #[.slice (some ⟨gx, 0, none⟩) nx cx, xv, .slice (some ⟨gp, 0, none⟩) np cp], slA 3 (.slice (some ⟨gx, 0, none⟩) nx cx) (keysI xe), slA 67 (.slice (some ⟨gp, 0, none⟩) np cp) (bs.map ptrI)] ++ R) w) rfl (by kernel_rfl) (by kernel_rfl) (hS.mono (below_drew w)) ?_ ?_
  · intro oi o L a1 w1 ho hL hdep hI
    have hoi : oi < 16 := by have := (Array.getElem?_eq_some_iff.1 ho).1; omega
    have h1sz : a1.tmps.size = 136 := hI.frame.size.trans hsz
    rcases (by omega : oi = 0 ∨ oi = 1 ∨ oi = 2 ∨ oi = 3 ∨ oi = 4 ∨ oi = 5 ∨ oi = 6 ∨ oi = 7 ∨ oi = 8 ∨ oi = 9 ∨ oi = 10 ∨ oi = 11 ∨ oi = 12 ∨ oi = 13 ∨ oi = 14 ∨ oi = 15) with rfl | rfl | rfl | rfl | rfl | rfl | rfl | rfl | rfl | rfl | rfl | rfl | rfl | rfl | rfl | rfl
    · have hl : oRe14I[0]? = some ⟨some 87, Op.move (Operand.tmp 0), _, _, _, none⟩ := rfl
      obtain rfl := oI ho hl
      have x0 := hI.old 0 (.pointer (some ⟨tb, 0, none⟩)) (by decide) h0
      exact hI.rd hE hsz 0 87 (.pointer (some ⟨tb, 0, none⟩)) ho rfl rfl hdep (by decide) (vals_at hn1 hn2 0 rfl) (by simp [go_sem, execOp, Act.eval, x0])
    · have hl : oRe14I[1]? = some ⟨some 88, Op.move (Operand.tmp 1), _, _, _, none⟩ := rfl
      obtain rfl := oI ho hl
      have x1 := hI.old 1 (.pointer (some ⟨b, 0, none⟩)) (by decide) h1
      exact hI.rd hE hsz 1 88 (.pointer (some ⟨b, 0, none⟩)) ho rfl rfl hdep (by decide) (vals_at hn1 hn2 1 rfl) (by simp [go_sem, execOp, Act.eval, x1])
    · have hl : oRe14I[2]? = some ⟨some 89, Op.nilCheck (Operand.tmp 88), _, _, _, none⟩ := rfl
      obtain rfl := oI ho hl
      have x88 := hI.val 1 88 (.pointer (some ⟨b, 0, none⟩)) (mG (i := 1) rfl) (dK ho hdep (by kernel_rfl : waitsB oRe14I 2 1 = true))
      exact hI.rd hE hsz 2 89 (.pointer (some ⟨b, 0, none⟩)) ho rfl rfl hdep (by decide) (vals_at hn1 hn2 2 rfl) (by simp [go_sem, execOp, Act.eval, x88])
    · have hl : oRe14I[3]? = some ⟨some 90, Op.fieldAddr _ (Operand.tmp 89) 2, _, _, _, none⟩ := rfl
      obtain rfl := oI ho hl
      have x89 := hI.val 2 89 (.pointer (some ⟨b, 0, none⟩)) (mG (i := 2) rfl) (dK ho hdep (by kernel_rfl : waitsB oRe14I 3 2 = true))
      exact hI.rd hE hsz 3 90 (.pointer (some ⟨b, 2, none⟩)) ho rfl rfl hdep (by decide) (vals_at hn1 hn2 3 rfl) (by simp [go_sem, execOp, Act.eval, x89])
    · have hl : oRe14I[4]? = some ⟨some 91, Op.load _ (Operand.tmp 90), _, _, _, none⟩ := rfl
      obtain rfl := oI ho hl
      have x90 := hI.val 3 90 (.pointer (some ⟨b, 2, none⟩)) (mG (i := 3) rfl) (dK ho hdep (by kernel_rfl : waitsB oRe14I 4 3 = true))
      have hS1 := hI.eff
      obtain ⟨_, hp⟩ := hS1.has 1 rfl
      have hcell := (blk_get hp).1 2
      have hlt := (blk_get hp).2.2
      simp only [List.getElem?_toArray, List.getElem?_cons_zero, List.getElem?_cons_succ] at hcell
      exact hI.rd hE hsz 4 91 (.slice (some ⟨gp, 0, none⟩) np cp) ho rfl rfl hdep (by decide) (vals_at hn1 hn2 4 rfl) (by simp [go_sem, execOp, Act.eval, x90, hcell])
    · have hl : oRe14I[5]? = some ⟨some 92, Op.move (Operand.tmp 8), _, _, _, none⟩ := rfl
      obtain rfl := oI ho hl
      have x8 := hI.old 8 (.int .i64 i) (by decide) h8
      exact hI.rd hE hsz 5 92 (.int .i64 i) ho rfl rfl hdep (by decide) (vals_at hn1 hn2 5 rfl) (by simp [go_sem, execOp, Act.eval, x8])
    · have hl : oRe14I[6]? = some ⟨some 93, Op.indexAddr _ (Operand.tmp 91) (Operand.tmp 92), _, _, _, none⟩ := rfl
      obtain rfl := oI ho hl
      have x91 := hI.val 4 91 (.slice (some ⟨gp, 0, none⟩) np cp) (mG (i := 4) rfl) (dK ho hdep (by kernel_rfl : waitsB oRe14I 6 4 = true))
      have x92 := hI.val 5 92 (.int .i64 i) (mG (i := 5) rfl) (dK ho hdep (by kernel_rfl : waitsB oRe14I 6 5 = true))
      exact hI.rd hE hsz 6 93 (.pointer (some ⟨gp, i, none⟩)) ho rfl rfl hdep (by decide) (vals_at hn1 hn2 6 rfl) (by simp [go_sem, execOp, Act.eval, x91, x92, hip])
    · have hl : oRe14I[7]? = some ⟨some 94, Op.load _ (Operand.tmp 93), _, _, _, none⟩ := rfl
      obtain rfl := oI ho hl
      have x93 := hI.val 6 93 (.pointer (some ⟨gp, i, none⟩)) (mG (i := 6) rfl) (dK ho hdep (by kernel_rfl : waitsB oRe14I 7 6 = true))
      have hS1 := hI.eff
      have e15 : L 15 = false := hI.no hL (by kernel_rfl : waitsB oRe14I 15 7 = true)
      simp only [e15, pick_false] at hS1
      obtain ⟨_, hp⟩ := hS1.has 3 rfl
      obtain ⟨hcell, _, hlt, _⟩ := sl_elem hp (i) (by rw [List.length_map]; omega)
      rw [hyq] at hcell
      exact hI.rd hE hsz 7 94 (.pointer (some ⟨cb, 0, none⟩)) ho rfl rfl hdep (by decide) (vals_at hn1 hn2 7 rfl) (by simp [go_sem, execOp, Act.eval, x93, hcell])
    · have hl : oRe14I[8]? = some ⟨some 95, Op.move (Operand.tmp 1), _, _, _, none⟩ := rfl
      obtain rfl := oI ho hl
      have x1 := hI.old 1 (.pointer (some ⟨b, 0, none⟩)) (by decide) h1
      exact hI.rd hE hsz 8 95 (.pointer (some ⟨b, 0, none⟩)) ho rfl rfl hdep (by decide) (vals_at hn1 hn2 8 rfl) (by simp [go_sem, execOp, Act.eval, x1])
    · have hl : oRe14I[9]? = some ⟨some 96, Op.nilCheck (Operand.tmp 95), _, _, _, none⟩ := rfl
      obtain rfl := oI ho hl
      have x95 := hI.val 8 95 (.pointer (some ⟨b, 0, none⟩)) (mG (i := 8) rfl) (dK ho hdep (by kernel_rfl : waitsB oRe14I 9 8 = true))
      exact hI.rd hE hsz 9 96 (.pointer (some ⟨b, 0, none⟩)) ho rfl rfl hdep (by decide) (vals_at hn1 hn2 9 rfl) (by simp [go_sem, execOp, Act.eval, x95])
    · have hl : oRe14I[10]? = some ⟨some 97, Op.fieldAddr _ (Operand.tmp 96) 0, _, _, _, none⟩ := rfl
      obtain rfl := oI ho hl
      have x96 := hI.val 9 96 (.pointer (some ⟨b, 0, none⟩)) (mG (i := 9) rfl) (dK ho hdep (by kernel_rfl : waitsB oRe14I 10 9 = true))
      exact hI.rd hE hsz 10 97 (.pointer (some ⟨b, 0, none⟩)) ho rfl rfl hdep (by decide) (vals_at hn1 hn2 10 rfl) (by simp [go_sem, execOp, Act.eval, x96])
    · have hl : oRe14I[11]? = some ⟨some 98, Op.load _ (Operand.tmp 97), _, _, _, none⟩ := rfl
      obtain rfl := oI ho hl
      have x97 := hI.val 10 97 (.pointer (some ⟨b, 0, none⟩)) (mG (i := 10) rfl) (dK ho hdep (by kernel_rfl : waitsB oRe14I 11 10 = true))
      have hS1 := hI.eff
      obtain ⟨_, hp⟩ := hS1.has 1 rfl
      have hcell := (blk_get hp).1 0
      have hlt := (blk_get hp).2.2
      simp only [List.getElem?_toArray, List.getElem?_cons_zero] at hcell
      exact hI.rd hE hsz 11 98 (.slice (some ⟨gx, 0, none⟩) nx cx) ho rfl rfl hdep (by decide) (vals_at hn1 hn2 11 rfl) (by simp [go_sem, execOp, Act.eval, x97, hcell])
    · have hl : oRe14I[12]? = some ⟨some 99, Op.move (Operand.tmp 8), _, _, _, none⟩ := rfl
      obtain rfl := oI ho hl
      have x8 := hI.old 8 (.int .i64 i) (by decide) h8
      exact hI.rd hE hsz 12 99 (.int .i64 i) ho rfl rfl hdep (by decide) (vals_at hn1 hn2 12 rfl) (by simp [go_sem, execOp, Act.eval, x8])
    · have hl : oRe14I[13]? = some ⟨some 100, Op.indexAddr _ (Operand.tmp 98) (Operand.tmp 99), _, _, _, none⟩ := rfl
      obtain rfl := oI ho hl
      have x98 := hI.val 11 98 (.slice (some ⟨gx, 0, none⟩) nx cx) (mG (i := 11) rfl) (dK ho hdep (by kernel_rfl : waitsB oRe14I 13 11 = true))
      have x99 := hI.val 12 99 (.int .i64 i) (mG (i := 12) rfl) (dK ho hdep (by kernel_rfl : waitsB oRe14I 13 12 = true))
      exact hI.rd hE hsz 13 100 (.pointer (some ⟨gx, i, none⟩)) ho rfl rfl hdep (by decide) (vals_at hn1 hn2 13 rfl) (by simp [go_sem, execOp, Act.eval, x98, x99, hik])
    · have hl : oRe14I[14]? = some ⟨some 101, Op.load _ (Operand.tmp 100), _, _, _, none⟩ := rfl
      obtain rfl := oI ho hl
      have x100 := hI.val 13 100 (.pointer (some ⟨gx, i, none⟩)) (mG (i := 13) rfl) (dK ho hdep (by kernel_rfl : waitsB oRe14I 14 13 = true))
      have hS1 := hI.eff
      have e15 : L 15 = false := hI.no hL (by kernel_rfl : waitsB oRe14I 15 14 = true)
      simp only [e15, pick_false] at hS1
      obtain ⟨_, hp⟩ := hS1.has 2 rfl
      obtain ⟨hcell, _, hlt, _⟩ := sl_elem hp (i) (by rw [keysI_length]; omega)
      rw [hyk] at hcell
      exact hI.rd hE hsz 14 101 (encI y.1) ho rfl rfl hdep (by decide) (vals_at hn1 hn2 14 rfl) (by simp [go_sem, execOp, Act.eval, x100, hcell])
    · have hl : oRe14I[15]? = some ⟨some 102, Op.call ⟨Callee.value (Operand.func _), #[Operand.tmp 87, Operand.tmp 94, Operand.tmp 101], _⟩, _, _, _, none⟩ := rfl
      obtain rfl := oI ho hl
      have x87 := hI.val 0 87 (.pointer (some ⟨tb, 0, none⟩)) (mG (i := 0) rfl) (dK ho hdep (by kernel_rfl : waitsB oRe14I 15 0 = true))
      have x94 := hI.val 7 94 (.pointer (some ⟨cb, 0, none⟩)) (mG (i := 7) rfl) (dK ho hdep (by kernel_rfl : waitsB oRe14I 15 7 = true))
      have x101 := hI.val 14 101 (encI y.1) (mG (i := 14) rfl) (dK ho hdep (by kernel_rfl : waitsB oRe14I 15 14 = true))
      have hS1 := hI.eff
      have e15 : L 15 = false := hL
      simp only [e15, pick_false] at hS1
      refine inv_call ho rfl (f := 52) (by simp [go_sem, Act.eval, x87, x94, x101]) (HC w1 hS1) ?_
      rintro e w2 ⟨⟨v2, rfl⟩, hs2⟩
      refine ⟨_, rfl, hI.put 15 102 _ ho hdep (by decide) (by intro t ht; exact vals_ne2 rfl rfl (by decide : 15 ∉ [0, 1, 2, 3, 4, 5, 6, 7, 8, 9, 10, 11, 12, 13, 14]) (by decide : 102 ∉ [87, 88, 89, 90, 91, 92, 93, 94, 95, 96, 97, 98, 99, 100, 101]) ht) ?_⟩
      simp only [e15, Bool.or_true, decide_true, pick_true]
      exact hs2
  · intro L a1 w1 hL hI
    have hS1 := hI.eff
    simp only [hL 15 (by rw [hsize]; decide), pick_true] at hS1
    have := hQ (fun d => a1.eval (.tmp d)) w1  hS1
    have e := hI.frame.eq
    rw [e]
    exact this
end Go.Proofs.Ytldofiankhimjaa
/- remove (I). -/
namespace Go.Proofs.Ytldofiankhimjaa
open Go Go.RowKit
set_option maxHeartbeats 8000000 in
set_option maxRecDepth 100000 in
theorem remleaf0I (t : Value) (nb : Nat) (ks vs : Value) (pa : Option Addr) (pc : Nat) (es : M Int Int) (k : Int) (w0 w : World) (fp0 : List Nat) (R : List Asn) (ha : AscM es) (hlen : es.length < 1099511627776) (hno : hasK es k = false)
    (hS : St w0 fp0 (blkA nb 70 #[ks, vs, .slice pa 0 pc] :: slA 3 ks (keysI es) :: slA 3 vs (valsI es) :: R) w) :
    Calls Try.prog 52 #[t, ptrI nb, encI k] w fun e w' => e = .returned (.tuple #[(.int .i64 0), .bool false]) ∧ St w0 fp0 (blkA nb 70 #[ks, vs, .slice pa 0 pc] :: slA 3 ks (keysI es) :: slA 3 vs (valsI es) :: R) w' := by
  have HS := Lib.hid hS
  obtain ⟨_, hb⟩ := hS.has 0 rfl
  have HF := Lib.hid (findI_calls nb ks vs (.slice pa 0 pc) es k w hb (hS.keysI 1 rfl) ha hlen)
  rw [hno] at HF
  generalize posK es k = i at *
  obtain ⟨kk, hkk⟩ : ∃ kk, encI k = kk := ⟨_, rfl⟩
  rw [hkk] at HF ⊢
  clear hS hb hkk hlen hno ha
  unfold ptrI at *
  go_enter Try.func52, Try.ntmps52
  go_wp2_with fail
  (with_reducible refine HF.out.mono ?_)
  rintro e w1 ⟨rfl, hb1⟩
  have HS1 := Lib.hid (HS.out.mono hb1)
  obtain ⟨_, hb2⟩ := HS1.out.has 0 rfl
  have HL := Lib.hid (leafI_calls nb ks vs pa 0 pc w1 hb2)
  unfold ptrI at HL
  clear hb1 hb2 HF
  go_wp2_with fail
  (with_reducible refine HL.out.mono ?_)
  rintro e w2 ⟨rfl, rfl⟩
  clear HL
  go_wp2
  exact bodyPost_ret (v := .tuple #[(.int .i64 0), .bool false]) (by simp [results, Try.results52, go_sem]) rfl ⟨rfl, HS1.out⟩
set_option maxHeartbeats 8000000 in
set_option maxRecDepth 100000 in
theorem remleaf1I (t : Value) (nb : Nat) (ks vs : Value) (pa : Option Addr) (pc : Nat) (es : M Int Int) (k : Int) (w0 w : World) (fp0 : List Nat) (R : List Asn) (ha : AscM es) (hlen : es.length < 1099511627776) (hyes : hasK es k = true)
    (hS : St w0 fp0 (blkA nb 70 #[ks, vs, .slice pa 0 pc] :: slA 3 ks (keysI es) :: slA 3 vs (valsI es) :: R) w) :
    Calls Try.prog 52 #[t, ptrI nb, encI k] w fun e w' => ∃ y ks' vs', es[posK es k]? = some y ∧ e = .returned (.tuple #[valI y.2, .bool true]) ∧ St w0 fp0 (blkA nb 70 #[ks', vs', .slice pa 0 pc] :: slA 3 ks' (keysI (es.eraseIdx (posK es k))) :: slA 3 vs' (valsI (es.eraseIdx (posK es k))) :: R) w' := by
  have HS := Lib.hid hS
  obtain ⟨_, hb⟩ := hS.has 0 rfl
  obtain ⟨_, hv⟩ := hS.has 2 rfl
  have HF := Lib.hid (findI_calls nb ks vs (.slice pa 0 pc) es k w hb (hS.keysI 1 rfl) ha hlen)
  rw [hyes] at HF
  obtain ⟨y, m, hd, he⟩ := hasK_yes hyes
  have hy : es[posK es k]? = some y := by rw [getElem?_drop0, hd]; rfl
  have hi : posK es k < es.length := (List.getElem?_eq_some_iff.1 hy).1
  have Hy := Lib.hid hy
  generalize posK es k = i at *
  obtain ⟨n, hn⟩ : ∃ n, es.length = n := ⟨_, rfl⟩
  obtain ⟨gv, cv, e2, -, -⟩ := sl_some hv (by rw [valsI_length]; omega)
  rw [valsI_length, hn] at e2
  subst e2
  have Hel : RowKit.Hid (∀ wx, St w0 fp0 (blkA nb 70 #[ks, .slice (some ⟨gv, 0, none⟩) n cv, .slice pa 0 pc] :: slA 3 ks (keysI es) :: slA 3 (.slice (some ⟨gv, 0, none⟩) n cv) (valsI es) :: R) wx →
      wx.cell? ⟨nb, 1, none⟩ = some (.slice (some ⟨gv, 0, none⟩) n cv) ∧ nb < wx.heap.size ∧ wx.cell? ⟨gv, i, none⟩ = some (valI y.2) ∧ gv < wx.heap.size) := by
    intro wx hx
    obtain ⟨_, h1⟩ := hx.has 0 rfl
    obtain ⟨_, h2⟩ := hx.has 2 rfl
    obtain ⟨h3, _, h4, _⟩ := sl_elem h2 i (by rw [valsI_length]; exact hi)
    refine ⟨(blk_get h1).1 1, (blk_get h1).2.2, h3.trans ?_, h4⟩
    simp only [valsI, List.getElem_map]
    rw [(List.getElem?_eq_some_iff.1 hy).2]
  obtain ⟨kk, hkk⟩ : ∃ kk, encI k = kk := ⟨_, rfl⟩
  rw [hkk] at HF ⊢
  obtain ⟨old, hold⟩ : ∃ old, valI y.2 = old := ⟨_, rfl⟩
  have Hold := Lib.hid hold
  rw [hold] at Hel
  have Hi := Lib.hid hi
  have Hlen := Lib.hid hlen
  have i1 : (i : Int) < n := by omega
  clear hS hb hv hkk hyes ha hd he hy hold hn hi hlen
  unfold ptrI at *
  go_enter Try.func52, Try.ntmps52
  go_wp2_with fail
  (with_reducible refine HF.out.mono ?_)
  rintro e w1 ⟨rfl, hb1⟩
  have HS1 := Lib.hid (HS.out.mono hb1)
  obtain ⟨_, hb2⟩ := HS1.out.has 0 rfl
  have HL := Lib.hid (leafI_calls nb ks _ pa 0 pc w1 hb2)
  unfold ptrI at HL
  clear hb1 hb2 HF
  go_wp2_with fail
  (with_reducible refine HL.out.mono ?_)
  rintro e w2 ⟨rfl, rfl⟩
  clear HL
  obtain ⟨c1, c2, c3, c4⟩ := Hel.out _ HS1.out
  go_upto_region 7 with (fail)
  clear c1 c2 c3 c4
  go_cut [] (fun wx => ∃ ks' vs', RowKit.Hid (St w0 fp0 (blkA nb 70 #[ks', vs', .slice pa 0 pc] :: slA 3 ks' ((keysI es).eraseIdx i) :: slA 3 vs' ((valsI es).eraseIdx i) :: R) wx))
  case first =>
    refine rRe7I (w0 := w0) (fp0 := fp0) nb i ks (.slice (some ⟨gv, 0, none⟩) n cv) (.slice pa 0 pc) es Hi.out Hlen.out R _ (by kernel_rfl) rfl rfl rfl HS1.out ?_
    intro u w3 h3
    have h4 := Lib.hid h3
    clear h3
    simp only [putL, List.map, List.foldl, Act.put, List.setIfInBounds_toArray, List.set_cons_succ, List.set_cons_zero]
    go_step
    go_step
    go_meet
    exact ⟨_, _, h4⟩
  obtain ⟨ks', vs', h5⟩ := hcut
  have Hfin : RowKit.Hid (St w0 fp0 (blkA nb 70 #[ks', vs', .slice pa 0 pc] :: slA 3 ks' (keysI (es.eraseIdx i)) :: slA 3 vs' (valsI (es.eraseIdx i)) :: R) wc) := by
    have k1 : keysI (es.eraseIdx i) = (keysI es).eraseIdx i := by unfold keysI; rw [map_eraseIdxI]
    have k2 : valsI (es.eraseIdx i) = (valsI es).eraseIdx i := by unfold valsI; rw [map_eraseIdxI]
    rw [k1, k2]
    exact h5.out
  clear h5 HS1 Hel HS
  go_wp2
  exact bodyPost_ret (v := .tuple #[old, .bool true]) (by simp [results, Try.results52, go_sem]) rfl ⟨y, _, _, Hy.out, by rw [Hold.out], Hfin.out⟩
set_option maxHeartbeats 8000000 in
set_option maxRecDepth 100000 in
theorem reminNI {h o : Nat} (ho : 3 ≤ o) (ho' : o ≤ 1024) (tb : Nat) (r nn : Value) (es : M Int Int) (cs : List TI) (c c' : TI) (nb : Nat) (ks vs ps : Value) (bs : List Nat) (cb : Nat) (k : Int) (ov : Value) (was : Bool) (w0 w : World) (fp0 : List Nat) (R : List Asn)
    (ha : AscM es) (hlen : es.length < 1099511627776) (hno : hasK es k = false) (hcl : cs.length = es.length + 1) (hl : bs.length = cs.length) (hb : bs[posK es k]? = some cb)
    (HIH : ∀ w R, St w0 fp0 (treeI h c cb :: blkA tb 72 #[r, .int .i64 o, nn] :: R) w →
      Calls Try.prog 52 #[ptrI tb, ptrI cb, encI k] w fun e w' => e = .returned (.tuple #[ov, .bool was]) ∧ St w0 fp0 (treeI h c' cb :: blkA tb 72 #[r, .int .i64 o, nn] :: R) w')
    (HFI : ∀ w, c'.es.length < least o → St w0 fp0 (treeI (h + 1) (.node es (cs.set (posK es k) c')) nb :: blkA tb 72 #[r, .int .i64 o, nn] :: R) w →
      Calls Try.prog 75 #[.pointer (some ⟨tb, 0, none⟩), .pointer (some ⟨nb, 0, none⟩), .int .i64 (posK es k : Nat)] w fun e w' => e = .returned (.tuple #[]) ∧ St w0 fp0 (treeI (h + 1) (fillT o (posK es k) (.node es (cs.set (posK es k) c'))) nb :: blkA tb 72 #[r, .int .i64 o, nn] :: R) w')
    (hS : St w0 fp0 (blkA nb 70 #[ks, vs, ps] :: slA 3 ks (keysI es) :: slA 3 vs (valsI es) :: slA 67 ps (bs.map ptrI) :: restI h (posK es k) (posK es k + 1) cs bs :: treeI h c cb :: blkA tb 72 #[r, .int .i64 o, nn] :: R) w) :
    Calls Try.prog 52 #[ptrI tb, ptrI nb, encI k] w fun e w' => e = .returned (.tuple #[ov, .bool was]) ∧ St w0 fp0 (treeI (h + 1) (if c'.es.length < least o then fillT o (posK es k) (.node es (cs.set (posK es k) c')) else .node es (cs.set (posK es k) c')) nb :: blkA tb 72 #[r, .int .i64 o, nn] :: R) w' := by
  have HS := Lib.hid hS
  obtain ⟨_, hp⟩ := hS.has 3 rfl
  have hple := posK_le es k
  have hil : posK es k < bs.length := (List.getElem?_eq_some_iff.1 hb).1
  obtain ⟨n, hn⟩ : ∃ n, bs.length = n := ⟨_, rfl⟩
  obtain ⟨gp, pc, e1, -, -⟩ := sl_some hp (by rw [List.length_map]; omega)
  rw [List.length_map, hn] at e1
  subst e1
  obtain ⟨_, hb0⟩ := hS.has 0 rfl
  have HF := Lib.hid (findI_calls nb ks vs _ es k w hb0 (hS.keysI 1 rfl) ha hlen)
  rw [hno] at HF
  have HIH2 := Lib.hid HIH
  have HFI2 := Lib.hid HFI
  clear HIH HFI
  have Hun : RowKit.Hid (∀ w, St w0 fp0 (treeI h c' cb :: blkA tb 72 #[r, .int .i64 o, nn] :: blkA nb 70 #[ks, vs, .slice (some ⟨gp, 0, none⟩) n pc] :: slA 3 ks (keysI es) :: slA 3 vs (valsI es) :: slA 67 (.slice (some ⟨gp, 0, none⟩) n pc) (bs.map ptrI) :: restI h (posK es k) (posK es k + 1) cs bs :: R) w →
      St w0 fp0 (treeI (h + 1) (.node es (cs.set (posK es k) c')) nb :: blkA tb 72 #[r, .int .i64 o, nn] :: R) w) := by
    intro w hw
    refine St.unviewI (ks := ks) (vs := vs) (ps := .slice (some ⟨gp, 0, none⟩) n pc) hl hb (hw.perm ?_)
    exact (by classical exact List.perm_iff_count.2 fun a => by simp only [List.count_cons] <;> omega)
  have Hin : RowKit.Hid (∀ w, St w0 fp0 (blkA nb 70 #[ks, vs, .slice (some ⟨gp, 0, none⟩) n pc] :: slA 3 ks (keysI es) :: slA 3 vs (valsI es) :: slA 67 (.slice (some ⟨gp, 0, none⟩) n pc) (bs.map ptrI) :: restI h (posK es k) (posK es k + 1) cs bs :: treeI h c cb :: blkA tb 72 #[r, .int .i64 o, nn] :: R) w →
      St w0 fp0 (treeI h c cb :: blkA tb 72 #[r, .int .i64 o, nn] :: blkA nb 70 #[ks, vs, .slice (some ⟨gp, 0, none⟩) n pc] :: slA 3 ks (keysI es) :: slA 3 vs (valsI es) :: slA 67 (.slice (some ⟨gp, 0, none⟩) n pc) (bs.map ptrI) :: restI h (posK es k) (posK es k + 1) cs bs :: R) w) := by
    intro w hw
    refine hw.perm ?_
    exact (by classical exact List.perm_iff_count.2 fun a => by simp only [List.count_cons] <;> omega)
  have Hel : RowKit.Hid (∀ (q : TI) wx, St w0 fp0 (treeI h q cb :: blkA tb 72 #[r, .int .i64 o, nn] :: blkA nb 70 #[ks, vs, .slice (some ⟨gp, 0, none⟩) n pc] :: slA 3 ks (keysI es) :: slA 3 vs (valsI es) :: slA 67 (.slice (some ⟨gp, 0, none⟩) n pc) (bs.map ptrI) :: restI h (posK es k) (posK es k + 1) cs bs :: R) wx →
      (wx.cell? ⟨nb, 2, none⟩ = some (.slice (some ⟨gp, 0, none⟩) n pc) ∧ nb < wx.heap.size ∧ wx.cell? ⟨gp, posK es k, none⟩ = some (.pointer (some ⟨cb, 0, none⟩)) ∧ gp < wx.heap.size) ∧ (∀ q', Calls Try.prog 63 #[.pointer (some ⟨tb, 0, none⟩)] (wx.drewN q') fun e w' => e = .returned (.int .i64 (least o)) ∧ w' = wx.drewN q') ∧ ∃ ka kc, wx.cell? ⟨cb, 0, none⟩ = some (.slice ka q.es.length kc) ∧ cb < wx.heap.size) := by
    intro q wx hx
    obtain ⟨_, h0⟩ := hx.has 0 rfl
    obtain ⟨_, h1⟩ := hx.has 2 rfl
    obtain ⟨_, h2⟩ := hx.has 5 rfl
    obtain ⟨h3, _, h4, _⟩ := sl_elem h2 (posK es k) (by rw [List.length_map]; exact hil)
    obtain ⟨ka, kc, _, _, h6, _, _, h7⟩ := tree_lookI h0
    refine ⟨⟨(blk_get h1).1 2, (blk_get h1).2.2, h3.trans ?_, h4⟩, fun q' => ?_, ka, kc, h6, h7⟩
    · simp only [List.getElem_map]
      rw [(List.getElem?_eq_some_iff.1 hb).2]
      rfl
    · obtain ⟨_, h5⟩ := St.has (hx.mono (below_drewN _ q')) 1 rfl
      exact (leastI_calls tb r o nn _ ho ho' h5).mono fun _ _ ⟨a, b⟩ => ⟨a, b.symm⟩
  have hin : posK es k < n := by omega
  have hn0 : 0 < n := by omega
  have Hb := Lib.hid hb
  have Hnb := Lib.hid hn
  generalize posK es k = i at *
  obtain ⟨kk, hkk⟩ : ∃ kk, encI k = kk := ⟨_, rfl⟩
  rw [hkk] at HF
  have hov : True := trivial
  rw [hkk] at HIH2 ⊢
  obtain ⟨m, hm⟩ : ∃ m, c'.es.length = m := ⟨_, rfl⟩
  obtain ⟨le, hle⟩ : ∃ le, least o = le := ⟨_, rfl⟩
  rw [hm, hle] at HFI2 ⊢
  rw [hle] at Hel
  obtain ⟨yy, hyy⟩ : ∃ yy, (if m < le then fillT o i (.node es (cs.set i c')) else .node es (cs.set i c')) = yy := ⟨_, rfl⟩
  rw [hyy]
  have Hyy := Lib.hid hyy
  clear hyy
  have Hm := Lib.hid hm
  clear hS hp hb0 hkk hov hlen hno ha hb hil hcl hl hple hn hm hle ho ho'
  unfold ptrI at *
  go_enter Try.func52, Try.ntmps52
  go_wp2_with fail
  (with_reducible refine HF.out.mono ?_)
  rintro e w1 ⟨rfl, hb1⟩
  have HS1 := Lib.hid (HS.out.mono hb1)
  obtain ⟨_, hb2⟩ := HS1.out.has 0 rfl
  have HL := Lib.hid (leafI_calls nb ks vs (some ⟨gp, 0, none⟩) n pc w1 hb2)
  unfold ptrI at HL
  have hz : (n == 0) = false := beq_false_of_ne (by omega)
  rw [hz] at HL
  have i1 : (i : Int) < n := by omega
  clear hb1 hb2 HF hz
  go_wp2_with fail
  (with_reducible refine HL.out.mono ?_)
  rintro e w2 ⟨rfl, rfl⟩
  clear HL
  obtain ⟨⟨c1, c2, c3, c4⟩, -, -⟩ := Hel.out c _ (Hin.out _ HS1.out)
  go_wp2_with fail
  (with_reducible refine (HIH2.out _ _ (Hin.out _ HS1.out)).mono ?_)
  rintro e w3 ⟨rfl, hs3⟩
  have HS3 := Lib.hid hs3
  clear hs3 c1 c2 c3 c4
  obtain ⟨⟨c1, c2, c3, c4⟩, hle, ka, kc, c7, c8⟩ := Hel.out c' _ HS3.out
  have HLE := Lib.hid hle
  clear hle
  rw [Hm.out] at c7
  have Hend : RowKit.Hid (∀ nq, St w0 fp0 (treeI (h + 1) (.node es (cs.set i c')) nb :: blkA tb 72 #[r, .int .i64 o, nn] :: R) (w3.drewN nq)) := fun nq => Hun.out _ (HS3.out.mono (below_drewN _ _))
  by_cases hom : m < le
  · rw [if_pos hom] at Hyy
    have b1 : decide ((m : Int) < le) = true := by simp; omega
    have b2 : decide (m < le) = true := by simp; omega
    have Hom := Lib.hid hom
    clear hom
    go_upto_region 16 with (fail)
    go_cut [129] (fun z wx => z = .bool true ∧ ∃ nq, wx = w3.drewN nq)
    case first =>
      go_quiet ((go_at_call 63; exact Calls.quiet_of_same (HLE.out _)))
      go_step
      go_step
      go_meet
      exact ⟨rfl, _, rfl⟩
    obtain ⟨rfl, nq, rfl⟩ := hcut
    clear c1 c2 c3 c4 c7 c8 HLE
    have HSPx := Lib.hid (HFI2.out _ Hom.out (Hend.out nq))
    clear Hend HFI2
    go_wp2_with fail
    (with_reducible refine HSPx.out.mono ?_)
    rintro e w4 ⟨rfl, hs4⟩
    have HS4 := Lib.hid hs4
    clear hs4 HSPx
    go_wp2
    exact bodyPost_ret (v := .tuple #[ov, .bool was]) (by simp [results, Try.results52, go_sem]) rfl ⟨rfl, by rw [← Hyy.out]; exact HS4.out⟩
  · rw [if_neg hom] at Hyy
    have b1 : decide ((m : Int) < le) = false := by simp; omega
    have b2 : decide (m < le) = false := by simp; omega
    have Hom := Lib.hid hom
    clear hom
    go_upto_region 16 with (fail)
    go_cut [129] (fun z wx => z = .bool false ∧ ∃ nq, wx = w3.drewN nq)
    case first =>
      go_quiet ((go_at_call 63; exact Calls.quiet_of_same (HLE.out _)))
      go_step
      go_step
      go_meet
      exact ⟨rfl, _, rfl⟩
    obtain ⟨rfl, nq, rfl⟩ := hcut
    clear c1 c2 c3 c4 c7 c8 HLE
    clear HFI2
    go_wp2
    exact bodyPost_ret (v := .tuple #[ov, .bool was]) (by simp [results, Try.results52, go_sem]) rfl ⟨rfl, by rw [← Hyy.out]; exact Hend.out nq⟩
set_option maxHeartbeats 8000000 in
set_option maxRecDepth 100000 in
theorem reminFI {h o : Nat} (ho : 3 ≤ o) (ho' : o ≤ 1024) (tb : Nat) (r nn : Value) (es : M Int Int) (cs : List TI) (c c' : TI) (nb : Nat) (ks vs ps : Value) (bs : List Nat) (cb : Nat) (k : Int) (mx : Int × Int) (lo : Nat) (w0 w : World) (fp0 : List Nat) (R : List Asn)
    (ha : AscM es) (hlen : es.length < 1099511627776) (hno : hasK es k = true) (hcl : cs.length = es.length + 1) (hl : bs.length = cs.length) (hb : bs[posK es k]? = some cb) (hbd : Body o h lo (o - 1) c) (hpc : 0 < c.es.length) (hmx : maxT h c = some mx)
    (HIH : ∀ w R, St w0 fp0 (treeI h c cb :: blkA tb 72 #[r, .int .i64 o, nn] :: R) w →
      Calls Try.prog 52 #[ptrI tb, ptrI cb, encI mx.1] w fun e w' => (∃ v, e = .returned v) ∧ St w0 fp0 (treeI h c' cb :: blkA tb 72 #[r, .int .i64 o, nn] :: R) w')
    (HFI : ∀ w, c'.es.length < least o → St w0 fp0 (treeI (h + 1) (.node (es.set (posK es k) mx) (cs.set (posK es k) c')) nb :: blkA tb 72 #[r, .int .i64 o, nn] :: R) w →
      Calls Try.prog 75 #[.pointer (some ⟨tb, 0, none⟩), .pointer (some ⟨nb, 0, none⟩), .int .i64 (posK es k : Nat)] w fun e w' => e = .returned (.tuple #[]) ∧ St w0 fp0 (treeI (h + 1) (fillT o (posK es k) (.node (es.set (posK es k) mx) (cs.set (posK es k) c'))) nb :: blkA tb 72 #[r, .int .i64 o, nn] :: R) w')
    (hS : St w0 fp0 (blkA nb 70 #[ks, vs, ps] :: slA 3 ks (keysI es) :: slA 3 vs (valsI es) :: slA 67 ps (bs.map ptrI) :: restI h (posK es k) (posK es k + 1) cs bs :: treeI h c cb :: blkA tb 72 #[r, .int .i64 o, nn] :: R) w) :
    Calls Try.prog 52 #[ptrI tb, ptrI nb, encI k] w fun e w' => (∃ y, es[posK es k]? = some y ∧ e = .returned (.tuple #[valI y.2, .bool true])) ∧ St w0 fp0 (treeI (h + 1) (if c'.es.length < least o then fillT o (posK es k) (.node (es.set (posK es k) mx) (cs.set (posK es k) c')) else .node (es.set (posK es k) mx) (cs.set (posK es k) c')) nb :: blkA tb 72 #[r, .int .i64 o, nn] :: R) w' := by
  have HS := Lib.hid hS
  obtain ⟨_, hp⟩ := hS.has 3 rfl
  have hple := posK_le es k
  have hil : posK es k < bs.length := (List.getElem?_eq_some_iff.1 hb).1
  obtain ⟨n, hn⟩ : ∃ n, bs.length = n := ⟨_, rfl⟩
  obtain ⟨gp, pc, e1, -, -⟩ := sl_some hp (by rw [List.length_map]; omega)
  rw [List.length_map, hn] at e1
  subst e1
  obtain ⟨_, hb0⟩ := hS.has 0 rfl
  have HF := Lib.hid (findI_calls nb ks vs _ es k w hb0 (hS.keysI 1 rfl) ha hlen)
  rw [hno] at HF
  have HIH2 := Lib.hid HIH
  have HFI2 := Lib.hid HFI
  clear HIH HFI
  obtain ⟨y, ym, hd, he⟩ := hasK_yes hno
  have hy : es[posK es k]? = some y := by rw [getElem?_drop0, hd]; rfl
  have hyl : posK es k < es.length := (List.getElem?_eq_some_iff.1 hy).1
  obtain ⟨_, hqk⟩ := hS.has 1 rfl
  obtain ⟨_, hqv⟩ := hS.has 2 rfl
  obtain ⟨ne, hne⟩ : ∃ ne, es.length = ne := ⟨_, rfl⟩
  obtain ⟨gx, cx, e1, -, -⟩ := sl_some hqk (by rw [keysI_length]; omega)
  obtain ⟨gy, cy, e2, -, -⟩ := sl_some hqv (by rw [valsI_length]; omega)
  rw [keysI_length, hne] at e1
  rw [valsI_length, hne] at e2
  subst e1 e2
  have Hel0 : RowKit.Hid (∀ wx, Below w.heap.size w wx → wx.cell? ⟨nb, 1, none⟩ = some (.slice (some ⟨gy, 0, none⟩) ne cy) ∧ nb < wx.heap.size ∧ wx.cell? ⟨gy, posK es k, none⟩ = some (valI y.2) ∧ gy < wx.heap.size) := by
    intro wx hbx
    obtain ⟨_, q1⟩ := (HS.out.mono hbx).has 0 rfl
    obtain ⟨_, q2⟩ := (HS.out.mono hbx).has 2 rfl
    obtain ⟨q3, _, q4, _⟩ := sl_elem q2 (posK es k) (by rw [valsI_length]; exact hyl)
    refine ⟨(blk_get q1).1 1, (blk_get q1).2.2, q3.trans ?_, q4⟩
    simp only [valsI, List.getElem_map]
    rw [(List.getElem?_eq_some_iff.1 hy).2]
  have Hun : RowKit.Hid (∀ w, St w0 fp0 (treeI h c' cb :: blkA tb 72 #[r, .int .i64 o, nn] :: blkA nb 70 #[.slice (some ⟨gx, 0, none⟩) ne cx, .slice (some ⟨gy, 0, none⟩) ne cy, .slice (some ⟨gp, 0, none⟩) n pc] :: slA 3 (.slice (some ⟨gx, 0, none⟩) ne cx) (keysI (es.set (posK es k) mx)) :: slA 3 (.slice (some ⟨gy, 0, none⟩) ne cy) (valsI (es.set (posK es k) mx)) :: slA 67 (.slice (some ⟨gp, 0, none⟩) n pc) (bs.map ptrI) :: restI h (posK es k) (posK es k + 1) cs bs :: R) w →
      St w0 fp0 (treeI (h + 1) (.node (es.set (posK es k) mx) (cs.set (posK es k) c')) nb :: blkA tb 72 #[r, .int .i64 o, nn] :: R) w) := by
    intro w hw
    refine St.unviewI (ks := .slice (some ⟨gx, 0, none⟩) ne cx) (vs := .slice (some ⟨gy, 0, none⟩) ne cy) (ps := .slice (some ⟨gp, 0, none⟩) n pc) hl hb (hw.perm ?_)
    exact (by classical exact List.perm_iff_count.2 fun a => by simp only [List.count_cons] <;> omega)
  have Hin : RowKit.Hid (∀ w, St w0 fp0 (blkA nb 70 #[.slice (some ⟨gx, 0, none⟩) ne cx, .slice (some ⟨gy, 0, none⟩) ne cy, .slice (some ⟨gp, 0, none⟩) n pc] :: slA 3 (.slice (some ⟨gx, 0, none⟩) ne cx) (keysI es) :: slA 3 (.slice (some ⟨gy, 0, none⟩) ne cy) (valsI es) :: slA 67 (.slice (some ⟨gp, 0, none⟩) n pc) (bs.map ptrI) :: restI h (posK es k) (posK es k + 1) cs bs :: treeI h c cb :: blkA tb 72 #[r, .int .i64 o, nn] :: R) w →
      St w0 fp0 (treeI h c cb :: blkA tb 72 #[r, .int .i64 o, nn] :: blkA nb 70 #[.slice (some ⟨gx, 0, none⟩) ne cx, .slice (some ⟨gy, 0, none⟩) ne cy, .slice (some ⟨gp, 0, none⟩) n pc] :: slA 3 (.slice (some ⟨gx, 0, none⟩) ne cx) (keysI es) :: slA 3 (.slice (some ⟨gy, 0, none⟩) ne cy) (valsI es) :: slA 67 (.slice (some ⟨gp, 0, none⟩) n pc) (bs.map ptrI) :: restI h (posK es k) (posK es k + 1) cs bs :: R) w) := by
    intro w hw
    refine hw.perm ?_
    exact (by classical exact List.perm_iff_count.2 fun a => by simp only [List.count_cons] <;> omega)
  have Hel : RowKit.Hid (∀ (q : TI) wx, St w0 fp0 (treeI h q cb :: blkA tb 72 #[r, .int .i64 o, nn] :: blkA nb 70 #[.slice (some ⟨gx, 0, none⟩) ne cx, .slice (some ⟨gy, 0, none⟩) ne cy, .slice (some ⟨gp, 0, none⟩) n pc] :: slA 3 (.slice (some ⟨gx, 0, none⟩) ne cx) (keysI (es.set (posK es k) mx)) :: slA 3 (.slice (some ⟨gy, 0, none⟩) ne cy) (valsI (es.set (posK es k) mx)) :: slA 67 (.slice (some ⟨gp, 0, none⟩) n pc) (bs.map ptrI) :: restI h (posK es k) (posK es k + 1) cs bs :: R) wx →
      (wx.cell? ⟨nb, 2, none⟩ = some (.slice (some ⟨gp, 0, none⟩) n pc) ∧ nb < wx.heap.size ∧ wx.cell? ⟨gp, posK es k, none⟩ = some (.pointer (some ⟨cb, 0, none⟩)) ∧ gp < wx.heap.size) ∧ (∀ q', Calls Try.prog 63 #[.pointer (some ⟨tb, 0, none⟩)] (wx.drewN q') fun e w' => e = .returned (.int .i64 (least o)) ∧ w' = wx.drewN q') ∧ ∃ ka kc, wx.cell? ⟨cb, 0, none⟩ = some (.slice ka q.es.length kc) ∧ cb < wx.heap.size) := by
    intro q wx hx
    obtain ⟨_, h0⟩ := hx.has 0 rfl
    obtain ⟨_, h1⟩ := hx.has 2 rfl
    obtain ⟨_, h2⟩ := hx.has 5 rfl
    obtain ⟨h3, _, h4, _⟩ := sl_elem h2 (posK es k) (by rw [List.length_map]; exact hil)
    obtain ⟨ka, kc, _, _, h6, _, _, h7⟩ := tree_lookI h0
    refine ⟨⟨(blk_get h1).1 2, (blk_get h1).2.2, h3.trans ?_, h4⟩, fun q' => ?_, ka, kc, h6, h7⟩
    · simp only [List.getElem_map]
      rw [(List.getElem?_eq_some_iff.1 hb).2]
      rfl
    · obtain ⟨_, h5⟩ := St.has (hx.mono (below_drewN _ q')) 1 rfl
      exact (leastI_calls tb r o nn _ ho ho' h5).mono fun _ _ ⟨a, b⟩ => ⟨a, b.symm⟩
  have hin : posK es k < n := by omega
  have hn0 : 0 < n := by omega
  have Hy := Lib.hid hy
  have Hne := Lib.hid hne
  have Hbd := Lib.hid hbd
  have Hpc := Lib.hid hpc
  have Hmx := Lib.hid hmx
  have Hyl : RowKit.Hid (posK es k < ne) := by show _ < _; omega
  have Ho := Lib.hid ho
  have Ho' := Lib.hid ho'
  have i2 : ((posK es k : Nat) : Int) < ne := by have := Hyl.out; omega
  have Hb := Lib.hid hb
  have Hnb := Lib.hid hn
  generalize posK es k = i at *
  obtain ⟨kk, hkk⟩ : ∃ kk, encI k = kk := ⟨_, rfl⟩
  rw [hkk] at HF
  obtain ⟨ov, hov⟩ : ∃ ov, valI y.2 = ov := ⟨_, rfl⟩
  have Hov := Lib.hid hov
  rw [hov] at Hel0
  rw [hkk]
  obtain ⟨m, hm⟩ : ∃ m, c'.es.length = m := ⟨_, rfl⟩
  obtain ⟨le, hle⟩ : ∃ le, least o = le := ⟨_, rfl⟩
  rw [hm, hle] at HFI2 ⊢
  rw [hle] at Hel
  obtain ⟨yy, hyy⟩ : ∃ yy, (if m < le then fillT o i (.node (es.set i mx) (cs.set i c')) else .node (es.set i mx) (cs.set i c')) = yy := ⟨_, rfl⟩
  rw [hyy]
  have Hyy := Lib.hid hyy
  clear hyy
  have Hm := Lib.hid hm
  clear hS hp hb0 hkk hov hlen hno ha hb hil hcl hl hple hn hm hle hd he hy hyl hqk hqv hne hbd hpc hmx ho ho'
  unfold ptrI at *
  go_enter Try.func52, Try.ntmps52
  go_wp2_with fail
  (with_reducible refine HF.out.mono ?_)
  rintro e w1 ⟨rfl, hb1⟩
  have HS1 := Lib.hid (HS.out.mono hb1)
  obtain ⟨_, hb2⟩ := HS1.out.has 0 rfl
  have HL := Lib.hid (leafI_calls nb (.slice (some ⟨gx, 0, none⟩) ne cx) (.slice (some ⟨gy, 0, none⟩) ne cy) (some ⟨gp, 0, none⟩) n pc w1 hb2)
  unfold ptrI at HL
  have hz : (n == 0) = false := beq_false_of_ne (by omega)
  rw [hz] at HL
  have i1 : (i : Int) < n := by omega
  obtain ⟨d1, d2, d3, d4⟩ := Hel0.out _ hb1
  clear hb1 hb2 HF hz
  go_wp2_with fail
  (with_reducible refine HL.out.mono ?_)
  rintro e w2 ⟨rfl, rfl⟩
  clear HL
  go_upto_region 13 with (fail)
  clear d1 d2 d3 d4 Hel0
  go_cut [] (fun wx => RowKit.Hid (St w0 fp0 (treeI h c cb :: blkA tb 72 #[r, .int .i64 o, nn] :: blkA nb 70 #[.slice (some ⟨gx, 0, none⟩) ne cx, .slice (some ⟨gy, 0, none⟩) ne cy, .slice (some ⟨gp, 0, none⟩) n pc] :: slA 3 (.slice (some ⟨gx, 0, none⟩) ne cx) (keysI (es.set i mx)) :: slA 3 (.slice (some ⟨gy, 0, none⟩) ne cy) (valsI (es.set i mx)) :: slA 67 (.slice (some ⟨gp, 0, none⟩) n pc) (bs.map ptrI) :: restI h (i) (i + 1) cs bs :: R) wx))
  case first =>
    refine rRe13I (w0 := w0) (fp0 := fp0) nb cb gx ne cx gy ne cy gp n pc i h o lo es bs c mx Hb.out Hyl.out Hyl.out hin Hne.out.symm Hne.out.symm Hnb.out.symm Ho.out Ho'.out Hbd.out Hpc.out Hmx.out (blkA tb 72 #[r, .int .i64 o, nn] :: restI h i (i + 1) cs bs :: R) _ (by kernel_rfl) rfl rfl rfl ?_ ?_
    · refine (St.emp.2 HS1.out).perm ?_
      try unfold ptrI
      exact (by classical exact List.perm_iff_count.2 fun a => by simp only [pick_false, List.cons_append, List.nil_append, List.count_cons] <;> omega)
    intro u w3 h3
    have H7 : RowKit.Hid (St w0 fp0 (treeI h c cb :: blkA tb 72 #[r, .int .i64 o, nn] :: blkA nb 70 #[.slice (some ⟨gx, 0, none⟩) ne cx, .slice (some ⟨gy, 0, none⟩) ne cy, .slice (some ⟨gp, 0, none⟩) n pc] :: slA 3 (.slice (some ⟨gx, 0, none⟩) ne cx) (keysI (es.set i mx)) :: slA 3 (.slice (some ⟨gy, 0, none⟩) ne cy) (valsI (es.set i mx)) :: slA 67 (.slice (some ⟨gp, 0, none⟩) n pc) (bs.map ptrI) :: restI h (i) (i + 1) cs bs :: R) w3) := by
      have h4 := h3.drop
      have k1 : keysI (es.set i mx) = (keysI es).set i (encI mx.1) := by unfold keysI; rw [List.map_set]
      have k2 : valsI (es.set i mx) = (valsI es).set i (valI mx.2) := by unfold valsI; rw [List.map_set]
      rw [k1, k2]
      refine h4.perm ?_
      try unfold ptrI
      exact (by classical exact List.perm_iff_count.2 fun a => by simp only [pick_true, List.append_eq, List.cons_append, List.nil_append, List.count_cons] <;> omega)
    clear h3
    simp only [putL, List.map, List.foldl, Act.put, List.setIfInBounds_toArray, List.set_cons_succ, List.set_cons_zero]
    go_step
    go_step
    go_meet
    exact H7
  have HS2 := hcut
  clear hcut HS1 Hin
  go_upto_region 14 with (fail)
  go_cut [] (fun wx => RowKit.Hid (St w0 fp0 (treeI h c' cb :: blkA tb 72 #[r, .int .i64 o, nn] :: blkA nb 70 #[.slice (some ⟨gx, 0, none⟩) ne cx, .slice (some ⟨gy, 0, none⟩) ne cy, .slice (some ⟨gp, 0, none⟩) n pc] :: slA 3 (.slice (some ⟨gx, 0, none⟩) ne cx) (keysI (es.set i mx)) :: slA 3 (.slice (some ⟨gy, 0, none⟩) ne cy) (valsI (es.set i mx)) :: slA 67 (.slice (some ⟨gp, 0, none⟩) n pc) (bs.map ptrI) :: restI h (i) (i + 1) cs bs :: R) wx))
  case first =>
    have hy2 : (es.set i mx)[i]? = some mx := List.getElem?_set_self (by rw [Hne.out]; exact Hyl.out)
    refine rRe14I (w0 := w0) (fp0 := fp0) tb nb cb gx ne cx gp n pc i h o (.slice (some ⟨gy, 0, none⟩) ne cy) r nn (es.set i mx) bs c c' mx Hb.out hy2 Hyl.out hin (by rw [List.length_set, Hne.out]) Hnb.out.symm (blkA tb 72 #[r, .int .i64 o, nn] :: slA 3 (.slice (some ⟨gy, 0, none⟩) ne cy) (valsI (es.set i mx)) :: restI h i (i + 1) cs bs :: R) _ (by kernel_rfl) rfl rfl rfl rfl ?_ ?_ ?_
    · intro wx hx
      refine (HIH2.out wx (blkA nb 70 #[.slice (some ⟨gx, 0, none⟩) ne cx, .slice (some ⟨gy, 0, none⟩) ne cy, .slice (some ⟨gp, 0, none⟩) n pc] :: slA 3 (.slice (some ⟨gx, 0, none⟩) ne cx) (keysI (es.set i mx)) :: slA 3 (.slice (some ⟨gy, 0, none⟩) ne cy) (valsI (es.set i mx)) :: slA 67 (.slice (some ⟨gp, 0, none⟩) n pc) (bs.map ptrI) :: restI h (i) (i + 1) cs bs :: R) (hx.perm ?_)).mono fun e w' ⟨hv, hs'⟩ => ⟨hv, hs'.perm ?_⟩
      · try unfold ptrI
        exact (by classical exact List.perm_iff_count.2 fun a => by simp only [List.cons_append, List.nil_append, List.count_cons] <;> omega)
      · try unfold ptrI
        exact (by classical exact List.perm_iff_count.2 fun a => by simp only [List.cons_append, List.nil_append, List.count_cons] <;> omega)
    · refine HS2.out.perm ?_
      try unfold ptrI
      exact (by classical exact List.perm_iff_count.2 fun a => by simp only [pick_false, List.cons_append, List.nil_append, List.count_cons] <;> omega)
    intro u w3 h3
    have H7 : RowKit.Hid (St w0 fp0 (treeI h c' cb :: blkA tb 72 #[r, .int .i64 o, nn] :: blkA nb 70 #[.slice (some ⟨gx, 0, none⟩) ne cx, .slice (some ⟨gy, 0, none⟩) ne cy, .slice (some ⟨gp, 0, none⟩) n pc] :: slA 3 (.slice (some ⟨gx, 0, none⟩) ne cx) (keysI (es.set i mx)) :: slA 3 (.slice (some ⟨gy, 0, none⟩) ne cy) (valsI (es.set i mx)) :: slA 67 (.slice (some ⟨gp, 0, none⟩) n pc) (bs.map ptrI) :: restI h (i) (i + 1) cs bs :: R) w3) := by
      refine h3.perm ?_
      try unfold ptrI
      exact (by classical exact List.perm_iff_count.2 fun a => by simp only [pick_true, List.cons_append, List.nil_append, List.count_cons] <;> omega)
    clear h3
    simp only [putL, List.map, List.foldl, Act.put, List.setIfInBounds_toArray, List.set_cons_succ, List.set_cons_zero]
    go_step
    go_step
    go_meet
    exact H7
  have HS3 := hcut
  clear hcut HS2 HIH2
  obtain ⟨⟨c1, c2, c3, c4⟩, hle, ka, kc, c7, c8⟩ := Hel.out c' _ HS3.out
  have HLE := Lib.hid hle
  clear hle
  rw [Hm.out] at c7
  have Hend : RowKit.Hid (∀ nq, St w0 fp0 (treeI (h + 1) (.node (es.set i mx) (cs.set i c')) nb :: blkA tb 72 #[r, .int .i64 o, nn] :: R) (wc.drewN nq)) := fun nq => Hun.out _ (HS3.out.mono (below_drewN _ _))
  by_cases hom : m < le
  · rw [if_pos hom] at Hyy
    have b1 : decide ((m : Int) < le) = true := by simp; omega
    have b2 : decide (m < le) = true := by simp; omega
    have Hom := Lib.hid hom
    clear hom
    go_upto_region 16 with (fail)
    go_cut [129] (fun z wx => z = .bool true ∧ ∃ nq, wx = wc.drewN nq)
    case first =>
      go_quiet ((go_at_call 63; exact Calls.quiet_of_same (HLE.out _)))
      go_step
      go_step
      go_meet
      exact ⟨rfl, _, rfl⟩
    obtain ⟨rfl, nq, rfl⟩ := hcut
    clear c1 c2 c3 c4 c7 c8 HLE
    have HSPx := Lib.hid (HFI2.out _ Hom.out (Hend.out nq))
    clear Hend HFI2
    go_wp2_with fail
    (with_reducible refine HSPx.out.mono ?_)
    rintro e w4 ⟨rfl, hs4⟩
    have HS4 := Lib.hid hs4
    clear hs4 HSPx
    go_wp2
    exact bodyPost_ret (v := .tuple #[ov, .bool true]) (by simp [results, Try.results52, go_sem]) rfl ⟨⟨y, Hy.out, by rw [Hov.out]⟩, by rw [← Hyy.out]; exact HS4.out⟩
  · rw [if_neg hom] at Hyy
    have b1 : decide ((m : Int) < le) = false := by simp; omega
    have b2 : decide (m < le) = false := by simp; omega
    have Hom := Lib.hid hom
    clear hom
    go_upto_region 16 with (fail)
    go_cut [129] (fun z wx => z = .bool false ∧ ∃ nq, wx = wc.drewN nq)
    case first =>
      go_quiet ((go_at_call 63; exact Calls.quiet_of_same (HLE.out _)))
      go_step
      go_step
      go_meet
      exact ⟨rfl, _, rfl⟩
    obtain ⟨rfl, nq, rfl⟩ := hcut
    clear c1 c2 c3 c4 c7 c8 HLE
    clear HFI2
    go_wp2
    exact bodyPost_ret (v := .tuple #[ov, .bool true]) (by simp [results, Try.results52, go_sem]) rfl ⟨⟨y, Hy.out, by rw [Hov.out]⟩, by rw [← Hyy.out]; exact Hend.out nq⟩
end Go.Proofs.Ytldofiankhimjaa
/- remove, Delete (I). -/
namespace Go.Proofs.Ytldofiankhimjaa
open Go Go.RowKit
theorem short_ofI {o h i : Nat} (ho : 3 ≤ o) {es : M Int Int} {cs : List TI} {c' : TI} (hlen : cs.length = es.length + 1) (hp : 0 < es.length) (hi : i < cs.length) (hb : Body o h (least o - 1) (o - 1) c') (hlt : c'.es.length < least o) (hk : ∀ c ∈ cs, Body o h (least o) (o - 1) c) :
    Short o h i (T.node es (cs.set i c')) := by
  refine ⟨by simpa [cs_node, es_node] using hlen, hp, by simpa [cs_node] using hi, fun c hc => ?_, ?_⟩
  · rw [cs_node, List.getElem?_set_self (by simpa using hi)] at hc
    injection hc with hc
    subst hc
    exact ⟨hb, by have := hb.lo; obtain ⟨lo1, _⟩ := least_two ho; omega⟩
  · intro j c hj hc
    rw [cs_node, List.getElem?_set_ne (fun e => hj e.symm)] at hc
    exact hk c (List.mem_of_getElem? hc)
theorem removeI_calls {o : Nat} (ho : 3 ≤ o) (ho' : o ≤ 1024) (tb : Nat) (r nn : Value) : ∀ (h lo : Nat) (x : TI) (nb : Nat) (k : Int) (w0 w : World) (fp0 : List Nat) (R : List Asn), Body o h lo (o - 1) x → (h ≠ 0 → 0 < x.es.length) → AscM (toL h x) →
    St w0 fp0 (treeI h x nb :: blkA tb 72 #[r, .int .i64 o, nn] :: R) w →
    Calls Try.prog 52 #[ptrI tb, ptrI nb, encI k] w fun e w' => e = .returned (.tuple #[((getT h x k).map valI).getD (.int .i64 0), .bool (getT h x k).isSome]) ∧ St w0 fp0 (treeI h (removeT o h x k) nb :: blkA tb 72 #[r, .int .i64 o, nn] :: R) w'
  | 0, lo, x, nb, k, w0, w, fp0, R, hb, hpos, ha, hS => by
    have hlen : x.es.length < 1099511627776 := by have := hb.hi; omega
    have hae : AscM x.es := asc_es ha
    obtain ⟨ks, vs, ps, bs, hl, h1⟩ := hS.openNI
    have hcs : x.cs = [] := hb.2.2
    have hbs : bs = [] := List.length_eq_zero_iff.1 (by rw [hl, hcs]; rfl)
    subst hbs
    obtain ⟨_, q⟩ := h1.has 3 rfl
    obtain ⟨pa, pc, e, _⟩ := sl_get q
    obtain rfl : ps = .slice pa 0 pc := e
    cases hh : hasK x.es k with
    | true =>
      refine (remleaf1I (ptrI tb) nb ks vs pa pc x.es k w0 w fp0 _ hae hlen hh h1).mono ?_
      rintro e w' ⟨y, ks', vs', hy, rfl, hs⟩
      have hg : getT 0 x k = some y.2 := by simp [getT, hh, hy]
      have hp : removeT o 0 x k = .node (x.es.eraseIdx (posK x.es k)) x.cs := by simp [removeT, hh]
      rw [hg, hp]
      exact ⟨rfl, St.shutNI hl hs⟩
    | false =>
      refine (remleaf0I (ptrI tb) nb ks vs pa pc x.es k w0 w fp0 _ hae hlen hh h1).mono ?_
      rintro e w' ⟨rfl, hs⟩
      have hg : getT 0 x k = none := by simp [getT, hh]
      have hp : removeT o 0 x k = .node x.es x.cs := by simp [removeT, hh, T.eta]
      rw [hg, hp]
      exact ⟨rfl, St.shutNI hl hs⟩
  | h + 1, lo, x, nb, k, w0, w, fp0, R, hb, hpos, ha, hS => by
    have hlen : x.es.length < 1099511627776 := by have := hb.hi; omega
    have hae : AscM x.es := asc_es ha
    have hxp := hpos (by omega)
    obtain ⟨b1, b2, b3, b4⟩ := hb
    have hp := posK_le x.es k
    obtain ⟨lo1, lo2⟩ := least_two ho
    obtain ⟨c, hc⟩ : ∃ c, x.cs[posK x.es k]? = some c := ⟨_, List.getElem?_eq_getElem (by omega)⟩
    have hcb := b4 c (List.mem_of_getElem? hc)
    have hcp : 0 < c.es.length := by have := hcb.lo; omega
    have hac := asc_kid2I b3 hc ha
    have hil : posK x.es k < x.cs.length := (List.getElem?_eq_some_iff.1 hc).1
    obtain ⟨ks, vs, ps, bs, cb, hl, hbi, h1⟩ := hS.viewI _ hc
    cases hh : hasK x.es k with
    | false =>
      have hg : getT (h + 1) x k = getT h c k := by simp [getT, hh, hc]
      have hq : removeT o (h + 1) x k = if (removeT o h c k).es.length < least o then fillT o (posK x.es k) (.node x.es (x.cs.set (posK x.es k) (removeT o h c k))) else .node x.es (x.cs.set (posK x.es k) (removeT o h c k)) := by simp [removeT, hh, hc]
      rw [hg, hq]
      obtain ⟨p1, _⟩ := removeT_spec ho h (least o) c k hcb (fun _ => hcp) hac
      refine reminNI ho ho' tb r nn x.es x.cs c (removeT o h c k) nb ks vs ps bs cb k _ _ w0 w fp0 R hae hlen hh b3 hl hbi ?_ ?_ h1
      · intro w1 R1 hs1
        exact removeI_calls ho ho' tb r nn h (least o) c cb k w0 w1 fp0 R1 hcb (fun _ => hcp) hac hs1
      · intro w1 hlt hs1
        exact fillI_calls ho ho' tb r nn nb w0 w1 fp0 R (short_ofI ho b3 hxp hil p1 hlt b4) (by simpa [es_node] using b2) hs1
    | true =>
      obtain ⟨L, mx, hmx, _⟩ := max_spec ho hcb hcp
      have hq : removeT o (h + 1) x k = if (removeT o h c mx.1).es.length < least o then fillT o (posK x.es k) (.node (x.es.set (posK x.es k) mx) (x.cs.set (posK x.es k) (removeT o h c mx.1))) else .node (x.es.set (posK x.es k) mx) (x.cs.set (posK x.es k) (removeT o h c mx.1)) := by simp [removeT, hh, hc, hmx]
      rw [hq]
      obtain ⟨p1, _⟩ := removeT_spec ho h (least o) c mx.1 hcb (fun _ => hcp) hac
      refine (reminFI ho ho' tb r nn x.es x.cs c (removeT o h c mx.1) nb ks vs ps bs cb k mx (least o) w0 w fp0 R hae hlen hh b3 hl hbi hcb hcp hmx ?_ ?_ h1).mono ?_
      · intro w1 R1 hs1
        exact (removeI_calls ho ho' tb r nn h (least o) c cb mx.1 w0 w1 fp0 R1 hcb (fun _ => hcp) hac hs1).mono fun e w' ⟨h1, h2⟩ => ⟨⟨_, h1⟩, h2⟩
      · intro w1 hlt hs1
        exact fillI_calls ho ho' tb r nn nb w0 w1 fp0 R (short_ofI ho (by rw [List.length_set]; exact b3) (by rw [List.length_set]; exact hxp) hil p1 hlt b4) (by simpa [es_node] using b2) hs1
      · rintro e w' ⟨⟨y, hy, rfl⟩, hs⟩
        have hg : getT (h + 1) x k = some y.2 := by simp [getT, hh, hy]
        rw [hg]
        exact ⟨rfl, hs⟩
end Go.Proofs.Ytldofiankhimjaa
/- Delete (I). -/
namespace Go.Proofs.Ytldofiankhimjaa
open Go Go.RowKit
theorem delM_lengthI (l : M Int Int) (k : Int) : (delM l k).length = if (getM l k).isSome then l.length - 1 else l.length := by
  induction l with
  | nil => rfl
  | cons x l ih =>
    rw [delM, getM]
    by_cases he : eqK x.1 k = true
    · simp [he]
    · simp only [he, Bool.false_eq_true, if_false, List.length_cons, ih]
      split
      · have : 0 < l.length := by
          cases l with
          | nil => simp_all [getM]
          | cons => simp
        omega
      · rfl
/-- A cell of the tree's own block is written. -/
theorem St.tbsetI {w0 w : World} {fp0 : List Nat} {L : List Asn} {tb : Nat} {t : TypeId} {c : Array Value} (h : St w0 fp0 (blkA tb t c :: L) w) (i : Nat) (v : Value) :
    w.frozen? ⟨tb, i, none⟩ = false ∧ tb < w.heap.size ∧ (∀ j, w.cell? ⟨tb, j, none⟩ = c[j]?) ∧ St w0 fp0 (blkA tb t (c.setIfInBounds i v) :: L) (w.setCell ⟨tb, i, none⟩ v) := by
  obtain ⟨g, hg, hset⟩ := h.get 0 rfl
  obtain ⟨hb2, ht2⟩ := blk_set hg i v
  exact ⟨(blk_get hg).2.1 i, (blk_get hg).2.2, (blk_get hg).1, hset _ _ _ hb2 ht2⟩
set_option maxHeartbeats 8000000 in
set_option maxRecDepth 100000 in
theorem DeleteI_calls {o : Nat} (ho : 3 ≤ o) (ho' : o ≤ 1024) (h : Nat) (l : M Int Int) (tb : Nat) (k : Int) (w0 w : World) (fp0 : List Nat) (R : List Asn) (hlen : l.length < 1099511627775)
    (hS : St w0 fp0 (objI o h l tb :: R) w) :
    Calls Try.prog 26 #[ptrI tb, encI k] w fun e w' => e = .returned (.tuple #[((getM l k).map valI).getD (.int .i64 0), .bool (getM l k).isSome]) ∧ ∃ h', St w0 fp0 (objI o h' (delM l k) tb :: R) w' := by
  obtain ⟨x, rb, ⟨g1, g2, g3⟩, hS1⟩ := hS.openOI
  have hxp : h ≠ 0 → 0 < x.es.length := by
    intro h0
    have := g1.lo
    unfold rootB at this
    rw [if_neg h0] at this
    omega
  obtain ⟨p1, p2⟩ := removeT_spec ho h _ x k g1 hxp g2
  have hget := getT_spec k h _ _ x g1 g2
  rw [g3] at p2 hget
  have HP := Lib.hid (removeI_calls ho ho' tb (ptrI rb) (.int .i64 l.length) h _ x rb k w0 w fp0 R g1 hxp g2 hS1)
  rw [hget] at HP
  have hdl := delM_lengthI l k
  obtain ⟨x', hx'⟩ : ∃ x', removeT o h x k = x' := ⟨_, rfl⟩
  rw [hx'] at HP p1 p2
  obtain ⟨_, q1⟩ := hS1.has 1 rfl
  have c0 := (blk_get q1).1 0
  have c0l := (blk_get q1).2.2
  simp only [List.getElem?_toArray, List.getElem?_cons_zero] at c0
  obtain ⟨n, hn⟩ : ∃ n, l.length = n := ⟨_, rfl⟩
  rw [hn] at HP hdl hlen
  obtain ⟨was, hwas⟩ : ∃ was, (getM l k).isSome = was := ⟨_, rfl⟩
  have hn0 : was = true → 0 < n := by
    intro e
    rw [← hwas] at e
    cases l with
    | nil => simp [getM] at e
    | cons => rw [← hn]; simp
  rw [hwas] at HP hdl ⊢
  obtain ⟨old, hold⟩ : ∃ old, ((getM l k).map valI).getD (.int .i64 0) = old := ⟨_, rfl⟩
  rw [hold] at HP ⊢
  have hasc : AscM (delM l k) := ascM_delM (by rw [← g3]; exact g2) k
  have Hfin : RowKit.Hid (∀ h' x'' rb' w', Body o h' (rootB h') (o - 1) x'' → toL h' x'' = delM l k → St w0 fp0 (treeI h' x'' rb' :: blkA tb 72 #[ptrI rb', .int .i64 o, .int .i64 ((delM l k).length : Nat)] :: R) w' → ∃ h', St w0 fp0 (objI o h' (delM l k) tb :: R) w') := by
    intro h' x'' rb' w' h1 h2 h3
    exact ⟨h', St.shutOI ⟨h1, by rw [h2]; exact hasc, h2⟩ h3⟩
  rw [hdl] at Hfin
  have P1 := Lib.hid p1
  have P2 := Lib.hid p2
  have Hn0 := Lib.hid hn0
  have Ho := Lib.hid ho
  obtain ⟨kk, hkk⟩ : ∃ kk, encI k = kk := ⟨_, rfl⟩
  rw [hkk] at HP ⊢
  clear hS hS1 q1 g1 g2 g3 p1 p2 hget hdl hx' hn hold hasc hkk hn0 hxp hwas ho ho'
  unfold ptrI at *
  go_enter Try.func26, Try.ntmps26
  go_wp2_with fail
  (with_reducible refine HP.out.mono ?_)
  rintro e w1 ⟨rfl, hs1⟩
  clear HP c0 c0l
  have HS1 := Lib.hid hs1
  obtain ⟨ks, vs, ps, bs, hl, hs2⟩ := hs1.openNI
  obtain ⟨_, q0⟩ := hs2.has 0 rfl
  obtain ⟨_, qk⟩ := hs2.has 1 rfl
  obtain ⟨_, qp⟩ := hs2.has 3 rfl
  obtain ⟨_, qt⟩ := hs2.has 5 rfl
  obtain ⟨ka, kc, rfl, -⟩ := sl_get qk
  obtain ⟨pa, pc, rfl, -⟩ := sl_get qp
  rw [keysI_length] at hs2 q0
  rw [List.length_map] at hs2 q0
  have c1 := (blk_get qt).1 0
  have c1l := (blk_get qt).2.2
  have c2 := (blk_get q0).1 0
  have c3 := (blk_get q0).1 2
  have c2l := (blk_get q0).2.2
  simp only [List.getElem?_toArray, List.getElem?_cons_zero, List.getElem?_cons_succ] at c1 c2 c3
  have HL := Lib.hid (leafI_calls rb _ vs pa bs.length pc w1 q0)
  unfold ptrI at HL
  obtain ⟨m, hm⟩ : ∃ m, x'.es.length = m := ⟨_, rfl⟩
  obtain ⟨nb, hnb⟩ : ∃ nb, bs.length = nb := ⟨_, rfl⟩
  rw [hm] at c2
  rw [hnb] at c3 HL
  have Hm := Lib.hid hm
  have Hnb := Lib.hid hnb
  have Hl := Lib.hid hl
  have HS2 := Lib.hid hs2
  clear hs1 hs2 q0 qk qp qt hm hnb hl
  obtain ⟨q, hq⟩ : ∃ q, (nb == 0) = q := ⟨_, rfl⟩
  rw [hq] at HL
  have Hq := Lib.hid hq
  clear hq
  have HB : RowKit.Hid (¬ (m = 0 ∧ q = false) → Body o h (rootB h) (o - 1) x') := by
    intro e
    refine P1.out.mono ?_ P1.out.hi
    unfold rootB
    split
    · exact Nat.zero_le _
    · rename_i h0
      rw [Hm.out]
      rcases P1.out.kids with ⟨e0, _⟩ | ⟨h', _, hk, _⟩
      · exact absurd e0 h0
      · have : nb = m + 1 := by rw [← Hnb.out, Hl.out, hk, Hm.out]
        by_cases hm0 : m = 0
        · exact absurd ⟨hm0, by rw [← Hq.out]; exact beq_false_of_ne (by omega)⟩ e
        · omega
  go_upto_region 2 with (fail)
  go_cut [34] (fun z wx => ∃ tq : Bool, z = .bool tq ∧ wx = w1 ∧ (tq = true → m = 0 ∧ q = false) ∧ (tq = false → Body o h (rootB h) (o - 1) x'))
  case first =>
    by_cases hm0 : m = 0
    · have e1 : (((m : Nat) : Int) == 0) = true := by simp [hm0]
      cases q with
      | true =>
        have Hb := Lib.hid (HB.out (by simp))
        clear hm0 HB
        go_wp2_with fail
        (with_reducible refine HL.out.mono ?_)
        rintro e w2 ⟨rfl, rfl⟩
        go_wp2
        go_meet
        exact ⟨false, rfl, rfl, by simp, fun _ => Hb.out⟩
      | false =>
        have Hm0 := Lib.hid hm0
        clear hm0 HB
        go_wp2_with fail
        (with_reducible refine HL.out.mono ?_)
        rintro e w2 ⟨rfl, rfl⟩
        go_wp2
        go_meet
        exact ⟨true, rfl, rfl, by first | exact fun _ => ⟨Hm0.out, rfl⟩ | simp [Hm0.out], by simp⟩
    · have e1 : (((m : Nat) : Int) == 0) = false := beq_false_of_ne (by omega)
      have Hb := Lib.hid (HB.out (by simp [hm0]))
      clear hm0 HB
      go_wp2_with fail
      go_meet
      exact ⟨false, rfl, rfl, by simp, fun _ => Hb.out⟩
  obtain ⟨tq, rfl, rfl, Ht1, Ht2⟩ := hcut
  have HT1 := Lib.hid Ht1
  have HT2 := Lib.hid Ht2
  clear Ht1 Ht2 HB HL
  go_upto_if 34 with (fail)
  go_cut [] (fun wx => ∃ h' x'' rb', RowKit.Hid (Body o h' (rootB h') (o - 1) x'') ∧ RowKit.Hid (toL h' x'' = delM l k) ∧ RowKit.Hid (St w0 fp0 (treeI h' x'' rb' :: blkA tb 72 #[.pointer (some ⟨rb', 0, none⟩), .int .i64 o, .int .i64 n] :: R) wx))
  case first =>
    cases tq with
    | false =>
      have Hb := Lib.hid (HT2.out rfl)
      clear HT1 HT2
      go_wp2
      go_meet
      exact ⟨_, _, _, Hb, P2, HS1⟩
    | true =>
      obtain ⟨hm0, hq0⟩ := HT1.out rfl
      have hnb0 : nb ≠ 0 := by
        intro e
        have := Hq.out
        rw [hq0, e] at this
        exact absurd this (by decide)
      obtain ⟨h', c, cb, e1, e2, e3, e4⟩ : ∃ h' c cb, h = h' + 1 ∧ x' = .node [] [c] ∧ bs = [cb] ∧ Body o h' (least o) (o - 1) c := by
        rcases P1.out.kids with ⟨_, e⟩ | ⟨h', e, hk, hk2⟩
        · exact absurd (by rw [← Hnb.out, Hl.out, e]; rfl) hnb0
        · have hm1 := Hm.out
          rw [hm0] at hm1
          have he : x'.es = [] := List.length_eq_zero_iff.1 hm1
          rw [hm1] at hk
          obtain ⟨c, hc⟩ := List.length_eq_one_iff.1 hk
          have hb1 := Hl.out
          rw [hk] at hb1
          obtain ⟨cb, hcb⟩ := List.length_eq_one_iff.1 hb1
          refine ⟨h', c, cb, e, ?_, hcb, hk2 c (by rw [hc]; simp)⟩
          rw [← T.eta x', he, hc]
      have HB2 : RowKit.Hid (Body o h' (rootB h') (o - 1) c) := e4.mono (by have := e4.lo; obtain ⟨q1, _⟩ := least_two Ho.out; unfold rootB; split <;> omega) e4.hi
      have HT : RowKit.Hid (toL h' c = delM l k) := by
        show _ = _
        rw [← P2.out, e1, e2]
        have := toL_last h' ([] : M Int Int) [] c rfl
        simpa [pre] using this.symm
      subst e1 e2 e3
      obtain rfl : nb = 1 := Hnb.out.symm
      have hs3 : St w0 fp0 (blkA tb 72 #[.pointer (some ⟨rb, 0, none⟩), .int .i64 o, .int .i64 n] :: (slA 67 (.slice pa 1 pc) ([cb].map ptrI) :: slA 3 (.slice ka (T.node [] [c]).es.length kc) (keysI (T.node [] [c]).es) :: slA 3 vs (valsI (T.node [] [c]).es) :: blkA rb 70 #[.slice ka (T.node [] [c]).es.length kc, vs, .slice pa 1 pc] :: treeI h' c cb :: R)) wc := by
        have h5 := (St.kd1I (h := h' + 1) (c := c) (b := cb) (L := blkA rb 70 #[.slice ka (T.node [] [c]).es.length kc, vs, .slice pa 1 pc] :: slA 3 (.slice ka (T.node [] [c]).es.length kc) (keysI (T.node [] [c]).es) :: slA 3 vs (valsI (T.node [] [c]).es) :: slA 67 (.slice pa 1 pc) ([cb].map ptrI) :: blkA tb 72 #[.pointer (some ⟨rb, 0, none⟩), .int .i64 o, .int .i64 n] :: R)).1 (HS2.out.perm (by
          classical
          refine List.perm_iff_count.2 fun a => ?_
          simp only [kdAI, cs_node, List.map_cons, List.map_nil, List.length_cons, List.length_nil, Nat.zero_add, ptrI, List.count_cons]
          omega))
        refine h5.perm ?_
        classical
        refine List.perm_iff_count.2 fun a => ?_
        simp only [kidI, List.count_cons]
        omega
      obtain ⟨_, qp⟩ := hs3.has 1 rfl
      obtain ⟨gp, pc', e5, -, -⟩ := sl_some qp (by simp)
      injection e5 with e51 e52 e53
      clear e52 e53
      subst e51
      obtain ⟨d0, -, d0l, -⟩ := sl_elem qp 0 (by simp)
      simp only [List.map_cons, List.map_nil, List.getElem_cons_zero] at d0
      unfold ptrI at d0
      obtain ⟨f0, f1, f2, hs4⟩ := hs3.tbsetI 0 (.pointer (some ⟨cb, 0, none⟩))
      generalize hW3 : wc.setCell ⟨tb, 0, none⟩ (.pointer (some ⟨cb, 0, none⟩)) = W3 at hs4
      have HS4 : RowKit.Hid (St w0 fp0 (treeI h' c cb :: blkA tb 72 #[.pointer (some ⟨cb, 0, none⟩), .int .i64 o, .int .i64 n] :: R) W3) := by
        refine St.dropAllI (A := [slA 67 (.slice (some ⟨gp, 0, none⟩) 1 pc) ([cb].map ptrI), slA 3 (.slice ka (T.node [] [c]).es.length kc) (keysI (T.node [] [c]).es), slA 3 vs (valsI (T.node [] [c]).es), blkA rb 70 #[.slice ka (T.node [] [c]).es.length kc, vs, .slice (some ⟨gp, 0, none⟩) 1 pc]]) (hs4.perm ?_)
        classical
        refine List.perm_iff_count.2 fun a => ?_
        simp only [List.setIfInBounds_toArray, List.set_cons_zero, List.cons_append, List.nil_append, List.count_cons]
        omega
      clear hs3 hs4 qp f2 HS2 HS1 P1 P2 HT1 HT2 hm0 hq0 hnb0 e4 Hm Hnb Hl Hq
      go_wp2
      go_meet
      exact ⟨_, _, _, HB2, HT, HS4⟩
  obtain ⟨h', x'', rb', HB, HT, HS3⟩ := hcut
  clear HS1 HS2 P1 P2 HT1 HT2 Hm Hnb Hl Hq c1 c2 c3 c1l c2l
  cases was with
  | false =>
    have HF := Lib.hid (Hfin.out h' x'' rb' wc HB.out HT.out HS3.out)
    clear Hfin
    go_wp2
    exact bodyPost_ret (v := .tuple #[old, .bool false]) (by simp [results, Try.results26, go_sem]) rfl ⟨rfl, HF.out⟩
  | true =>
    have hn1 := Hn0.out rfl
    have s1 : IntKind.i64.wrap ((n : Int) - 1) = ((n - 1 : Nat) : Int) := by rw [IntWalk.i64_in _ (by omega)]; omega
    have hs3 : St w0 fp0 (blkA tb 72 #[.pointer (some ⟨rb', 0, none⟩), .int .i64 o, .int .i64 n] :: treeI h' x'' rb' :: R) wc := HS3.out.perm (List.Perm.swap _ _ _)
    obtain ⟨f0, f1, f2, hs4⟩ := hs3.tbsetI 2 (.int .i64 ((n - 1 : Nat) : Int))
    have f3 := f2 2
    simp only [List.getElem?_toArray, List.getElem?_cons_zero, List.getElem?_cons_succ] at f3
    obtain ⟨n1, hn1'⟩ : ∃ n1, n - 1 = n1 := ⟨_, rfl⟩
    rw [hn1'] at s1 hs4 Hfin
    generalize hW3 : wc.setCell ⟨tb, 2, none⟩ (.int .i64 ((n1 : Nat) : Int)) = W3 at hs4
    have HF := Lib.hid (Hfin.out h' x'' rb' W3 HB.out HT.out (by
      have h9 := hs4.perm (List.Perm.swap _ _ _)
      simpa using h9))
    clear f2 hs3 hs4 Hfin hn1 hn1' HS3
    go_wp2
    exact bodyPost_ret (v := .tuple #[old, .bool true]) (by simp [results, Try.results26, go_sem]) rfl ⟨rfl, HF.out⟩
end Go.Proofs.Ytldofiankhimjaa
/- append of a slice of pairs that is only read. -/
namespace Go.Proofs.Ytldofiankhimjaa
open Go Go.RowKit
/-- A slice of pairs that can be read. -/
def PrSrc (w : World) (s : Value) (ys : MI) : Prop := (s = .slice none 0 0 ∧ ys = []) ∨ ∃ a cap, s = .slice (some a) ys.length cap ∧ ∀ (j : Nat) u, (entsI ys)[j]? = some u → w.cell? (a.add j) = some u
theorem entsI_len (ys : MI) : (entsI ys).length = ys.length * 2 := by
  induction ys with
  | nil => rfl
  | cons y ys ih =>
    have : entsI (y :: ys) = [encI y.1, valI y.2] ++ entsI ys := rfl
    rw [this, List.length_append, ih, List.length_cons]
    simp
    omega
theorem entsI_one (ys : MI) : ∀ u ∈ entsI ys, u.oneCell' = true := by
  induction ys with
  | nil => intro u h; cases h
  | cons y ys ih =>
    have : entsI (y :: ys) = [encI y.1, valI y.2] ++ entsI ys := rfl
    rw [this]
    intro u h
    rcases List.mem_append.1 h with h | h
    · simp only [List.mem_cons, List.not_mem_nil, or_false] at h
      rcases h with rfl | rfl <;> rfl
    · exact ih u h
theorem entsI_app (xs ys : MI) : entsI (xs ++ ys) = entsI xs ++ entsI ys := by
  unfold entsI
  rw [List.flatMap_append]
theorem runPrs (w : World) (ty : TypeId) {v s : Value} {l m : MI} {f : List Nat} (hown : (prA v l).p w f) (hs : PrSrc w s m) (hlen : l.length + m.length < 1099511627776) :
    ∃ v' w' f', (Builtin.append_ #[31, 31] ty #[v, s]).run Try.prog w = .ok v' w' ∧ (prA v' (l ++ m)).p w' f' ∧ Tr w w' f f' := by
  obtain ⟨i0, ii, iz0, iz1, iz2⟩ := info_parts infoPr
  obtain ⟨ho, rfl⟩ := hown
  rcases hs with ⟨rfl, rfl⟩ | ⟨a, cap, rfl, hnews⟩
  · refine ⟨v, w, _, run_append_owned_none (P := Try.prog) (w := w) 0 31 ty 51 i0 2 (by kernel_rfl) ii v l.length _ ho, ⟨by simpa using ho, rfl⟩, Tr.refl _ _⟩
  · have hl := entsI_len m
    have h63 : l.length + m.length ≤ maxLen := by unfold maxLen; omega
    by_cases hm : 0 < m.length
    · obtain ⟨v', w', hr, h2, h3, h4⟩ := run_append_block (P := Try.prog) w 0 31 ty 51 i0 _ 2 16 (by kernel_rfl) ii iz0 iz1 iz2 rfl (by omega) v l.length _ ho a m.length cap (entsI m) hl hnews (entsI_one m) hm h63 (by omega) (Nat.zero_le _)
      refine ⟨v', w', _, hr, ⟨?_, rfl⟩, Tr.of_grown h3 h4⟩
      rw [entsI_app, List.length_append]
      exact h2
    · obtain rfl : m = [] := List.length_eq_zero_iff.1 (by omega)
      obtain ⟨v', w', hr, h2, h3, h4⟩ := run_append_own (P := Try.prog) w 0 31 ty 51 i0 _ 2 16 (by kernel_rfl) ii iz0 iz1 iz2 rfl (by omega) v l.length _ ho a 0 cap [] rfl (fun j u h => by simp at h) (fun u h => by cases h) (by simpa using h63) (by omega) (Nat.zero_le _)
      refine ⟨v', w', _, hr, ⟨by simpa using h2, rfl⟩, Tr.of_grown h3 fun k hk => ?_⟩
      rcases ho.2 with ⟨rfl, e⟩ | ⟨gv, cap', cur, rfl, hbg, hg, hnc, hcm, hcs, htake⟩
      · have := h4.2 ⟨rfl, rfl⟩
        subst this
        cases hk
      · have hfit : l.length * i0.size + 0 ≤ cur.size := by rw [iz1, hcs, Nat.add_zero]; exact Nat.mul_le_mul_right _ hnc
        have hr2 := run_append_room (P := Try.prog) w 31 ty 51 i0 (by kernel_rfl) ii gv l.length cap' cur hg a 0 cap [] (by simp) (fun j u h => by simp at h) (fun u h => by cases h) (by omega) hfit
        rw [hr2] at hr
        injection hr with hr _
        subst hr
        exact .inl hk
end Go.Proofs.Ytldofiankhimjaa
/- Lists of pairs: an empty one in a block; parts that are only read. -/
namespace Go.Proofs.Ytldofiankhimjaa
open Go Go.RowKit
theorem row_empty {w : World} {b : Nat} {t : TypeId} {size : Nat} {f : List Nat} (h : (blkA b t #[]).p w f) : (rowA t size (.slice (some ⟨b, 0, none⟩) 0 0) 0 []).p w f :=
  ⟨⟨by simp, .inr ⟨b, 0, #[], rfl, Nat.zero_le _, h.1, Nat.le_refl _, Nat.zero_le _, by simp, by simp⟩⟩, h.2⟩
theorem pr_cases {w : World} {v : Value} {l : MI} {f : List Nat} (h : (prA v l).p w f) : (v = .slice none 0 0 ∧ l = []) ∨ ∃ g c, v = .slice (some ⟨g, 0, none⟩) l.length c ∧ l.length ≤ c ∧ c ≤ maxLen ∧ ∀ (j : Nat) u, (entsI l)[j]? = some u → w.cell? ⟨g, j, none⟩ = some u := by
  have hs := row_shape h
  obtain ⟨ho, -⟩ := h
  rcases ho.2 with ⟨rfl, e⟩ | ⟨g, c, cur, rfl, -, hg, hn, hc, -, -⟩
  · exact .inl ⟨rfl, List.length_eq_zero_iff.1 e⟩
  · refine .inr ⟨g, c, rfl, hn, hc, fun j u hu => ?_⟩
    obtain ⟨a, c', e, -, -, hcs⟩ := hs
    have hj : j < l.length * 2 := by rw [← entsI_len]; exact (List.getElem?_eq_some_iff.1 hu).1
    obtain ⟨g', e2, -, h2, -⟩ := hcs j hj
    have e3 := (Value.slice.inj e).1
    rw [e2] at e3
    injection e3 with e3
    injection e3 with e3
    subst e3
    rw [h2, hu]
theorem entsI_take (l : MI) (p : Nat) : entsI (l.take p) = (entsI l).take (p * 2) := by
  have h := entsI_app (l.take p) (l.drop p)
  rw [List.take_append_drop] at h
  by_cases hp : p ≤ l.length
  · rw [h]; exact (List.take_left' (by rw [entsI_len, List.length_take]; omega)).symm
  · rw [List.take_of_length_le (by omega), List.take_of_length_le (by rw [entsI_len]; omega)]
theorem entsI_drop (l : MI) (p : Nat) (hp : p ≤ l.length) : entsI (l.drop p) = (entsI l).drop (p * 2) := by
  have h := entsI_app (l.take p) (l.drop p)
  rw [List.take_append_drop] at h
  rw [h]; exact (List.drop_left' (by rw [entsI_len, List.length_take]; omega)).symm
theorem src_take {w : World} {g c : Nat} {l : MI} (h : ∀ (j : Nat) u, (entsI l)[j]? = some u → w.cell? ⟨g, j, none⟩ = some u) (p : Nat) (hp : p ≤ l.length) : PrSrc w (.slice (some ⟨g, 0, none⟩) p c) (l.take p) := by
  refine .inr ⟨_, c, by rw [List.length_take, Nat.min_eq_left hp], fun j u hu => ?_⟩
  rw [entsI_take] at hu
  rw [Addr.add_lit, Nat.zero_add]
  refine h j u ?_
  rw [List.getElem?_take] at hu
  split at hu
  · exact hu
  · cases hu
theorem src_drop {w : World} {g c : Nat} {l : MI} (h : ∀ (j : Nat) u, (entsI l)[j]? = some u → w.cell? ⟨g, j, none⟩ = some u) (p : Nat) (hp : p ≤ l.length) : PrSrc w (.slice (some ⟨g, p * 2, none⟩) (l.length - p) c) (l.drop p) := by
  refine .inr ⟨_, c, by rw [List.length_drop], fun j u hu => ?_⟩
  rw [entsI_drop l p hp, List.getElem?_drop] at hu
  rw [Addr.add_lit]
  exact h _ u hu
end Go.Proofs.Ytldofiankhimjaa
/- The reference's From and Put. -/
namespace Go.Proofs.Ytldofiankhimjaa
open Go Go.RowKit
set_option maxHeartbeats 4000000 in
set_option maxRecDepth 20000 in
theorem RFrom_calls (l : MI) (k : Int) (v : Value) (hlen : l.length < 1099511627775) (w0 w : World) (fp0 : List Nat) (R : List Asn) (hS : St w0 fp0 (prA v l :: R) w) :
    Calls Try.prog 27 #[v, .int .i64 k] w fun e w' => ∃ v', e = .returned v' ∧ St w0 fp0 (prA v' (l.drop (posK l k)) :: prA v l :: R) w' := by
  have HS := Lib.hid hS
  have Hlen := Lib.hid hlen
  have HP : RowKit.Hid (∀ w', Below w.heap.size w w' → Calls Try.prog 54 #[v, .int .i64 k] w' fun e w1 => e = .returned (.int .i64 (posK l k : Nat)) ∧ w' = w1) := by
    intro w' hb
    obtain ⟨_, hp⟩ := (HS.out.mono hb).has 0 rfl
    exact place_calls l k v w' (prA_at hp)
  obtain ⟨p, hp⟩ : ∃ p, posK l k = p := ⟨_, rfl⟩
  have hpl : p ≤ l.length := by rw [← hp]; exact posK_le l k
  rw [hp] at HP ⊢
  clear hS hlen hp
  go_enter Try.func27, Try.ntmps27
  go_wp2_with fail
  (with_reducible refine (HP.out _ ((Below.refl _ _).alloc (Nat.le_refl _) _)).mono ?_)
  rintro e w1 ⟨rfl, rfl⟩
  have h1 := HS.out.newblk 51 #[]
  have h2 : St w0 fp0 (prA (.slice (some ⟨w.heap.size, 0, none⟩) 0 0) [] :: prA v l :: R) (w.alloc (.cells #[] 51)) := h1.fold (L1 := [blkA w.heap.size 51 #[]]) fun f ⟨f1, f2, hf, h3, _, e⟩ => by
    obtain rfl := h3
    rw [List.append_nil] at e
    subst e
    exact row_empty hf
  generalize w.alloc (.cells #[] 51) = w1 at *
  generalize w.heap.size = b at *
  obtain ⟨f, hp0, hset⟩ := h2.get 0 rfl
  obtain ⟨_, hq⟩ := h2.has 1 rfl
  have key : ∀ s, PrSrc w1 s (l.drop p) → ∃ v' w', (Builtin.append_ #[31, 31] 31 #[.slice (some ⟨b, 0, none⟩) 0 0, s]).run Try.prog w1 = .ok v' w' ∧ St w0 fp0 (prA v' (l.drop p) :: prA v l :: R) w' := by
    intro s hs
    obtain ⟨v', w', f', hr, ho, ht⟩ := runPrs w1 31 hp0 hs (by have := Hlen.out; rw [List.length_drop]; simp; omega)
    exact ⟨v', w', hr, hset _ _ _ ho ht⟩
  rcases pr_cases hq with ⟨rfl, rfl⟩ | ⟨g, c, rfl, hc, hm, hsrc⟩
  · obtain rfl : p = 0 := by simpa using hpl
    have H3 := Lib.hid h2
    clear key h1 h2 hp0 hset hq
    go_wp2
    go_ret
    exact ⟨_, rfl, H3.out⟩
  · by_cases hpn : p = l.length
    · subst hpn
      have H3 : RowKit.Hid (St w0 fp0 (prA (.slice (some ⟨b, 0, none⟩) 0 0) (l.drop l.length) :: prA (.slice (some ⟨g, 0, none⟩) l.length c) l :: R) w1) := by
        show St _ _ _ _
        rw [List.drop_length]
        exact h2
      clear key h1 h2 hp0 hset hq hsrc
      generalize hn : l.length = n at *
      have Hn := Lib.hid hn
      clear hn
      have e0 : n - n = 0 := by omega
      by_cases hcn : c = n
      · subst hcn
        go_wp2
        go_ret
        have e := Hn.out
        subst e
        exact ⟨_, rfl, H3.out⟩
      · go_wp2
        go_ret
        have e := Hn.out
        subst e
        exact ⟨_, rfl, H3.out⟩
    · obtain ⟨v', w', hr, h3⟩ := key _ (src_drop (c := c - p) hsrc p hpl)
      have HR := Lib.hid hr
      have H3 := Lib.hid h3
      clear key h1 h2 hp0 hset hq hr h3 hsrc
      generalize hn : l.length = n at *
      have Hn := Lib.hid hn
      clear hn
      have hp2 : ¬ n - p = 0 := by omega
      have hp3 : ¬ c = p := by omega
      go_wp2_with (at_builtin; refine wpList_append_run rfl _ _ _ rfl rfl rfl HR.out ?_)
      go_ret
      have e := Hn.out
      subst e
      exact ⟨_, rfl, H3.out⟩
end Go.Proofs.Ytldofiankhimjaa
