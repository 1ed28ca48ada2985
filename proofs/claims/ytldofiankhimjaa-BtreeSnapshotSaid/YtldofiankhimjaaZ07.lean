/- Part 7 of the proof: MeRI, TwI, MeI, Pb -/
import Derived.Test.YtldofiankhimjaaZ00
import Derived.Test.YtldofiankhimjaaZ05
import Derived.Deep.DeepCutAuto
import Derived.BigQuiet
import Derived.IntWalk
/- merge: its regions (I). -/
namespace Go.Proofs.Ytldofiankhimjaa
open Go Go.RowKit
noncomputable def oMe1I : Array Oper := ((Try.f86.body).bind fun c => opsOf c 1).getD #[]
set_option maxHeartbeats 4000000 in
set_option maxRecDepth 100000 in
theorem rMe1I {Q : Exit → Act → World → Prop} {a : Act} {w w0 : World} {fp0 : List Nat} (b lb rb gx nx cx i : Nat) (_xk xv xp lk lv lp rk rv rp : Value) (xe le re : M Int Int) (y : Int × Int) (hy : xe[i]? = some y) (hik : i < nx) (hek : nx = xe.length) (hlen : le.length + 1 + re.length < 1099511627776) (R : List Asn) (ops : Array Oper) (hops : ops = oMe1I) (hsz : a.tmps.size = 111) (h1 : a.eval (.tmp 1) = .pointer (some ⟨b, 0, none⟩)) (h2 : a.eval (.tmp 2) = .int .i64 i) (h6 : a.eval (.tmp 6) = .pointer (some ⟨lb, 0, none⟩)) (h7 : a.eval (.tmp 7) = .pointer (some ⟨rb, 0, none⟩))
    (hS : St w0 fp0 ([pick false (boxA 3 (a.eval (.tmp 35)) (encI y.1)) emp, pick false (slA 3 (a.eval (.tmp 41)) ((keysI le ++ [encI y.1]) ++ keysI re)) (pick false (slA 3 (a.eval (.tmp 36)) (keysI le ++ [encI y.1])) (slA 3 lk (keysI le))), slA 3 rk (keysI re), blkA lb 70 #[vpick false (a.eval (.tmp 41)) lk, lv, lp], blkA b 70 #[.slice (some ⟨gx, 0, none⟩) nx cx, xv, xp], slA 3 (.slice (some ⟨gx, 0, none⟩) nx cx) (keysI xe), blkA rb 70 #[rk, rv, rp]] ++ R) w)
    (hQ : ∀ (u : Nat → Value) w1, St w0 fp0 ([pick true (boxA 3 (u 35) (encI y.1)) emp, pick true (slA 3 (u 41) ((keysI le ++ [encI y.1]) ++ keysI re)) (pick true (slA 3 (u 36) (keysI le ++ [encI y.1])) (slA 3 lk (keysI le))), slA 3 rk (keysI re), blkA lb 70 #[vpick true (u 41) lk, lv, lp], blkA b 70 #[.slice (some ⟨gx, 0, none⟩) nx cx, xv, xp], slA 3 (.slice (some ⟨gx, 0, none⟩) nx cx) (keysI xe), blkA rb 70 #[rk, rv, rp]] ++ R) w1 → Q .normal (putL a (([23, 24, 25, 26, 27, 28, 29, 30, 31, 32, 33, 34, 35, 36, 37, 38, 39, 40, 41, 42, 43] : List Nat).map fun d => (d, u d))) w1) : (Code.region 1 ops true).wp Try.prog Q a w := by
  subst hops
  have hyk : ∀ h, (keysI xe)[i]'h = encI y.1 := by intro h; simp only [keysI, List.getElem_map]; rw [(List.getElem?_eq_some_iff.1 hy).2]
  have hsize : oMe1I.size = 22 := by kernel_rfl
  have hE : Looks (fun L g w => St w0 fp0 ([pick (L 12) (boxA 3 (g 35) (encI y.1)) emp, pick (L 18) (slA 3 (g 41) ((keysI le ++ [encI y.1]) ++ keysI re)) (pick (L 13) (slA 3 (g 36) (keysI le ++ [encI y.1])) (slA 3 lk (keysI le))), slA 3 rk (keysI re), blkA lb 70 #[vpick (L 21) (g 41) lk, lv, lp], blkA b 70 #[.slice (some ⟨gx, 0, none⟩) nx cx, xv, xp], slA 3 (.slice (some ⟨gx, 0, none⟩) nx cx) (keysI xe), blkA rb 70 #[rk, rv, rp]] ++ R) w) [12, 13, 18, 21] [35, 36, 41] := by
    intro L L' g g' w hL hg h
    simpa only [← hL 12 (by decide), ← hL 13 (by decide), ← hL 18 (by decide), ← hL 21 (by decide), ← hg 35 (by decide), ← hg 36 (by decide), ← hg 41 (by decide)] using h
  have hn1 : (([(0, 23, .pointer (some ⟨lb, 0, none⟩)), (1, 24, .pointer (some ⟨lb, 0, none⟩)), (2, 25, .pointer (some ⟨lb, 0, none⟩)), (3, 26, .pointer (some ⟨lb, 0, none⟩)), (4, 27, lk), (5, 28, .pointer (some ⟨b, 0, none⟩)), (6, 29, .pointer (some ⟨b, 0, none⟩)), (7, 30, .pointer (some ⟨b, 0, none⟩)), (8, 31, .slice (some ⟨gx, 0, none⟩) nx cx), (9, 32, .int .i64 i), (10, 33, .pointer (some ⟨gx, i, none⟩)), (11, 34, encI y.1), (14, 37, .pointer (some ⟨rb, 0, none⟩)), (15, 38, .pointer (some ⟨rb, 0, none⟩)), (16, 39, .pointer (some ⟨rb, 0, none⟩)), (17, 40, rk), (19, 42, .pointer (some ⟨lb, 0, none⟩)), (20, 43, .pointer (some ⟨lb, 0, none⟩))] : List (Nat × Nat × Value)).map (·.1)).Nodup := by
    show List.Nodup [0, 1, 2, 3, 4, 5, 6, 7, 8, 9, 10, 11, 14, 15, 16, 17, 19, 20]
    decide
  have hn2 : (([(0, 23, .pointer (some ⟨lb, 0, none⟩)), (1, 24, .pointer (some ⟨lb, 0, none⟩)), (2, 25, .pointer (some ⟨lb, 0, none⟩)), (3, 26, .pointer (some ⟨lb, 0, none⟩)), (4, 27, lk), (5, 28, .pointer (some ⟨b, 0, none⟩)), (6, 29, .pointer (some ⟨b, 0, none⟩)), (7, 30, .pointer (some ⟨b, 0, none⟩)), (8, 31, .slice (some ⟨gx, 0, none⟩) nx cx), (9, 32, .int .i64 i), (10, 33, .pointer (some ⟨gx, i, none⟩)), (11, 34, encI y.1), (14, 37, .pointer (some ⟨rb, 0, none⟩)), (15, 38, .pointer (some ⟨rb, 0, none⟩)), (16, 39, .pointer (some ⟨rb, 0, none⟩)), (17, 40, rk), (19, 42, .pointer (some ⟨lb, 0, none⟩)), (20, 43, .pointer (some ⟨lb, 0, none⟩))] : List (Nat × Nat × Value)).map (·.2.1)).Nodup := by
    show List.Nodup [23, 24, 25, 26, 27, 28, 29, 30, 31, 32, 33, 34, 37, 38, 39, 40, 42, 43]
    decide
  refine wp_region_vals (ops' := oMe1I) [23, 24, 25, 26, 27, 28, 29, 30, 31, 32, 33, 34, 35, 36, 37, 38, 39, 40, 41, 42, 43] [(0, 23, .pointer (some ⟨lb, 0, none⟩)), (1, 24, .pointer (some ⟨lb, 0, none⟩)), (2, 25, .pointer (some ⟨lb, 0, none⟩)), (3, 26, .pointer (some ⟨lb, 0, none⟩)), (4, 27, lk), (5, 28, .pointer (some ⟨b, 0, none⟩)), (6, 29, .pointer (some ⟨b, 0, none⟩)), (7, 30, .pointer (some ⟨b, 0, none⟩)), (8, 31, .slice (some ⟨gx, 0, none⟩) nx cx), (9, 32, .int .i64 i), (10, 33, .pointer (some ⟨gx, i, none⟩)), (11, 34, encI y.1), (14, 37, .pointer (some ⟨rb, 0, none⟩)), (15, 38, .pointer (some ⟨rb, 0, none⟩)), (16, 39, .pointer (some ⟨rb, 0, none⟩)), (17, 40, rk), (19, 42, .pointer (some ⟨lb, 0, none⟩)), (20, 43, .pointer (some ⟨lb, 0, none⟩))] (fun L g w => St w0 fp0 ([pick (L 12) (boxA 3 (g 35) (encI y.1)) emp, pick (L 18) (slA 3 (g 41) ((keysI le ++ [encI y.1]) ++ keysI re)) (pick (L 13) (slA 3 (g 36) (keysI le ++ [encI y.1])) (slA 3 lk (keysI le))), slA 3 rk (keysI re), blkA lb 70 #[vpick (L 21) (g 41) lk, lv, lp], blkA b 70 #[.slice (some ⟨gx, 0, none⟩) nx cx, xv, xp], slA 3 (.slice (some ⟨gx, 0, none⟩) nx cx) (keysI xe), blkA rb 70 #[rk, rv, rp]] ++ R) w) rfl (by kernel_rfl) (by kernel_rfl) (hS.mono (below_drew w)) ?_ ?_
  · intro oi o L a1 w1 ho hL hdep hI
    have hoi : oi < 22 := by have := (Array.getElem?_eq_some_iff.1 ho).1; omega
    have h1sz : a1.tmps.size = 111 := hI.frame.size.trans hsz
    rcases (by omega : oi = 0 ∨ oi = 1 ∨ oi = 2 ∨ oi = 3 ∨ oi = 4 ∨ oi = 5 ∨ oi = 6 ∨ oi = 7 ∨ oi = 8 ∨ oi = 9 ∨ oi = 10 ∨ oi = 11 ∨ oi = 12 ∨ oi = 13 ∨ oi = 14 ∨ oi = 15 ∨ oi = 16 ∨ oi = 17 ∨ oi = 18 ∨ oi = 19 ∨ oi = 20 ∨ oi = 21) with rfl | rfl | rfl | rfl | rfl | rfl | rfl | rfl | rfl | rfl | rfl | rfl | rfl | rfl | rfl | rfl | rfl | rfl | rfl | rfl | rfl | rfl
    · have hl : oMe1I[0]? = some ⟨some 23, Op.move (Operand.tmp 6), _, _, _, none⟩ := rfl
      obtain rfl := oI ho hl
      have x6 := hI.old 6 (.pointer (some ⟨lb, 0, none⟩)) (by decide) h6
      exact hI.rd hE hsz 0 23 (.pointer (some ⟨lb, 0, none⟩)) ho rfl rfl hdep (by decide) (vals_at hn1 hn2 0 rfl) (by simp [go_sem, execOp, Act.eval, x6])
    · have hl : oMe1I[1]? = some ⟨some 24, Op.move (Operand.tmp 6), _, _, _, none⟩ := rfl
      obtain rfl := oI ho hl
      have x6 := hI.old 6 (.pointer (some ⟨lb, 0, none⟩)) (by decide) h6
      exact hI.rd hE hsz 1 24 (.pointer (some ⟨lb, 0, none⟩)) ho rfl rfl hdep (by decide) (vals_at hn1 hn2 1 rfl) (by simp [go_sem, execOp, Act.eval, x6])
    · have hl : oMe1I[2]? = some ⟨some 25, Op.nilCheck (Operand.tmp 24), _, _, _, none⟩ := rfl
      obtain rfl := oI ho hl
      have x24 := hI.val 1 24 (.pointer (some ⟨lb, 0, none⟩)) (mG (i := 1) rfl) (dK ho hdep (by kernel_rfl : waitsB oMe1I 2 1 = true))
      exact hI.rd hE hsz 2 25 (.pointer (some ⟨lb, 0, none⟩)) ho rfl rfl hdep (by decide) (vals_at hn1 hn2 2 rfl) (by simp [go_sem, execOp, Act.eval, x24])
    · have hl : oMe1I[3]? = some ⟨some 26, Op.fieldAddr _ (Operand.tmp 25) 0, _, _, _, none⟩ := rfl
      obtain rfl := oI ho hl
      have x25 := hI.val 2 25 (.pointer (some ⟨lb, 0, none⟩)) (mG (i := 2) rfl) (dK ho hdep (by kernel_rfl : waitsB oMe1I 3 2 = true))
      exact hI.rd hE hsz 3 26 (.pointer (some ⟨lb, 0, none⟩)) ho rfl rfl hdep (by decide) (vals_at hn1 hn2 3 rfl) (by simp [go_sem, execOp, Act.eval, x25])
    · have hl : oMe1I[4]? = some ⟨some 27, Op.load _ (Operand.tmp 26), _, _, _, none⟩ := rfl
      obtain rfl := oI ho hl
      have x26 := hI.val 3 26 (.pointer (some ⟨lb, 0, none⟩)) (mG (i := 3) rfl) (dK ho hdep (by kernel_rfl : waitsB oMe1I 4 3 = true))
      have hS1 := hI.eff
      have e13 : L 13 = false := hI.no hL (by kernel_rfl : waitsB oMe1I 13 4 = true)
      have e18 : L 18 = false := hI.no (hI.no hL (by kernel_rfl : waitsB oMe1I 13 4 = true)) (by kernel_rfl : waitsB oMe1I 18 13 = true)
      have e21 : L 21 = false := hI.no hL (by kernel_rfl : waitsB oMe1I 21 4 = true)
      simp only [e13, e18, e21, pick_false, vpick_false] at hS1
      obtain ⟨_, hp⟩ := hS1.has 3 rfl
      have hcell := (blk_get hp).1 0
      have hlt := (blk_get hp).2.2
      simp only [List.getElem?_toArray, List.getElem?_cons_zero] at hcell
      exact hI.rd hE hsz 4 27 (lk) ho rfl rfl hdep (by decide) (vals_at hn1 hn2 4 rfl) (by simp [go_sem, execOp, Act.eval, x26, hcell])
    · have hl : oMe1I[5]? = some ⟨some 28, Op.move (Operand.tmp 1), _, _, _, none⟩ := rfl
      obtain rfl := oI ho hl
      have x1 := hI.old 1 (.pointer (some ⟨b, 0, none⟩)) (by decide) h1
      exact hI.rd hE hsz 5 28 (.pointer (some ⟨b, 0, none⟩)) ho rfl rfl hdep (by decide) (vals_at hn1 hn2 5 rfl) (by simp [go_sem, execOp, Act.eval, x1])
    · have hl : oMe1I[6]? = some ⟨some 29, Op.nilCheck (Operand.tmp 28), _, _, _, none⟩ := rfl
      obtain rfl := oI ho hl
      have x28 := hI.val 5 28 (.pointer (some ⟨b, 0, none⟩)) (mG (i := 5) rfl) (dK ho hdep (by kernel_rfl : waitsB oMe1I 6 5 = true))
      exact hI.rd hE hsz 6 29 (.pointer (some ⟨b, 0, none⟩)) ho rfl rfl hdep (by decide) (vals_at hn1 hn2 6 rfl) (by simp [go_sem, execOp, Act.eval, x28])
    · have hl : oMe1I[7]? = some ⟨some 30, Op.fieldAddr _ (Operand.tmp 29) 0, _, _, _, none⟩ := rfl
      obtain rfl := oI ho hl
      have x29 := hI.val 6 29 (.pointer (some ⟨b, 0, none⟩)) (mG (i := 6) rfl) (dK ho hdep (by kernel_rfl : waitsB oMe1I 7 6 = true))
      exact hI.rd hE hsz 7 30 (.pointer (some ⟨b, 0, none⟩)) ho rfl rfl hdep (by decide) (vals_at hn1 hn2 7 rfl) (by simp [go_sem, execOp, Act.eval, x29])
    · have hl : oMe1I[8]? = some ⟨some 31, Op.load _ (Operand.tmp 30), _, _, _, none⟩ := rfl
      obtain rfl := oI ho hl
      have x30 := hI.val 7 30 (.pointer (some ⟨b, 0, none⟩)) (mG (i := 7) rfl) (dK ho hdep (by kernel_rfl : waitsB oMe1I 8 7 = true))
      have hS1 := hI.eff
      have e21 : L 21 = false := hI.no hL (by kernel_rfl : waitsB oMe1I 21 8 = true)
      simp only [e21, vpick_false] at hS1
      obtain ⟨_, hp⟩ := hS1.has 4 rfl
      have hcell := (blk_get hp).1 0
      have hlt := (blk_get hp).2.2
      simp only [List.getElem?_toArray, List.getElem?_cons_zero] at hcell
      exact hI.rd hE hsz 8 31 (.slice (some ⟨gx, 0, none⟩) nx cx) ho rfl rfl hdep (by decide) (vals_at hn1 hn2 8 rfl) (by simp [go_sem, execOp, Act.eval, x30, hcell])
    · have hl : oMe1I[9]? = some ⟨some 32, Op.move (Operand.tmp 2), _, _, _, none⟩ := rfl
      obtain rfl := oI ho hl
      have x2 := hI.old 2 (.int .i64 i) (by decide) h2
      exact hI.rd hE hsz 9 32 (.int .i64 i) ho rfl rfl hdep (by decide) (vals_at hn1 hn2 9 rfl) (by simp [go_sem, execOp, Act.eval, x2])
    · have hl : oMe1I[10]? = some ⟨some 33, Op.indexAddr _ (Operand.tmp 31) (Operand.tmp 32), _, _, _, none⟩ := rfl
      obtain rfl := oI ho hl
      have x31 := hI.val 8 31 (.slice (some ⟨gx, 0, none⟩) nx cx) (mG (i := 8) rfl) (dK ho hdep (by kernel_rfl : waitsB oMe1I 10 8 = true))
      have x32 := hI.val 9 32 (.int .i64 i) (mG (i := 9) rfl) (dK ho hdep (by kernel_rfl : waitsB oMe1I 10 9 = true))
      exact hI.rd hE hsz 10 33 (.pointer (some ⟨gx, i, none⟩)) ho rfl rfl hdep (by decide) (vals_at hn1 hn2 10 rfl) (by simp [go_sem, execOp, Act.eval, x31, x32, hik])
    · have hl : oMe1I[11]? = some ⟨some 34, Op.load _ (Operand.tmp 33), _, _, _, none⟩ := rfl
      obtain rfl := oI ho hl
      have x33 := hI.val 10 33 (.pointer (some ⟨gx, i, none⟩)) (mG (i := 10) rfl) (dK ho hdep (by kernel_rfl : waitsB oMe1I 11 10 = true))
      have hS1 := hI.eff
      have e12 : L 12 = false := hI.no hL (by kernel_rfl : waitsB oMe1I 12 11 = true)
      have e13 : L 13 = false := hI.no (hI.no hL (by kernel_rfl : waitsB oMe1I 12 11 = true)) (by kernel_rfl : waitsB oMe1I 13 12 = true)
      have e21 : L 21 = false := hI.no hL (by kernel_rfl : waitsB oMe1I 21 11 = true)
      simp only [e12, e13, e21, pick_false, vpick_false] at hS1
      obtain ⟨_, hp⟩ := hS1.has 5 rfl
      obtain ⟨hcell, _, hlt, _⟩ := sl_elem hp (i) (by rw [keysI_length]; omega)
      rw [hyk] at hcell
      exact hI.rd hE hsz 11 34 (encI y.1) ho rfl rfl hdep (by decide) (vals_at hn1 hn2 11 rfl) (by simp [go_sem, execOp, Act.eval, x33, hcell])
    · have hl : oMe1I[12]? = some ⟨some 35, Op.buildSlice _ 1 #[(0, Operand.tmp 34)], _, _, _, none⟩ := rfl
      obtain rfl := oI ho hl
      have x34 := hI.val 11 34 (encI y.1) (mG (i := 11) rfl) (dK ho hdep (by kernel_rfl : waitsB oMe1I 12 11 = true))
      have hS1 := hI.eff
      have e12 : L 12 = false := hL
      have e13 : L 13 = false := hI.no hL (by kernel_rfl : waitsB oMe1I 13 12 = true)
      have e18 : L 18 = false := hI.no (hI.no hL (by kernel_rfl : waitsB oMe1I 13 12 = true)) (by kernel_rfl : waitsB oMe1I 18 13 = true)
      have e21 : L 21 = false := hI.no hL (by kernel_rfl : waitsB oMe1I 21 12 = true)
      simp only [e12, e13, e18, e21, pick_false, vpick_false] at hS1
      refine inv_value ho rfl (v := .slice (some ⟨w1.heap.size, 0, none⟩) 1 1) (w' := w1.alloc (.cells #[encI y.1] 3)) (by simp [go_sem, execOp, Act.eval, x34, encI]) (hI.put 12 35 _ ho hdep (by decide) (by intro t ht; exact vals_ne2 rfl rfl (by decide : 12 ∉ [0, 1, 2, 3, 4, 5, 6, 7, 8, 9, 10, 11, 14, 15, 16, 17, 19, 20]) (by decide : 35 ∉ [23, 24, 25, 26, 27, 28, 29, 30, 31, 32, 33, 34, 37, 38, 39, 40, 42, 43]) ht) ?_)
      have hS2 := St.box hS1 0 rfl 3 (encI y.1)
      simp only [e12, e13, e18, e21, Bool.or_false, Bool.or_true, Nat.reduceEqDiff, decide_true, decide_false, pick_true, pick_false, vpick_false, eval_put_same (by rw [h1sz]; decide : 35 < a1.tmps.size), eval_put_ne (by decide : 35 ≠ 36), eval_put_ne (by decide : 35 ≠ 41)]
      exact hS2
    · have hl : oMe1I[13]? = some ⟨some 36, Op.call ⟨Callee.builtin Builtin.append, #[Operand.tmp 27, Operand.tmp 35], _⟩, _, _, _, none⟩ := rfl
      obtain rfl := oI ho hl
      have x27 := hI.val 4 27 (lk) (mG (i := 4) rfl) (dK ho hdep (by kernel_rfl : waitsB oMe1I 13 4 = true))
      have hS1 := hI.eff
      have e12 : L 12 = true := dK ho hdep (by kernel_rfl : waitsB oMe1I 13 12 = true)
      have e13 : L 13 = false := hL
      have e18 : L 18 = false := hI.no hL (by kernel_rfl : waitsB oMe1I 18 13 = true)
      have e21 : L 21 = false := hI.no hL (by kernel_rfl : waitsB oMe1I 21 13 = true)
      simp only [e12, e13, e18, e21, pick_true, pick_false, vpick_false] at hS1
      obtain ⟨f, g, hbx, hrw, _, _, hset⟩ := hS1.two 0 1 (by decide) rfl rfl
      obtain ⟨vb, hgb, hvb, rfl⟩ := hbx
      obtain ⟨v2, w2, f2, hr2, ho2, ht2⟩ := appbI w1 _ hrw vb _ _ hvb rfl (by rw [keysI_length]; omega)
      refine inv_value ho rfl (v := v2) (w' := w2) (run_append_op (s := .tmp 27) (x := .tmp 35) (t := 22) rfl (spell_eval x27) hgb hr2) (hI.put 13 36 _ ho hdep (by decide) (by intro t ht; exact vals_ne2 rfl rfl (by decide : 13 ∉ [0, 1, 2, 3, 4, 5, 6, 7, 8, 9, 10, 11, 14, 15, 16, 17, 19, 20]) (by decide : 36 ∉ [23, 24, 25, 26, 27, 28, 29, 30, 31, 32, 33, 34, 37, 38, 39, 40, 42, 43]) ht) ?_)
      have hS2 := hset _ _ _ ho2 ht2
      simp only [e12, e13, e18, e21, Bool.or_false, Bool.or_true, Nat.reduceEqDiff, decide_true, decide_false, pick_true, pick_false, vpick_false, eval_put_same (by rw [h1sz]; decide : 36 < a1.tmps.size), eval_put_ne (by decide : 36 ≠ 35), eval_put_ne (by decide : 36 ≠ 41)]
      exact hS2
    · have hl : oMe1I[14]? = some ⟨some 37, Op.move (Operand.tmp 7), _, _, _, none⟩ := rfl
      obtain rfl := oI ho hl
      have x7 := hI.old 7 (.pointer (some ⟨rb, 0, none⟩)) (by decide) h7
      exact hI.rd hE hsz 14 37 (.pointer (some ⟨rb, 0, none⟩)) ho rfl rfl hdep (by decide) (vals_at hn1 hn2 12 rfl) (by simp [go_sem, execOp, Act.eval, x7])
    · have hl : oMe1I[15]? = some ⟨some 38, Op.nilCheck (Operand.tmp 37), _, _, _, none⟩ := rfl
      obtain rfl := oI ho hl
      have x37 := hI.val 14 37 (.pointer (some ⟨rb, 0, none⟩)) (mG (i := 12) rfl) (dK ho hdep (by kernel_rfl : waitsB oMe1I 15 14 = true))
      exact hI.rd hE hsz 15 38 (.pointer (some ⟨rb, 0, none⟩)) ho rfl rfl hdep (by decide) (vals_at hn1 hn2 13 rfl) (by simp [go_sem, execOp, Act.eval, x37])
    · have hl : oMe1I[16]? = some ⟨some 39, Op.fieldAddr _ (Operand.tmp 38) 0, _, _, _, none⟩ := rfl
      obtain rfl := oI ho hl
      have x38 := hI.val 15 38 (.pointer (some ⟨rb, 0, none⟩)) (mG (i := 13) rfl) (dK ho hdep (by kernel_rfl : waitsB oMe1I 16 15 = true))
      exact hI.rd hE hsz 16 39 (.pointer (some ⟨rb, 0, none⟩)) ho rfl rfl hdep (by decide) (vals_at hn1 hn2 14 rfl) (by simp [go_sem, execOp, Act.eval, x38])
    · have hl : oMe1I[17]? = some ⟨some 40, Op.load _ (Operand.tmp 39), _, _, _, none⟩ := rfl
      obtain rfl := oI ho hl
      have x39 := hI.val 16 39 (.pointer (some ⟨rb, 0, none⟩)) (mG (i := 14) rfl) (dK ho hdep (by kernel_rfl : waitsB oMe1I 17 16 = true))
      have hS1 := hI.eff
      have e18 : L 18 = false := hI.no hL (by kernel_rfl : waitsB oMe1I 18 17 = true)
      have e21 : L 21 = false := hI.no hL (by kernel_rfl : waitsB oMe1I 21 17 = true)
      simp only [e18, e21, pick_false, vpick_false] at hS1
      obtain ⟨_, hp⟩ := hS1.has 6 rfl
      have hcell := (blk_get hp).1 0
      have hlt := (blk_get hp).2.2
      simp only [List.getElem?_toArray, List.getElem?_cons_zero] at hcell
      exact hI.rd hE hsz 17 40 (rk) ho rfl rfl hdep (by decide) (vals_at hn1 hn2 15 rfl) (by simp [go_sem, execOp, Act.eval, x39, hcell])
    · have hl : oMe1I[18]? = some ⟨some 41, Op.call ⟨Callee.builtin Builtin.append, #[Operand.tmp 36, Operand.tmp 40], _⟩, _, _, _, none⟩ := rfl
      obtain rfl := oI ho hl
      have x40 := hI.val 17 40 (rk) (mG (i := 15) rfl) (dK ho hdep (by kernel_rfl : waitsB oMe1I 18 17 = true))
      have hS1 := hI.eff
      have e12 : L 12 = true := hI.yes (dK ho hdep (by kernel_rfl : waitsB oMe1I 18 13 = true)) (by kernel_rfl : waitsB oMe1I 13 12 = true)
      have e13 : L 13 = true := dK ho hdep (by kernel_rfl : waitsB oMe1I 18 13 = true)
      have e18 : L 18 = false := hL
      have e21 : L 21 = false := hI.no hL (by kernel_rfl : waitsB oMe1I 21 18 = true)
      simp only [e12, e13, e18, e21, pick_true, pick_false, vpick_false] at hS1
      obtain ⟨f, g, hrw, hsr, _, hset, _⟩ := hS1.two 1 2 (by decide) rfl rfl
      obtain ⟨v2, w2, f2, hr2, ho2, ht2⟩ := appsI w1 _ hrw hsr (keysI_one re) (by rw [List.length_append, keysI_length, keysI_length, List.length_singleton]; omega)
      refine inv_value ho rfl (v := v2) (w' := w2) (run_append_op (s := .tmp 36) (x := .tmp 40) (t := 22) rfl rfl (spell_eval x40) hr2) (hI.put 18 41 _ ho hdep (by decide) (by intro t ht; exact vals_ne2 rfl rfl (by decide : 18 ∉ [0, 1, 2, 3, 4, 5, 6, 7, 8, 9, 10, 11, 14, 15, 16, 17, 19, 20]) (by decide : 41 ∉ [23, 24, 25, 26, 27, 28, 29, 30, 31, 32, 33, 34, 37, 38, 39, 40, 42, 43]) ht) ?_)
      have hS2 := hset _ _ _ ho2 ht2
      simp only [e12, e13, e18, e21, Bool.or_false, Bool.or_true, Nat.reduceEqDiff, decide_true, decide_false, pick_true, vpick_false, eval_put_same (by rw [h1sz]; decide : 41 < a1.tmps.size), eval_put_ne (by decide : 41 ≠ 35), eval_put_ne (by decide : 41 ≠ 36)]
      exact hS2
    · have hl : oMe1I[19]? = some ⟨some 42, Op.nilCheck (Operand.tmp 23), _, _, _, none⟩ := rfl
      obtain rfl := oI ho hl
      have x23 := hI.val 0 23 (.pointer (some ⟨lb, 0, none⟩)) (mG (i := 0) rfl) (dK ho hdep (by kernel_rfl : waitsB oMe1I 19 0 = true))
      exact hI.rd hE hsz 19 42 (.pointer (some ⟨lb, 0, none⟩)) ho rfl rfl hdep (by decide) (vals_at hn1 hn2 16 rfl) (by simp [go_sem, execOp, Act.eval, x23])
    · have hl : oMe1I[20]? = some ⟨some 43, Op.fieldAddr _ (Operand.tmp 42) 0, _, _, _, none⟩ := rfl
      obtain rfl := oI ho hl
      have x42 := hI.val 19 42 (.pointer (some ⟨lb, 0, none⟩)) (mG (i := 16) rfl) (dK ho hdep (by kernel_rfl : waitsB oMe1I 20 19 = true))
      exact hI.rd hE hsz 20 43 (.pointer (some ⟨lb, 0, none⟩)) ho rfl rfl hdep (by decide) (vals_at hn1 hn2 17 rfl) (by simp [go_sem, execOp, Act.eval, x42])
    · have hl : oMe1I[21]? = some ⟨none, Op.store _ (Operand.tmp 43) (Operand.tmp 41), _, _, _, none⟩ := rfl
      obtain rfl := oI ho hl
      have x43 := hI.val 20 43 (.pointer (some ⟨lb, 0, none⟩)) (mG (i := 17) rfl) (dK ho hdep (by kernel_rfl : waitsB oMe1I 21 20 = true))
      have hS1 := hI.eff
      have e12 : L 12 = true := dK ho hdep (by kernel_rfl : waitsB oMe1I 21 12 = true)
      have e13 : L 13 = true := dK ho hdep (by kernel_rfl : waitsB oMe1I 21 13 = true)
      have e18 : L 18 = true := dK ho hdep (by kernel_rfl : waitsB oMe1I 21 18 = true)
      have e21 : L 21 = false := hL
      simp only [e12, e13, e18, e21, pick_true, vpick_false] at hS1
      obtain ⟨_, hpv⟩ := hS1.has 1 rfl
      obtain ⟨av, nv, cv, hv⟩ := sl_shape hpv
      have xv := eval_spell hv
      obtain ⟨f, hp, hset⟩ := hS1.get 3 rfl
      have hcell := (blk_get hp).1 0
      have hfz := (blk_get hp).2.1 0
      have hlt := (blk_get hp).2.2
      simp only [List.getElem?_toArray, List.getElem?_cons_zero] at hcell
      refine inv_stored ho rfl rfl (by simp [go_sem, execOp, Act.eval, x43, xv, hcell, hfz]; rfl) (hI.step 21 ho hdep (by intro t ht; exact vals_ne1 rfl (by decide : 21 ∉ [0, 1, 2, 3, 4, 5, 6, 7, 8, 9, 10, 11, 14, 15, 16, 17, 19, 20]) ht) ?_)
      obtain ⟨hb2, ht2⟩ := blk_set hp 0 (a1.eval (.tmp 41))
      have hS2 := hset _ _ _ hb2 ht2
      simp only [e12, e13, e18, e21, Bool.or_false, Bool.or_true, Nat.reduceEqDiff, decide_true, decide_false, pick_true, vpick_true]
      rw [hv] at hS2
      rw [hv]
      exact hS2
  · intro L a1 w1 hL hI
    have hS1 := hI.eff
    simp only [hL 12 (by rw [hsize]; decide), hL 13 (by rw [hsize]; decide), hL 18 (by rw [hsize]; decide), hL 21 (by rw [hsize]; decide), pick_true, vpick_true] at hS1
    have := hQ (fun d => a1.eval (.tmp d)) w1  hS1
    have e := hI.frame.eq
    rw [e]
    exact this
noncomputable def oMe2I : Array Oper := ((Try.f86.body).bind fun c => opsOf c 2).getD #[]
set_option maxHeartbeats 4000000 in
set_option maxRecDepth 100000 in
theorem rMe2I {Q : Exit → Act → World → Prop} {a : Act} {w w0 : World} {fp0 : List Nat} (b lb rb gx nx cx i : Nat) (xk _xv xp lk lv lp rk rv rp : Value) (xe le re : M Int Int) (y : Int × Int) (hy : xe[i]? = some y) (hik : i < nx) (hek : nx = xe.length) (hlen : le.length + 1 + re.length < 1099511627776) (R : List Asn) (ops : Array Oper) (hops : ops = oMe2I) (hsz : a.tmps.size = 111) (h1 : a.eval (.tmp 1) = .pointer (some ⟨b, 0, none⟩)) (h2 : a.eval (.tmp 2) = .int .i64 i) (h6 : a.eval (.tmp 6) = .pointer (some ⟨lb, 0, none⟩)) (h7 : a.eval (.tmp 7) = .pointer (some ⟨rb, 0, none⟩))
    (hS : St w0 fp0 ([pick false (boxA 3 (a.eval (.tmp 56)) (valI y.2)) emp, pick false (slA 3 (a.eval (.tmp 62)) ((valsI le ++ [valI y.2]) ++ valsI re)) (pick false (slA 3 (a.eval (.tmp 57)) (valsI le ++ [valI y.2])) (slA 3 lv (valsI le))), slA 3 rv (valsI re), blkA lb 70 #[lk, vpick false (a.eval (.tmp 62)) lv, lp], blkA b 70 #[xk, .slice (some ⟨gx, 0, none⟩) nx cx, xp], slA 3 (.slice (some ⟨gx, 0, none⟩) nx cx) (valsI xe), blkA rb 70 #[rk, rv, rp]] ++ R) w)
    (hQ : ∀ (u : Nat → Value) w1, St w0 fp0 ([pick true (boxA 3 (u 56) (valI y.2)) emp, pick true (slA 3 (u 62) ((valsI le ++ [valI y.2]) ++ valsI re)) (pick true (slA 3 (u 57) (valsI le ++ [valI y.2])) (slA 3 lv (valsI le))), slA 3 rv (valsI re), blkA lb 70 #[lk, vpick true (u 62) lv, lp], blkA b 70 #[xk, .slice (some ⟨gx, 0, none⟩) nx cx, xp], slA 3 (.slice (some ⟨gx, 0, none⟩) nx cx) (valsI xe), blkA rb 70 #[rk, rv, rp]] ++ R) w1 → Q .normal (putL a (([44, 45, 46, 47, 48, 49, 50, 51, 52, 53, 54, 55, 56, 57, 58, 59, 60, 61, 62, 63, 64] : List Nat).map fun d => (d, u d))) w1) : (Code.region 2 ops true).wp Try.prog Q a w := by
  subst hops
  have hyv : ∀ h, (valsI xe)[i]'h = valI y.2 := by intro h; simp only [valsI, List.getElem_map]; rw [(List.getElem?_eq_some_iff.1 hy).2]
  have hsize : oMe2I.size = 22 := by kernel_rfl
  have hE : Looks (fun L g w => St w0 fp0 ([pick (L 12) (boxA 3 (g 56) (valI y.2)) emp, pick (L 18) (slA 3 (g 62) ((valsI le ++ [valI y.2]) ++ valsI re)) (pick (L 13) (slA 3 (g 57) (valsI le ++ [valI y.2])) (slA 3 lv (valsI le))), slA 3 rv (valsI re), blkA lb 70 #[lk, vpick (L 21) (g 62) lv, lp], blkA b 70 #[xk, .slice (some ⟨gx, 0, none⟩) nx cx, xp], slA 3 (.slice (some ⟨gx, 0, none⟩) nx cx) (valsI xe), blkA rb 70 #[rk, rv, rp]] ++ R) w) [12, 13, 18, 21] [56, 57, 62] := by
    intro L L' g g' w hL hg h
    simpa only [← hL 12 (by decide), ← hL 13 (by decide), ← hL 18 (by decide), ← hL 21 (by decide), ← hg 56 (by decide), ← hg 57 (by decide), ← hg 62 (by decide)] using h
  have hn1 : (([(0, 44, .pointer (some ⟨lb, 0, none⟩)), (1, 45, .pointer (some ⟨lb, 0, none⟩)), (2, 46, .pointer (some ⟨lb, 0, none⟩)), (3, 47, .pointer (some ⟨lb, 1, none⟩)), (4, 48, lv), (5, 49, .pointer (some ⟨b, 0, none⟩)), (6, 50, .pointer (some ⟨b, 0, none⟩)), (7, 51, .pointer (some ⟨b, 1, none⟩)), (8, 52, .slice (some ⟨gx, 0, none⟩) nx cx), (9, 53, .int .i64 i), (10, 54, .pointer (some ⟨gx, i, none⟩)), (11, 55, valI y.2), (14, 58, .pointer (some ⟨rb, 0, none⟩)), (15, 59, .pointer (some ⟨rb, 0, none⟩)), (16, 60, .pointer (some ⟨rb, 1, none⟩)), (17, 61, rv), (19, 63, .pointer (some ⟨lb, 0, none⟩)), (20, 64, .pointer (some ⟨lb, 1, none⟩))] : List (Nat × Nat × Value)).map (·.1)).Nodup := by
    show List.Nodup [0, 1, 2, 3, 4, 5, 6, 7, 8, 9, 10, 11, 14, 15, 16, 17, 19, 20]
    decide
  have hn2 : (([(0, 44, .pointer (some ⟨lb, 0, none⟩)), (1, 45, .pointer (some ⟨lb, 0, none⟩)), (2, 46, .pointer (some ⟨lb, 0, none⟩)), (3, 47, .pointer (some ⟨lb, 1, none⟩)), (4, 48, lv), (5, 49, .pointer (some ⟨b, 0, none⟩)), (6, 50, .pointer (some ⟨b, 0, none⟩)), (7, 51, .pointer (some ⟨b, 1, none⟩)), (8, 52, .slice (some ⟨gx, 0, none⟩) nx cx), (9, 53, .int .i64 i), (10, 54, .pointer (some ⟨gx, i, none⟩)), (11, 55, valI y.2), (14, 58, .pointer (some ⟨rb, 0, none⟩)), (15, 59, .pointer (some ⟨rb, 0, none⟩)), (16, 60, .pointer (some ⟨rb, 1, none⟩)), (17, 61, rv), (19, 63, .pointer (some ⟨lb, 0, none⟩)), (20, 64, .pointer (some ⟨lb, 1, none⟩))] : List (Nat × Nat × Value)).map (·.2.1)).Nodup := by
    show List.Nodup [44, 45, 46, 47, 48, 49, 50, 51, 52, 53, 54, 55, 58, 59, 60, 61, 63, 64]
    decide
  refine wp_region_vals (ops' := oMe2I) [44, 45, 46, 47, 48, 49, 50, 51, 52, 53, 54, 55, 56, 57, 58, 59, 60, 61, 62, 63, 64] [(0, 44, .pointer (some ⟨lb, 0, none⟩)), (1, 45, .pointer (some ⟨lb, 0, none⟩)), (2, 46, .pointer (some ⟨lb, 0, none⟩)), (3, 47, .pointer (some ⟨lb, 1, none⟩)), (4, 48, lv), (5, 49, .pointer (some ⟨b, 0, none⟩)), (6, 50, .pointer (some ⟨b, 0, none⟩)), (7, 51, .pointer (some ⟨b, 1, none⟩)), (8, 52, .slice (some ⟨gx, 0, none⟩) nx cx), (9, 53, .int .i64 i), (10, 54, .pointer (some ⟨gx, i, none⟩)), (11, 55, valI y.2), (14, 58, .pointer (some ⟨rb, 0, none⟩)), (15, 59, .pointer (some ⟨rb, 0, none⟩)), (16, 60, .pointer (some ⟨rb, 1, none⟩)), (17, 61, rv), (19, 63, .pointer (some ⟨lb, 0, none⟩)), (20, 64, .pointer (some ⟨lb, 1, none⟩))] (fun L g w => St w0 fp0 ([pick (L 12) (boxA 3 (g 56) (valI y.2)) emp, pick (L 18) (slA 3 (g 62) ((valsI le ++ [valI y.2]) ++ valsI re)) (pick (L 13) (slA 3 (g 57) (valsI le ++ [valI y.2])) (slA 3 lv (valsI le))), slA 3 rv (valsI re), blkA lb 70 #[lk, vpick (L 21) (g 62) lv, lp], blkA b 70 #[xk, .slice (some ⟨gx, 0, none⟩) nx cx, xp], slA 3 (.slice (some ⟨gx, 0, none⟩) nx cx) (valsI xe), blkA rb 70 #[rk, rv, rp]] ++ R) w) rfl (by kernel_rfl) (by kernel_rfl) (hS.mono (below_drew w)) ?_ ?_
  · intro oi o L a1 w1 ho hL hdep hI
    have hoi : oi < 22 := by have := (Array.getElem?_eq_some_iff.1 ho).1; omega
    have h1sz : a1.tmps.size = 111 := hI.frame.size.trans hsz
    rcases (by omega : oi = 0 ∨ oi = 1 ∨ oi = 2 ∨ oi = 3 ∨ oi = 4 ∨ oi = 5 ∨ oi = 6 ∨ oi = 7 ∨ oi = 8 ∨ oi = 9 ∨ oi = 10 ∨ oi = 11 ∨ oi = 12 ∨ oi = 13 ∨ oi = 14 ∨ oi = 15 ∨ oi = 16 ∨ oi = 17 ∨ oi = 18 ∨ oi = 19 ∨ oi = 20 ∨ oi = 21) with rfl | rfl | rfl | rfl | rfl | rfl | rfl | rfl | rfl | rfl | rfl | rfl | rfl | rfl | rfl | rfl | rfl | rfl | rfl | rfl | rfl | rfl
    · have hl : oMe2I[0]? = some ⟨some 44, Op.move (Operand.tmp 6), _, _, _, none⟩ := rfl
      obtain rfl := oI ho hl
      have x6 := hI.old 6 (.pointer (some ⟨lb, 0, none⟩)) (by decide) h6
      exact hI.rd hE hsz 0 44 (.pointer (some ⟨lb, 0, none⟩)) ho rfl rfl hdep (by decide) (vals_at hn1 hn2 0 rfl) (by simp [go_sem, execOp, Act.eval, x6])
    · have hl : oMe2I[1]? = some ⟨some 45, Op.move (Operand.tmp 6), _, _, _, none⟩ := rfl
      obtain rfl := oI ho hl
      have x6 := hI.old 6 (.pointer (some ⟨lb, 0, none⟩)) (by decide) h6
      exact hI.rd hE hsz 1 45 (.pointer (some ⟨lb, 0, none⟩)) ho rfl rfl hdep (by decide) (vals_at hn1 hn2 1 rfl) (by simp [go_sem, execOp, Act.eval, x6])
    · have hl : oMe2I[2]? = some ⟨some 46, Op.nilCheck (Operand.tmp 45), _, _, _, none⟩ := rfl
      obtain rfl := oI ho hl
      have x45 := hI.val 1 45 (.pointer (some ⟨lb, 0, none⟩)) (mG (i := 1) rfl) (dK ho hdep (by kernel_rfl : waitsB oMe2I 2 1 = true))
      exact hI.rd hE hsz 2 46 (.pointer (some ⟨lb, 0, none⟩)) ho rfl rfl hdep (by decide) (vals_at hn1 hn2 2 rfl) (by simp [go_sem, execOp, Act.eval, x45])
    · have hl : oMe2I[3]? = some ⟨some 47, Op.fieldAddr _ (Operand.tmp 46) 1, _, _, _, none⟩ := rfl
      obtain rfl := oI ho hl
      have x46 := hI.val 2 46 (.pointer (some ⟨lb, 0, none⟩)) (mG (i := 2) rfl) (dK ho hdep (by kernel_rfl : waitsB oMe2I 3 2 = true))
      exact hI.rd hE hsz 3 47 (.pointer (some ⟨lb, 1, none⟩)) ho rfl rfl hdep (by decide) (vals_at hn1 hn2 3 rfl) (by simp [go_sem, execOp, Act.eval, x46])
    · have hl : oMe2I[4]? = some ⟨some 48, Op.load _ (Operand.tmp 47), _, _, _, none⟩ := rfl
      obtain rfl := oI ho hl
      have x47 := hI.val 3 47 (.pointer (some ⟨lb, 1, none⟩)) (mG (i := 3) rfl) (dK ho hdep (by kernel_rfl : waitsB oMe2I 4 3 = true))
      have hS1 := hI.eff
      have e13 : L 13 = false := hI.no hL (by kernel_rfl : waitsB oMe2I 13 4 = true)
      have e18 : L 18 = false := hI.no (hI.no hL (by kernel_rfl : waitsB oMe2I 13 4 = true)) (by kernel_rfl : waitsB oMe2I 18 13 = true)
      have e21 : L 21 = false := hI.no hL (by kernel_rfl : waitsB oMe2I 21 4 = true)
      simp only [e13, e18, e21, pick_false, vpick_false] at hS1
      obtain ⟨_, hp⟩ := hS1.has 3 rfl
      have hcell := (blk_get hp).1 1
      have hlt := (blk_get hp).2.2
      simp only [List.getElem?_toArray, List.getElem?_cons_zero, List.getElem?_cons_succ] at hcell
      exact hI.rd hE hsz 4 48 (lv) ho rfl rfl hdep (by decide) (vals_at hn1 hn2 4 rfl) (by simp [go_sem, execOp, Act.eval, x47, hcell])
    · have hl : oMe2I[5]? = some ⟨some 49, Op.move (Operand.tmp 1), _, _, _, none⟩ := rfl
      obtain rfl := oI ho hl
      have x1 := hI.old 1 (.pointer (some ⟨b, 0, none⟩)) (by decide) h1
      exact hI.rd hE hsz 5 49 (.pointer (some ⟨b, 0, none⟩)) ho rfl rfl hdep (by decide) (vals_at hn1 hn2 5 rfl) (by simp [go_sem, execOp, Act.eval, x1])
    · have hl : oMe2I[6]? = some ⟨some 50, Op.nilCheck (Operand.tmp 49), _, _, _, none⟩ := rfl
      obtain rfl := oI ho hl
      have x49 := hI.val 5 49 (.pointer (some ⟨b, 0, none⟩)) (mG (i := 5) rfl) (dK ho hdep (by kernel_rfl : waitsB oMe2I 6 5 = true))
      exact hI.rd hE hsz 6 50 (.pointer (some ⟨b, 0, none⟩)) ho rfl rfl hdep (by decide) (vals_at hn1 hn2 6 rfl) (by simp [go_sem, execOp, Act.eval, x49])
    · have hl : oMe2I[7]? = some ⟨some 51, Op.fieldAddr _ (Operand.tmp 50) 1, _, _, _, none⟩ := rfl
      obtain rfl := oI ho hl
      have x50 := hI.val 6 50 (.pointer (some ⟨b, 0, none⟩)) (mG (i := 6) rfl) (dK ho hdep (by kernel_rfl : waitsB oMe2I 7 6 = true))
      exact hI.rd hE hsz 7 51 (.pointer (some ⟨b, 1, none⟩)) ho rfl rfl hdep (by decide) (vals_at hn1 hn2 7 rfl) (by simp [go_sem, execOp, Act.eval, x50])
    · have hl : oMe2I[8]? = some ⟨some 52, Op.load _ (Operand.tmp 51), _, _, _, none⟩ := rfl
      obtain rfl := oI ho hl
      have x51 := hI.val 7 51 (.pointer (some ⟨b, 1, none⟩)) (mG (i := 7) rfl) (dK ho hdep (by kernel_rfl : waitsB oMe2I 8 7 = true))
      have hS1 := hI.eff
      have e21 : L 21 = false := hI.no hL (by kernel_rfl : waitsB oMe2I 21 8 = true)
      simp only [e21, vpick_false] at hS1
      obtain ⟨_, hp⟩ := hS1.has 4 rfl
      have hcell := (blk_get hp).1 1
      have hlt := (blk_get hp).2.2
      simp only [List.getElem?_toArray, List.getElem?_cons_zero, List.getElem?_cons_succ] at hcell
      exact hI.rd hE hsz 8 52 (.slice (some ⟨gx, 0, none⟩) nx cx) ho rfl rfl hdep (by decide) (vals_at hn1 hn2 8 rfl) (by simp [go_sem, execOp, Act.eval, x51, hcell])
    · have hl : oMe2I[9]? = some ⟨some 53, Op.move (Operand.tmp 2), _, _, _, none⟩ := rfl
      obtain rfl := oI ho hl
      have x2 := hI.old 2 (.int .i64 i) (by decide) h2
      exact hI.rd hE hsz 9 53 (.int .i64 i) ho rfl rfl hdep (by decide) (vals_at hn1 hn2 9 rfl) (by simp [go_sem, execOp, Act.eval, x2])
    · have hl : oMe2I[10]? = some ⟨some 54, Op.indexAddr _ (Operand.tmp 52) (Operand.tmp 53), _, _, _, none⟩ := rfl
      obtain rfl := oI ho hl
      have x52 := hI.val 8 52 (.slice (some ⟨gx, 0, none⟩) nx cx) (mG (i := 8) rfl) (dK ho hdep (by kernel_rfl : waitsB oMe2I 10 8 = true))
      have x53 := hI.val 9 53 (.int .i64 i) (mG (i := 9) rfl) (dK ho hdep (by kernel_rfl : waitsB oMe2I 10 9 = true))
      exact hI.rd hE hsz 10 54 (.pointer (some ⟨gx, i, none⟩)) ho rfl rfl hdep (by decide) (vals_at hn1 hn2 10 rfl) (by simp [go_sem, execOp, Act.eval, x52, x53, hik])
    · have hl : oMe2I[11]? = some ⟨some 55, Op.load _ (Operand.tmp 54), _, _, _, none⟩ := rfl
      obtain rfl := oI ho hl
      have x54 := hI.val 10 54 (.pointer (some ⟨gx, i, none⟩)) (mG (i := 10) rfl) (dK ho hdep (by kernel_rfl : waitsB oMe2I 11 10 = true))
      have hS1 := hI.eff
      have e12 : L 12 = false := hI.no hL (by kernel_rfl : waitsB oMe2I 12 11 = true)
      have e13 : L 13 = false := hI.no (hI.no hL (by kernel_rfl : waitsB oMe2I 12 11 = true)) (by kernel_rfl : waitsB oMe2I 13 12 = true)
      have e21 : L 21 = false := hI.no hL (by kernel_rfl : waitsB oMe2I 21 11 = true)
      simp only [e12, e13, e21, pick_false, vpick_false] at hS1
      obtain ⟨_, hp⟩ := hS1.has 5 rfl
      obtain ⟨hcell, _, hlt, _⟩ := sl_elem hp (i) (by rw [valsI_length]; omega)
      rw [hyv] at hcell
      exact hI.rd hE hsz 11 55 (valI y.2) ho rfl rfl hdep (by decide) (vals_at hn1 hn2 11 rfl) (by simp [go_sem, execOp, Act.eval, x54, hcell])
    · have hl : oMe2I[12]? = some ⟨some 56, Op.buildSlice _ 1 #[(0, Operand.tmp 55)], _, _, _, none⟩ := rfl
      obtain rfl := oI ho hl
      have x55 := hI.val 11 55 (valI y.2) (mG (i := 11) rfl) (dK ho hdep (by kernel_rfl : waitsB oMe2I 12 11 = true))
      have hS1 := hI.eff
      have e12 : L 12 = false := hL
      have e13 : L 13 = false := hI.no hL (by kernel_rfl : waitsB oMe2I 13 12 = true)
      have e18 : L 18 = false := hI.no (hI.no hL (by kernel_rfl : waitsB oMe2I 13 12 = true)) (by kernel_rfl : waitsB oMe2I 18 13 = true)
      have e21 : L 21 = false := hI.no hL (by kernel_rfl : waitsB oMe2I 21 12 = true)
      simp only [e12, e13, e18, e21, pick_false, vpick_false] at hS1
      refine inv_value ho rfl (v := .slice (some ⟨w1.heap.size, 0, none⟩) 1 1) (w' := w1.alloc (.cells #[valI y.2] 3)) (by simp [go_sem, execOp, Act.eval, x55, valI]) (hI.put 12 56 _ ho hdep (by decide) (by intro t ht; exact vals_ne2 rfl rfl (by decide : 12 ∉ [0, 1, 2, 3, 4, 5, 6, 7, 8, 9, 10, 11, 14, 15, 16, 17, 19, 20]) (by decide : 56 ∉ [44, 45, 46, 47, 48, 49, 50, 51, 52, 53, 54, 55, 58, 59, 60, 61, 63, 64]) ht) ?_)
      have hS2 := St.box hS1 0 rfl 3 (valI y.2)
      simp only [e12, e13, e18, e21, Bool.or_false, Bool.or_true, Nat.reduceEqDiff, decide_true, decide_false, pick_true, pick_false, vpick_false, eval_put_same (by rw [h1sz]; decide : 56 < a1.tmps.size), eval_put_ne (by decide : 56 ≠ 57), eval_put_ne (by decide : 56 ≠ 62)]
      exact hS2
    · have hl : oMe2I[13]? = some ⟨some 57, Op.call ⟨Callee.builtin Builtin.append, #[Operand.tmp 48, Operand.tmp 56], _⟩, _, _, _, none⟩ := rfl
      obtain rfl := oI ho hl
      have x48 := hI.val 4 48 (lv) (mG (i := 4) rfl) (dK ho hdep (by kernel_rfl : waitsB oMe2I 13 4 = true))
      have hS1 := hI.eff
      have e12 : L 12 = true := dK ho hdep (by kernel_rfl : waitsB oMe2I 13 12 = true)
      have e13 : L 13 = false := hL
      have e18 : L 18 = false := hI.no hL (by kernel_rfl : waitsB oMe2I 18 13 = true)
      have e21 : L 21 = false := hI.no hL (by kernel_rfl : waitsB oMe2I 21 13 = true)
      simp only [e12, e13, e18, e21, pick_true, pick_false, vpick_false] at hS1
      obtain ⟨f, g, hbx, hrw, _, _, hset⟩ := hS1.two 0 1 (by decide) rfl rfl
      obtain ⟨vb, hgb, hvb, rfl⟩ := hbx
      obtain ⟨v2, w2, f2, hr2, ho2, ht2⟩ := appbI w1 _ hrw vb _ _ hvb rfl (by rw [valsI_length]; omega)
      refine inv_value ho rfl (v := v2) (w' := w2) (run_append_op (s := .tmp 48) (x := .tmp 56) (t := 22) rfl (spell_eval x48) hgb hr2) (hI.put 13 57 _ ho hdep (by decide) (by intro t ht; exact vals_ne2 rfl rfl (by decide : 13 ∉ [0, 1, 2, 3, 4, 5, 6, 7, 8, 9, 10, 11, 14, 15, 16, 17, 19, 20]) (by decide : 57 ∉ [44, 45, 46, 47, 48, 49, 50, 51, 52, 53, 54, 55, 58, 59, 60, 61, 63, 64]) ht) ?_)
      have hS2 := hset _ _ _ ho2 ht2
      simp only [e12, e13, e18, e21, Bool.or_false, Bool.or_true, Nat.reduceEqDiff, decide_true, decide_false, pick_true, pick_false, vpick_false, eval_put_same (by rw [h1sz]; decide : 57 < a1.tmps.size), eval_put_ne (by decide : 57 ≠ 56), eval_put_ne (by decide : 57 ≠ 62)]
      exact hS2
    · have hl : oMe2I[14]? = some ⟨some 58, Op.move (Operand.tmp 7), _, _, _, none⟩ := rfl
      obtain rfl := oI ho hl
      have x7 := hI.old 7 (.pointer (some ⟨rb, 0, none⟩)) (by decide) h7
      exact hI.rd hE hsz 14 58 (.pointer (some ⟨rb, 0, none⟩)) ho rfl rfl hdep (by decide) (vals_at hn1 hn2 12 rfl) (by simp [go_sem, execOp, Act.eval, x7])
    · have hl : oMe2I[15]? = some ⟨some 59, Op.nilCheck (Operand.tmp 58), _, _, _, none⟩ := rfl
      obtain rfl := oI ho hl
      have x58 := hI.val 14 58 (.pointer (some ⟨rb, 0, none⟩)) (mG (i := 12) rfl) (dK ho hdep (by kernel_rfl : waitsB oMe2I 15 14 = true))
      exact hI.rd hE hsz 15 59 (.pointer (some ⟨rb, 0, none⟩)) ho rfl rfl hdep (by decide) (vals_at hn1 hn2 13 rfl) (by simp [go_sem, execOp, Act.eval, x58])
    · have hl : oMe2I[16]? = some ⟨some 60, Op.fieldAddr _ (Operand.tmp 59) 1, _, _, _, none⟩ := rfl
      obtain rfl := oI ho hl
      have x59 := hI.val 15 59 (.pointer (some ⟨rb, 0, none⟩)) (mG (i := 13) rfl) (dK ho hdep (by kernel_rfl : waitsB oMe2I 16 15 = true))
      exact hI.rd hE hsz 16 60 (.pointer (some ⟨rb, 1, none⟩)) ho rfl rfl hdep (by decide) (vals_at hn1 hn2 14 rfl) (by simp [go_sem, execOp, Act.eval, x59])
    · have hl : oMe2I[17]? = some ⟨some 61, Op.load _ (Operand.tmp 60), _, _, _, none⟩ := rfl
      obtain rfl := oI ho hl
      have x60 := hI.val 16 60 (.pointer (some ⟨rb, 1, none⟩)) (mG (i := 14) rfl) (dK ho hdep (by kernel_rfl : waitsB oMe2I 17 16 = true))
      have hS1 := hI.eff
      have e18 : L 18 = false := hI.no hL (by kernel_rfl : waitsB oMe2I 18 17 = true)
      have e21 : L 21 = false := hI.no hL (by kernel_rfl : waitsB oMe2I 21 17 = true)
      simp only [e18, e21, pick_false, vpick_false] at hS1
      obtain ⟨_, hp⟩ := hS1.has 6 rfl
      have hcell := (blk_get hp).1 1
      have hlt := (blk_get hp).2.2
      simp only [List.getElem?_toArray, List.getElem?_cons_zero, List.getElem?_cons_succ] at hcell
      exact hI.rd hE hsz 17 61 (rv) ho rfl rfl hdep (by decide) (vals_at hn1 hn2 15 rfl) (by simp [go_sem, execOp, Act.eval, x60, hcell])
    · have hl : oMe2I[18]? = some ⟨some 62, Op.call ⟨Callee.builtin Builtin.append, #[Operand.tmp 57, Operand.tmp 61], _⟩, _, _, _, none⟩ := rfl
      obtain rfl := oI ho hl
      have x61 := hI.val 17 61 (rv) (mG (i := 15) rfl) (dK ho hdep (by kernel_rfl : waitsB oMe2I 18 17 = true))
      have hS1 := hI.eff
      have e12 : L 12 = true := hI.yes (dK ho hdep (by kernel_rfl : waitsB oMe2I 18 13 = true)) (by kernel_rfl : waitsB oMe2I 13 12 = true)
      have e13 : L 13 = true := dK ho hdep (by kernel_rfl : waitsB oMe2I 18 13 = true)
      have e18 : L 18 = false := hL
      have e21 : L 21 = false := hI.no hL (by kernel_rfl : waitsB oMe2I 21 18 = true)
      simp only [e12, e13, e18, e21, pick_true, pick_false, vpick_false] at hS1
      obtain ⟨f, g, hrw, hsr, _, hset, _⟩ := hS1.two 1 2 (by decide) rfl rfl
      obtain ⟨v2, w2, f2, hr2, ho2, ht2⟩ := appsI w1 _ hrw hsr (valsI_one re) (by rw [List.length_append, valsI_length, valsI_length, List.length_singleton]; omega)
      refine inv_value ho rfl (v := v2) (w' := w2) (run_append_op (s := .tmp 57) (x := .tmp 61) (t := 22) rfl rfl (spell_eval x61) hr2) (hI.put 18 62 _ ho hdep (by decide) (by intro t ht; exact vals_ne2 rfl rfl (by decide : 18 ∉ [0, 1, 2, 3, 4, 5, 6, 7, 8, 9, 10, 11, 14, 15, 16, 17, 19, 20]) (by decide : 62 ∉ [44, 45, 46, 47, 48, 49, 50, 51, 52, 53, 54, 55, 58, 59, 60, 61, 63, 64]) ht) ?_)
      have hS2 := hset _ _ _ ho2 ht2
      simp only [e12, e13, e18, e21, Bool.or_false, Bool.or_true, Nat.reduceEqDiff, decide_true, decide_false, pick_true, vpick_false, eval_put_same (by rw [h1sz]; decide : 62 < a1.tmps.size), eval_put_ne (by decide : 62 ≠ 56), eval_put_ne (by decide : 62 ≠ 57)]
      exact hS2
    · have hl : oMe2I[19]? = some ⟨some 63, Op.nilCheck (Operand.tmp 44), _, _, _, none⟩ := rfl
      obtain rfl := oI ho hl
      have x44 := hI.val 0 44 (.pointer (some ⟨lb, 0, none⟩)) (mG (i := 0) rfl) (dK ho hdep (by kernel_rfl : waitsB oMe2I 19 0 = true))
      exact hI.rd hE hsz 19 63 (.pointer (some ⟨lb, 0, none⟩)) ho rfl rfl hdep (by decide) (vals_at hn1 hn2 16 rfl) (by simp [go_sem, execOp, Act.eval, x44])
    · have hl : oMe2I[20]? = some ⟨some 64, Op.fieldAddr _ (Operand.tmp 63) 1, _, _, _, none⟩ := rfl
      obtain rfl := oI ho hl
      have x63 := hI.val 19 63 (.pointer (some ⟨lb, 0, none⟩)) (mG (i := 16) rfl) (dK ho hdep (by kernel_rfl : waitsB oMe2I 20 19 = true))
      exact hI.rd hE hsz 20 64 (.pointer (some ⟨lb, 1, none⟩)) ho rfl rfl hdep (by decide) (vals_at hn1 hn2 17 rfl) (by simp [go_sem, execOp, Act.eval, x63])
    · have hl : oMe2I[21]? = some ⟨none, Op.store _ (Operand.tmp 64) (Operand.tmp 62), _, _, _, none⟩ := rfl
      obtain rfl := oI ho hl
      have x64 := hI.val 20 64 (.pointer (some ⟨lb, 1, none⟩)) (mG (i := 17) rfl) (dK ho hdep (by kernel_rfl : waitsB oMe2I 21 20 = true))
      have hS1 := hI.eff
      have e12 : L 12 = true := dK ho hdep (by kernel_rfl : waitsB oMe2I 21 12 = true)
      have e13 : L 13 = true := dK ho hdep (by kernel_rfl : waitsB oMe2I 21 13 = true)
      have e18 : L 18 = true := dK ho hdep (by kernel_rfl : waitsB oMe2I 21 18 = true)
      have e21 : L 21 = false := hL
      simp only [e12, e13, e18, e21, pick_true, vpick_false] at hS1
      obtain ⟨_, hpv⟩ := hS1.has 1 rfl
      obtain ⟨av, nv, cv, hv⟩ := sl_shape hpv
      have xv := eval_spell hv
      obtain ⟨f, hp, hset⟩ := hS1.get 3 rfl
      have hcell := (blk_get hp).1 1
      have hfz := (blk_get hp).2.1 1
      have hlt := (blk_get hp).2.2
      simp only [List.getElem?_toArray, List.getElem?_cons_zero, List.getElem?_cons_succ] at hcell
      refine inv_stored ho rfl rfl (by simp [go_sem, execOp, Act.eval, x64, xv, hcell, hfz]; rfl) (hI.step 21 ho hdep (by intro t ht; exact vals_ne1 rfl (by decide : 21 ∉ [0, 1, 2, 3, 4, 5, 6, 7, 8, 9, 10, 11, 14, 15, 16, 17, 19, 20]) ht) ?_)
      obtain ⟨hb2, ht2⟩ := blk_set hp 1 (a1.eval (.tmp 62))
      have hS2 := hset _ _ _ hb2 ht2
      simp only [e12, e13, e18, e21, Bool.or_false, Bool.or_true, Nat.reduceEqDiff, decide_true, decide_false, pick_true, vpick_true]
      rw [hv] at hS2
      rw [hv]
      exact hS2
  · intro L a1 w1 hL hI
    have hS1 := hI.eff
    simp only [hL 12 (by rw [hsize]; decide), hL 13 (by rw [hsize]; decide), hL 18 (by rw [hsize]; decide), hL 21 (by rw [hsize]; decide), pick_true, vpick_true] at hS1
    have := hQ (fun d => a1.eval (.tmp d)) w1  hS1
    have e := hI.frame.eq
    rw [e]
    exact this
noncomputable def oMe3I : Array Oper := ((Try.f86.body).bind fun c => opsOf c 3).getD #[]
set_option maxHeartbeats 4000000 in
set_option maxRecDepth 100000 in
theorem rMe3I {Q : Exit → Act → World → Prop} {a : Act} {w w0 : World} {fp0 : List Nat} (lb rb : Nat) (lk lv lp rk rv rp : Value) (A B : List Nat) (hlen : A.length + B.length < 1099511627776) (R : List Asn) (ops : Array Oper) (hops : ops = oMe3I) (hsz : a.tmps.size = 111) (h6 : a.eval (.tmp 6) = .pointer (some ⟨lb, 0, none⟩)) (h7 : a.eval (.tmp 7) = .pointer (some ⟨rb, 0, none⟩))
    (hS : St w0 fp0 ([pick false (slA 67 (a.eval (.tmp 74)) (A.map ptrI ++ B.map ptrI)) (slA 67 lp (A.map ptrI)), slA 67 rp (B.map ptrI), blkA lb 70 #[lk, lv, vpick false (a.eval (.tmp 74)) lp], blkA rb 70 #[rk, rv, rp]] ++ R) w)
    (hQ : ∀ (u : Nat → Value) w1, St w0 fp0 ([pick true (slA 67 (u 74) (A.map ptrI ++ B.map ptrI)) (slA 67 lp (A.map ptrI)), slA 67 rp (B.map ptrI), blkA lb 70 #[lk, lv, vpick true (u 74) lp], blkA rb 70 #[rk, rv, rp]] ++ R) w1 → Q .normal (putL a (([65, 66, 67, 68, 69, 70, 71, 72, 73, 74, 75, 76] : List Nat).map fun d => (d, u d))) w1) : (Code.region 3 ops true).wp Try.prog Q a w := by
  subst hops
  have hsize : oMe3I.size = 13 := by kernel_rfl
  have hE : Looks (fun L g w => St w0 fp0 ([pick (L 9) (slA 67 (g 74) (A.map ptrI ++ B.map ptrI)) (slA 67 lp (A.map ptrI)), slA 67 rp (B.map ptrI), blkA lb 70 #[lk, lv, vpick (L 12) (g 74) lp], blkA rb 70 #[rk, rv, rp]] ++ R) w) [9, 12] [74] := by
    intro L L' g g' w hL hg h
    simpa only [← hL 9 (by decide), ← hL 12 (by decide), ← hg 74 (by decide)] using h
  have hn1 : (([(0, 65, .pointer (some ⟨lb, 0, none⟩)), (1, 66, .pointer (some ⟨lb, 0, none⟩)), (2, 67, .pointer (some ⟨lb, 0, none⟩)), (3, 68, .pointer (some ⟨lb, 2, none⟩)), (4, 69, lp), (5, 70, .pointer (some ⟨rb, 0, none⟩)), (6, 71, .pointer (some ⟨rb, 0, none⟩)), (7, 72, .pointer (some ⟨rb, 2, none⟩)), (8, 73, rp), (10, 75, .pointer (some ⟨lb, 0, none⟩)), (11, 76, .pointer (some ⟨lb, 2, none⟩))] : List (Nat × Nat × Value)).map (·.1)).Nodup := by
    show List.Nodup [0, 1, 2, 3, 4, 5, 6, 7, 8, 10, 11]
    decide
  have hn2 : (([(0, 65, .pointer (some ⟨lb, 0, none⟩)), (1, 66, .pointer (some ⟨lb, 0, none⟩)), (2, 67, .pointer (some ⟨lb, 0, none⟩)), (3, 68, .pointer (some ⟨lb, 2, none⟩)), (4, 69, lp), (5, 70, .pointer (some ⟨rb, 0, none⟩)), (6, 71, .pointer (some ⟨rb, 0, none⟩)), (7, 72, .pointer (some ⟨rb, 2, none⟩)), (8, 73, rp), (10, 75, .pointer (some ⟨lb, 0, none⟩)), (11, 76, .pointer (some ⟨lb, 2, none⟩))] : List (Nat × Nat × Value)).map (·.2.1)).Nodup := by
    show List.Nodup [65, 66, 67, 68, 69, 70, 71, 72, 73, 75, 76]
    decide
  refine wp_region_vals (ops' := oMe3I) [65, 66, 67, 68, 69, 70, 71, 72, 73, 74, 75, 76] [(0, 65, .pointer (some ⟨lb, 0, none⟩)), (1, 66, .pointer (some ⟨lb, 0, none⟩)), (2, 67, .pointer (some ⟨lb, 0, none⟩)), (3, 68, .pointer (some ⟨lb, 2, none⟩)), (4, 69, lp), (5, 70, .pointer (some ⟨rb, 0, none⟩)), (6, 71, .pointer (some ⟨rb, 0, none⟩)), (7, 72, .pointer (some ⟨rb, 2, none⟩)), (8, 73, rp), (10, 75, .pointer (some ⟨lb, 0, none⟩)), (11, 76, .pointer (some ⟨lb, 2, none⟩))] (fun L g w => St w0 fp0 ([pick (L 9) (slA 67 (g 74) (A.map ptrI ++ B.map ptrI)) (slA 67 lp (A.map ptrI)), slA 67 rp (B.map ptrI), blkA lb 70 #[lk, lv, vpick (L 12) (g 74) lp], blkA rb 70 #[rk, rv, rp]] ++ R) w) rfl (by kernel_rfl) (by kernel_rfl) (hS.mono (below_drew w)) ?_ ?_
  · intro oi o L a1 w1 ho hL hdep hI
    have hoi : oi < 13 := by have := (Array.getElem?_eq_some_iff.1 ho).1; omega
    have h1sz : a1.tmps.size = 111 := hI.frame.size.trans hsz
    rcases (by omega : oi = 0 ∨ oi = 1 ∨ oi = 2 ∨ oi = 3 ∨ oi = 4 ∨ oi = 5 ∨ oi = 6 ∨ oi = 7 ∨ oi = 8 ∨ oi = 9 ∨ oi = 10 ∨ oi = 11 ∨ oi = 12) with rfl | rfl | rfl | rfl | rfl | rfl | rfl | rfl | rfl | rfl | rfl | rfl | rfl
    · have hl : oMe3I[0]? = some ⟨some 65, Op.move (Operand.tmp 6), _, _, _, none⟩ := rfl
      obtain rfl := oI ho hl
      have x6 := hI.old 6 (.pointer (some ⟨lb, 0, none⟩)) (by decide) h6
      exact hI.rd hE hsz 0 65 (.pointer (some ⟨lb, 0, none⟩)) ho rfl rfl hdep (by decide) (vals_at hn1 hn2 0 rfl) (by simp [go_sem, execOp, Act.eval, x6])
    · have hl : oMe3I[1]? = some ⟨some 66, Op.move (Operand.tmp 6), _, _, _, none⟩ := rfl
      obtain rfl := oI ho hl
      have x6 := hI.old 6 (.pointer (some ⟨lb, 0, none⟩)) (by decide) h6
      exact hI.rd hE hsz 1 66 (.pointer (some ⟨lb, 0, none⟩)) ho rfl rfl hdep (by decide) (vals_at hn1 hn2 1 rfl) (by simp [go_sem, execOp, Act.eval, x6])
    · have hl : oMe3I[2]? = some ⟨some 67, Op.nilCheck (Operand.tmp 66), _, _, _, none⟩ := rfl
      obtain rfl := oI ho hl
      have x66 := hI.val 1 66 (.pointer (some ⟨lb, 0, none⟩)) (mG (i := 1) rfl) (dK ho hdep (by kernel_rfl : waitsB oMe3I 2 1 = true))
      exact hI.rd hE hsz 2 67 (.pointer (some ⟨lb, 0, none⟩)) ho rfl rfl hdep (by decide) (vals_at hn1 hn2 2 rfl) (by simp [go_sem, execOp, Act.eval, x66])
    · have hl : oMe3I[3]? = some ⟨some 68, Op.fieldAddr _ (Operand.tmp 67) 2, _, _, _, none⟩ := rfl
      obtain rfl := oI ho hl
      have x67 := hI.val 2 67 (.pointer (some ⟨lb, 0, none⟩)) (mG (i := 2) rfl) (dK ho hdep (by kernel_rfl : waitsB oMe3I 3 2 = true))
      exact hI.rd hE hsz 3 68 (.pointer (some ⟨lb, 2, none⟩)) ho rfl rfl hdep (by decide) (vals_at hn1 hn2 3 rfl) (by simp [go_sem, execOp, Act.eval, x67])
    · have hl : oMe3I[4]? = some ⟨some 69, Op.load _ (Operand.tmp 68), _, _, _, none⟩ := rfl
      obtain rfl := oI ho hl
      have x68 := hI.val 3 68 (.pointer (some ⟨lb, 2, none⟩)) (mG (i := 3) rfl) (dK ho hdep (by kernel_rfl : waitsB oMe3I 4 3 = true))
      have hS1 := hI.eff
      have e9 : L 9 = false := hI.no hL (by kernel_rfl : waitsB oMe3I 9 4 = true)
      have e12 : L 12 = false := hI.no hL (by kernel_rfl : waitsB oMe3I 12 4 = true)
      simp only [e9, e12, pick_false, vpick_false] at hS1
      obtain ⟨_, hp⟩ := hS1.has 2 rfl
      have hcell := (blk_get hp).1 2
      have hlt := (blk_get hp).2.2
      simp only [List.getElem?_toArray, List.getElem?_cons_zero, List.getElem?_cons_succ] at hcell
      exact hI.rd hE hsz 4 69 (lp) ho rfl rfl hdep (by decide) (vals_at hn1 hn2 4 rfl) (by simp [go_sem, execOp, Act.eval, x68, hcell])
    · have hl : oMe3I[5]? = some ⟨some 70, Op.move (Operand.tmp 7), _, _, _, none⟩ := rfl
      obtain rfl := oI ho hl
      have x7 := hI.old 7 (.pointer (some ⟨rb, 0, none⟩)) (by decide) h7
      exact hI.rd hE hsz 5 70 (.pointer (some ⟨rb, 0, none⟩)) ho rfl rfl hdep (by decide) (vals_at hn1 hn2 5 rfl) (by simp [go_sem, execOp, Act.eval, x7])
    · have hl : oMe3I[6]? = some ⟨some 71, Op.nilCheck (Operand.tmp 70), _, _, _, none⟩ := rfl
      obtain rfl := oI ho hl
      have x70 := hI.val 5 70 (.pointer (some ⟨rb, 0, none⟩)) (mG (i := 5) rfl) (dK ho hdep (by kernel_rfl : waitsB oMe3I 6 5 = true))
      exact hI.rd hE hsz 6 71 (.pointer (some ⟨rb, 0, none⟩)) ho rfl rfl hdep (by decide) (vals_at hn1 hn2 6 rfl) (by simp [go_sem, execOp, Act.eval, x70])
    · have hl : oMe3I[7]? = some ⟨some 72, Op.fieldAddr _ (Operand.tmp 71) 2, _, _, _, none⟩ := rfl
      obtain rfl := oI ho hl
      have x71 := hI.val 6 71 (.pointer (some ⟨rb, 0, none⟩)) (mG (i := 6) rfl) (dK ho hdep (by kernel_rfl : waitsB oMe3I 7 6 = true))
      exact hI.rd hE hsz 7 72 (.pointer (some ⟨rb, 2, none⟩)) ho rfl rfl hdep (by decide) (vals_at hn1 hn2 7 rfl) (by simp [go_sem, execOp, Act.eval, x71])
    · have hl : oMe3I[8]? = some ⟨some 73, Op.load _ (Operand.tmp 72), _, _, _, none⟩ := rfl
      obtain rfl := oI ho hl
      have x72 := hI.val 7 72 (.pointer (some ⟨rb, 2, none⟩)) (mG (i := 7) rfl) (dK ho hdep (by kernel_rfl : waitsB oMe3I 8 7 = true))
      have hS1 := hI.eff
      have e9 : L 9 = false := hI.no hL (by kernel_rfl : waitsB oMe3I 9 8 = true)
      have e12 : L 12 = false := hI.no hL (by kernel_rfl : waitsB oMe3I 12 8 = true)
      simp only [e9, e12, pick_false, vpick_false] at hS1
      obtain ⟨_, hp⟩ := hS1.has 3 rfl
      have hcell := (blk_get hp).1 2
      have hlt := (blk_get hp).2.2
      simp only [List.getElem?_toArray, List.getElem?_cons_zero, List.getElem?_cons_succ] at hcell
      exact hI.rd hE hsz 8 73 (rp) ho rfl rfl hdep (by decide) (vals_at hn1 hn2 8 rfl) (by simp [go_sem, execOp, Act.eval, x72, hcell])
    · have hl : oMe3I[9]? = some ⟨some 74, Op.call ⟨Callee.builtin Builtin.append, #[Operand.tmp 69, Operand.tmp 73], _⟩, _, _, _, none⟩ := rfl
      obtain rfl := oI ho hl
      have x69 := hI.val 4 69 (lp) (mG (i := 4) rfl) (dK ho hdep (by kernel_rfl : waitsB oMe3I 9 4 = true))
      have x73 := hI.val 8 73 (rp) (mG (i := 8) rfl) (dK ho hdep (by kernel_rfl : waitsB oMe3I 9 8 = true))
      have hS1 := hI.eff
      have e9 : L 9 = false := hL
      have e12 : L 12 = false := hI.no hL (by kernel_rfl : waitsB oMe3I 12 9 = true)
      simp only [e9, e12, pick_false, vpick_false] at hS1
      obtain ⟨f, g, hrw, hsr, _, hset, _⟩ := hS1.two 0 1 (by decide) rfl rfl
      obtain ⟨v2, w2, f2, hr2, ho2, ht2⟩ := appsP w1 _ hrw hsr (ptrI_one B) (by rw [List.length_map, List.length_map]; omega)
      refine inv_value ho rfl (v := v2) (w' := w2) (run_append_op (s := .tmp 69) (x := .tmp 73) (t := 68) rfl (spell_eval x69) (spell_eval x73) hr2) (hI.put 9 74 _ ho hdep (by decide) (by intro t ht; exact vals_ne2 rfl rfl (by decide : 9 ∉ [0, 1, 2, 3, 4, 5, 6, 7, 8, 10, 11]) (by decide : 74 ∉ [65, 66, 67, 68, 69, 70, 71, 72, 73, 75, 76]) ht) ?_)
      have hS2 := hset _ _ _ ho2 ht2
      simp only [e9, e12, Bool.or_false, Bool.or_true, Nat.reduceEqDiff, decide_true, decide_false, pick_true, vpick_false, eval_put_same (by rw [h1sz]; decide : 74 < a1.tmps.size)]
      exact hS2
    · have hl : oMe3I[10]? = some ⟨some 75, Op.nilCheck (Operand.tmp 65), _, _, _, none⟩ := rfl
      obtain rfl := oI ho hl
      have x65 := hI.val 0 65 (.pointer (some ⟨lb, 0, none⟩)) (mG (i := 0) rfl) (dK ho hdep (by kernel_rfl : waitsB oMe3I 10 0 = true))
      exact hI.rd hE hsz 10 75 (.pointer (some ⟨lb, 0, none⟩)) ho rfl rfl hdep (by decide) (vals_at hn1 hn2 9 rfl) (by simp [go_sem, execOp, Act.eval, x65])
    · have hl : oMe3I[11]? = some ⟨some 76, Op.fieldAddr _ (Operand.tmp 75) 2, _, _, _, none⟩ := rfl
      obtain rfl := oI ho hl
      have x75 := hI.val 10 75 (.pointer (some ⟨lb, 0, none⟩)) (mG (i := 9) rfl) (dK ho hdep (by kernel_rfl : waitsB oMe3I 11 10 = true))
      exact hI.rd hE hsz 11 76 (.pointer (some ⟨lb, 2, none⟩)) ho rfl rfl hdep (by decide) (vals_at hn1 hn2 10 rfl) (by simp [go_sem, execOp, Act.eval, x75])
    · have hl : oMe3I[12]? = some ⟨none, Op.store _ (Operand.tmp 76) (Operand.tmp 74), _, _, _, none⟩ := rfl
      obtain rfl := oI ho hl
      have x76 := hI.val 11 76 (.pointer (some ⟨lb, 2, none⟩)) (mG (i := 10) rfl) (dK ho hdep (by kernel_rfl : waitsB oMe3I 12 11 = true))
      have hS1 := hI.eff
      have e9 : L 9 = true := dK ho hdep (by kernel_rfl : waitsB oMe3I 12 9 = true)
      have e12 : L 12 = false := hL
      simp only [e9, e12, pick_true, vpick_false] at hS1
      obtain ⟨_, hpv⟩ := hS1.has 0 rfl
      obtain ⟨av, nv, cv, hv⟩ := sl_shape hpv
      have xv := eval_spell hv
      obtain ⟨f, hp, hset⟩ := hS1.get 2 rfl
      have hcell := (blk_get hp).1 2
      have hfz := (blk_get hp).2.1 2
      have hlt := (blk_get hp).2.2
      simp only [List.getElem?_toArray, List.getElem?_cons_zero, List.getElem?_cons_succ] at hcell
      refine inv_stored ho rfl rfl (by simp [go_sem, execOp, Act.eval, x76, xv, hcell, hfz]; rfl) (hI.step 12 ho hdep (by intro t ht; exact vals_ne1 rfl (by decide : 12 ∉ [0, 1, 2, 3, 4, 5, 6, 7, 8, 10, 11]) ht) ?_)
      obtain ⟨hb2, ht2⟩ := blk_set hp 2 (a1.eval (.tmp 74))
      have hS2 := hset _ _ _ hb2 ht2
      simp only [e9, e12, Bool.or_false, Bool.or_true, Nat.reduceEqDiff, decide_true, decide_false, pick_true, vpick_true]
      rw [hv] at hS2
      rw [hv]
      exact hS2
  · intro L a1 w1 hL hI
    have hS1 := hI.eff
    simp only [hL 9 (by rw [hsize]; decide), hL 12 (by rw [hsize]; decide), pick_true, vpick_true] at hS1
    have := hQ (fun d => a1.eval (.tmp d)) w1  hS1
    have e := hI.frame.eq
    rw [e]
    exact this
noncomputable def oMe4I : Array Oper := ((Try.f86.body).bind fun c => opsOf c 4).getD #[]
set_option maxHeartbeats 4000000 in
set_option maxRecDepth 100000 in
theorem rMe4I {Q : Exit → Act → World → Prop} {a : Act} {w w0 : World} {fp0 : List Nat} (b i : Nat) (xk xv xp : Value) (xe : M Int Int) (hi : i < xe.length) (hlen : xe.length < 1099511627776) (R : List Asn) (ops : Array Oper) (hops : ops = oMe4I) (hsz : a.tmps.size = 111) (h1 : a.eval (.tmp 1) = .pointer (some ⟨b, 0, none⟩)) (h2 : a.eval (.tmp 2) = .int .i64 i)
    (hS : St w0 fp0 ([blkA b 70 #[vpick false (a.eval (.tmp 86)) xk, vpick false (a.eval (.tmp 94)) xv, xp], pick false (slA 3 (a.eval (.tmp 86)) ((keysI xe).eraseIdx i)) (slA 3 xk (keysI xe)), pick false (slA 3 (a.eval (.tmp 94)) ((valsI xe).eraseIdx i)) (slA 3 xv (valsI xe))] ++ R) w)
    (hQ : ∀ (u : Nat → Value) w1, St w0 fp0 ([blkA b 70 #[vpick true (u 86) xk, vpick true (u 94) xv, xp], pick true (slA 3 (u 86) ((keysI xe).eraseIdx i)) (slA 3 xk (keysI xe)), pick true (slA 3 (u 94) ((valsI xe).eraseIdx i)) (slA 3 xv (valsI xe))] ++ R) w1 → Q .normal (putL a (([77, 78, 79, 80, 81, 82, 83, 84, 85, 86, 87, 88, 89, 90, 91, 92, 93, 94, 95, 96, 97, 98] : List Nat).map fun d => (d, u d))) w1) : (Code.region 4 ops true).wp Try.prog Q a w := by
  subst hops
  have hw : IntKind.i64.wrap ((i : Int) + (1 : Int)) = (i : Int) + (1 : Int) := by rw [IntKind.wrap_i64]; omega
  have hsize : oMe4I.size = 24 := by kernel_rfl
  have hE : Looks (fun L g w => St w0 fp0 ([blkA b 70 #[vpick (L 20) (g 86) xk, vpick (L 23) (g 94) xv, xp], pick (L 9) (slA 3 (g 86) ((keysI xe).eraseIdx i)) (slA 3 xk (keysI xe)), pick (L 17) (slA 3 (g 94) ((valsI xe).eraseIdx i)) (slA 3 xv (valsI xe))] ++ R) w) [9, 17, 20, 23] [86, 94] := by
    intro L L' g g' w hL hg h
    simpa only [← hL 9 (by decide), ← hL 17 (by decide), ← hL 20 (by decide), ← hL 23 (by decide), ← hg 86 (by decide), ← hg 94 (by decide)] using h
  have hn1 : (([(0, 77, .pointer (some ⟨b, 0, none⟩)), (1, 78, .pointer (some ⟨b, 0, none⟩)), (2, 79, .pointer (some ⟨b, 0, none⟩)), (3, 80, .pointer (some ⟨b, 0, none⟩)), (4, 81, .pointer (some ⟨b, 0, none⟩)), (5, 82, xk), (6, 83, .int .i64 i), (7, 84, .int .i64 i), (8, 85, .int .i64 ((i : Int) + 1)), (10, 87, .pointer (some ⟨b, 0, none⟩)), (11, 88, .pointer (some ⟨b, 0, none⟩)), (12, 89, .pointer (some ⟨b, 1, none⟩)), (13, 90, xv), (14, 91, .int .i64 i), (15, 92, .int .i64 i), (16, 93, .int .i64 ((i : Int) + 1)), (18, 95, .pointer (some ⟨b, 0, none⟩)), (19, 96, .pointer (some ⟨b, 0, none⟩)), (21, 97, .pointer (some ⟨b, 0, none⟩)), (22, 98, .pointer (some ⟨b, 1, none⟩))] : List (Nat × Nat × Value)).map (·.1)).Nodup := by
    show List.Nodup [0, 1, 2, 3, 4, 5, 6, 7, 8, 10, 11, 12, 13, 14, 15, 16, 18, 19, 21, 22]
    decide
  have hn2 : (([(0, 77, .pointer (some ⟨b, 0, none⟩)), (1, 78, .pointer (some ⟨b, 0, none⟩)), (2, 79, .pointer (some ⟨b, 0, none⟩)), (3, 80, .pointer (some ⟨b, 0, none⟩)), (4, 81, .pointer (some ⟨b, 0, none⟩)), (5, 82, xk), (6, 83, .int .i64 i), (7, 84, .int .i64 i), (8, 85, .int .i64 ((i : Int) + 1)), (10, 87, .pointer (some ⟨b, 0, none⟩)), (11, 88, .pointer (some ⟨b, 0, none⟩)), (12, 89, .pointer (some ⟨b, 1, none⟩)), (13, 90, xv), (14, 91, .int .i64 i), (15, 92, .int .i64 i), (16, 93, .int .i64 ((i : Int) + 1)), (18, 95, .pointer (some ⟨b, 0, none⟩)), (19, 96, .pointer (some ⟨b, 0, none⟩)), (21, 97, .pointer (some ⟨b, 0, none⟩)), (22, 98, .pointer (some ⟨b, 1, none⟩))] : List (Nat × Nat × Value)).map (·.2.1)).Nodup := by
    show List.Nodup [77, 78, 79, 80, 81, 82, 83, 84, 85, 87, 88, 89, 90, 91, 92, 93, 95, 96, 97, 98]
    decide
  refine wp_region_vals (ops' := oMe4I) [77, 78, 79, 80, 81, 82, 83, 84, 85, 86, 87, 88, 89, 90, 91, 92, 93, 94, 95, 96, 97, 98] [(0, 77, .pointer (some ⟨b, 0, none⟩)), (1, 78, .pointer (some ⟨b, 0, none⟩)), (2, 79, .pointer (some ⟨b, 0, none⟩)), (3, 80, .pointer (some ⟨b, 0, none⟩)), (4, 81, .pointer (some ⟨b, 0, none⟩)), (5, 82, xk), (6, 83, .int .i64 i), (7, 84, .int .i64 i), (8, 85, .int .i64 ((i : Int) + 1)), (10, 87, .pointer (some ⟨b, 0, none⟩)), (11, 88, .pointer (some ⟨b, 0, none⟩)), (12, 89, .pointer (some ⟨b, 1, none⟩)), (13, 90, xv), (14, 91, .int .i64 i), (15, 92, .int .i64 i), (16, 93, .int .i64 ((i : Int) + 1)), (18, 95, .pointer (some ⟨b, 0, none⟩)), (19, 96, .pointer (some ⟨b, 0, none⟩)), (21, 97, .pointer (some ⟨b, 0, none⟩)), (22, 98, .pointer (some ⟨b, 1, none⟩))] (fun L g w => St w0 fp0 ([blkA b 70 #[vpick (L 20) (g 86) xk, vpick (L 23) (g 94) xv, xp], pick (L 9) (slA 3 (g 86) ((keysI xe).eraseIdx i)) (slA 3 xk (keysI xe)), pick (L 17) (slA 3 (g 94) ((valsI xe).eraseIdx i)) (slA 3 xv (valsI xe))] ++ R) w) rfl (by kernel_rfl) (by kernel_rfl) (hS.mono (below_drew w)) ?_ ?_
  · intro oi o L a1 w1 ho hL hdep hI
    have hoi : oi < 24 := by have := (Array.getElem?_eq_some_iff.1 ho).1; omega
    have h1sz : a1.tmps.size = 111 := hI.frame.size.trans hsz
    rcases (by omega : oi = 0 ∨ oi = 1 ∨ oi = 2 ∨ oi = 3 ∨ oi = 4 ∨ oi = 5 ∨ oi = 6 ∨ oi = 7 ∨ oi = 8 ∨ oi = 9 ∨ oi = 10 ∨ oi = 11 ∨ oi = 12 ∨ oi = 13 ∨ oi = 14 ∨ oi = 15 ∨ oi = 16 ∨ oi = 17 ∨ oi = 18 ∨ oi = 19 ∨ oi = 20 ∨ oi = 21 ∨ oi = 22 ∨ oi = 23) with rfl | rfl | rfl | rfl | rfl | rfl | rfl | rfl | rfl | rfl | rfl | rfl | rfl | rfl | rfl | rfl | rfl | rfl | rfl | rfl | rfl | rfl | rfl | rfl
    · have hl : oMe4I[0]? = some ⟨some 77, Op.move (Operand.tmp 1), _, _, _, none⟩ := rfl
      obtain rfl := oI ho hl
      have x1 := hI.old 1 (.pointer (some ⟨b, 0, none⟩)) (by decide) h1
      exact hI.rd hE hsz 0 77 (.pointer (some ⟨b, 0, none⟩)) ho rfl rfl hdep (by decide) (vals_at hn1 hn2 0 rfl) (by simp [go_sem, execOp, Act.eval, x1])
    · have hl : oMe4I[1]? = some ⟨some 78, Op.move (Operand.tmp 1), _, _, _, none⟩ := rfl
      obtain rfl := oI ho hl
      have x1 := hI.old 1 (.pointer (some ⟨b, 0, none⟩)) (by decide) h1
      exact hI.rd hE hsz 1 78 (.pointer (some ⟨b, 0, none⟩)) ho rfl rfl hdep (by decide) (vals_at hn1 hn2 1 rfl) (by simp [go_sem, execOp, Act.eval, x1])
    · have hl : oMe4I[2]? = some ⟨some 79, Op.move (Operand.tmp 1), _, _, _, none⟩ := rfl
      obtain rfl := oI ho hl
      have x1 := hI.old 1 (.pointer (some ⟨b, 0, none⟩)) (by decide) h1
      exact hI.rd hE hsz 2 79 (.pointer (some ⟨b, 0, none⟩)) ho rfl rfl hdep (by decide) (vals_at hn1 hn2 2 rfl) (by simp [go_sem, execOp, Act.eval, x1])
    · have hl : oMe4I[3]? = some ⟨some 80, Op.nilCheck (Operand.tmp 79), _, _, _, none⟩ := rfl
      obtain rfl := oI ho hl
      have x79 := hI.val 2 79 (.pointer (some ⟨b, 0, none⟩)) (mG (i := 2) rfl) (dK ho hdep (by kernel_rfl : waitsB oMe4I 3 2 = true))
      exact hI.rd hE hsz 3 80 (.pointer (some ⟨b, 0, none⟩)) ho rfl rfl hdep (by decide) (vals_at hn1 hn2 3 rfl) (by simp [go_sem, execOp, Act.eval, x79])
    · have hl : oMe4I[4]? = some ⟨some 81, Op.fieldAddr _ (Operand.tmp 80) 0, _, _, _, none⟩ := rfl
      obtain rfl := oI ho hl
      have x80 := hI.val 3 80 (.pointer (some ⟨b, 0, none⟩)) (mG (i := 3) rfl) (dK ho hdep (by kernel_rfl : waitsB oMe4I 4 3 = true))
      exact hI.rd hE hsz 4 81 (.pointer (some ⟨b, 0, none⟩)) ho rfl rfl hdep (by decide) (vals_at hn1 hn2 4 rfl) (by simp [go_sem, execOp, Act.eval, x80])
    · have hl : oMe4I[5]? = some ⟨some 82, Op.load _ (Operand.tmp 81), _, _, _, none⟩ := rfl
      obtain rfl := oI ho hl
      have x81 := hI.val 4 81 (.pointer (some ⟨b, 0, none⟩)) (mG (i := 4) rfl) (dK ho hdep (by kernel_rfl : waitsB oMe4I 5 4 = true))
      have hS1 := hI.eff
      have e9 : L 9 = false := hI.no hL (by kernel_rfl : waitsB oMe4I 9 5 = true)
      have e17 : L 17 = false := hI.no (hI.no hL (by kernel_rfl : waitsB oMe4I 9 5 = true)) (by kernel_rfl : waitsB oMe4I 17 9 = true)
      have e20 : L 20 = false := hI.no hL (by kernel_rfl : waitsB oMe4I 20 5 = true)
      have e23 : L 23 = false := hI.no hL (by kernel_rfl : waitsB oMe4I 23 5 = true)
      simp only [e9, e17, e20, e23, pick_false, vpick_false] at hS1
      obtain ⟨_, hp⟩ := hS1.has 0 rfl
      have hcell := (blk_get hp).1 0
      have hlt := (blk_get hp).2.2
      simp only [List.getElem?_toArray, List.getElem?_cons_zero] at hcell
      exact hI.rd hE hsz 5 82 (xk) ho rfl rfl hdep (by decide) (vals_at hn1 hn2 5 rfl) (by simp [go_sem, execOp, Act.eval, x81, hcell])
    · have hl : oMe4I[6]? = some ⟨some 83, Op.move (Operand.tmp 2), _, _, _, none⟩ := rfl
      obtain rfl := oI ho hl
      have x2 := hI.old 2 (.int .i64 i) (by decide) h2
      exact hI.rd hE hsz 6 83 (.int .i64 i) ho rfl rfl hdep (by decide) (vals_at hn1 hn2 6 rfl) (by simp [go_sem, execOp, Act.eval, x2])
    · have hl : oMe4I[7]? = some ⟨some 84, Op.move (Operand.tmp 2), _, _, _, none⟩ := rfl
      obtain rfl := oI ho hl
      have x2 := hI.old 2 (.int .i64 i) (by decide) h2
      exact hI.rd hE hsz 7 84 (.int .i64 i) ho rfl rfl hdep (by decide) (vals_at hn1 hn2 7 rfl) (by simp [go_sem, execOp, Act.eval, x2])
    · have hl : oMe4I[8]? = some ⟨some 85, Op.binOp BinOp.add _ (Operand.tmp 84) (Operand.const (Value.int IntKind.i64 1)) _, _, _, _, none⟩ := rfl
      obtain rfl := oI ho hl
      have x84 := hI.val 7 84 (.int .i64 i) (mG (i := 7) rfl) (dK ho hdep (by kernel_rfl : waitsB oMe4I 8 7 = true))
      exact hI.rd hE hsz 8 85 (.int .i64 ((i : Int) + 1)) ho rfl rfl hdep (by decide) (vals_at hn1 hn2 8 rfl) (by simp [go_sem, execOp, Act.eval, x84, hw])
    · have hl : oMe4I[9]? = some ⟨some 86, Op.call ⟨Callee.value (Operand.func _), #[Operand.tmp 82, Operand.tmp 83, Operand.tmp 85], _⟩, _, _, _, none⟩ := rfl
      obtain rfl := oI ho hl
      have x82 := hI.val 5 82 (xk) (mG (i := 5) rfl) (dK ho hdep (by kernel_rfl : waitsB oMe4I 9 5 = true))
      have x83 := hI.val 6 83 (.int .i64 i) (mG (i := 6) rfl) (dK ho hdep (by kernel_rfl : waitsB oMe4I 9 6 = true))
      have x85 := hI.val 8 85 (.int .i64 ((i : Int) + 1)) (mG (i := 8) rfl) (dK ho hdep (by kernel_rfl : waitsB oMe4I 9 8 = true))
      have hS1 := hI.eff
      have e9 : L 9 = false := hL
      have e17 : L 17 = false := hI.no hL (by kernel_rfl : waitsB oMe4I 17 9 = true)
      have e20 : L 20 = false := hI.no hL (by kernel_rfl : waitsB oMe4I 20 9 = true)
      have e23 : L 23 = false := hI.no hL (by kernel_rfl : waitsB oMe4I 23 9 = true)
      simp only [e9, e17, e20, e23, pick_false, vpick_false] at hS1
      obtain ⟨f, hsl, hset⟩ := hS1.get 1 rfl
      refine inv_call ho rfl (f := 73) (by simp [go_sem, Act.eval, x82, x83, x85]) (delI_calls _ _ (i) _ hsl (by rw [keysI_length]; exact hi) (by rw [keysI_length]; exact hlen) (keysI_one xe)) ?_
      rintro e w2 ⟨an, nn, cn, f', rfl, hsl', htr⟩
      refine ⟨_, rfl, hI.put 9 86 _ ho hdep (by decide) (by intro t ht; exact vals_ne2 rfl rfl (by decide : 9 ∉ [0, 1, 2, 3, 4, 5, 6, 7, 8, 10, 11, 12, 13, 14, 15, 16, 18, 19, 21, 22]) (by decide : 86 ∉ [77, 78, 79, 80, 81, 82, 83, 84, 85, 87, 88, 89, 90, 91, 92, 93, 95, 96, 97, 98]) ht) ?_⟩
      have hS2 := hset _ _ _ hsl' htr
      simp only [e9, e17, e20, e23, Bool.or_false, Bool.or_true, Nat.reduceEqDiff, decide_true, decide_false, pick_true, pick_false, vpick_false, eval_put_same (by rw [h1sz]; decide : 86 < a1.tmps.size), eval_put_ne (by decide : 86 ≠ 94)]
      exact hS2
    · have hl : oMe4I[10]? = some ⟨some 87, Op.move (Operand.tmp 1), _, _, _, none⟩ := rfl
      obtain rfl := oI ho hl
      have x1 := hI.old 1 (.pointer (some ⟨b, 0, none⟩)) (by decide) h1
      exact hI.rd hE hsz 10 87 (.pointer (some ⟨b, 0, none⟩)) ho rfl rfl hdep (by decide) (vals_at hn1 hn2 9 rfl) (by simp [go_sem, execOp, Act.eval, x1])
    · have hl : oMe4I[11]? = some ⟨some 88, Op.nilCheck (Operand.tmp 87), _, _, _, none⟩ := rfl
      obtain rfl := oI ho hl
      have x87 := hI.val 10 87 (.pointer (some ⟨b, 0, none⟩)) (mG (i := 9) rfl) (dK ho hdep (by kernel_rfl : waitsB oMe4I 11 10 = true))
      exact hI.rd hE hsz 11 88 (.pointer (some ⟨b, 0, none⟩)) ho rfl rfl hdep (by decide) (vals_at hn1 hn2 10 rfl) (by simp [go_sem, execOp, Act.eval, x87])
    · have hl : oMe4I[12]? = some ⟨some 89, Op.fieldAddr _ (Operand.tmp 88) 1, _, _, _, none⟩ := rfl
      obtain rfl := oI ho hl
      have x88 := hI.val 11 88 (.pointer (some ⟨b, 0, none⟩)) (mG (i := 10) rfl) (dK ho hdep (by kernel_rfl : waitsB oMe4I 12 11 = true))
      exact hI.rd hE hsz 12 89 (.pointer (some ⟨b, 1, none⟩)) ho rfl rfl hdep (by decide) (vals_at hn1 hn2 11 rfl) (by simp [go_sem, execOp, Act.eval, x88])
    · have hl : oMe4I[13]? = some ⟨some 90, Op.load _ (Operand.tmp 89), _, _, _, none⟩ := rfl
      obtain rfl := oI ho hl
      have x89 := hI.val 12 89 (.pointer (some ⟨b, 1, none⟩)) (mG (i := 11) rfl) (dK ho hdep (by kernel_rfl : waitsB oMe4I 13 12 = true))
      have hS1 := hI.eff
      have e17 : L 17 = false := hI.no hL (by kernel_rfl : waitsB oMe4I 17 13 = true)
      have e20 : L 20 = false := hI.no hL (by kernel_rfl : waitsB oMe4I 20 13 = true)
      have e23 : L 23 = false := hI.no hL (by kernel_rfl : waitsB oMe4I 23 13 = true)
      simp only [e17, e20, e23, pick_false, vpick_false] at hS1
      obtain ⟨_, hp⟩ := hS1.has 0 rfl
      have hcell := (blk_get hp).1 1
      have hlt := (blk_get hp).2.2
      simp only [List.getElem?_toArray, List.getElem?_cons_zero, List.getElem?_cons_succ] at hcell
      exact hI.rd hE hsz 13 90 (xv) ho rfl rfl hdep (by decide) (vals_at hn1 hn2 12 rfl) (by simp [go_sem, execOp, Act.eval, x89, hcell])
    · have hl : oMe4I[14]? = some ⟨some 91, Op.move (Operand.tmp 2), _, _, _, none⟩ := rfl
      obtain rfl := oI ho hl
      have x2 := hI.old 2 (.int .i64 i) (by decide) h2
      exact hI.rd hE hsz 14 91 (.int .i64 i) ho rfl rfl hdep (by decide) (vals_at hn1 hn2 13 rfl) (by simp [go_sem, execOp, Act.eval, x2])
    · have hl : oMe4I[15]? = some ⟨some 92, Op.move (Operand.tmp 2), _, _, _, none⟩ := rfl
      obtain rfl := oI ho hl
      have x2 := hI.old 2 (.int .i64 i) (by decide) h2
      exact hI.rd hE hsz 15 92 (.int .i64 i) ho rfl rfl hdep (by decide) (vals_at hn1 hn2 14 rfl) (by simp [go_sem, execOp, Act.eval, x2])
    · have hl : oMe4I[16]? = some ⟨some 93, Op.binOp BinOp.add _ (Operand.tmp 92) (Operand.const (Value.int IntKind.i64 1)) _, _, _, _, none⟩ := rfl
      obtain rfl := oI ho hl
      have x92 := hI.val 15 92 (.int .i64 i) (mG (i := 14) rfl) (dK ho hdep (by kernel_rfl : waitsB oMe4I 16 15 = true))
      exact hI.rd hE hsz 16 93 (.int .i64 ((i : Int) + 1)) ho rfl rfl hdep (by decide) (vals_at hn1 hn2 15 rfl) (by simp [go_sem, execOp, Act.eval, x92, hw])
    · have hl : oMe4I[17]? = some ⟨some 94, Op.call ⟨Callee.value (Operand.func _), #[Operand.tmp 90, Operand.tmp 91, Operand.tmp 93], _⟩, _, _, _, none⟩ := rfl
      obtain rfl := oI ho hl
      have x90 := hI.val 13 90 (xv) (mG (i := 12) rfl) (dK ho hdep (by kernel_rfl : waitsB oMe4I 17 13 = true))
      have x91 := hI.val 14 91 (.int .i64 i) (mG (i := 13) rfl) (dK ho hdep (by kernel_rfl : waitsB oMe4I 17 14 = true))
      have x93 := hI.val 16 93 (.int .i64 ((i : Int) + 1)) (mG (i := 15) rfl) (dK ho hdep (by kernel_rfl : waitsB oMe4I 17 16 = true))
      have hS1 := hI.eff
      have e9 : L 9 = true := dK ho hdep (by kernel_rfl : waitsB oMe4I 17 9 = true)
      have e17 : L 17 = false := hL
      have e20 : L 20 = false := hI.no hL (by kernel_rfl : waitsB oMe4I 20 17 = true)
      have e23 : L 23 = false := hI.no hL (by kernel_rfl : waitsB oMe4I 23 17 = true)
      simp only [e9, e17, e20, e23, pick_true, pick_false, vpick_false] at hS1
      obtain ⟨f, hsl, hset⟩ := hS1.get 2 rfl
      refine inv_call ho rfl (f := 73) (by simp [go_sem, Act.eval, x90, x91, x93]) (delI_calls _ _ (i) _ hsl (by rw [valsI_length]; exact hi) (by rw [valsI_length]; exact hlen) (valsI_one xe)) ?_
      rintro e w2 ⟨an, nn, cn, f', rfl, hsl', htr⟩
      refine ⟨_, rfl, hI.put 17 94 _ ho hdep (by decide) (by intro t ht; exact vals_ne2 rfl rfl (by decide : 17 ∉ [0, 1, 2, 3, 4, 5, 6, 7, 8, 10, 11, 12, 13, 14, 15, 16, 18, 19, 21, 22]) (by decide : 94 ∉ [77, 78, 79, 80, 81, 82, 83, 84, 85, 87, 88, 89, 90, 91, 92, 93, 95, 96, 97, 98]) ht) ?_⟩
      have hS2 := hset _ _ _ hsl' htr
      simp only [e9, e17, e20, e23, Bool.or_false, Bool.or_true, Nat.reduceEqDiff, decide_true, decide_false, pick_true, vpick_false, eval_put_same (by rw [h1sz]; decide : 94 < a1.tmps.size), eval_put_ne (by decide : 94 ≠ 86)]
      exact hS2
    · have hl : oMe4I[18]? = some ⟨some 95, Op.nilCheck (Operand.tmp 77), _, _, _, none⟩ := rfl
      obtain rfl := oI ho hl
      have x77 := hI.val 0 77 (.pointer (some ⟨b, 0, none⟩)) (mG (i := 0) rfl) (dK ho hdep (by kernel_rfl : waitsB oMe4I 18 0 = true))
      exact hI.rd hE hsz 18 95 (.pointer (some ⟨b, 0, none⟩)) ho rfl rfl hdep (by decide) (vals_at hn1 hn2 16 rfl) (by simp [go_sem, execOp, Act.eval, x77])
    · have hl : oMe4I[19]? = some ⟨some 96, Op.fieldAddr _ (Operand.tmp 95) 0, _, _, _, none⟩ := rfl
      obtain rfl := oI ho hl
      have x95 := hI.val 18 95 (.pointer (some ⟨b, 0, none⟩)) (mG (i := 16) rfl) (dK ho hdep (by kernel_rfl : waitsB oMe4I 19 18 = true))
      exact hI.rd hE hsz 19 96 (.pointer (some ⟨b, 0, none⟩)) ho rfl rfl hdep (by decide) (vals_at hn1 hn2 17 rfl) (by simp [go_sem, execOp, Act.eval, x95])
    · have hl : oMe4I[20]? = some ⟨none, Op.store _ (Operand.tmp 96) (Operand.tmp 86), _, _, _, none⟩ := rfl
      obtain rfl := oI ho hl
      have x96 := hI.val 19 96 (.pointer (some ⟨b, 0, none⟩)) (mG (i := 17) rfl) (dK ho hdep (by kernel_rfl : waitsB oMe4I 20 19 = true))
      have hS1 := hI.eff
      have e9 : L 9 = true := dK ho hdep (by kernel_rfl : waitsB oMe4I 20 9 = true)
      have e17 : L 17 = true := dK ho hdep (by kernel_rfl : waitsB oMe4I 20 17 = true)
      have e20 : L 20 = false := hL
      have e23 : L 23 = false := hI.no hL (by kernel_rfl : waitsB oMe4I 23 20 = true)
      simp only [e9, e17, e20, e23, pick_true, vpick_false] at hS1
      obtain ⟨_, hpv⟩ := hS1.has 1 rfl
      obtain ⟨av, nv, cv, hv⟩ := sl_shape hpv
      have xv := eval_spell hv
      obtain ⟨f, hp, hset⟩ := hS1.get 0 rfl
      have hcell := (blk_get hp).1 0
      have hfz := (blk_get hp).2.1 0
      have hlt := (blk_get hp).2.2
      simp only [List.getElem?_toArray, List.getElem?_cons_zero] at hcell
      refine inv_stored ho rfl rfl (by simp [go_sem, execOp, Act.eval, x96, xv, hcell, hfz]; rfl) (hI.step 20 ho hdep (by intro t ht; exact vals_ne1 rfl (by decide : 20 ∉ [0, 1, 2, 3, 4, 5, 6, 7, 8, 10, 11, 12, 13, 14, 15, 16, 18, 19, 21, 22]) ht) ?_)
      obtain ⟨hb2, ht2⟩ := blk_set hp 0 (a1.eval (.tmp 86))
      have hS2 := hset _ _ _ hb2 ht2
      simp only [e9, e17, e20, e23, Bool.or_false, Bool.or_true, Nat.reduceEqDiff, decide_true, decide_false, pick_true, vpick_true, vpick_false]
      rw [hv] at hS2
      rw [hv]
      exact hS2
    · have hl : oMe4I[21]? = some ⟨some 97, Op.nilCheck (Operand.tmp 78), _, _, _, none⟩ := rfl
      obtain rfl := oI ho hl
      have x78 := hI.val 1 78 (.pointer (some ⟨b, 0, none⟩)) (mG (i := 1) rfl) (dK ho hdep (by kernel_rfl : waitsB oMe4I 21 1 = true))
      exact hI.rd hE hsz 21 97 (.pointer (some ⟨b, 0, none⟩)) ho rfl rfl hdep (by decide) (vals_at hn1 hn2 18 rfl) (by simp [go_sem, execOp, Act.eval, x78])
    · have hl : oMe4I[22]? = some ⟨some 98, Op.fieldAddr _ (Operand.tmp 97) 1, _, _, _, none⟩ := rfl
      obtain rfl := oI ho hl
      have x97 := hI.val 21 97 (.pointer (some ⟨b, 0, none⟩)) (mG (i := 18) rfl) (dK ho hdep (by kernel_rfl : waitsB oMe4I 22 21 = true))
      exact hI.rd hE hsz 22 98 (.pointer (some ⟨b, 1, none⟩)) ho rfl rfl hdep (by decide) (vals_at hn1 hn2 19 rfl) (by simp [go_sem, execOp, Act.eval, x97])
    · have hl : oMe4I[23]? = some ⟨none, Op.store _ (Operand.tmp 98) (Operand.tmp 94), _, _, _, none⟩ := rfl
      obtain rfl := oI ho hl
      have x98 := hI.val 22 98 (.pointer (some ⟨b, 1, none⟩)) (mG (i := 19) rfl) (dK ho hdep (by kernel_rfl : waitsB oMe4I 23 22 = true))
      have hS1 := hI.eff
      have e9 : L 9 = true := dK ho hdep (by kernel_rfl : waitsB oMe4I 23 9 = true)
      have e17 : L 17 = true := dK ho hdep (by kernel_rfl : waitsB oMe4I 23 17 = true)
      have e20 : L 20 = true := dK ho hdep (by kernel_rfl : waitsB oMe4I 23 20 = true)
      have e23 : L 23 = false := hL
      simp only [e9, e17, e20, e23, pick_true, vpick_true, vpick_false] at hS1
      obtain ⟨_, hpv⟩ := hS1.has 2 rfl
      obtain ⟨av, nv, cv, hv⟩ := sl_shape hpv
      have xv := eval_spell hv
      obtain ⟨f, hp, hset⟩ := hS1.get 0 rfl
      have hcell := (blk_get hp).1 1
      have hfz := (blk_get hp).2.1 1
      have hlt := (blk_get hp).2.2
      simp only [List.getElem?_toArray, List.getElem?_cons_zero, List.getElem?_cons_succ] at hcell
      refine inv_stored ho rfl rfl (by simp [go_sem, execOp, Act.eval, x98, xv, hcell, hfz]; rfl) (hI.step 23 ho hdep (by intro t ht; exact vals_ne1 rfl (by decide : 23 ∉ [0, 1, 2, 3, 4, 5, 6, 7, 8, 10, 11, 12, 13, 14, 15, 16, 18, 19, 21, 22]) ht) ?_)
      obtain ⟨hb2, ht2⟩ := blk_set hp 1 (a1.eval (.tmp 94))
      have hS2 := hset _ _ _ hb2 ht2
      simp only [e9, e17, e20, e23, Bool.or_false, Bool.or_true, Nat.reduceEqDiff, decide_true, decide_false, pick_true, vpick_true]
      rw [hv] at hS2
      rw [hv]
      exact hS2
  · intro L a1 w1 hL hI
    have hS1 := hI.eff
    simp only [hL 9 (by rw [hsize]; decide), hL 17 (by rw [hsize]; decide), hL 20 (by rw [hsize]; decide), hL 23 (by rw [hsize]; decide), pick_true, vpick_true] at hS1
    have := hQ (fun d => a1.eval (.tmp d)) w1  hS1
    have e := hI.frame.eq
    rw [e]
    exact this
noncomputable def oMe5I : Array Oper := ((Try.f86.body).bind fun c => opsOf c 5).getD #[]
set_option maxHeartbeats 4000000 in
set_option maxRecDepth 100000 in
theorem rMe5I {Q : Exit → Act → World → Prop} {a : Act} {w w0 : World} {fp0 : List Nat} (b i : Nat) (xk xv xp : Value) (bs : List Nat) (hi : i + 1 < bs.length) (hlen : bs.length < 1099511627776) (R : List Asn) (ops : Array Oper) (hops : ops = oMe5I) (hsz : a.tmps.size = 111) (h1 : a.eval (.tmp 1) = .pointer (some ⟨b, 0, none⟩)) (h2 : a.eval (.tmp 2) = .int .i64 i)
    (hS : St w0 fp0 ([blkA b 70 #[xk, xv, vpick false (a.eval (.tmp 108)) xp], pick false (slA 67 (a.eval (.tmp 108)) ((bs.map ptrI).eraseIdx (i + 1))) (slA 67 xp (bs.map ptrI))] ++ R) w)
    (hQ : ∀ (u : Nat → Value) w1, St w0 fp0 ([blkA b 70 #[xk, xv, vpick true (u 108) xp], pick true (slA 67 (u 108) ((bs.map ptrI).eraseIdx (i + 1))) (slA 67 xp (bs.map ptrI))] ++ R) w1 → Q .normal (putL a (([99, 100, 101, 102, 103, 104, 105, 106, 107, 108, 109, 110] : List Nat).map fun d => (d, u d))) w1) : (Code.region 5 ops false).wp Try.prog Q a w := by
  subst hops
  have hw : IntKind.i64.wrap ((i : Int) + (1 : Int)) = (i : Int) + (1 : Int) := by rw [IntKind.wrap_i64]; omega
  have hw2 : IntKind.i64.wrap ((i : Int) + (2 : Int)) = ((i : Int) + (1 : Int)) + 1 := by rw [IntKind.wrap_i64]; omega
  have hsize : oMe5I.size = 13 := by kernel_rfl
  have hE : Looks (fun L g w => St w0 fp0 ([blkA b 70 #[xk, xv, vpick (L 12) (g 108) xp], pick (L 9) (slA 67 (g 108) ((bs.map ptrI).eraseIdx (i + 1))) (slA 67 xp (bs.map ptrI))] ++ R) w) [9, 12] [108] := by
    intro L L' g g' w hL hg h
    simpa only [← hL 9 (by decide), ← hL 12 (by decide), ← hg 108 (by decide)] using h
  have hn1 : (([(0, 99, .pointer (some ⟨b, 0, none⟩)), (1, 100, .pointer (some ⟨b, 0, none⟩)), (2, 101, .pointer (some ⟨b, 0, none⟩)), (3, 102, .pointer (some ⟨b, 2, none⟩)), (4, 103, xp), (5, 104, .int .i64 i), (6, 105, .int .i64 ((i + 1 : Nat) : Int)), (7, 106, .int .i64 i), (8, 107, .int .i64 (((i + 1 : Nat) : Int) + 1)), (10, 109, .pointer (some ⟨b, 0, none⟩)), (11, 110, .pointer (some ⟨b, 2, none⟩))] : List (Nat × Nat × Value)).map (·.1)).Nodup := by
    show List.Nodup [0, 1, 2, 3, 4, 5, 6, 7, 8, 10, 11]
    decide
  have hn2 : (([(0, 99, .pointer (some ⟨b, 0, none⟩)), (1, 100, .pointer (some ⟨b, 0, none⟩)), (2, 101, .pointer (some ⟨b, 0, none⟩)), (3, 102, .pointer (some ⟨b, 2, none⟩)), (4, 103, xp), (5, 104, .int .i64 i), (6, 105, .int .i64 ((i + 1 : Nat) : Int)), (7, 106, .int .i64 i), (8, 107, .int .i64 (((i + 1 : Nat) : Int) + 1)), (10, 109, .pointer (some ⟨b, 0, none⟩)), (11, 110, .pointer (some ⟨b, 2, none⟩))] : List (Nat × Nat × Value)).map (·.2.1)).Nodup := by
    show List.Nodup [99, 100, 101, 102, 103, 104, 105, 106, 107, 109, 110]
    decide
  refine wp_region_vals0 (ops' := oMe5I) [99, 100, 101, 102, 103, 104, 105, 106, 107, 108, 109, 110] [(0, 99, .pointer (some ⟨b, 0, none⟩)), (1, 100, .pointer (some ⟨b, 0, none⟩)), (2, 101, .pointer (some ⟨b, 0, none⟩)), (3, 102, .pointer (some ⟨b, 2, none⟩)), (4, 103, xp), (5, 104, .int .i64 i), (6, 105, .int .i64 ((i + 1 : Nat) : Int)), (7, 106, .int .i64 i), (8, 107, .int .i64 (((i + 1 : Nat) : Int) + 1)), (10, 109, .pointer (some ⟨b, 0, none⟩)), (11, 110, .pointer (some ⟨b, 2, none⟩))] (fun L g w => St w0 fp0 ([blkA b 70 #[xk, xv, vpick (L 12) (g 108) xp], pick (L 9) (slA 67 (g 108) ((bs.map ptrI).eraseIdx (i + 1))) (slA 67 xp (bs.map ptrI))] ++ R) w) rfl (by kernel_rfl) hS ?_ ?_
  · intro oi o L a1 w1 ho hL hdep hI
    have hoi : oi < 13 := by have := (Array.getElem?_eq_some_iff.1 ho).1; omega
    have h1sz : a1.tmps.size = 111 := hI.frame.size.trans hsz
    rcases (by omega : oi = 0 ∨ oi = 1 ∨ oi = 2 ∨ oi = 3 ∨ oi = 4 ∨ oi = 5 ∨ oi = 6 ∨ oi = 7 ∨ oi = 8 ∨ oi = 9 ∨ oi = 10 ∨ oi = 11 ∨ oi = 12) with rfl | rfl | rfl | rfl | rfl | rfl | rfl | rfl | rfl | rfl | rfl | rfl | rfl
    · have hl : oMe5I[0]? = some ⟨some 99, Op.move (Operand.tmp 1), _, _, _, none⟩ := rfl
      obtain rfl := oI ho hl
      have x1 := hI.old 1 (.pointer (some ⟨b, 0, none⟩)) (by decide) h1
      exact hI.rd hE hsz 0 99 (.pointer (some ⟨b, 0, none⟩)) ho rfl rfl hdep (by decide) (vals_at hn1 hn2 0 rfl) (by simp [go_sem, execOp, Act.eval, x1])
    · have hl : oMe5I[1]? = some ⟨some 100, Op.move (Operand.tmp 1), _, _, _, none⟩ := rfl
      obtain rfl := oI ho hl
      have x1 := hI.old 1 (.pointer (some ⟨b, 0, none⟩)) (by decide) h1
      exact hI.rd hE hsz 1 100 (.pointer (some ⟨b, 0, none⟩)) ho rfl rfl hdep (by decide) (vals_at hn1 hn2 1 rfl) (by simp [go_sem, execOp, Act.eval, x1])
    · have hl : oMe5I[2]? = some ⟨some 101, Op.nilCheck (Operand.tmp 100), _, _, _, none⟩ := rfl
      obtain rfl := oI ho hl
      have x100 := hI.val 1 100 (.pointer (some ⟨b, 0, none⟩)) (mG (i := 1) rfl) (dK ho hdep (by kernel_rfl : waitsB oMe5I 2 1 = true))
      exact hI.rd hE hsz 2 101 (.pointer (some ⟨b, 0, none⟩)) ho rfl rfl hdep (by decide) (vals_at hn1 hn2 2 rfl) (by simp [go_sem, execOp, Act.eval, x100])
    · have hl : oMe5I[3]? = some ⟨some 102, Op.fieldAddr _ (Operand.tmp 101) 2, _, _, _, none⟩ := rfl
      obtain rfl := oI ho hl
      have x101 := hI.val 2 101 (.pointer (some ⟨b, 0, none⟩)) (mG (i := 2) rfl) (dK ho hdep (by kernel_rfl : waitsB oMe5I 3 2 = true))
      exact hI.rd hE hsz 3 102 (.pointer (some ⟨b, 2, none⟩)) ho rfl rfl hdep (by decide) (vals_at hn1 hn2 3 rfl) (by simp [go_sem, execOp, Act.eval, x101])
    · have hl : oMe5I[4]? = some ⟨some 103, Op.load _ (Operand.tmp 102), _, _, _, none⟩ := rfl
      obtain rfl := oI ho hl
      have x102 := hI.val 3 102 (.pointer (some ⟨b, 2, none⟩)) (mG (i := 3) rfl) (dK ho hdep (by kernel_rfl : waitsB oMe5I 4 3 = true))
      have hS1 := hI.eff
      have e9 : L 9 = false := hI.no hL (by kernel_rfl : waitsB oMe5I 9 4 = true)
      have e12 : L 12 = false := hI.no hL (by kernel_rfl : waitsB oMe5I 12 4 = true)
      simp only [e9, e12, pick_false, vpick_false] at hS1
      obtain ⟨_, hp⟩ := hS1.has 0 rfl
      have hcell := (blk_get hp).1 2
      have hlt := (blk_get hp).2.2
      simp only [List.getElem?_toArray, List.getElem?_cons_zero, List.getElem?_cons_succ] at hcell
      exact hI.rd hE hsz 4 103 (xp) ho rfl rfl hdep (by decide) (vals_at hn1 hn2 4 rfl) (by simp [go_sem, execOp, Act.eval, x102, hcell])
    · have hl : oMe5I[5]? = some ⟨some 104, Op.move (Operand.tmp 2), _, _, _, none⟩ := rfl
      obtain rfl := oI ho hl
      have x2 := hI.old 2 (.int .i64 i) (by decide) h2
      exact hI.rd hE hsz 5 104 (.int .i64 i) ho rfl rfl hdep (by decide) (vals_at hn1 hn2 5 rfl) (by simp [go_sem, execOp, Act.eval, x2])
    · have hl : oMe5I[6]? = some ⟨some 105, Op.binOp BinOp.add _ (Operand.tmp 104) (Operand.const (Value.int IntKind.i64 1)) _, _, _, _, none⟩ := rfl
      obtain rfl := oI ho hl
      have x104 := hI.val 5 104 (.int .i64 i) (mG (i := 5) rfl) (dK ho hdep (by kernel_rfl : waitsB oMe5I 6 5 = true))
      exact hI.rd hE hsz 6 105 (.int .i64 ((i + 1 : Nat) : Int)) ho rfl rfl hdep (by decide) (vals_at hn1 hn2 6 rfl) (by simp [go_sem, execOp, Act.eval, x104, hw])
    · have hl : oMe5I[7]? = some ⟨some 106, Op.move (Operand.tmp 2), _, _, _, none⟩ := rfl
      obtain rfl := oI ho hl
      have x2 := hI.old 2 (.int .i64 i) (by decide) h2
      exact hI.rd hE hsz 7 106 (.int .i64 i) ho rfl rfl hdep (by decide) (vals_at hn1 hn2 7 rfl) (by simp [go_sem, execOp, Act.eval, x2])
    · have hl : oMe5I[8]? = some ⟨some 107, Op.binOp BinOp.add _ (Operand.tmp 106) (Operand.const (Value.int IntKind.i64 2)) _, _, _, _, none⟩ := rfl
      obtain rfl := oI ho hl
      have x106 := hI.val 7 106 (.int .i64 i) (mG (i := 7) rfl) (dK ho hdep (by kernel_rfl : waitsB oMe5I 8 7 = true))
      exact hI.rd hE hsz 8 107 (.int .i64 (((i + 1 : Nat) : Int) + 1)) ho rfl rfl hdep (by decide) (vals_at hn1 hn2 8 rfl) (by simp [go_sem, execOp, Act.eval, x106, hw2])
    · have hl : oMe5I[9]? = some ⟨some 108, Op.call ⟨Callee.value (Operand.func _), #[Operand.tmp 103, Operand.tmp 105, Operand.tmp 107], _⟩, _, _, _, none⟩ := rfl
      obtain rfl := oI ho hl
      have x103 := hI.val 4 103 (xp) (mG (i := 4) rfl) (dK ho hdep (by kernel_rfl : waitsB oMe5I 9 4 = true))
      have x105 := hI.val 6 105 (.int .i64 ((i + 1 : Nat) : Int)) (mG (i := 6) rfl) (dK ho hdep (by kernel_rfl : waitsB oMe5I 9 6 = true))
      have x107 := hI.val 8 107 (.int .i64 (((i + 1 : Nat) : Int) + 1)) (mG (i := 8) rfl) (dK ho hdep (by kernel_rfl : waitsB oMe5I 9 8 = true))
      have hS1 := hI.eff
      have e9 : L 9 = false := hL
      have e12 : L 12 = false := hI.no hL (by kernel_rfl : waitsB oMe5I 12 9 = true)
      simp only [e9, e12, pick_false, vpick_false] at hS1
      obtain ⟨f, hsl, hset⟩ := hS1.get 1 rfl
      refine inv_call ho rfl (f := 85) (by simp [go_sem, Act.eval, x103, x105, x107]) (delP_calls _ _ (i + 1) _ hsl (by rw [List.length_map]; exact hi) (by rw [List.length_map]; exact hlen) (ptrI_one bs)) ?_
      rintro e w2 ⟨an, nn, cn, f', rfl, hsl', htr⟩
      refine ⟨_, rfl, hI.put 9 108 _ ho hdep (by decide) (by intro t ht; exact vals_ne2 rfl rfl (by decide : 9 ∉ [0, 1, 2, 3, 4, 5, 6, 7, 8, 10, 11]) (by decide : 108 ∉ [99, 100, 101, 102, 103, 104, 105, 106, 107, 109, 110]) ht) ?_⟩
      have hS2 := hset _ _ _ hsl' htr
      simp only [e9, e12, Bool.or_false, Bool.or_true, Nat.reduceEqDiff, decide_true, decide_false, pick_true, vpick_false, eval_put_same (by rw [h1sz]; decide : 108 < a1.tmps.size)]
      exact hS2
    · have hl : oMe5I[10]? = some ⟨some 109, Op.nilCheck (Operand.tmp 99), _, _, _, none⟩ := rfl
      obtain rfl := oI ho hl
      have x99 := hI.val 0 99 (.pointer (some ⟨b, 0, none⟩)) (mG (i := 0) rfl) (dK ho hdep (by kernel_rfl : waitsB oMe5I 10 0 = true))
      exact hI.rd hE hsz 10 109 (.pointer (some ⟨b, 0, none⟩)) ho rfl rfl hdep (by decide) (vals_at hn1 hn2 9 rfl) (by simp [go_sem, execOp, Act.eval, x99])
    · have hl : oMe5I[11]? = some ⟨some 110, Op.fieldAddr _ (Operand.tmp 109) 2, _, _, _, none⟩ := rfl
      obtain rfl := oI ho hl
      have x109 := hI.val 10 109 (.pointer (some ⟨b, 0, none⟩)) (mG (i := 9) rfl) (dK ho hdep (by kernel_rfl : waitsB oMe5I 11 10 = true))
      exact hI.rd hE hsz 11 110 (.pointer (some ⟨b, 2, none⟩)) ho rfl rfl hdep (by decide) (vals_at hn1 hn2 10 rfl) (by simp [go_sem, execOp, Act.eval, x109])
    · have hl : oMe5I[12]? = some ⟨none, Op.store _ (Operand.tmp 110) (Operand.tmp 108), _, _, _, none⟩ := rfl
      obtain rfl := oI ho hl
      have x110 := hI.val 11 110 (.pointer (some ⟨b, 2, none⟩)) (mG (i := 10) rfl) (dK ho hdep (by kernel_rfl : waitsB oMe5I 12 11 = true))
      have hS1 := hI.eff
      have e9 : L 9 = true := dK ho hdep (by kernel_rfl : waitsB oMe5I 12 9 = true)
      have e12 : L 12 = false := hL
      simp only [e9, e12, pick_true, vpick_false] at hS1
      obtain ⟨_, hpv⟩ := hS1.has 1 rfl
      obtain ⟨av, nv, cv, hv⟩ := sl_shape hpv
      have xv := eval_spell hv
      obtain ⟨f, hp, hset⟩ := hS1.get 0 rfl
      have hcell := (blk_get hp).1 2
      have hfz := (blk_get hp).2.1 2
      have hlt := (blk_get hp).2.2
      simp only [List.getElem?_toArray, List.getElem?_cons_zero, List.getElem?_cons_succ] at hcell
      refine inv_stored ho rfl rfl (by simp [go_sem, execOp, Act.eval, x110, xv, hcell, hfz]; rfl) (hI.step 12 ho hdep (by intro t ht; exact vals_ne1 rfl (by decide : 12 ∉ [0, 1, 2, 3, 4, 5, 6, 7, 8, 10, 11]) ht) ?_)
      obtain ⟨hb2, ht2⟩ := blk_set hp 2 (a1.eval (.tmp 108))
      have hS2 := hset _ _ _ hb2 ht2
      simp only [e9, e12, Bool.or_false, Bool.or_true, Nat.reduceEqDiff, decide_true, decide_false, pick_true, vpick_true]
      rw [hv] at hS2
      rw [hv]
      exact hS2
  · intro L a1 w1 hL hI
    have hS1 := hI.eff
    simp only [hL 9 (by rw [hsize]; decide), hL 12 (by rw [hsize]; decide), pick_true, vpick_true] at hS1
    have := hQ (fun d => a1.eval (.tmp d)) w1  hS1
    have e := hI.frame.eq
    rw [e]
    exact this
end Go.Proofs.Ytldofiankhimjaa
/- A node with two neighbouring kids in view (I). -/
namespace Go.Proofs.Ytldofiankhimjaa
open Go Go.RowKit
/-- The pieces of a node, its kids apart. -/
def ndLI (b : Nat) (ks vs ps : Value) (es : M Int Int) (bs : List Nat) : List Asn := [blkA b 70 #[ks, vs, ps], slA 3 ks (keysI es), slA 3 vs (valsI es), slA 67 ps (bs.map ptrI)]
def kdAI (h : Nat) (cs : List TI) (bs : List Nat) : Asn := starA (List.zipWith (kidI h) cs bs)
theorem mid2 {α : Type} {l : List α} {i : Nat} {c d : α} (h : l[i]? = some c) (h2 : l[i + 1]? = some d) : (l.take (i + 2)).drop i = [c, d] := by
  obtain ⟨a1, a2⟩ := List.getElem?_eq_some_iff.1 h
  obtain ⟨b1, b2⟩ := List.getElem?_eq_some_iff.1 h2
  rw [List.take_succ_eq_append_getElem b1, List.take_succ_eq_append_getElem a1, List.append_assoc, List.drop_append_of_le_length (by simp; omega), List.drop_of_length_le (by simp; omega), a2, b2]
  rfl
theorem St.kids_appI {w0 w : World} {fp0 : List Nat} {L : List Asn} {h : Nat} {A B : List TI} {A' B' : List Nat} (hl : A'.length = A.length) :
    St w0 fp0 (kdAI h (A ++ B) (A' ++ B') :: L) w ↔ St w0 fp0 (kdAI h A A' :: kdAI h B B' :: L) w := by
  unfold kdAI
  rw [zipWith_app _ _ _ _ _ hl.symm]
  constructor
  · intro h0
    have h1 := St.star.1 h0
    rw [List.append_assoc] at h1
    have h2 : St w0 fp0 (starA (List.zipWith (kidI h) B B') :: (List.zipWith (kidI h) A A' ++ L)) w := St.star.2 (h1.perm (by
      classical
      refine List.perm_iff_count.2 fun a => ?_
      simp only [List.count_append]
      omega))
    exact St.star.2 (h2.perm (by
      classical
      refine List.perm_iff_count.2 fun a => ?_
      simp only [List.count_append, List.count_cons]
      omega))
  · intro h0
    have h1 := St.star.1 h0
    have h2 : St w0 fp0 (starA (List.zipWith (kidI h) B B') :: (List.zipWith (kidI h) A A' ++ L)) w := h1.perm (by
      classical
      refine List.perm_iff_count.2 fun a => ?_
      simp only [List.count_append, List.count_cons]
      omega)
    refine St.star.2 ((St.star.1 h2).perm ?_)
    classical
    refine List.perm_iff_count.2 fun a => ?_
    simp only [List.count_append]
    omega
theorem St.kd1I {w0 w : World} {fp0 : List Nat} {L : List Asn} {h : Nat} {c : TI} {b : Nat} : St w0 fp0 (kdAI h [c] [b] :: L) w ↔ St w0 fp0 (kidI h c b :: L) w := by
  unfold kdAI
  exact St.star
theorem St.kd0I {w0 w : World} {fp0 : List Nat} {L : List Asn} {h : Nat} : St w0 fp0 (kdAI h [] [] :: L) w ↔ St w0 fp0 L w := by
  unfold kdAI
  exact St.star
/-- The state with two kids in view. -/
def twLI (rest : Asn) (b : Nat) (ks vs ps : Value) (es : M Int Int) (bs : List Nat) (lb : Nat) (lk lv lp : Value) (le : M Int Int) (lbs : List Nat) (rb : Nat) (rk rv rp : Value) (re : M Int Int) (rbs : List Nat) (R : List Asn) : List Asn :=
  ndLI b ks vs ps es bs ++ (ndLI lb lk lv lp le lbs ++ (ndLI rb rk rv rp re rbs ++ (rest :: R)))
theorem St.openTwI {w0 w : World} {fp0 : List Nat} {R : List Asn} {h i : Nat} {x l r : TI} {b : Nat} (h1 : x.cs[i]? = some l) (h2 : x.cs[i + 1]? = some r) (hs : St w0 fp0 (treeI (h + 1) x b :: R) w) :
    ∃ ks vs ps bs lb lk lv lp lbs rb rk rv rp rbs, bs.length = x.cs.length ∧ bs[i]? = some lb ∧ bs[i + 1]? = some rb ∧ lbs.length = l.cs.length ∧ rbs.length = r.cs.length ∧
      St w0 fp0 (twLI (restI h i (i + 2) x.cs bs) b ks vs ps x.es bs lb lk lv lp l.es lbs rb rk rv rp r.es rbs (kdAI h l.cs lbs :: kdAI h r.cs rbs :: R)) w := by
  obtain ⟨ks, vs, ps, bs, hl, g1⟩ := hs.kidsI i (i + 2) (by omega)
  have a1 := (List.getElem?_eq_some_iff.1 h1).1
  have a2 := (List.getElem?_eq_some_iff.1 h2).1
  obtain ⟨lb, e1⟩ : ∃ lb, bs[i]? = some lb := ⟨_, List.getElem?_eq_getElem (by omega)⟩
  obtain ⟨rb, e2⟩ : ∃ rb, bs[i + 1]? = some rb := ⟨_, List.getElem?_eq_getElem (by omega)⟩
  rw [mid2 h1 h2, mid2 e1 e2] at g1
  have g2 : St w0 fp0 (treeI h l lb :: treeI h r rb :: (ndLI b ks vs ps x.es bs ++ (restI h i (i + 2) x.cs bs :: R))) w := by
    refine g1.perm ?_
    unfold ndLI
    classical
    refine List.perm_iff_count.2 fun a => ?_
    simp only [List.zipWith, List.cons_append, List.nil_append, List.count_cons]
    omega
  obtain ⟨lk, lv, lp, lbs, hl1, g3⟩ := g2.openNI
  have g4 : St w0 fp0 (treeI h r rb :: (ndLI lb lk lv lp l.es lbs ++ (kdAI h l.cs lbs :: (ndLI b ks vs ps x.es bs ++ (restI h i (i + 2) x.cs bs :: R))))) w := by
    refine g3.perm ?_
    unfold ndLI kdAI
    classical
    refine List.perm_iff_count.2 fun a => ?_
    simp only [List.cons_append, List.nil_append, List.count_cons]
    omega
  obtain ⟨rk, rv, rp, rbs, hl2, g5⟩ := g4.openNI
  refine ⟨ks, vs, ps, bs, lb, lk, lv, lp, lbs, rb, rk, rv, rp, rbs, hl, e1, e2, hl1, hl2, g5.perm ?_⟩
  unfold twLI ndLI kdAI
  classical
  refine List.perm_iff_count.2 fun a => ?_
  simp only [List.cons_append, List.nil_append, List.count_cons]
  omega
theorem St.shutTwI {w0 w : World} {fp0 : List Nat} {R : List Asn} {h i : Nat} {es le re : M Int Int} {cs lc rc : List TI} {b lb rb : Nat} {ks vs ps lk lv lp rk rv rp : Value} {bs lbs rbs : List Nat} (hl : bs.length = cs.length) (e1 : bs[i]? = some lb) (e2 : bs[i + 1]? = some rb) (hl1 : lbs.length = lc.length) (hl2 : rbs.length = rc.length)
    (hs : St w0 fp0 (twLI (restI h i (i + 2) cs bs) b ks vs ps es bs lb lk lv lp le lbs rb rk rv rp re rbs (kdAI h lc lbs :: kdAI h rc rbs :: R)) w) :
    St w0 fp0 (treeI (h + 1) (.node es (cs.take i ++ (.node le lc :: .node re rc :: cs.drop (i + 2)))) b :: R) w := by
  have g1 : St w0 fp0 (blkA lb 70 #[lk, lv, lp] :: slA 3 lk (Ytldofiankhimjaa.keysI le) :: slA 3 lv (valsI le) :: slA 67 lp (lbs.map ptrI) :: starA (List.zipWith (kidI h) lc lbs) :: (ndLI rb rk rv rp re rbs ++ (kdAI h rc rbs :: (ndLI b ks vs ps es bs ++ (restI h i (i + 2) cs bs :: R))))) w := by
    refine hs.perm ?_
    unfold twLI ndLI kdAI
    classical
    refine List.perm_iff_count.2 fun a => ?_
    simp only [List.cons_append, List.nil_append, List.count_cons]
    omega
  have g2 := St.shutNI hl1 g1
  have g3 : St w0 fp0 (blkA rb 70 #[rk, rv, rp] :: slA 3 rk (Ytldofiankhimjaa.keysI re) :: slA 3 rv (valsI re) :: slA 67 rp (rbs.map ptrI) :: starA (List.zipWith (kidI h) rc rbs) :: (treeI h (.node le lc) lb :: (ndLI b ks vs ps es bs ++ (restI h i (i + 2) cs bs :: R)))) w := by
    refine g2.perm ?_
    unfold ndLI kdAI
    classical
    refine List.perm_iff_count.2 fun a => ?_
    simp only [List.cons_append, List.nil_append, List.count_cons]
    omega
  have g4 := St.shutNI hl2 g3
  refine St.joinI (mid := [.node le lc, .node re rc]) (mb := [lb, rb]) (ks := ks) (vs := vs) (ps := ps) i (i + 2) hl rfl (g4.perm ?_)
  have e : bs.take i ++ ([lb, rb] ++ bs.drop (i + 2)) = bs := by
    conv => rhs; rw [split_at e1]
    have e3 : bs.drop (i + 1) = rb :: bs.drop (i + 2) := by
      obtain ⟨hlt, hx⟩ := List.getElem?_eq_some_iff.1 e2
      rw [List.drop_eq_getElem_cons hlt, hx]
    rw [e3]
    rfl
  rw [e]
  unfold ndLI
  classical
  refine List.perm_iff_count.2 fun a => ?_
  simp only [List.zipWith, List.cons_append, List.nil_append, List.count_cons]
  omega
/-- Two kids have become one. -/
theorem St.shutTw1I {w0 w : World} {fp0 : List Nat} {R : List Asn} {h i : Nat} {es le : M Int Int} {cs lc : List TI} {b lb : Nat} {ks vs ps lk lv lp : Value} {bs lbs : List Nat} (hl : bs.length = cs.length) (e1 : bs[i]? = some lb) (hl1 : lbs.length = lc.length)
    (hs : St w0 fp0 (ndLI b ks vs ps es (bs.eraseIdx (i + 1)) ++ (ndLI lb lk lv lp le lbs ++ (kdAI h lc lbs :: restI h i (i + 2) cs bs :: R))) w) :
    St w0 fp0 (treeI (h + 1) (.node es (cs.take i ++ (.node le lc :: cs.drop (i + 2)))) b :: R) w := by
  have g1 : St w0 fp0 (blkA lb 70 #[lk, lv, lp] :: slA 3 lk (Ytldofiankhimjaa.keysI le) :: slA 3 lv (valsI le) :: slA 67 lp (lbs.map ptrI) :: starA (List.zipWith (kidI h) lc lbs) :: (ndLI b ks vs ps es (bs.eraseIdx (i + 1)) ++ (restI h i (i + 2) cs bs :: R))) w := by
    refine hs.perm ?_
    unfold ndLI kdAI
    classical
    refine List.perm_iff_count.2 fun a => ?_
    simp only [List.cons_append, List.nil_append, List.count_cons]
    omega
  have g2 := St.shutNI hl1 g1
  refine St.joinI (mid := [.node le lc]) (mb := [lb]) (ks := ks) (vs := vs) (ps := ps) i (i + 2) hl rfl (g2.perm ?_)
  have e : bs.take i ++ ([lb] ++ bs.drop (i + 2)) = bs.eraseIdx (i + 1) := by
    rw [List.eraseIdx_eq_take_drop_succ]
    obtain ⟨hlt, hx⟩ := List.getElem?_eq_some_iff.1 e1
    rw [List.take_succ_eq_append_getElem hlt, hx, List.append_assoc]
  rw [e]
  unfold ndLI
  classical
  refine List.perm_iff_count.2 fun a => ?_
  simp only [List.zipWith, List.cons_append, List.nil_append, List.count_cons]
  omega
end Go.Proofs.Ytldofiankhimjaa
/- merge (I). -/
namespace Go.Proofs.Ytldofiankhimjaa
open Go Go.RowKit
theorem map_eraseIdxI {α β : Type} (f : α → β) (l : List α) (i : Nat) : (l.eraseIdx i).map f = (l.map f).eraseIdx i := by
  rw [List.eraseIdx_eq_take_drop_succ, List.eraseIdx_eq_take_drop_succ, List.map_append, List.map_take, List.map_drop]
theorem St.dropAllI {w0 w : World} {fp0 : List Nat} : ∀ {A B : List Asn}, St w0 fp0 (A ++ B) w → St w0 fp0 B w
  | [], _, h => h
  | _ :: A, _, h => St.dropAllI (A := A) h.drop
set_option maxHeartbeats 8000000 in
set_option maxRecDepth 100000 in
theorem mergeI_calls (t : Value) {h i : Nat} {x l r : TI} {s : Int × Int} (b : Nat) (w0 w : World) (fp0 : List Nat) (R : List Asn) (h1 : x.cs[i]? = some l) (h2 : x.cs[i + 1]? = some r) (h3 : x.es[i]? = some s)
    (hxl : x.es.length ≤ 2000 ∧ x.cs.length ≤ 2001) (hll : l.es.length ≤ 2000) (hrl : r.es.length ≤ 2000) (hlc : l.cs.length ≤ 2001) (hrc : r.cs.length ≤ 2001) (hS : St w0 fp0 (treeI (h + 1) x b :: R) w) :
    Calls Try.prog 86 #[t, .pointer (some ⟨b, 0, none⟩), .int .i64 i] w fun e w' => e = .returned (.tuple #[]) ∧ St w0 fp0 (treeI (h + 1) (mergeT i x) b :: R) w' := by
  obtain ⟨ks, vs, ps, bs, lb, lk, lv, lp, lbs, rb, rk, rv, rp, rbs, hl, hbl, hbr, hl1, hl2, hS1⟩ := hS.openTwI h1 h2
  obtain ⟨_, q1⟩ := hS1.has 1 rfl
  obtain ⟨_, q2⟩ := hS1.has 2 rfl
  obtain ⟨_, q3⟩ := hS1.has 3 rfl
  have hix : i < x.es.length := (List.getElem?_eq_some_iff.1 h3).1
  have hib : i + 1 < bs.length := (List.getElem?_eq_some_iff.1 hbr).1
  obtain ⟨gx, cx, rfl, hcx, -⟩ := sl_some q1 (by rw [keysI_length]; omega)
  obtain ⟨gy, cy, rfl, hcy, -⟩ := sl_some q2 (by rw [valsI_length]; omega)
  obtain ⟨gp, cp, rfl, hcp, -⟩ := sl_some q3 (by rw [List.length_map]; omega)
  obtain ⟨d0, -, d0l, -⟩ := sl_elem q3 i (by rw [List.length_map]; omega)
  obtain ⟨d1, -, -, -⟩ := sl_elem q3 (i + 1) (by rw [List.length_map]; omega)
  simp only [List.getElem_map] at d0 d1
  rw [(List.getElem?_eq_some_iff.1 hbl).2] at d0
  rw [(List.getElem?_eq_some_iff.1 hbr).2] at d1
  rw [keysI_length] at hcx hS1
  rw [valsI_length] at hcy hS1
  rw [List.length_map] at hcp hS1
  obtain ⟨_, q0⟩ := hS1.has 0 rfl
  have c0 := (blk_get q0).1 0
  have c1 := (blk_get q0).1 1
  have c2 := (blk_get q0).1 2
  have cl := (blk_get q0).2.2
  simp only [List.getElem?_toArray, List.getElem?_cons_zero, List.getElem?_cons_succ] at c0 c1 c2
  obtain ⟨n, hn⟩ : ∃ n, x.es.length = n := ⟨_, rfl⟩
  obtain ⟨np, hnp⟩ : ∃ np, bs.length = np := ⟨_, rfl⟩
  have hnb : n ≤ 2000 := by rw [← hn]; exact hxl.1
  rw [hn] at hS1 hcx hcy c0 c1 hix
  rw [hnp] at hS1 hcp c2 hib
  unfold ptrI at d0 d1
  have Hl := Lib.hid hl
  have Hbl := Lib.hid hbl
  have Hbr := Lib.hid hbr
  have Hl1 := Lib.hid hl1
  have Hl2 := Lib.hid hl2
  have Hn := Lib.hid hn
  have Hnp := Lib.hid hnp
  have H1 := Lib.hid h1
  have H2 := Lib.hid h2
  have H3 := Lib.hid h3
  have Hxl := Lib.hid hxl
  have Hll := Lib.hid hll
  have Hrl := Lib.hid hrl
  have Hlc := Lib.hid hlc
  have Hrc := Lib.hid hrc
  have HS1 := Lib.hid hS1
  clear hS hS1 q0 q1 q2 q3 hl hbl hbr hl1 hl2 hn hnp h1 h2 h3 hxl hll hrl hlc hrc
  have w1 : IntKind.i64.wrap ((i : Int) + 1) = (i : Int) + 1 := IntWalk.i64_in _ (by omega)
  have w2 : 0 ≤ (i : Int) + 1 := by omega
  have w3 : ((i : Int) + 1).toNat = i + 1 := by omega
  have w4 : (i : Int) < np := by omega
  have w5 : (i : Int) + 1 < np := by omega
  go_enter Try.func86, Try.ntmps86
  go_upto_region 0 with (fail)
  go_cut [6, 7] (fun z6 z7 wx => z6 = .pointer (some ⟨lb, 0, none⟩) ∧ z7 = .pointer (some ⟨rb, 0, none⟩) ∧ RowKit.Hid (St w0 fp0 (blkA b 70 #[.slice (some ⟨gx, 0, none⟩) n cx, .slice (some ⟨gy, 0, none⟩) n cy, .slice (some ⟨gp, 0, none⟩) np cp] :: slA 3 (.slice (some ⟨gx, 0, none⟩) n cx) (keysI x.es) :: slA 3 (.slice (some ⟨gy, 0, none⟩) n cy) (valsI x.es) :: slA 67 (.slice (some ⟨gp, 0, none⟩) np cp) (bs.map ptrI) :: blkA lb 70 #[lk, lv, lp] :: slA 3 lk (keysI l.es) :: slA 3 lv (valsI l.es) :: slA 67 lp (lbs.map ptrI) :: blkA rb 70 #[rk, rv, rp] :: slA 3 rk (keysI r.es) :: slA 3 rv (valsI r.es) :: slA 67 rp (rbs.map ptrI) :: restI h i (i + 2) x.cs bs :: kdAI h l.cs lbs :: kdAI h r.cs rbs :: R) wx))
  case first =>
    have HX : RowKit.Hid (∀ q, St w0 fp0 (blkA b 70 #[.slice (some ⟨gx, 0, none⟩) n cx, .slice (some ⟨gy, 0, none⟩) n cy, .slice (some ⟨gp, 0, none⟩) np cp] :: slA 3 (.slice (some ⟨gx, 0, none⟩) n cx) (keysI x.es) :: slA 3 (.slice (some ⟨gy, 0, none⟩) n cy) (valsI x.es) :: slA 67 (.slice (some ⟨gp, 0, none⟩) np cp) (bs.map ptrI) :: blkA lb 70 #[lk, lv, lp] :: slA 3 lk (keysI l.es) :: slA 3 lv (valsI l.es) :: slA 67 lp (lbs.map ptrI) :: blkA rb 70 #[rk, rv, rp] :: slA 3 rk (keysI r.es) :: slA 3 rv (valsI r.es) :: slA 67 rp (rbs.map ptrI) :: restI h i (i + 2) x.cs bs :: kdAI h l.cs lbs :: kdAI h r.cs rbs :: R) (w.drewN q)) := by
      intro q
      refine (HS1.out.mono (below_drewN _ _)).perm ?_
      exact (by classical exact List.perm_iff_count.2 fun a => by simp only [twLI, ndLI, List.cons_append, List.nil_append, List.count_cons] <;> omega)
    go_quiet (fail)
    go_step
    go_step
    go_meet
    exact ⟨rfl, rfl, HX.out _⟩
  obtain ⟨rfl, rfl, HS2⟩ := hcut
  clear c0 c1 c2 cl d0 d1 d0l HS1 w1 w2 w3 w4 w5
  go_upto_region 1 with (fail)
  go_cut [] (fun wx => ∃ lk2, RowKit.Hid (St w0 fp0 (blkA b 70 #[.slice (some ⟨gx, 0, none⟩) n cx, .slice (some ⟨gy, 0, none⟩) n cy, .slice (some ⟨gp, 0, none⟩) np cp] :: slA 3 (.slice (some ⟨gx, 0, none⟩) n cx) (keysI x.es) :: slA 3 (.slice (some ⟨gy, 0, none⟩) n cy) (valsI x.es) :: slA 67 (.slice (some ⟨gp, 0, none⟩) np cp) (bs.map ptrI) :: blkA lb 70 #[lk2, lv, lp] :: slA 3 lk2 ((keysI l.es ++ [encI s.1]) ++ keysI r.es) :: slA 3 lv (valsI l.es) :: slA 67 lp (lbs.map ptrI) :: blkA rb 70 #[rk, rv, rp] :: slA 3 rk (keysI r.es) :: slA 3 rv (valsI r.es) :: slA 67 rp (rbs.map ptrI) :: restI h i (i + 2) x.cs bs :: kdAI h l.cs lbs :: kdAI h r.cs rbs :: R) wx))
  case first =>
    refine rMe1I (w0 := w0) (fp0 := fp0) b lb rb gx n cx i (.slice (some ⟨gx, 0, none⟩) n cx) (.slice (some ⟨gy, 0, none⟩) n cy) (.slice (some ⟨gp, 0, none⟩) np cp) lk lv lp rk rv rp x.es l.es r.es s H3.out hix Hn.out.symm (by have := Hll.out; have := Hrl.out; omega) (slA 3 (.slice (some ⟨gy, 0, none⟩) n cy) (valsI x.es) :: slA 67 (.slice (some ⟨gp, 0, none⟩) np cp) (bs.map ptrI) :: slA 3 lv (valsI l.es) :: slA 67 lp (lbs.map ptrI) :: slA 3 rv (valsI r.es) :: slA 67 rp (rbs.map ptrI) :: restI h i (i + 2) x.cs bs :: kdAI h l.cs lbs :: kdAI h r.cs rbs :: R) _ (by kernel_rfl) rfl rfl rfl rfl rfl ?_ ?_
    · have h0 := HS2.out
      refine (St.emp.2 (h0)).perm ?_
      exact (by classical exact List.perm_iff_count.2 fun a => by simp only [pick_false, vpick_false, List.cons_append, List.nil_append, List.count_cons] <;> omega)
    intro u w3 h3
    have H7 : RowKit.Hid (St w0 fp0 (blkA b 70 #[.slice (some ⟨gx, 0, none⟩) n cx, .slice (some ⟨gy, 0, none⟩) n cy, .slice (some ⟨gp, 0, none⟩) np cp] :: slA 3 (.slice (some ⟨gx, 0, none⟩) n cx) (keysI x.es) :: slA 3 (.slice (some ⟨gy, 0, none⟩) n cy) (valsI x.es) :: slA 67 (.slice (some ⟨gp, 0, none⟩) np cp) (bs.map ptrI) :: blkA lb 70 #[(u 41), lv, lp] :: slA 3 (u 41) ((keysI l.es ++ [encI s.1]) ++ keysI r.es) :: slA 3 lv (valsI l.es) :: slA 67 lp (lbs.map ptrI) :: blkA rb 70 #[rk, rv, rp] :: slA 3 rk (keysI r.es) :: slA 3 rv (valsI r.es) :: slA 67 rp (rbs.map ptrI) :: restI h i (i + 2) x.cs bs :: kdAI h l.cs lbs :: kdAI h r.cs rbs :: R) w3) := by
      have h4 := h3.drop
      refine h4.perm ?_
      exact (by classical exact List.perm_iff_count.2 fun a => by simp only [pick_true, vpick_true, List.append_eq, List.cons_append, List.nil_append, List.count_cons] <;> omega)
    clear h3
    simp only [putL, List.map, List.foldl, Act.put, List.setIfInBounds_toArray, List.set_cons_succ, List.set_cons_zero]
    go_step
    go_step
    go_meet
    exact ⟨u 41, H7⟩
  obtain ⟨lk2, HS3⟩ := hcut
  clear HS2
  go_upto_region 2 with (fail)
  go_cut [] (fun wx => ∃ lv2, RowKit.Hid (St w0 fp0 (blkA b 70 #[.slice (some ⟨gx, 0, none⟩) n cx, .slice (some ⟨gy, 0, none⟩) n cy, .slice (some ⟨gp, 0, none⟩) np cp] :: slA 3 (.slice (some ⟨gx, 0, none⟩) n cx) (keysI x.es) :: slA 3 (.slice (some ⟨gy, 0, none⟩) n cy) (valsI x.es) :: slA 67 (.slice (some ⟨gp, 0, none⟩) np cp) (bs.map ptrI) :: blkA lb 70 #[lk2, lv2, lp] :: slA 3 lk2 ((keysI l.es ++ [encI s.1]) ++ keysI r.es) :: slA 3 lv2 ((valsI l.es ++ [valI s.2]) ++ valsI r.es) :: slA 67 lp (lbs.map ptrI) :: blkA rb 70 #[rk, rv, rp] :: slA 3 rk (keysI r.es) :: slA 3 rv (valsI r.es) :: slA 67 rp (rbs.map ptrI) :: restI h i (i + 2) x.cs bs :: kdAI h l.cs lbs :: kdAI h r.cs rbs :: R) wx))
  case first =>
    refine rMe2I (w0 := w0) (fp0 := fp0) b lb rb gy n cy i (.slice (some ⟨gx, 0, none⟩) n cx) (.slice (some ⟨gy, 0, none⟩) n cy) (.slice (some ⟨gp, 0, none⟩) np cp) lk2 lv lp rk rv rp x.es l.es r.es s H3.out hix Hn.out.symm (by have := Hll.out; have := Hrl.out; omega) (slA 3 (.slice (some ⟨gx, 0, none⟩) n cx) (keysI x.es) :: slA 67 (.slice (some ⟨gp, 0, none⟩) np cp) (bs.map ptrI) :: slA 3 lk2 ((keysI l.es ++ [encI s.1]) ++ keysI r.es) :: slA 67 lp (lbs.map ptrI) :: slA 3 rk (keysI r.es) :: slA 67 rp (rbs.map ptrI) :: restI h i (i + 2) x.cs bs :: kdAI h l.cs lbs :: kdAI h r.cs rbs :: R) _ (by kernel_rfl) rfl rfl rfl rfl rfl ?_ ?_
    · have h0 := HS3.out
      refine (St.emp.2 (h0)).perm ?_
      exact (by classical exact List.perm_iff_count.2 fun a => by simp only [pick_false, vpick_false, List.cons_append, List.nil_append, List.count_cons] <;> omega)
    intro u w3 h3
    have H7 : RowKit.Hid (St w0 fp0 (blkA b 70 #[.slice (some ⟨gx, 0, none⟩) n cx, .slice (some ⟨gy, 0, none⟩) n cy, .slice (some ⟨gp, 0, none⟩) np cp] :: slA 3 (.slice (some ⟨gx, 0, none⟩) n cx) (keysI x.es) :: slA 3 (.slice (some ⟨gy, 0, none⟩) n cy) (valsI x.es) :: slA 67 (.slice (some ⟨gp, 0, none⟩) np cp) (bs.map ptrI) :: blkA lb 70 #[lk2, (u 62), lp] :: slA 3 lk2 ((keysI l.es ++ [encI s.1]) ++ keysI r.es) :: slA 3 (u 62) ((valsI l.es ++ [valI s.2]) ++ valsI r.es) :: slA 67 lp (lbs.map ptrI) :: blkA rb 70 #[rk, rv, rp] :: slA 3 rk (keysI r.es) :: slA 3 rv (valsI r.es) :: slA 67 rp (rbs.map ptrI) :: restI h i (i + 2) x.cs bs :: kdAI h l.cs lbs :: kdAI h r.cs rbs :: R) w3) := by
      have h4 := h3.drop
      refine h4.perm ?_
      exact (by classical exact List.perm_iff_count.2 fun a => by simp only [pick_true, vpick_true, List.append_eq, List.cons_append, List.nil_append, List.count_cons] <;> omega)
    clear h3
    simp only [putL, List.map, List.foldl, Act.put, List.setIfInBounds_toArray, List.set_cons_succ, List.set_cons_zero]
    go_step
    go_step
    go_meet
    exact ⟨u 62, H7⟩
  obtain ⟨lv2, HS4⟩ := hcut
  clear HS3
  go_upto_region 3 with (fail)
  go_cut [] (fun wx => ∃ lp2, RowKit.Hid (St w0 fp0 (blkA b 70 #[.slice (some ⟨gx, 0, none⟩) n cx, .slice (some ⟨gy, 0, none⟩) n cy, .slice (some ⟨gp, 0, none⟩) np cp] :: slA 3 (.slice (some ⟨gx, 0, none⟩) n cx) (keysI x.es) :: slA 3 (.slice (some ⟨gy, 0, none⟩) n cy) (valsI x.es) :: slA 67 (.slice (some ⟨gp, 0, none⟩) np cp) (bs.map ptrI) :: blkA lb 70 #[lk2, lv2, lp2] :: slA 3 lk2 ((keysI l.es ++ [encI s.1]) ++ keysI r.es) :: slA 3 lv2 ((valsI l.es ++ [valI s.2]) ++ valsI r.es) :: slA 67 lp2 (lbs.map ptrI ++ rbs.map ptrI) :: blkA rb 70 #[rk, rv, rp] :: slA 3 rk (keysI r.es) :: slA 3 rv (valsI r.es) :: slA 67 rp (rbs.map ptrI) :: restI h i (i + 2) x.cs bs :: kdAI h l.cs lbs :: kdAI h r.cs rbs :: R) wx))
  case first =>
    refine rMe3I (w0 := w0) (fp0 := fp0) lb rb lk2 lv2 lp rk rv rp lbs rbs (by have := Hlc.out; have := Hrc.out; have := Hl1.out; have := Hl2.out; omega) (blkA b 70 #[.slice (some ⟨gx, 0, none⟩) n cx, .slice (some ⟨gy, 0, none⟩) n cy, .slice (some ⟨gp, 0, none⟩) np cp] :: slA 3 (.slice (some ⟨gx, 0, none⟩) n cx) (keysI x.es) :: slA 3 (.slice (some ⟨gy, 0, none⟩) n cy) (valsI x.es) :: slA 67 (.slice (some ⟨gp, 0, none⟩) np cp) (bs.map ptrI) :: slA 3 lk2 ((keysI l.es ++ [encI s.1]) ++ keysI r.es) :: slA 3 lv2 ((valsI l.es ++ [valI s.2]) ++ valsI r.es) :: slA 3 rk (keysI r.es) :: slA 3 rv (valsI r.es) :: restI h i (i + 2) x.cs bs :: kdAI h l.cs lbs :: kdAI h r.cs rbs :: R) _ (by kernel_rfl) rfl rfl rfl ?_ ?_
    · have h0 := HS4.out
      refine (h0).perm ?_
      exact (by classical exact List.perm_iff_count.2 fun a => by simp only [pick_false, vpick_false, List.cons_append, List.nil_append, List.count_cons] <;> omega)
    intro u w3 h3
    have H7 : RowKit.Hid (St w0 fp0 (blkA b 70 #[.slice (some ⟨gx, 0, none⟩) n cx, .slice (some ⟨gy, 0, none⟩) n cy, .slice (some ⟨gp, 0, none⟩) np cp] :: slA 3 (.slice (some ⟨gx, 0, none⟩) n cx) (keysI x.es) :: slA 3 (.slice (some ⟨gy, 0, none⟩) n cy) (valsI x.es) :: slA 67 (.slice (some ⟨gp, 0, none⟩) np cp) (bs.map ptrI) :: blkA lb 70 #[lk2, lv2, (u 74)] :: slA 3 lk2 ((keysI l.es ++ [encI s.1]) ++ keysI r.es) :: slA 3 lv2 ((valsI l.es ++ [valI s.2]) ++ valsI r.es) :: slA 67 (u 74) (lbs.map ptrI ++ rbs.map ptrI) :: blkA rb 70 #[rk, rv, rp] :: slA 3 rk (keysI r.es) :: slA 3 rv (valsI r.es) :: slA 67 rp (rbs.map ptrI) :: restI h i (i + 2) x.cs bs :: kdAI h l.cs lbs :: kdAI h r.cs rbs :: R) w3) := by
      have h4 := h3
      refine h4.perm ?_
      exact (by classical exact List.perm_iff_count.2 fun a => by simp only [pick_true, vpick_true, List.cons_append, List.nil_append, List.count_cons] <;> omega)
    clear h3
    simp only [putL, List.map, List.foldl, Act.put, List.setIfInBounds_toArray, List.set_cons_succ, List.set_cons_zero]
    go_step
    go_step
    go_meet
    exact ⟨u 74, H7⟩
  obtain ⟨lp2, HS5⟩ := hcut
  clear HS4
  go_upto_region 4 with (fail)
  go_cut [] (fun wx => ∃ xk2 xv2, RowKit.Hid (St w0 fp0 (blkA b 70 #[xk2, xv2, .slice (some ⟨gp, 0, none⟩) np cp] :: slA 3 xk2 ((keysI x.es).eraseIdx i) :: slA 3 xv2 ((valsI x.es).eraseIdx i) :: slA 67 (.slice (some ⟨gp, 0, none⟩) np cp) (bs.map ptrI) :: blkA lb 70 #[lk2, lv2, lp2] :: slA 3 lk2 ((keysI l.es ++ [encI s.1]) ++ keysI r.es) :: slA 3 lv2 ((valsI l.es ++ [valI s.2]) ++ valsI r.es) :: slA 67 lp2 (lbs.map ptrI ++ rbs.map ptrI) :: blkA rb 70 #[rk, rv, rp] :: slA 3 rk (keysI r.es) :: slA 3 rv (valsI r.es) :: slA 67 rp (rbs.map ptrI) :: restI h i (i + 2) x.cs bs :: kdAI h l.cs lbs :: kdAI h r.cs rbs :: R) wx))
  case first =>
    refine rMe4I (w0 := w0) (fp0 := fp0) b i (.slice (some ⟨gx, 0, none⟩) n cx) (.slice (some ⟨gy, 0, none⟩) n cy) (.slice (some ⟨gp, 0, none⟩) np cp) x.es (by rw [Hn.out]; exact hix) (by have := Hxl.out.1; omega) (slA 67 (.slice (some ⟨gp, 0, none⟩) np cp) (bs.map ptrI) :: blkA lb 70 #[lk2, lv2, lp2] :: slA 3 lk2 ((keysI l.es ++ [encI s.1]) ++ keysI r.es) :: slA 3 lv2 ((valsI l.es ++ [valI s.2]) ++ valsI r.es) :: slA 67 lp2 (lbs.map ptrI ++ rbs.map ptrI) :: blkA rb 70 #[rk, rv, rp] :: slA 3 rk (keysI r.es) :: slA 3 rv (valsI r.es) :: slA 67 rp (rbs.map ptrI) :: restI h i (i + 2) x.cs bs :: kdAI h l.cs lbs :: kdAI h r.cs rbs :: R) _ (by kernel_rfl) rfl rfl rfl ?_ ?_
    · have h0 := HS5.out
      refine (h0).perm ?_
      exact (by classical exact List.perm_iff_count.2 fun a => by simp only [pick_false, vpick_false, List.cons_append, List.nil_append, List.count_cons] <;> omega)
    intro u w3 h3
    have H7 : RowKit.Hid (St w0 fp0 (blkA b 70 #[(u 86), (u 94), .slice (some ⟨gp, 0, none⟩) np cp] :: slA 3 (u 86) ((keysI x.es).eraseIdx i) :: slA 3 (u 94) ((valsI x.es).eraseIdx i) :: slA 67 (.slice (some ⟨gp, 0, none⟩) np cp) (bs.map ptrI) :: blkA lb 70 #[lk2, lv2, lp2] :: slA 3 lk2 ((keysI l.es ++ [encI s.1]) ++ keysI r.es) :: slA 3 lv2 ((valsI l.es ++ [valI s.2]) ++ valsI r.es) :: slA 67 lp2 (lbs.map ptrI ++ rbs.map ptrI) :: blkA rb 70 #[rk, rv, rp] :: slA 3 rk (keysI r.es) :: slA 3 rv (valsI r.es) :: slA 67 rp (rbs.map ptrI) :: restI h i (i + 2) x.cs bs :: kdAI h l.cs lbs :: kdAI h r.cs rbs :: R) w3) := by
      have h4 := h3
      refine h4.perm ?_
      exact (by classical exact List.perm_iff_count.2 fun a => by simp only [pick_true, vpick_true, List.cons_append, List.nil_append, List.count_cons] <;> omega)
    clear h3
    simp only [putL, List.map, List.foldl, Act.put, List.setIfInBounds_toArray, List.set_cons_succ, List.set_cons_zero]
    go_step
    go_step
    go_meet
    exact ⟨u 86, u 94, H7⟩
  obtain ⟨xk2, xv2, HS6⟩ := hcut
  clear HS5
  go_upto_region 5 with (fail)
  refine rMe5I (w0 := w0) (fp0 := fp0) b i xk2 xv2 (.slice (some ⟨gp, 0, none⟩) np cp) bs (by rw [Hnp.out]; exact hib) (by have := Hxl.out.2; have := Hl.out; omega) (slA 3 xk2 ((keysI x.es).eraseIdx i) :: slA 3 xv2 ((valsI x.es).eraseIdx i) :: blkA lb 70 #[lk2, lv2, lp2] :: slA 3 lk2 ((keysI l.es ++ [encI s.1]) ++ keysI r.es) :: slA 3 lv2 ((valsI l.es ++ [valI s.2]) ++ valsI r.es) :: slA 67 lp2 (lbs.map ptrI ++ rbs.map ptrI) :: blkA rb 70 #[rk, rv, rp] :: slA 3 rk (keysI r.es) :: slA 3 rv (valsI r.es) :: slA 67 rp (rbs.map ptrI) :: restI h i (i + 2) x.cs bs :: kdAI h l.cs lbs :: kdAI h r.cs rbs :: R) _ (by kernel_rfl) rfl rfl rfl ?_ ?_
  · refine HS6.out.perm ?_
    exact (by classical exact List.perm_iff_count.2 fun a => by simp only [pick_false, vpick_false, List.cons_append, List.nil_append, List.count_cons] <;> omega)
  intro u w3 h3
  have Hfin : RowKit.Hid (St w0 fp0 (treeI (h + 1) (mergeT i x) b :: R) w3) := by
    have e : mergeT i x = .node (x.es.eraseIdx i) (x.cs.take i ++ (.node (l.es ++ s :: r.es) (l.cs ++ r.cs) :: x.cs.drop (i + 2))) := by unfold mergeT; rw [H1.out, H2.out, H3.out]
    rw [e]
    refine St.shutTw1I (R := R) (lbs := lbs ++ rbs) (lk := lk2) (lv := lv2) (lp := lp2) (ks := xk2) (vs := xv2) (ps := u 108) Hl.out Hbl.out (by rw [List.length_append, List.length_append, Hl1.out, Hl2.out]) ?_
    have h5 : St w0 fp0 ([blkA rb 70 #[rk, rv, rp], slA 3 rk (keysI r.es), slA 3 rv (valsI r.es), slA 67 rp (rbs.map ptrI)] ++ (kdAI h l.cs lbs :: kdAI h r.cs rbs :: (ndLI b xk2 xv2 (u 108) (x.es.eraseIdx i) (bs.eraseIdx (i + 1)) ++ (ndLI lb lk2 lv2 lp2 (l.es ++ s :: r.es) (lbs ++ rbs) ++ (restI h i (i + 2) x.cs bs :: R))))) w3 := by
      refine h3.perm ?_
      unfold ndLI
      have k1 : keysI (x.es.eraseIdx i) = (keysI x.es).eraseIdx i := by unfold keysI; rw [map_eraseIdxI]
      have k2 : valsI (x.es.eraseIdx i) = (valsI x.es).eraseIdx i := by unfold valsI; rw [map_eraseIdxI]
      have k3 : (bs.eraseIdx (i + 1)).map ptrI = (bs.map ptrI).eraseIdx (i + 1) := map_eraseIdxI _ _ _
      have k4 : keysI (l.es ++ s :: r.es) = keysI l.es ++ [encI s.1] ++ keysI r.es := by simp [keysI]
      have k5 : valsI (l.es ++ s :: r.es) = valsI l.es ++ [valI s.2] ++ valsI r.es := by simp [valsI]
      have k6 : (lbs ++ rbs).map ptrI = lbs.map ptrI ++ rbs.map ptrI := List.map_append
      rw [k1, k2, k3, k4, k5, k6]
      exact (by classical exact List.perm_iff_count.2 fun a => by simp only [pick_true, vpick_true, List.cons_append, List.nil_append, List.count_cons] <;> omega)
    have h6 := (St.kids_appI Hl1.out).2 h5.dropAllI
    refine h6.perm ?_
    exact (by classical exact List.perm_iff_count.2 fun a => by simp only [ndLI, List.cons_append, List.nil_append, List.count_cons] <;> omega)
  clear h3 HS6
  simp only [putL, List.map, List.foldl, Act.put, List.setIfInBounds_toArray, List.set_cons_succ, List.set_cons_zero]
  go_wp2
  refine bodyPost_end (results_none rfl _ _ _) rfl ?_
  exact ⟨rfl, Hfin.out⟩
end Go.Proofs.Ytldofiankhimjaa
/- Several neighbouring slots written at once. -/
namespace Go.Proofs.Ytldofiankhimjaa
open Go Go.RowKit
theorem set_block {α : Type} : ∀ (_vs A B : List α) (x : α), (A ++ (x :: B)).set A.length x = A ++ x :: B
  | _, A, B, x => by simp
theorem putL_block0 (u : Nat → Value) (d : List Deferred) : ∀ (k n : Nat) (A B : List Value), A.length = n → k ≤ B.length → putL ⟨(A ++ B).toArray, d⟩ ((List.range' n k).map fun e => (e, u e)) = ⟨(A ++ ((List.range' n k).map u ++ B.drop k)).toArray, d⟩
  | 0, n, A, B, _, _ => by simp [putL]
  | k + 1, n, A, [], _, h => by simp at h
  | k + 1, n, A, b :: B, hn, h => by
    have ih := putL_block0 u d k (n + 1) (A ++ [u n]) B (by simp [hn]) (by simpa using h)
    have e : putL ⟨(A ++ b :: B).toArray, d⟩ ((List.range' n (k + 1)).map fun e => (e, u e)) = putL ⟨((A ++ [u n]) ++ B).toArray, d⟩ ((List.range' (n + 1) k).map fun e => (e, u e)) := by
      rw [List.range'_succ, List.map_cons, putL, List.foldl_cons]
      have : Act.put (⟨(A ++ b :: B).toArray, d⟩ : Act) (some n) (u n) = ⟨((A ++ [u n]) ++ B).toArray, d⟩ := by
        subst hn
        simp [Act.put]
      rw [this]
      rfl
    rw [e, ih, List.range'_succ, List.map_cons, List.drop_succ_cons]
    simp
theorem putL_block {u : Nat → Value} {d : List Deferred} {l : List Value} (n k : Nat) (h : (n + k).ble l.length = true) :
    putL ⟨l.toArray, d⟩ ((List.range' n k).map fun e => (e, u e)) = ⟨(l.take n ++ ((List.range' n k).map u ++ l.drop (n + k))).toArray, d⟩ := by
  have h' := Nat.le_of_ble_eq_true h
  have := putL_block0 u d k n (l.take n) (l.drop n) (by simp; omega) (by simp; omega)
  rw [List.take_append_drop, List.drop_drop] at this
  exact this
/-! Frames that stay closed: what the writes of a region leave. -/
theorem putL_size : ∀ (l : List (Nat × Value)) (a : Act), (putL a l).tmps.size = a.tmps.size
  | [], _ => rfl
  | p :: l, a => by
    rw [show putL a (p :: l) = putL (a.put (some p.1) p.2) l from rfl, putL_size l]
    simp [Act.put]
theorem putL_defers : ∀ (l : List (Nat × Value)) (a : Act), (putL a l).defers = a.defers
  | [], _ => rfl
  | p :: l, a => (putL_defers l (a.put (some p.1) p.2)).trans rfl
theorem putL_ne {d : Nat} : ∀ (l : List (Nat × Value)) (a : Act), (∀ p ∈ l, p.1 ≠ d) → (putL a l).eval (.tmp d) = a.eval (.tmp d)
  | [], _, _ => rfl
  | p :: l, a, h => by
    rw [show putL a (p :: l) = putL (a.put (some p.1) p.2) l from rfl, putL_ne l _ fun q hq => h q (List.mem_cons_of_mem _ hq)]
    exact eval_put_ne (h p (by simp))
/-- What is kept of a closed frame. -/
structure Fr (a : Act) (n : Nat) : Prop where
  size : a.tmps.size = n
  defers : a.defers = []
theorem Fr.put {a : Act} {m : Nat} (h : Fr a m) (n k : Nat) (u : Nat → Value) : Fr (putL a ((List.range' n k).map fun e => (e, u e))) m := ⟨(putL_size _ _).trans h.size, (putL_defers _ _).trans h.defers⟩
theorem putL_out {a : Act} {u : Nat → Value} {d : Nat} (n k : Nat) (h : d < n ∨ n + k ≤ d) : (putL a ((List.range' n k).map fun e => (e, u e))).eval (.tmp d) = a.eval (.tmp d) := by
  refine putL_ne _ _ fun p hp => ?_
  obtain ⟨e, he, rfl⟩ := List.mem_map.1 hp
  have := List.mem_range'_1.1 he
  simp only
  omega
theorem putL_in {u : Nat → Value} {d : Nat} : ∀ (k n : Nat) (a : Act), n ≤ d → d < n + k → d < a.tmps.size → (putL a ((List.range' n k).map fun e => (e, u e))).eval (.tmp d) = u d
  | 0, n, a, h1, h2, _ => by omega
  | k + 1, n, a, h1, h2, hs => by
    rw [List.range'_succ, List.map_cons, show putL a ((n, u n) :: List.map (fun e => (e, u e)) (List.range' (n + 1) k)) = putL (a.put (some n) (u n)) (List.map (fun e => (e, u e)) (List.range' (n + 1) k)) from rfl]
    by_cases e : n = d
    · subst e
      rw [putL_out (n + 1) k (.inl (by omega))]
      exact eval_put_same hs
    · exact putL_in k (n + 1) _ (by omega) (by omega) (by simpa [Act.put] using hs)
theorem wp_cond_of {P : Program} {t : Operand} {c d : Code} {Q : Exit → Act → World → Prop} {a : Act} {w : World} {b : Bool} (h : a.eval t = .bool b) (hc : b = true → c.wp P Q a w) (hd : b = false → d.wp P Q a w) : (Code.cond t c d).wp P Q a w := by
  cases b with
  | true => exact wp_cond_true h (hc rfl)
  | false => exact wp_cond_false h (hd rfl)
end Go.Proofs.Ytldofiankhimjaa
