/- Part 6 of the proof: FlRI -/
import Derived.Test.YtldofiankhimjaaZ00
import Derived.Test.YtldofiankhimjaaZ05
/- fill: its regions (I). -/
namespace Go.Proofs.Ytldofiankhimjaa
open Go Go.RowKit
noncomputable def oFl5I : Array Oper := ((Try.f75.body).bind fun c => opsOf c 5).getD #[]
set_option maxHeartbeats 4000000 in
set_option maxRecDepth 100000 in
theorem rFl5I {Q : Exit → Act → World → Prop} {a : Act} {w w0 : World} {fp0 : List Nat} (b cb gx nx cx gy ny cy j : Nat) (xp ck cv cp : Value) (xe ce : M Int Int) (y : Int × Int) (hy : xe[j]? = some y) (hik : j < nx) (hiv : j < ny) (_hek : nx = xe.length) (hev : ny = xe.length) (hlx : ce.length < 1099511627776) (hj : j < 1099511627776) (R : List Asn) (ops : Array Oper) (hops : ops = oFl5I) (hsz : a.tmps.size = 310) (h1 : a.eval (.tmp 1) = .pointer (some ⟨b, 0, none⟩)) (h2 : a.eval (.tmp 2) = .int .i64 ((j + 1 : Nat) : Int)) (h6 : a.eval (.tmp 6) = .pointer (some ⟨cb, 0, none⟩))
    (hS : St w0 fp0 ([pick false (boxA 3 (a.eval (.tmp 69)) (encI y.1)) emp, pick false (boxA 3 (a.eval (.tmp 83)) (valI y.2)) emp, blkA cb 70 #[vpick false (a.eval (.tmp 70)) ck, vpick false (a.eval (.tmp 84)) cv, cp], pick false (slA 3 (a.eval (.tmp 70)) ((keysI ce).take 0 ++ encI y.1 :: (keysI ce).drop 0)) (slA 3 ck (keysI ce)), pick false (slA 3 (a.eval (.tmp 84)) ((valsI ce).take 0 ++ valI y.2 :: (valsI ce).drop 0)) (slA 3 cv (valsI ce)), blkA b 70 #[.slice (some ⟨gx, 0, none⟩) nx cx, .slice (some ⟨gy, 0, none⟩) ny cy, xp], slA 3 (.slice (some ⟨gx, 0, none⟩) nx cx) (keysI xe), slA 3 (.slice (some ⟨gy, 0, none⟩) ny cy) (valsI xe)] ++ R) w)
    (hQ : ∀ (u : Nat → Value) w1, St w0 fp0 ([pick true (boxA 3 (u 69) (encI y.1)) emp, pick true (boxA 3 (u 83) (valI y.2)) emp, blkA cb 70 #[vpick true (u 70) ck, vpick true (u 84) cv, cp], pick true (slA 3 (u 70) ((keysI ce).take 0 ++ encI y.1 :: (keysI ce).drop 0)) (slA 3 ck (keysI ce)), pick true (slA 3 (u 84) ((valsI ce).take 0 ++ valI y.2 :: (valsI ce).drop 0)) (slA 3 cv (valsI ce)), blkA b 70 #[.slice (some ⟨gx, 0, none⟩) nx cx, .slice (some ⟨gy, 0, none⟩) ny cy, xp], slA 3 (.slice (some ⟨gx, 0, none⟩) nx cx) (keysI xe), slA 3 (.slice (some ⟨gy, 0, none⟩) ny cy) (valsI xe)] ++ R) w1 → Q .normal (putL a ((List.range' 55 34).map fun d => (d, u d))) w1) : (Code.region 5 ops true).wp Try.prog Q a w := by
  subst hops
  have hwj : IntKind.i64.wrap (j : Int) = (j : Int) := by rw [IntKind.wrap_i64]; omega
  have hyk : ∀ h, (keysI xe)[j]'h = encI y.1 := by intro h; simp only [keysI, List.getElem_map]; rw [(List.getElem?_eq_some_iff.1 hy).2]
  have hyv : ∀ h, (valsI xe)[j]'h = valI y.2 := by intro h; simp only [valsI, List.getElem_map]; rw [(List.getElem?_eq_some_iff.1 hy).2]
  have hsize : oFl5I.size = 36 := by kernel_rfl
  have hE : Looks (fun L g w => St w0 fp0 ([pick (L 14) (boxA 3 (g 69) (encI y.1)) emp, pick (L 28) (boxA 3 (g 83) (valI y.2)) emp, blkA cb 70 #[vpick (L 32) (g 70) ck, vpick (L 35) (g 84) cv, cp], pick (L 15) (slA 3 (g 70) ((keysI ce).take 0 ++ encI y.1 :: (keysI ce).drop 0)) (slA 3 ck (keysI ce)), pick (L 29) (slA 3 (g 84) ((valsI ce).take 0 ++ valI y.2 :: (valsI ce).drop 0)) (slA 3 cv (valsI ce)), blkA b 70 #[.slice (some ⟨gx, 0, none⟩) nx cx, .slice (some ⟨gy, 0, none⟩) ny cy, xp], slA 3 (.slice (some ⟨gx, 0, none⟩) nx cx) (keysI xe), slA 3 (.slice (some ⟨gy, 0, none⟩) ny cy) (valsI xe)] ++ R) w) [14, 15, 28, 29, 32, 35] [69, 70, 83, 84] := by
    intro L L' g g' w hL hg h
    simpa only [← hL 14 (by decide), ← hL 15 (by decide), ← hL 28 (by decide), ← hL 29 (by decide), ← hL 32 (by decide), ← hL 35 (by decide), ← hg 69 (by decide), ← hg 70 (by decide), ← hg 83 (by decide), ← hg 84 (by decide)] using h
  have hn1 : (([(0, 55, .pointer (some ⟨cb, 0, none⟩)), (1, 56, .pointer (some ⟨cb, 0, none⟩)), (2, 57, .pointer (some ⟨cb, 0, none⟩)), (3, 58, .pointer (some ⟨cb, 0, none⟩)), (4, 59, .pointer (some ⟨cb, 0, none⟩)), (5, 60, ck), (6, 61, .pointer (some ⟨b, 0, none⟩)), (7, 62, .pointer (some ⟨b, 0, none⟩)), (8, 63, .pointer (some ⟨b, 0, none⟩)), (9, 64, .slice (some ⟨gx, 0, none⟩) nx cx), (10, 65, .int .i64 ((j + 1 : Nat) : Int)), (11, 66, .int .i64 j), (12, 67, .pointer (some ⟨gx, j, none⟩)), (13, 68, encI y.1), (16, 71, .pointer (some ⟨cb, 0, none⟩)), (17, 72, .pointer (some ⟨cb, 0, none⟩)), (18, 73, .pointer (some ⟨cb, 1, none⟩)), (19, 74, cv), (20, 75, .pointer (some ⟨b, 0, none⟩)), (21, 76, .pointer (some ⟨b, 0, none⟩)), (22, 77, .pointer (some ⟨b, 1, none⟩)), (23, 78, .slice (some ⟨gy, 0, none⟩) ny cy), (24, 79, .int .i64 ((j + 1 : Nat) : Int)), (25, 80, .int .i64 j), (26, 81, .pointer (some ⟨gy, j, none⟩)), (27, 82, valI y.2), (30, 85, .pointer (some ⟨cb, 0, none⟩)), (31, 86, .pointer (some ⟨cb, 0, none⟩)), (33, 87, .pointer (some ⟨cb, 0, none⟩)), (34, 88, .pointer (some ⟨cb, 1, none⟩))] : List (Nat × Nat × Value)).map (·.1)).Nodup := by
    show List.Nodup [0, 1, 2, 3, 4, 5, 6, 7, 8, 9, 10, 11, 12, 13, 16, 17, 18, 19, 20, 21, 22, 23, 24, 25, 26, 27, 30, 31, 33, 34]
    decide
  have hn2 : (([(0, 55, .pointer (some ⟨cb, 0, none⟩)), (1, 56, .pointer (some ⟨cb, 0, none⟩)), (2, 57, .pointer (some ⟨cb, 0, none⟩)), (3, 58, .pointer (some ⟨cb, 0, none⟩)), (4, 59, .pointer (some ⟨cb, 0, none⟩)), (5, 60, ck), (6, 61, .pointer (some ⟨b, 0, none⟩)), (7, 62, .pointer (some ⟨b, 0, none⟩)), (8, 63, .pointer (some ⟨b, 0, none⟩)), (9, 64, .slice (some ⟨gx, 0, none⟩) nx cx), (10, 65, .int .i64 ((j + 1 : Nat) : Int)), (11, 66, .int .i64 j), (12, 67, .pointer (some ⟨gx, j, none⟩)), (13, 68, encI y.1), (16, 71, .pointer (some ⟨cb, 0, none⟩)), (17, 72, .pointer (some ⟨cb, 0, none⟩)), (18, 73, .pointer (some ⟨cb, 1, none⟩)), (19, 74, cv), (20, 75, .pointer (some ⟨b, 0, none⟩)), (21, 76, .pointer (some ⟨b, 0, none⟩)), (22, 77, .pointer (some ⟨b, 1, none⟩)), (23, 78, .slice (some ⟨gy, 0, none⟩) ny cy), (24, 79, .int .i64 ((j + 1 : Nat) : Int)), (25, 80, .int .i64 j), (26, 81, .pointer (some ⟨gy, j, none⟩)), (27, 82, valI y.2), (30, 85, .pointer (some ⟨cb, 0, none⟩)), (31, 86, .pointer (some ⟨cb, 0, none⟩)), (33, 87, .pointer (some ⟨cb, 0, none⟩)), (34, 88, .pointer (some ⟨cb, 1, none⟩))] : List (Nat × Nat × Value)).map (·.2.1)).Nodup := by
    show List.Nodup [55, 56, 57, 58, 59, 60, 61, 62, 63, 64, 65, 66, 67, 68, 71, 72, 73, 74, 75, 76, 77, 78, 79, 80, 81, 82, 85, 86, 87, 88]
    decide
  refine wp_region_vals (ops' := oFl5I) [55, 56, 57, 58, 59, 60, 61, 62, 63, 64, 65, 66, 67, 68, 69, 70, 71, 72, 73, 74, 75, 76, 77, 78, 79, 80, 81, 82, 83, 84, 85, 86, 87, 88] [(0, 55, .pointer (some ⟨cb, 0, none⟩)), (1, 56, .pointer (some ⟨cb, 0, none⟩)), (2, 57, .pointer (some ⟨cb, 0, none⟩)), (3, 58, .pointer (some ⟨cb, 0, none⟩)), (4, 59, .pointer (some ⟨cb, 0, none⟩)), (5, 60, ck), (6, 61, .pointer (some ⟨b, 0, none⟩)), (7, 62, .pointer (some ⟨b, 0, none⟩)), (8, 63, .pointer (some ⟨b, 0, none⟩)), (9, 64, .slice (some ⟨gx, 0, none⟩) nx cx), (10, 65, .int .i64 ((j + 1 : Nat) : Int)), (11, 66, .int .i64 j), (12, 67, .pointer (some ⟨gx, j, none⟩)), (13, 68, encI y.1), (16, 71, .pointer (some ⟨cb, 0, none⟩)), (17, 72, .pointer (some ⟨cb, 0, none⟩)), (18, 73, .pointer (some ⟨cb, 1, none⟩)), (19, 74, cv), (20, 75, .pointer (some ⟨b, 0, none⟩)), (21, 76, .pointer (some ⟨b, 0, none⟩)), (22, 77, .pointer (some ⟨b, 1, none⟩)), (23, 78, .slice (some ⟨gy, 0, none⟩) ny cy), (24, 79, .int .i64 ((j + 1 : Nat) : Int)), (25, 80, .int .i64 j), (26, 81, .pointer (some ⟨gy, j, none⟩)), (27, 82, valI y.2), (30, 85, .pointer (some ⟨cb, 0, none⟩)), (31, 86, .pointer (some ⟨cb, 0, none⟩)), (33, 87, .pointer (some ⟨cb, 0, none⟩)), (34, 88, .pointer (some ⟨cb, 1, none⟩))] (fun L g w => St w0 fp0 ([pick (L 14) (boxA 3 (g 69) (encI y.1)) emp, pick (L 28) (boxA 3 (g 83) (valI y.2)) emp, blkA cb 70 #[vpick (L 32) (g 70) ck, vpick (L 35) (g 84) cv, cp], pick (L 15) (slA 3 (g 70) ((keysI ce).take 0 ++ encI y.1 :: (keysI ce).drop 0)) (slA 3 ck (keysI ce)), pick (L 29) (slA 3 (g 84) ((valsI ce).take 0 ++ valI y.2 :: (valsI ce).drop 0)) (slA 3 cv (valsI ce)), blkA b 70 #[.slice (some ⟨gx, 0, none⟩) nx cx, .slice (some ⟨gy, 0, none⟩) ny cy, xp], slA 3 (.slice (some ⟨gx, 0, none⟩) nx cx) (keysI xe), slA 3 (.slice (some ⟨gy, 0, none⟩) ny cy) (valsI xe)] ++ R) w) rfl (by kernel_rfl) (by kernel_rfl) (hS.mono (below_drew w)) ?_ ?_
  · intro oi o L a1 w1 ho hL hdep hI
    have hoi : oi < 36 := by have := (Array.getElem?_eq_some_iff.1 ho).1; omega
    have h1sz : a1.tmps.size = 310 := hI.frame.size.trans hsz
    rcases (by omega : oi = 0 ∨ oi = 1 ∨ oi = 2 ∨ oi = 3 ∨ oi = 4 ∨ oi = 5 ∨ oi = 6 ∨ oi = 7 ∨ oi = 8 ∨ oi = 9 ∨ oi = 10 ∨ oi = 11 ∨ oi = 12 ∨ oi = 13 ∨ oi = 14 ∨ oi = 15 ∨ oi = 16 ∨ oi = 17 ∨ oi = 18 ∨ oi = 19 ∨ oi = 20 ∨ oi = 21 ∨ oi = 22 ∨ oi = 23 ∨ oi = 24 ∨ oi = 25 ∨ oi = 26 ∨ oi = 27 ∨ oi = 28 ∨ oi = 29 ∨ oi = 30 ∨ oi = 31 ∨ oi = 32 ∨ oi = 33 ∨ oi = 34 ∨ oi = 35) with rfl | rfl | rfl | rfl | rfl | rfl | rfl | rfl | rfl | rfl | rfl | rfl | rfl | rfl | rfl | rfl | rfl | rfl | rfl | rfl | rfl | rfl | rfl | rfl | rfl | rfl | rfl | rfl | rfl | rfl | rfl | rfl | rfl | rfl | rfl | rfl
    · have hl : oFl5I[0]? = some ⟨some 55, Op.move (Operand.tmp 6), _, _, _, none⟩ := rfl
      obtain rfl := oI ho hl
      have x6 := hI.old 6 (.pointer (some ⟨cb, 0, none⟩)) (by decide) h6
      exact hI.rd hE hsz 0 55 (.pointer (some ⟨cb, 0, none⟩)) ho rfl rfl hdep (by decide) (vals_at hn1 hn2 0 rfl) (by simp [go_sem, execOp, Act.eval, x6])
    · have hl : oFl5I[1]? = some ⟨some 56, Op.move (Operand.tmp 6), _, _, _, none⟩ := rfl
      obtain rfl := oI ho hl
      have x6 := hI.old 6 (.pointer (some ⟨cb, 0, none⟩)) (by decide) h6
      exact hI.rd hE hsz 1 56 (.pointer (some ⟨cb, 0, none⟩)) ho rfl rfl hdep (by decide) (vals_at hn1 hn2 1 rfl) (by simp [go_sem, execOp, Act.eval, x6])
    · have hl : oFl5I[2]? = some ⟨some 57, Op.move (Operand.tmp 6), _, _, _, none⟩ := rfl
      obtain rfl := oI ho hl
      have x6 := hI.old 6 (.pointer (some ⟨cb, 0, none⟩)) (by decide) h6
      exact hI.rd hE hsz 2 57 (.pointer (some ⟨cb, 0, none⟩)) ho rfl rfl hdep (by decide) (vals_at hn1 hn2 2 rfl) (by simp [go_sem, execOp, Act.eval, x6])
    · have hl : oFl5I[3]? = some ⟨some 58, Op.nilCheck (Operand.tmp 57), _, _, _, none⟩ := rfl
      obtain rfl := oI ho hl
      have x57 := hI.val 2 57 (.pointer (some ⟨cb, 0, none⟩)) (mG (i := 2) rfl) (dK ho hdep (by kernel_rfl : waitsB oFl5I 3 2 = true))
      exact hI.rd hE hsz 3 58 (.pointer (some ⟨cb, 0, none⟩)) ho rfl rfl hdep (by decide) (vals_at hn1 hn2 3 rfl) (by simp [go_sem, execOp, Act.eval, x57])
    · have hl : oFl5I[4]? = some ⟨some 59, Op.fieldAddr _ (Operand.tmp 58) 0, _, _, _, none⟩ := rfl
      obtain rfl := oI ho hl
      have x58 := hI.val 3 58 (.pointer (some ⟨cb, 0, none⟩)) (mG (i := 3) rfl) (dK ho hdep (by kernel_rfl : waitsB oFl5I 4 3 = true))
      exact hI.rd hE hsz 4 59 (.pointer (some ⟨cb, 0, none⟩)) ho rfl rfl hdep (by decide) (vals_at hn1 hn2 4 rfl) (by simp [go_sem, execOp, Act.eval, x58])
    · have hl : oFl5I[5]? = some ⟨some 60, Op.load _ (Operand.tmp 59), _, _, _, none⟩ := rfl
      obtain rfl := oI ho hl
      have x59 := hI.val 4 59 (.pointer (some ⟨cb, 0, none⟩)) (mG (i := 4) rfl) (dK ho hdep (by kernel_rfl : waitsB oFl5I 5 4 = true))
      have hS1 := hI.eff
      have e15 : L 15 = false := hI.no hL (by kernel_rfl : waitsB oFl5I 15 5 = true)
      have e29 : L 29 = false := hI.no (hI.no hL (by kernel_rfl : waitsB oFl5I 15 5 = true)) (by kernel_rfl : waitsB oFl5I 29 15 = true)
      have e32 : L 32 = false := hI.no hL (by kernel_rfl : waitsB oFl5I 32 5 = true)
      have e35 : L 35 = false := hI.no hL (by kernel_rfl : waitsB oFl5I 35 5 = true)
      simp only [e15, e29, e32, e35, pick_false, vpick_false] at hS1
      obtain ⟨_, hp⟩ := hS1.has 2 rfl
      have hcell := (blk_get hp).1 0
      have hlt := (blk_get hp).2.2
      simp only [List.getElem?_toArray, List.getElem?_cons_zero] at hcell
      exact hI.rd hE hsz 5 60 (ck) ho rfl rfl hdep (by decide) (vals_at hn1 hn2 5 rfl) (by simp [go_sem, execOp, Act.eval, x59, hcell])
    · have hl : oFl5I[6]? = some ⟨some 61, Op.move (Operand.tmp 1), _, _, _, none⟩ := rfl
      obtain rfl := oI ho hl
      have x1 := hI.old 1 (.pointer (some ⟨b, 0, none⟩)) (by decide) h1
      exact hI.rd hE hsz 6 61 (.pointer (some ⟨b, 0, none⟩)) ho rfl rfl hdep (by decide) (vals_at hn1 hn2 6 rfl) (by simp [go_sem, execOp, Act.eval, x1])
    · have hl : oFl5I[7]? = some ⟨some 62, Op.nilCheck (Operand.tmp 61), _, _, _, none⟩ := rfl
      obtain rfl := oI ho hl
      have x61 := hI.val 6 61 (.pointer (some ⟨b, 0, none⟩)) (mG (i := 6) rfl) (dK ho hdep (by kernel_rfl : waitsB oFl5I 7 6 = true))
      exact hI.rd hE hsz 7 62 (.pointer (some ⟨b, 0, none⟩)) ho rfl rfl hdep (by decide) (vals_at hn1 hn2 7 rfl) (by simp [go_sem, execOp, Act.eval, x61])
    · have hl : oFl5I[8]? = some ⟨some 63, Op.fieldAddr _ (Operand.tmp 62) 0, _, _, _, none⟩ := rfl
      obtain rfl := oI ho hl
      have x62 := hI.val 7 62 (.pointer (some ⟨b, 0, none⟩)) (mG (i := 7) rfl) (dK ho hdep (by kernel_rfl : waitsB oFl5I 8 7 = true))
      exact hI.rd hE hsz 8 63 (.pointer (some ⟨b, 0, none⟩)) ho rfl rfl hdep (by decide) (vals_at hn1 hn2 8 rfl) (by simp [go_sem, execOp, Act.eval, x62])
    · have hl : oFl5I[9]? = some ⟨some 64, Op.load _ (Operand.tmp 63), _, _, _, none⟩ := rfl
      obtain rfl := oI ho hl
      have x63 := hI.val 8 63 (.pointer (some ⟨b, 0, none⟩)) (mG (i := 8) rfl) (dK ho hdep (by kernel_rfl : waitsB oFl5I 9 8 = true))
      have hS1 := hI.eff
      have e32 : L 32 = false := hI.no hL (by kernel_rfl : waitsB oFl5I 32 9 = true)
      have e35 : L 35 = false := hI.no hL (by kernel_rfl : waitsB oFl5I 35 9 = true)
      simp only [e32, e35, vpick_false] at hS1
      obtain ⟨_, hp⟩ := hS1.has 5 rfl
      have hcell := (blk_get hp).1 0
      have hlt := (blk_get hp).2.2
      simp only [List.getElem?_toArray, List.getElem?_cons_zero] at hcell
      exact hI.rd hE hsz 9 64 (.slice (some ⟨gx, 0, none⟩) nx cx) ho rfl rfl hdep (by decide) (vals_at hn1 hn2 9 rfl) (by simp [go_sem, execOp, Act.eval, x63, hcell])
    · have hl : oFl5I[10]? = some ⟨some 65, Op.move (Operand.tmp 2), _, _, _, none⟩ := rfl
      obtain rfl := oI ho hl
      have x2 := hI.old 2 (.int .i64 ((j + 1 : Nat) : Int)) (by decide) h2
      exact hI.rd hE hsz 10 65 (.int .i64 ((j + 1 : Nat) : Int)) ho rfl rfl hdep (by decide) (vals_at hn1 hn2 10 rfl) (by simp [go_sem, execOp, Act.eval, x2])
    · have hl : oFl5I[11]? = some ⟨some 66, Op.binOp BinOp.sub _ (Operand.tmp 65) (Operand.const (Value.int IntKind.i64 1)) _, _, _, _, none⟩ := rfl
      obtain rfl := oI ho hl
      have x65 := hI.val 10 65 (.int .i64 ((j + 1 : Nat) : Int)) (mG (i := 10) rfl) (dK ho hdep (by kernel_rfl : waitsB oFl5I 11 10 = true))
      exact hI.rd hE hsz 11 66 (.int .i64 j) ho rfl rfl hdep (by decide) (vals_at hn1 hn2 11 rfl) (by simp [go_sem, execOp, Act.eval, x65, hwj])
    · have hl : oFl5I[12]? = some ⟨some 67, Op.indexAddr _ (Operand.tmp 64) (Operand.tmp 66), _, _, _, none⟩ := rfl
      obtain rfl := oI ho hl
      have x64 := hI.val 9 64 (.slice (some ⟨gx, 0, none⟩) nx cx) (mG (i := 9) rfl) (dK ho hdep (by kernel_rfl : waitsB oFl5I 12 9 = true))
      have x66 := hI.val 11 66 (.int .i64 j) (mG (i := 11) rfl) (dK ho hdep (by kernel_rfl : waitsB oFl5I 12 11 = true))
      exact hI.rd hE hsz 12 67 (.pointer (some ⟨gx, j, none⟩)) ho rfl rfl hdep (by decide) (vals_at hn1 hn2 12 rfl) (by simp [go_sem, execOp, Act.eval, x64, x66, hik])
    · have hl : oFl5I[13]? = some ⟨some 68, Op.load _ (Operand.tmp 67), _, _, _, none⟩ := rfl
      obtain rfl := oI ho hl
      have x67 := hI.val 12 67 (.pointer (some ⟨gx, j, none⟩)) (mG (i := 12) rfl) (dK ho hdep (by kernel_rfl : waitsB oFl5I 13 12 = true))
      have hS1 := hI.eff
      have e14 : L 14 = false := hI.no hL (by kernel_rfl : waitsB oFl5I 14 13 = true)
      have e15 : L 15 = false := hI.no (hI.no hL (by kernel_rfl : waitsB oFl5I 14 13 = true)) (by kernel_rfl : waitsB oFl5I 15 14 = true)
      have e32 : L 32 = false := hI.no hL (by kernel_rfl : waitsB oFl5I 32 13 = true)
      have e35 : L 35 = false := hI.no hL (by kernel_rfl : waitsB oFl5I 35 13 = true)
      simp only [e14, e15, e32, e35, pick_false, vpick_false] at hS1
      obtain ⟨_, hp⟩ := hS1.has 6 rfl
      obtain ⟨hcell, _, hlt, _⟩ := sl_elem hp (j) (by rw [keysI_length]; omega)
      rw [hyk] at hcell
      exact hI.rd hE hsz 13 68 (encI y.1) ho rfl rfl hdep (by decide) (vals_at hn1 hn2 13 rfl) (by simp [go_sem, execOp, Act.eval, x67, hcell])
    · have hl : oFl5I[14]? = some ⟨some 69, Op.buildSlice _ 1 #[(0, Operand.tmp 68)], _, _, _, none⟩ := rfl
      obtain rfl := oI ho hl
      have x68 := hI.val 13 68 (encI y.1) (mG (i := 13) rfl) (dK ho hdep (by kernel_rfl : waitsB oFl5I 14 13 = true))
      have hS1 := hI.eff
      have e14 : L 14 = false := hL
      have e15 : L 15 = false := hI.no hL (by kernel_rfl : waitsB oFl5I 15 14 = true)
      have e29 : L 29 = false := hI.no (hI.no hL (by kernel_rfl : waitsB oFl5I 15 14 = true)) (by kernel_rfl : waitsB oFl5I 29 15 = true)
      have e32 : L 32 = false := hI.no hL (by kernel_rfl : waitsB oFl5I 32 14 = true)
      have e35 : L 35 = false := hI.no hL (by kernel_rfl : waitsB oFl5I 35 14 = true)
      simp only [e14, e15, e29, e32, e35, pick_false, vpick_false] at hS1
      refine inv_value ho rfl (v := .slice (some ⟨w1.heap.size, 0, none⟩) 1 1) (w' := w1.alloc (.cells #[encI y.1] 3)) (by simp [go_sem, execOp, Act.eval, x68, encI]) (hI.put 14 69 _ ho hdep (by decide) (by intro t ht; exact vals_ne2 rfl rfl (by decide : 14 ∉ [0, 1, 2, 3, 4, 5, 6, 7, 8, 9, 10, 11, 12, 13, 16, 17, 18, 19, 20, 21, 22, 23, 24, 25, 26, 27, 30, 31, 33, 34]) (by decide : 69 ∉ [55, 56, 57, 58, 59, 60, 61, 62, 63, 64, 65, 66, 67, 68, 71, 72, 73, 74, 75, 76, 77, 78, 79, 80, 81, 82, 85, 86, 87, 88]) ht) ?_)
      have hS2 := St.box hS1 0 rfl 3 (encI y.1)
      simp only [e14, e15, e29, e32, e35, Bool.or_false, Bool.or_true, Nat.reduceEqDiff, decide_true, decide_false, pick_true, pick_false, vpick_false, eval_put_same (by rw [h1sz]; decide : 69 < a1.tmps.size), eval_put_ne (by decide : 69 ≠ 70), eval_put_ne (by decide : 69 ≠ 83), eval_put_ne (by decide : 69 ≠ 84)]
      exact hS2
    · have hl : oFl5I[15]? = some ⟨some 70, Op.call ⟨Callee.value (Operand.func _), #[Operand.tmp 60, Operand.const (Value.int IntKind.i64 0), Operand.tmp 69], _⟩, _, _, _, none⟩ := rfl
      obtain rfl := oI ho hl
      have x60 := hI.val 5 60 (ck) (mG (i := 5) rfl) (dK ho hdep (by kernel_rfl : waitsB oFl5I 15 5 = true))
      have hS1 := hI.eff
      have e14 : L 14 = true := dK ho hdep (by kernel_rfl : waitsB oFl5I 15 14 = true)
      have e15 : L 15 = false := hL
      have e29 : L 29 = false := hI.no hL (by kernel_rfl : waitsB oFl5I 29 15 = true)
      have e32 : L 32 = false := hI.no hL (by kernel_rfl : waitsB oFl5I 32 15 = true)
      have e35 : L 35 = false := hI.no hL (by kernel_rfl : waitsB oFl5I 35 15 = true)
      simp only [e14, e15, e29, e32, e35, pick_true, pick_false, vpick_false] at hS1
      obtain ⟨f, g, hbx, hsl, hd, _, hset⟩ := hS1.two 0 3 (by decide) rfl rfl
      obtain ⟨vb, hgb, hvb, rfl⟩ := hbx
      have xb := eval_spell hgb
      refine inv_call ho rfl (f := 58) (by simp [go_sem, Act.eval, x60, xb]) (insI_calls _ _ (0) _ _ _ hsl (by rw [keysI_length]; exact Nat.zero_le _) (by rw [keysI_length]; exact hlx) (keysI_one ce) rfl hvb (fun hm => hd _ (by simp) hm)) ?_
      rintro e w2 ⟨an, nn, cn, f', rfl, hsl', htr⟩
      refine ⟨_, rfl, hI.put 15 70 _ ho hdep (by decide) (by intro t ht; exact vals_ne2 rfl rfl (by decide : 15 ∉ [0, 1, 2, 3, 4, 5, 6, 7, 8, 9, 10, 11, 12, 13, 16, 17, 18, 19, 20, 21, 22, 23, 24, 25, 26, 27, 30, 31, 33, 34]) (by decide : 70 ∉ [55, 56, 57, 58, 59, 60, 61, 62, 63, 64, 65, 66, 67, 68, 71, 72, 73, 74, 75, 76, 77, 78, 79, 80, 81, 82, 85, 86, 87, 88]) ht) ?_⟩
      have hS2 := hset _ _ _ hsl' htr
      simp only [e14, e15, e29, e32, e35, Bool.or_false, Bool.or_true, Nat.reduceEqDiff, decide_true, decide_false, pick_true, pick_false, vpick_false, eval_put_same (by rw [h1sz]; decide : 70 < a1.tmps.size), eval_put_ne (by decide : 70 ≠ 69), eval_put_ne (by decide : 70 ≠ 83), eval_put_ne (by decide : 70 ≠ 84)]
      exact hS2
    · have hl : oFl5I[16]? = some ⟨some 71, Op.move (Operand.tmp 6), _, _, _, none⟩ := rfl
      obtain rfl := oI ho hl
      have x6 := hI.old 6 (.pointer (some ⟨cb, 0, none⟩)) (by decide) h6
      exact hI.rd hE hsz 16 71 (.pointer (some ⟨cb, 0, none⟩)) ho rfl rfl hdep (by decide) (vals_at hn1 hn2 14 rfl) (by simp [go_sem, execOp, Act.eval, x6])
    · have hl : oFl5I[17]? = some ⟨some 72, Op.nilCheck (Operand.tmp 71), _, _, _, none⟩ := rfl
      obtain rfl := oI ho hl
      have x71 := hI.val 16 71 (.pointer (some ⟨cb, 0, none⟩)) (mG (i := 14) rfl) (dK ho hdep (by kernel_rfl : waitsB oFl5I 17 16 = true))
      exact hI.rd hE hsz 17 72 (.pointer (some ⟨cb, 0, none⟩)) ho rfl rfl hdep (by decide) (vals_at hn1 hn2 15 rfl) (by simp [go_sem, execOp, Act.eval, x71])
    · have hl : oFl5I[18]? = some ⟨some 73, Op.fieldAddr _ (Operand.tmp 72) 1, _, _, _, none⟩ := rfl
      obtain rfl := oI ho hl
      have x72 := hI.val 17 72 (.pointer (some ⟨cb, 0, none⟩)) (mG (i := 15) rfl) (dK ho hdep (by kernel_rfl : waitsB oFl5I 18 17 = true))
      exact hI.rd hE hsz 18 73 (.pointer (some ⟨cb, 1, none⟩)) ho rfl rfl hdep (by decide) (vals_at hn1 hn2 16 rfl) (by simp [go_sem, execOp, Act.eval, x72])
    · have hl : oFl5I[19]? = some ⟨some 74, Op.load _ (Operand.tmp 73), _, _, _, none⟩ := rfl
      obtain rfl := oI ho hl
      have x73 := hI.val 18 73 (.pointer (some ⟨cb, 1, none⟩)) (mG (i := 16) rfl) (dK ho hdep (by kernel_rfl : waitsB oFl5I 19 18 = true))
      have hS1 := hI.eff
      have e29 : L 29 = false := hI.no hL (by kernel_rfl : waitsB oFl5I 29 19 = true)
      have e32 : L 32 = false := hI.no hL (by kernel_rfl : waitsB oFl5I 32 19 = true)
      have e35 : L 35 = false := hI.no hL (by kernel_rfl : waitsB oFl5I 35 19 = true)
      simp only [e29, e32, e35, pick_false, vpick_false] at hS1
      obtain ⟨_, hp⟩ := hS1.has 2 rfl
      have hcell := (blk_get hp).1 1
      have hlt := (blk_get hp).2.2
      simp only [List.getElem?_toArray, List.getElem?_cons_zero, List.getElem?_cons_succ] at hcell
      exact hI.rd hE hsz 19 74 (cv) ho rfl rfl hdep (by decide) (vals_at hn1 hn2 17 rfl) (by simp [go_sem, execOp, Act.eval, x73, hcell])
    · have hl : oFl5I[20]? = some ⟨some 75, Op.move (Operand.tmp 1), _, _, _, none⟩ := rfl
      obtain rfl := oI ho hl
      have x1 := hI.old 1 (.pointer (some ⟨b, 0, none⟩)) (by decide) h1
      exact hI.rd hE hsz 20 75 (.pointer (some ⟨b, 0, none⟩)) ho rfl rfl hdep (by decide) (vals_at hn1 hn2 18 rfl) (by simp [go_sem, execOp, Act.eval, x1])
    · have hl : oFl5I[21]? = some ⟨some 76, Op.nilCheck (Operand.tmp 75), _, _, _, none⟩ := rfl
      obtain rfl := oI ho hl
      have x75 := hI.val 20 75 (.pointer (some ⟨b, 0, none⟩)) (mG (i := 18) rfl) (dK ho hdep (by kernel_rfl : waitsB oFl5I 21 20 = true))
      exact hI.rd hE hsz 21 76 (.pointer (some ⟨b, 0, none⟩)) ho rfl rfl hdep (by decide) (vals_at hn1 hn2 19 rfl) (by simp [go_sem, execOp, Act.eval, x75])
    · have hl : oFl5I[22]? = some ⟨some 77, Op.fieldAddr _ (Operand.tmp 76) 1, _, _, _, none⟩ := rfl
      obtain rfl := oI ho hl
      have x76 := hI.val 21 76 (.pointer (some ⟨b, 0, none⟩)) (mG (i := 19) rfl) (dK ho hdep (by kernel_rfl : waitsB oFl5I 22 21 = true))
      exact hI.rd hE hsz 22 77 (.pointer (some ⟨b, 1, none⟩)) ho rfl rfl hdep (by decide) (vals_at hn1 hn2 20 rfl) (by simp [go_sem, execOp, Act.eval, x76])
    · have hl : oFl5I[23]? = some ⟨some 78, Op.load _ (Operand.tmp 77), _, _, _, none⟩ := rfl
      obtain rfl := oI ho hl
      have x77 := hI.val 22 77 (.pointer (some ⟨b, 1, none⟩)) (mG (i := 20) rfl) (dK ho hdep (by kernel_rfl : waitsB oFl5I 23 22 = true))
      have hS1 := hI.eff
      have e32 : L 32 = false := hI.no hL (by kernel_rfl : waitsB oFl5I 32 23 = true)
      have e35 : L 35 = false := hI.no hL (by kernel_rfl : waitsB oFl5I 35 23 = true)
      simp only [e32, e35, vpick_false] at hS1
      obtain ⟨_, hp⟩ := hS1.has 5 rfl
      have hcell := (blk_get hp).1 1
      have hlt := (blk_get hp).2.2
      simp only [List.getElem?_toArray, List.getElem?_cons_zero, List.getElem?_cons_succ] at hcell
      exact hI.rd hE hsz 23 78 (.slice (some ⟨gy, 0, none⟩) ny cy) ho rfl rfl hdep (by decide) (vals_at hn1 hn2 21 rfl) (by simp [go_sem, execOp, Act.eval, x77, hcell])
    · have hl : oFl5I[24]? = some ⟨some 79, Op.move (Operand.tmp 2), _, _, _, none⟩ := rfl
      obtain rfl := oI ho hl
      have x2 := hI.old 2 (.int .i64 ((j + 1 : Nat) : Int)) (by decide) h2
      exact hI.rd hE hsz 24 79 (.int .i64 ((j + 1 : Nat) : Int)) ho rfl rfl hdep (by decide) (vals_at hn1 hn2 22 rfl) (by simp [go_sem, execOp, Act.eval, x2])
    · have hl : oFl5I[25]? = some ⟨some 80, Op.binOp BinOp.sub _ (Operand.tmp 79) (Operand.const (Value.int IntKind.i64 1)) _, _, _, _, none⟩ := rfl
      obtain rfl := oI ho hl
      have x79 := hI.val 24 79 (.int .i64 ((j + 1 : Nat) : Int)) (mG (i := 22) rfl) (dK ho hdep (by kernel_rfl : waitsB oFl5I 25 24 = true))
      exact hI.rd hE hsz 25 80 (.int .i64 j) ho rfl rfl hdep (by decide) (vals_at hn1 hn2 23 rfl) (by simp [go_sem, execOp, Act.eval, x79, hwj])
    · have hl : oFl5I[26]? = some ⟨some 81, Op.indexAddr _ (Operand.tmp 78) (Operand.tmp 80), _, _, _, none⟩ := rfl
      obtain rfl := oI ho hl
      have x78 := hI.val 23 78 (.slice (some ⟨gy, 0, none⟩) ny cy) (mG (i := 21) rfl) (dK ho hdep (by kernel_rfl : waitsB oFl5I 26 23 = true))
      have x80 := hI.val 25 80 (.int .i64 j) (mG (i := 23) rfl) (dK ho hdep (by kernel_rfl : waitsB oFl5I 26 25 = true))
      exact hI.rd hE hsz 26 81 (.pointer (some ⟨gy, j, none⟩)) ho rfl rfl hdep (by decide) (vals_at hn1 hn2 24 rfl) (by simp [go_sem, execOp, Act.eval, x78, x80, hiv])
    · have hl : oFl5I[27]? = some ⟨some 82, Op.load _ (Operand.tmp 81), _, _, _, none⟩ := rfl
      obtain rfl := oI ho hl
      have x81 := hI.val 26 81 (.pointer (some ⟨gy, j, none⟩)) (mG (i := 24) rfl) (dK ho hdep (by kernel_rfl : waitsB oFl5I 27 26 = true))
      have hS1 := hI.eff
      have e28 : L 28 = false := hI.no hL (by kernel_rfl : waitsB oFl5I 28 27 = true)
      have e29 : L 29 = false := hI.no (hI.no hL (by kernel_rfl : waitsB oFl5I 28 27 = true)) (by kernel_rfl : waitsB oFl5I 29 28 = true)
      have e32 : L 32 = false := hI.no hL (by kernel_rfl : waitsB oFl5I 32 27 = true)
      have e35 : L 35 = false := hI.no hL (by kernel_rfl : waitsB oFl5I 35 27 = true)
      simp only [e28, e29, e32, e35, pick_false, vpick_false] at hS1
      obtain ⟨_, hp⟩ := hS1.has 7 rfl
      obtain ⟨hcell, _, hlt, _⟩ := sl_elem hp (j) (by rw [valsI_length]; omega)
      rw [hyv] at hcell
      exact hI.rd hE hsz 27 82 (valI y.2) ho rfl rfl hdep (by decide) (vals_at hn1 hn2 25 rfl) (by simp [go_sem, execOp, Act.eval, x81, hcell])
    · have hl : oFl5I[28]? = some ⟨some 83, Op.buildSlice _ 1 #[(0, Operand.tmp 82)], _, _, _, none⟩ := rfl
      obtain rfl := oI ho hl
      have x82 := hI.val 27 82 (valI y.2) (mG (i := 25) rfl) (dK ho hdep (by kernel_rfl : waitsB oFl5I 28 27 = true))
      have hS1 := hI.eff
      have e28 : L 28 = false := hL
      have e29 : L 29 = false := hI.no hL (by kernel_rfl : waitsB oFl5I 29 28 = true)
      have e32 : L 32 = false := hI.no (hI.no hL (by kernel_rfl : waitsB oFl5I 29 28 = true)) (by kernel_rfl : waitsB oFl5I 32 29 = true)
      have e35 : L 35 = false := hI.no hL (by kernel_rfl : waitsB oFl5I 35 28 = true)
      simp only [e28, e29, e32, e35, pick_false, vpick_false] at hS1
      refine inv_value ho rfl (v := .slice (some ⟨w1.heap.size, 0, none⟩) 1 1) (w' := w1.alloc (.cells #[valI y.2] 3)) (by simp [go_sem, execOp, Act.eval, x82, valI]) (hI.put 28 83 _ ho hdep (by decide) (by intro t ht; exact vals_ne2 rfl rfl (by decide : 28 ∉ [0, 1, 2, 3, 4, 5, 6, 7, 8, 9, 10, 11, 12, 13, 16, 17, 18, 19, 20, 21, 22, 23, 24, 25, 26, 27, 30, 31, 33, 34]) (by decide : 83 ∉ [55, 56, 57, 58, 59, 60, 61, 62, 63, 64, 65, 66, 67, 68, 71, 72, 73, 74, 75, 76, 77, 78, 79, 80, 81, 82, 85, 86, 87, 88]) ht) ?_)
      have hS2 := St.box hS1 1 rfl 3 (valI y.2)
      simp only [e28, e29, e32, e35, Bool.or_false, Bool.or_true, Nat.reduceEqDiff, decide_true, decide_false, pick_true, pick_false, vpick_false, eval_put_same (by rw [h1sz]; decide : 83 < a1.tmps.size), eval_put_ne (by decide : 83 ≠ 69), eval_put_ne (by decide : 83 ≠ 70), eval_put_ne (by decide : 83 ≠ 84)]
      exact hS2
    · have hl : oFl5I[29]? = some ⟨some 84, Op.call ⟨Callee.value (Operand.func _), #[Operand.tmp 74, Operand.const (Value.int IntKind.i64 0), Operand.tmp 83], _⟩, _, _, _, none⟩ := rfl
      obtain rfl := oI ho hl
      have x74 := hI.val 19 74 (cv) (mG (i := 17) rfl) (dK ho hdep (by kernel_rfl : waitsB oFl5I 29 19 = true))
      have hS1 := hI.eff
      have e14 : L 14 = true := hI.yes (dK ho hdep (by kernel_rfl : waitsB oFl5I 29 15 = true)) (by kernel_rfl : waitsB oFl5I 15 14 = true)
      have e15 : L 15 = true := dK ho hdep (by kernel_rfl : waitsB oFl5I 29 15 = true)
      have e28 : L 28 = true := dK ho hdep (by kernel_rfl : waitsB oFl5I 29 28 = true)
      have e29 : L 29 = false := hL
      have e32 : L 32 = false := hI.no hL (by kernel_rfl : waitsB oFl5I 32 29 = true)
      have e35 : L 35 = false := hI.no hL (by kernel_rfl : waitsB oFl5I 35 29 = true)
      simp only [e14, e15, e28, e29, e32, e35, pick_true, pick_false, vpick_false] at hS1
      obtain ⟨f, g, hbx, hsl, hd, _, hset⟩ := hS1.two 1 4 (by decide) rfl rfl
      obtain ⟨vb, hgb, hvb, rfl⟩ := hbx
      have xb := eval_spell hgb
      refine inv_call ho rfl (f := 58) (by simp [go_sem, Act.eval, x74, xb]) (insI_calls _ _ (0) _ _ _ hsl (by rw [valsI_length]; exact Nat.zero_le _) (by rw [valsI_length]; exact hlx) (valsI_one ce) rfl hvb (fun hm => hd _ (by simp) hm)) ?_
      rintro e w2 ⟨an, nn, cn, f', rfl, hsl', htr⟩
      refine ⟨_, rfl, hI.put 29 84 _ ho hdep (by decide) (by intro t ht; exact vals_ne2 rfl rfl (by decide : 29 ∉ [0, 1, 2, 3, 4, 5, 6, 7, 8, 9, 10, 11, 12, 13, 16, 17, 18, 19, 20, 21, 22, 23, 24, 25, 26, 27, 30, 31, 33, 34]) (by decide : 84 ∉ [55, 56, 57, 58, 59, 60, 61, 62, 63, 64, 65, 66, 67, 68, 71, 72, 73, 74, 75, 76, 77, 78, 79, 80, 81, 82, 85, 86, 87, 88]) ht) ?_⟩
      have hS2 := hset _ _ _ hsl' htr
      simp only [e14, e15, e28, e29, e32, e35, Bool.or_false, Bool.or_true, Nat.reduceEqDiff, decide_true, decide_false, pick_true, vpick_false, eval_put_same (by rw [h1sz]; decide : 84 < a1.tmps.size), eval_put_ne (by decide : 84 ≠ 69), eval_put_ne (by decide : 84 ≠ 70), eval_put_ne (by decide : 84 ≠ 83)]
      exact hS2
    · have hl : oFl5I[30]? = some ⟨some 85, Op.nilCheck (Operand.tmp 55), _, _, _, none⟩ := rfl
      obtain rfl := oI ho hl
      have x55 := hI.val 0 55 (.pointer (some ⟨cb, 0, none⟩)) (mG (i := 0) rfl) (dK ho hdep (by kernel_rfl : waitsB oFl5I 30 0 = true))
      exact hI.rd hE hsz 30 85 (.pointer (some ⟨cb, 0, none⟩)) ho rfl rfl hdep (by decide) (vals_at hn1 hn2 26 rfl) (by simp [go_sem, execOp, Act.eval, x55])
    · have hl : oFl5I[31]? = some ⟨some 86, Op.fieldAddr _ (Operand.tmp 85) 0, _, _, _, none⟩ := rfl
      obtain rfl := oI ho hl
      have x85 := hI.val 30 85 (.pointer (some ⟨cb, 0, none⟩)) (mG (i := 26) rfl) (dK ho hdep (by kernel_rfl : waitsB oFl5I 31 30 = true))
      exact hI.rd hE hsz 31 86 (.pointer (some ⟨cb, 0, none⟩)) ho rfl rfl hdep (by decide) (vals_at hn1 hn2 27 rfl) (by simp [go_sem, execOp, Act.eval, x85])
    · have hl : oFl5I[32]? = some ⟨none, Op.store _ (Operand.tmp 86) (Operand.tmp 70), _, _, _, none⟩ := rfl
      obtain rfl := oI ho hl
      have x86 := hI.val 31 86 (.pointer (some ⟨cb, 0, none⟩)) (mG (i := 27) rfl) (dK ho hdep (by kernel_rfl : waitsB oFl5I 32 31 = true))
      have hS1 := hI.eff
      have e14 : L 14 = true := dK ho hdep (by kernel_rfl : waitsB oFl5I 32 14 = true)
      have e15 : L 15 = true := dK ho hdep (by kernel_rfl : waitsB oFl5I 32 15 = true)
      have e28 : L 28 = true := hI.yes (dK ho hdep (by kernel_rfl : waitsB oFl5I 32 29 = true)) (by kernel_rfl : waitsB oFl5I 29 28 = true)
      have e29 : L 29 = true := dK ho hdep (by kernel_rfl : waitsB oFl5I 32 29 = true)
      have e32 : L 32 = false := hL
      have e35 : L 35 = false := hI.no hL (by kernel_rfl : waitsB oFl5I 35 32 = true)
      simp only [e14, e15, e28, e29, e32, e35, pick_true, vpick_false] at hS1
      obtain ⟨_, hpv⟩ := hS1.has 3 rfl
      obtain ⟨av, nv, cv, hv⟩ := sl_shape hpv
      have xv := eval_spell hv
      obtain ⟨f, hp, hset⟩ := hS1.get 2 rfl
      have hcell := (blk_get hp).1 0
      have hfz := (blk_get hp).2.1 0
      have hlt := (blk_get hp).2.2
      simp only [List.getElem?_toArray, List.getElem?_cons_zero] at hcell
      refine inv_stored ho rfl rfl (by simp [go_sem, execOp, Act.eval, x86, xv, hcell, hfz]; rfl) (hI.step 32 ho hdep (by intro t ht; exact vals_ne1 rfl (by decide : 32 ∉ [0, 1, 2, 3, 4, 5, 6, 7, 8, 9, 10, 11, 12, 13, 16, 17, 18, 19, 20, 21, 22, 23, 24, 25, 26, 27, 30, 31, 33, 34]) ht) ?_)
      obtain ⟨hb2, ht2⟩ := blk_set hp 0 (a1.eval (.tmp 70))
      have hS2 := hset _ _ _ hb2 ht2
      simp only [e14, e15, e28, e29, e32, e35, Bool.or_false, Bool.or_true, Nat.reduceEqDiff, decide_true, decide_false, pick_true, vpick_true, vpick_false]
      rw [hv] at hS2
      rw [hv]
      exact hS2
    · have hl : oFl5I[33]? = some ⟨some 87, Op.nilCheck (Operand.tmp 56), _, _, _, none⟩ := rfl
      obtain rfl := oI ho hl
      have x56 := hI.val 1 56 (.pointer (some ⟨cb, 0, none⟩)) (mG (i := 1) rfl) (dK ho hdep (by kernel_rfl : waitsB oFl5I 33 1 = true))
      exact hI.rd hE hsz 33 87 (.pointer (some ⟨cb, 0, none⟩)) ho rfl rfl hdep (by decide) (vals_at hn1 hn2 28 rfl) (by simp [go_sem, execOp, Act.eval, x56])
    · have hl : oFl5I[34]? = some ⟨some 88, Op.fieldAddr _ (Operand.tmp 87) 1, _, _, _, none⟩ := rfl
      obtain rfl := oI ho hl
      have x87 := hI.val 33 87 (.pointer (some ⟨cb, 0, none⟩)) (mG (i := 28) rfl) (dK ho hdep (by kernel_rfl : waitsB oFl5I 34 33 = true))
      exact hI.rd hE hsz 34 88 (.pointer (some ⟨cb, 1, none⟩)) ho rfl rfl hdep (by decide) (vals_at hn1 hn2 29 rfl) (by simp [go_sem, execOp, Act.eval, x87])
    · have hl : oFl5I[35]? = some ⟨none, Op.store _ (Operand.tmp 88) (Operand.tmp 84), _, _, _, none⟩ := rfl
      obtain rfl := oI ho hl
      have x88 := hI.val 34 88 (.pointer (some ⟨cb, 1, none⟩)) (mG (i := 29) rfl) (dK ho hdep (by kernel_rfl : waitsB oFl5I 35 34 = true))
      have hS1 := hI.eff
      have e14 : L 14 = true := dK ho hdep (by kernel_rfl : waitsB oFl5I 35 14 = true)
      have e15 : L 15 = true := dK ho hdep (by kernel_rfl : waitsB oFl5I 35 15 = true)
      have e28 : L 28 = true := dK ho hdep (by kernel_rfl : waitsB oFl5I 35 28 = true)
      have e29 : L 29 = true := dK ho hdep (by kernel_rfl : waitsB oFl5I 35 29 = true)
      have e32 : L 32 = true := dK ho hdep (by kernel_rfl : waitsB oFl5I 35 32 = true)
      have e35 : L 35 = false := hL
      simp only [e14, e15, e28, e29, e32, e35, pick_true, vpick_true, vpick_false] at hS1
      obtain ⟨_, hpv⟩ := hS1.has 4 rfl
      obtain ⟨av, nv, cv, hv⟩ := sl_shape hpv
      have xv := eval_spell hv
      obtain ⟨f, hp, hset⟩ := hS1.get 2 rfl
      have hcell := (blk_get hp).1 1
      have hfz := (blk_get hp).2.1 1
      have hlt := (blk_get hp).2.2
      simp only [List.getElem?_toArray, List.getElem?_cons_zero, List.getElem?_cons_succ] at hcell
      refine inv_stored ho rfl rfl (by simp [go_sem, execOp, Act.eval, x88, xv, hcell, hfz]; rfl) (hI.step 35 ho hdep (by intro t ht; exact vals_ne1 rfl (by decide : 35 ∉ [0, 1, 2, 3, 4, 5, 6, 7, 8, 9, 10, 11, 12, 13, 16, 17, 18, 19, 20, 21, 22, 23, 24, 25, 26, 27, 30, 31, 33, 34]) ht) ?_)
      obtain ⟨hb2, ht2⟩ := blk_set hp 1 (a1.eval (.tmp 84))
      have hS2 := hset _ _ _ hb2 ht2
      simp only [e14, e15, e28, e29, e32, e35, Bool.or_false, Bool.or_true, Nat.reduceEqDiff, decide_true, decide_false, pick_true, vpick_true]
      rw [hv] at hS2
      rw [hv]
      exact hS2
  · intro L a1 w1 hL hI
    have hS1 := hI.eff
    simp only [hL 14 (by rw [hsize]; decide), hL 15 (by rw [hsize]; decide), hL 28 (by rw [hsize]; decide), hL 29 (by rw [hsize]; decide), hL 32 (by rw [hsize]; decide), hL 35 (by rw [hsize]; decide), pick_true, vpick_true] at hS1
    have := hQ (fun d => a1.eval (.tmp d)) w1  hS1
    have e := hI.frame.eq
    rw [e]
    exact this
noncomputable def oFl6I : Array Oper := ((Try.f75.body).bind fun c => opsOf c 6).getD #[]
set_option maxHeartbeats 4000000 in
set_option maxRecDepth 100000 in
theorem rFl6I {Q : Exit → Act → World → Prop} {a : Act} {w w0 : World} {fp0 : List Nat} (b lb gx nx cx gy ny cy hx mx dx hy my dy j : Nat) (m : Nat) (xp lp : Value) (xe le : M Int Int) (y : Int × Int) (hyy : le[m]? = some y) (hik : j < nx) (hiv : j < ny) (_hek : nx = xe.length) (hev : ny = xe.length) (hmk : m < mx) (hmv : m < my) (hlk : mx = le.length) (_hlv : my = le.length) (hj : j < 1099511627776) (R : List Asn) (ops : Array Oper) (hops : ops = oFl6I) (hsz : a.tmps.size = 310) (h1 : a.eval (.tmp 1) = .pointer (some ⟨b, 0, none⟩)) (h2 : a.eval (.tmp 2) = .int .i64 ((j + 1 : Nat) : Int)) (h7 : a.eval (.tmp 7) = .pointer (some ⟨lb, 0, none⟩)) (h8 : a.eval (.tmp 8) = .int .i64 m)
    (hS : St w0 fp0 ([blkA b 70 #[.slice (some ⟨gx, 0, none⟩) nx cx, .slice (some ⟨gy, 0, none⟩) ny cy, xp], pick false (slA 3 (.slice (some ⟨gx, 0, none⟩) nx cx) ((keysI xe).set j (encI y.1))) (slA 3 (.slice (some ⟨gx, 0, none⟩) nx cx) (keysI xe)), pick false (slA 3 (.slice (some ⟨gy, 0, none⟩) ny cy) ((valsI xe).set j (valI y.2))) (slA 3 (.slice (some ⟨gy, 0, none⟩) ny cy) (valsI xe)), blkA lb 70 #[.slice (some ⟨hx, 0, none⟩) mx dx, .slice (some ⟨hy, 0, none⟩) my dy, lp], slA 3 (.slice (some ⟨hx, 0, none⟩) mx dx) (keysI le), slA 3 (.slice (some ⟨hy, 0, none⟩) my dy) (valsI le)] ++ R) w)
    (hQ : ∀ (u : Nat → Value) w1, St w0 fp0 ([blkA b 70 #[.slice (some ⟨gx, 0, none⟩) nx cx, .slice (some ⟨gy, 0, none⟩) ny cy, xp], pick true (slA 3 (.slice (some ⟨gx, 0, none⟩) nx cx) ((keysI xe).set j (encI y.1))) (slA 3 (.slice (some ⟨gx, 0, none⟩) nx cx) (keysI xe)), pick true (slA 3 (.slice (some ⟨gy, 0, none⟩) ny cy) ((valsI xe).set j (valI y.2))) (slA 3 (.slice (some ⟨gy, 0, none⟩) ny cy) (valsI xe)), blkA lb 70 #[.slice (some ⟨hx, 0, none⟩) mx dx, .slice (some ⟨hy, 0, none⟩) my dy, lp], slA 3 (.slice (some ⟨hx, 0, none⟩) mx dx) (keysI le), slA 3 (.slice (some ⟨hy, 0, none⟩) my dy) (valsI le)] ++ R) w1 → Q .normal (putL a ((List.range' 89 28).map fun d => (d, u d))) w1) : (Code.region 6 ops true).wp Try.prog Q a w := by
  subst hops
  have hwj : IntKind.i64.wrap (j : Int) = (j : Int) := by rw [IntKind.wrap_i64]; omega
  have hyk : ∀ h, (keysI le)[m]'h = encI y.1 := by intro h; simp only [keysI, List.getElem_map]; rw [(List.getElem?_eq_some_iff.1 hyy).2]
  have hyv : ∀ h, (valsI le)[m]'h = valI y.2 := by intro h; simp only [valsI, List.getElem_map]; rw [(List.getElem?_eq_some_iff.1 hyy).2]
  have hsize : oFl6I.size = 30 := by kernel_rfl
  have hE : Looks (fun L g w => St w0 fp0 ([blkA b 70 #[.slice (some ⟨gx, 0, none⟩) nx cx, .slice (some ⟨gy, 0, none⟩) ny cy, xp], pick (L 27) (slA 3 (.slice (some ⟨gx, 0, none⟩) nx cx) ((keysI xe).set j (encI y.1))) (slA 3 (.slice (some ⟨gx, 0, none⟩) nx cx) (keysI xe)), pick (L 29) (slA 3 (.slice (some ⟨gy, 0, none⟩) ny cy) ((valsI xe).set j (valI y.2))) (slA 3 (.slice (some ⟨gy, 0, none⟩) ny cy) (valsI xe)), blkA lb 70 #[.slice (some ⟨hx, 0, none⟩) mx dx, .slice (some ⟨hy, 0, none⟩) my dy, lp], slA 3 (.slice (some ⟨hx, 0, none⟩) mx dx) (keysI le), slA 3 (.slice (some ⟨hy, 0, none⟩) my dy) (valsI le)] ++ R) w) [27, 29] [] := by
    intro L L' g g' w hL hg h
    simpa only [← hL 27 (by decide), ← hL 29 (by decide)] using h
  have hn1 : (([(0, 89, .pointer (some ⟨b, 0, none⟩)), (1, 90, .pointer (some ⟨b, 0, none⟩)), (2, 91, .pointer (some ⟨b, 0, none⟩)), (3, 92, .slice (some ⟨gx, 0, none⟩) nx cx), (4, 93, .int .i64 ((j + 1 : Nat) : Int)), (5, 94, .int .i64 j), (6, 95, .pointer (some ⟨b, 0, none⟩)), (7, 96, .pointer (some ⟨b, 0, none⟩)), (8, 97, .pointer (some ⟨b, 1, none⟩)), (9, 98, .slice (some ⟨gy, 0, none⟩) ny cy), (10, 99, .int .i64 ((j + 1 : Nat) : Int)), (11, 100, .int .i64 j), (12, 101, .pointer (some ⟨lb, 0, none⟩)), (13, 102, .pointer (some ⟨lb, 0, none⟩)), (14, 103, .pointer (some ⟨lb, 0, none⟩)), (15, 104, .slice (some ⟨hx, 0, none⟩) mx dx), (16, 105, .int .i64 m), (17, 106, .pointer (some ⟨hx, m, none⟩)), (18, 107, encI y.1), (19, 108, .pointer (some ⟨lb, 0, none⟩)), (20, 109, .pointer (some ⟨lb, 0, none⟩)), (21, 110, .pointer (some ⟨lb, 1, none⟩)), (22, 111, .slice (some ⟨hy, 0, none⟩) my dy), (23, 112, .int .i64 m), (24, 113, .pointer (some ⟨hy, m, none⟩)), (25, 114, valI y.2), (26, 115, .pointer (some ⟨gx, j, none⟩)), (28, 116, .pointer (some ⟨gy, j, none⟩))] : List (Nat × Nat × Value)).map (·.1)).Nodup := by
    show List.Nodup [0, 1, 2, 3, 4, 5, 6, 7, 8, 9, 10, 11, 12, 13, 14, 15, 16, 17, 18, 19, 20, 21, 22, 23, 24, 25, 26, 28]
    decide
  have hn2 : (([(0, 89, .pointer (some ⟨b, 0, none⟩)), (1, 90, .pointer (some ⟨b, 0, none⟩)), (2, 91, .pointer (some ⟨b, 0, none⟩)), (3, 92, .slice (some ⟨gx, 0, none⟩) nx cx), (4, 93, .int .i64 ((j + 1 : Nat) : Int)), (5, 94, .int .i64 j), (6, 95, .pointer (some ⟨b, 0, none⟩)), (7, 96, .pointer (some ⟨b, 0, none⟩)), (8, 97, .pointer (some ⟨b, 1, none⟩)), (9, 98, .slice (some ⟨gy, 0, none⟩) ny cy), (10, 99, .int .i64 ((j + 1 : Nat) : Int)), (11, 100, .int .i64 j), (12, 101, .pointer (some ⟨lb, 0, none⟩)), (13, 102, .pointer (some ⟨lb, 0, none⟩)), (14, 103, .pointer (some ⟨lb, 0, none⟩)), (15, 104, .slice (some ⟨hx, 0, none⟩) mx dx), (16, 105, .int .i64 m), (17, 106, .pointer (some ⟨hx, m, none⟩)), (18, 107, encI y.1), (19, 108, .pointer (some ⟨lb, 0, none⟩)), (20, 109, .pointer (some ⟨lb, 0, none⟩)), (21, 110, .pointer (some ⟨lb, 1, none⟩)), (22, 111, .slice (some ⟨hy, 0, none⟩) my dy), (23, 112, .int .i64 m), (24, 113, .pointer (some ⟨hy, m, none⟩)), (25, 114, valI y.2), (26, 115, .pointer (some ⟨gx, j, none⟩)), (28, 116, .pointer (some ⟨gy, j, none⟩))] : List (Nat × Nat × Value)).map (·.2.1)).Nodup := by
    show List.Nodup [89, 90, 91, 92, 93, 94, 95, 96, 97, 98, 99, 100, 101, 102, 103, 104, 105, 106, 107, 108, 109, 110, 111, 112, 113, 114, 115, 116]
    decide
  refine wp_region_vals (ops' := oFl6I) [89, 90, 91, 92, 93, 94, 95, 96, 97, 98, 99, 100, 101, 102, 103, 104, 105, 106, 107, 108, 109, 110, 111, 112, 113, 114, 115, 116] [(0, 89, .pointer (some ⟨b, 0, none⟩)), (1, 90, .pointer (some ⟨b, 0, none⟩)), (2, 91, .pointer (some ⟨b, 0, none⟩)), (3, 92, .slice (some ⟨gx, 0, none⟩) nx cx), (4, 93, .int .i64 ((j + 1 : Nat) : Int)), (5, 94, .int .i64 j), (6, 95, .pointer (some ⟨b, 0, none⟩)), (7, 96, .pointer (some ⟨b, 0, none⟩)), (8, 97, .pointer (some ⟨b, 1, none⟩)), (9, 98, .slice (some ⟨gy, 0, none⟩) ny cy), (10, 99, .int .i64 ((j + 1 : Nat) : Int)), (11, 100, .int .i64 j), (12, 101, .pointer (some ⟨lb, 0, none⟩)), (13, 102, .pointer (some ⟨lb, 0, none⟩)), (14, 103, .pointer (some ⟨lb, 0, none⟩)), (15, 104, .slice (some ⟨hx, 0, none⟩) mx dx), (16, 105, .int .i64 m), (17, 106, .pointer (some ⟨hx, m, none⟩)), (18, 107, encI y.1), (19, 108, .pointer (some ⟨lb, 0, none⟩)), (20, 109, .pointer (some ⟨lb, 0, none⟩)), (21, 110, .pointer (some ⟨lb, 1, none⟩)), (22, 111, .slice (some ⟨hy, 0, none⟩) my dy), (23, 112, .int .i64 m), (24, 113, .pointer (some ⟨hy, m, none⟩)), (25, 114, valI y.2), (26, 115, .pointer (some ⟨gx, j, none⟩)), (28, 116, .pointer (some ⟨gy, j, none⟩))] (fun L g w => St w0 fp0 ([blkA b 70 #[.slice (some ⟨gx, 0, none⟩) nx cx, .slice (some ⟨gy, 0, none⟩) ny cy, xp], pick (L 27) (slA 3 (.slice (some ⟨gx, 0, none⟩) nx cx) ((keysI xe).set j (encI y.1))) (slA 3 (.slice (some ⟨gx, 0, none⟩) nx cx) (keysI xe)), pick (L 29) (slA 3 (.slice (some ⟨gy, 0, none⟩) ny cy) ((valsI xe).set j (valI y.2))) (slA 3 (.slice (some ⟨gy, 0, none⟩) ny cy) (valsI xe)), blkA lb 70 #[.slice (some ⟨hx, 0, none⟩) mx dx, .slice (some ⟨hy, 0, none⟩) my dy, lp], slA 3 (.slice (some ⟨hx, 0, none⟩) mx dx) (keysI le), slA 3 (.slice (some ⟨hy, 0, none⟩) my dy) (valsI le)] ++ R) w) rfl (by kernel_rfl) (by kernel_rfl) (hS.mono (below_drew w)) ?_ ?_
  · intro oi o L a1 w1 ho hL hdep hI
    have hoi : oi < 30 := by have := (Array.getElem?_eq_some_iff.1 ho).1; omega
    have h1sz : a1.tmps.size = 310 := hI.frame.size.trans hsz
    rcases (by omega : oi = 0 ∨ oi = 1 ∨ oi = 2 ∨ oi = 3 ∨ oi = 4 ∨ oi = 5 ∨ oi = 6 ∨ oi = 7 ∨ oi = 8 ∨ oi = 9 ∨ oi = 10 ∨ oi = 11 ∨ oi = 12 ∨ oi = 13 ∨ oi = 14 ∨ oi = 15 ∨ oi = 16 ∨ oi = 17 ∨ oi = 18 ∨ oi = 19 ∨ oi = 20 ∨ oi = 21 ∨ oi = 22 ∨ oi = 23 ∨ oi = 24 ∨ oi = 25 ∨ oi = 26 ∨ oi = 27 ∨ oi = 28 ∨ oi = 29) with rfl | rfl | rfl | rfl | rfl | rfl | rfl | rfl | rfl | rfl | rfl | rfl | rfl | rfl | rfl | rfl | rfl | rfl | rfl | rfl | rfl | rfl | rfl | rfl | rfl | rfl | rfl | rfl | rfl | rfl
    · have hl : oFl6I[0]? = some ⟨some 89, Op.move (Operand.tmp 1), _, _, _, none⟩ := rfl
      obtain rfl := oI ho hl
      have x1 := hI.old 1 (.pointer (some ⟨b, 0, none⟩)) (by decide) h1
      exact hI.rd hE hsz 0 89 (.pointer (some ⟨b, 0, none⟩)) ho rfl rfl hdep (by decide) (vals_at hn1 hn2 0 rfl) (by simp [go_sem, execOp, Act.eval, x1])
    · have hl : oFl6I[1]? = some ⟨some 90, Op.nilCheck (Operand.tmp 89), _, _, _, none⟩ := rfl
      obtain rfl := oI ho hl
      have x89 := hI.val 0 89 (.pointer (some ⟨b, 0, none⟩)) (mG (i := 0) rfl) (dK ho hdep (by kernel_rfl : waitsB oFl6I 1 0 = true))
      exact hI.rd hE hsz 1 90 (.pointer (some ⟨b, 0, none⟩)) ho rfl rfl hdep (by decide) (vals_at hn1 hn2 1 rfl) (by simp [go_sem, execOp, Act.eval, x89])
    · have hl : oFl6I[2]? = some ⟨some 91, Op.fieldAddr _ (Operand.tmp 90) 0, _, _, _, none⟩ := rfl
      obtain rfl := oI ho hl
      have x90 := hI.val 1 90 (.pointer (some ⟨b, 0, none⟩)) (mG (i := 1) rfl) (dK ho hdep (by kernel_rfl : waitsB oFl6I 2 1 = true))
      exact hI.rd hE hsz 2 91 (.pointer (some ⟨b, 0, none⟩)) ho rfl rfl hdep (by decide) (vals_at hn1 hn2 2 rfl) (by simp [go_sem, execOp, Act.eval, x90])
    · have hl : oFl6I[3]? = some ⟨some 92, Op.load _ (Operand.tmp 91), _, _, _, none⟩ := rfl
      obtain rfl := oI ho hl
      have x91 := hI.val 2 91 (.pointer (some ⟨b, 0, none⟩)) (mG (i := 2) rfl) (dK ho hdep (by kernel_rfl : waitsB oFl6I 3 2 = true))
      have hS1 := hI.eff
      have e27 : L 27 = false := hI.no hL (by kernel_rfl : waitsB oFl6I 27 3 = true)
      have e29 : L 29 = false := hI.no hL (by kernel_rfl : waitsB oFl6I 29 3 = true)
      simp only [e27, e29, pick_false] at hS1
      obtain ⟨_, hp⟩ := hS1.has 0 rfl
      have hcell := (blk_get hp).1 0
      have hlt := (blk_get hp).2.2
      simp only [List.getElem?_toArray, List.getElem?_cons_zero] at hcell
      exact hI.rd hE hsz 3 92 (.slice (some ⟨gx, 0, none⟩) nx cx) ho rfl rfl hdep (by decide) (vals_at hn1 hn2 3 rfl) (by simp [go_sem, execOp, Act.eval, x91, hcell])
    · have hl : oFl6I[4]? = some ⟨some 93, Op.move (Operand.tmp 2), _, _, _, none⟩ := rfl
      obtain rfl := oI ho hl
      have x2 := hI.old 2 (.int .i64 ((j + 1 : Nat) : Int)) (by decide) h2
      exact hI.rd hE hsz 4 93 (.int .i64 ((j + 1 : Nat) : Int)) ho rfl rfl hdep (by decide) (vals_at hn1 hn2 4 rfl) (by simp [go_sem, execOp, Act.eval, x2])
    · have hl : oFl6I[5]? = some ⟨some 94, Op.binOp BinOp.sub _ (Operand.tmp 93) (Operand.const (Value.int IntKind.i64 1)) _, _, _, _, none⟩ := rfl
      obtain rfl := oI ho hl
      have x93 := hI.val 4 93 (.int .i64 ((j + 1 : Nat) : Int)) (mG (i := 4) rfl) (dK ho hdep (by kernel_rfl : waitsB oFl6I 5 4 = true))
      exact hI.rd hE hsz 5 94 (.int .i64 j) ho rfl rfl hdep (by decide) (vals_at hn1 hn2 5 rfl) (by simp [go_sem, execOp, Act.eval, x93, hwj])
    · have hl : oFl6I[6]? = some ⟨some 95, Op.move (Operand.tmp 1), _, _, _, none⟩ := rfl
      obtain rfl := oI ho hl
      have x1 := hI.old 1 (.pointer (some ⟨b, 0, none⟩)) (by decide) h1
      exact hI.rd hE hsz 6 95 (.pointer (some ⟨b, 0, none⟩)) ho rfl rfl hdep (by decide) (vals_at hn1 hn2 6 rfl) (by simp [go_sem, execOp, Act.eval, x1])
    · have hl : oFl6I[7]? = some ⟨some 96, Op.nilCheck (Operand.tmp 95), _, _, _, none⟩ := rfl
      obtain rfl := oI ho hl
      have x95 := hI.val 6 95 (.pointer (some ⟨b, 0, none⟩)) (mG (i := 6) rfl) (dK ho hdep (by kernel_rfl : waitsB oFl6I 7 6 = true))
      exact hI.rd hE hsz 7 96 (.pointer (some ⟨b, 0, none⟩)) ho rfl rfl hdep (by decide) (vals_at hn1 hn2 7 rfl) (by simp [go_sem, execOp, Act.eval, x95])
    · have hl : oFl6I[8]? = some ⟨some 97, Op.fieldAddr _ (Operand.tmp 96) 1, _, _, _, none⟩ := rfl
      obtain rfl := oI ho hl
      have x96 := hI.val 7 96 (.pointer (some ⟨b, 0, none⟩)) (mG (i := 7) rfl) (dK ho hdep (by kernel_rfl : waitsB oFl6I 8 7 = true))
      exact hI.rd hE hsz 8 97 (.pointer (some ⟨b, 1, none⟩)) ho rfl rfl hdep (by decide) (vals_at hn1 hn2 8 rfl) (by simp [go_sem, execOp, Act.eval, x96])
    · have hl : oFl6I[9]? = some ⟨some 98, Op.load _ (Operand.tmp 97), _, _, _, none⟩ := rfl
      obtain rfl := oI ho hl
      have x97 := hI.val 8 97 (.pointer (some ⟨b, 1, none⟩)) (mG (i := 8) rfl) (dK ho hdep (by kernel_rfl : waitsB oFl6I 9 8 = true))
      have hS1 := hI.eff
      have e27 : L 27 = false := hI.no hL (by kernel_rfl : waitsB oFl6I 27 9 = true)
      have e29 : L 29 = false := hI.no hL (by kernel_rfl : waitsB oFl6I 29 9 = true)
      simp only [e27, e29, pick_false] at hS1
      obtain ⟨_, hp⟩ := hS1.has 0 rfl
      have hcell := (blk_get hp).1 1
      have hlt := (blk_get hp).2.2
      simp only [List.getElem?_toArray, List.getElem?_cons_zero, List.getElem?_cons_succ] at hcell
      exact hI.rd hE hsz 9 98 (.slice (some ⟨gy, 0, none⟩) ny cy) ho rfl rfl hdep (by decide) (vals_at hn1 hn2 9 rfl) (by simp [go_sem, execOp, Act.eval, x97, hcell])
    · have hl : oFl6I[10]? = some ⟨some 99, Op.move (Operand.tmp 2), _, _, _, none⟩ := rfl
      obtain rfl := oI ho hl
      have x2 := hI.old 2 (.int .i64 ((j + 1 : Nat) : Int)) (by decide) h2
      exact hI.rd hE hsz 10 99 (.int .i64 ((j + 1 : Nat) : Int)) ho rfl rfl hdep (by decide) (vals_at hn1 hn2 10 rfl) (by simp [go_sem, execOp, Act.eval, x2])
    · have hl : oFl6I[11]? = some ⟨some 100, Op.binOp BinOp.sub _ (Operand.tmp 99) (Operand.const (Value.int IntKind.i64 1)) _, _, _, _, none⟩ := rfl
      obtain rfl := oI ho hl
      have x99 := hI.val 10 99 (.int .i64 ((j + 1 : Nat) : Int)) (mG (i := 10) rfl) (dK ho hdep (by kernel_rfl : waitsB oFl6I 11 10 = true))
      exact hI.rd hE hsz 11 100 (.int .i64 j) ho rfl rfl hdep (by decide) (vals_at hn1 hn2 11 rfl) (by simp [go_sem, execOp, Act.eval, x99, hwj])
    · have hl : oFl6I[12]? = some ⟨some 101, Op.move (Operand.tmp 7), _, _, _, none⟩ := rfl
      obtain rfl := oI ho hl
      have x7 := hI.old 7 (.pointer (some ⟨lb, 0, none⟩)) (by decide) h7
      exact hI.rd hE hsz 12 101 (.pointer (some ⟨lb, 0, none⟩)) ho rfl rfl hdep (by decide) (vals_at hn1 hn2 12 rfl) (by simp [go_sem, execOp, Act.eval, x7])
    · have hl : oFl6I[13]? = some ⟨some 102, Op.nilCheck (Operand.tmp 101), _, _, _, none⟩ := rfl
      obtain rfl := oI ho hl
      have x101 := hI.val 12 101 (.pointer (some ⟨lb, 0, none⟩)) (mG (i := 12) rfl) (dK ho hdep (by kernel_rfl : waitsB oFl6I 13 12 = true))
      exact hI.rd hE hsz 13 102 (.pointer (some ⟨lb, 0, none⟩)) ho rfl rfl hdep (by decide) (vals_at hn1 hn2 13 rfl) (by simp [go_sem, execOp, Act.eval, x101])
    · have hl : oFl6I[14]? = some ⟨some 103, Op.fieldAddr _ (Operand.tmp 102) 0, _, _, _, none⟩ := rfl
      obtain rfl := oI ho hl
      have x102 := hI.val 13 102 (.pointer (some ⟨lb, 0, none⟩)) (mG (i := 13) rfl) (dK ho hdep (by kernel_rfl : waitsB oFl6I 14 13 = true))
      exact hI.rd hE hsz 14 103 (.pointer (some ⟨lb, 0, none⟩)) ho rfl rfl hdep (by decide) (vals_at hn1 hn2 14 rfl) (by simp [go_sem, execOp, Act.eval, x102])
    · have hl : oFl6I[15]? = some ⟨some 104, Op.load _ (Operand.tmp 103), _, _, _, none⟩ := rfl
      obtain rfl := oI ho hl
      have x103 := hI.val 14 103 (.pointer (some ⟨lb, 0, none⟩)) (mG (i := 14) rfl) (dK ho hdep (by kernel_rfl : waitsB oFl6I 15 14 = true))
      have hS1 := hI.eff
      have e27 : L 27 = false := hI.no hL (by kernel_rfl : waitsB oFl6I 27 15 = true)
      have e29 : L 29 = false := hI.no hL (by kernel_rfl : waitsB oFl6I 29 15 = true)
      simp only [e27, e29, pick_false] at hS1
      obtain ⟨_, hp⟩ := hS1.has 3 rfl
      have hcell := (blk_get hp).1 0
      have hlt := (blk_get hp).2.2
      simp only [List.getElem?_toArray, List.getElem?_cons_zero] at hcell
      exact hI.rd hE hsz 15 104 (.slice (some ⟨hx, 0, none⟩) mx dx) ho rfl rfl hdep (by decide) (vals_at hn1 hn2 15 rfl) (by simp [go_sem, execOp, Act.eval, x103, hcell])
    · have hl : oFl6I[16]? = some ⟨some 105, Op.move (Operand.tmp 8), _, _, _, none⟩ := rfl
      obtain rfl := oI ho hl
      have x8 := hI.old 8 (.int .i64 m) (by decide) h8
      exact hI.rd hE hsz 16 105 (.int .i64 m) ho rfl rfl hdep (by decide) (vals_at hn1 hn2 16 rfl) (by simp [go_sem, execOp, Act.eval, x8])
    · have hl : oFl6I[17]? = some ⟨some 106, Op.indexAddr _ (Operand.tmp 104) (Operand.tmp 105), _, _, _, none⟩ := rfl
      obtain rfl := oI ho hl
      have x104 := hI.val 15 104 (.slice (some ⟨hx, 0, none⟩) mx dx) (mG (i := 15) rfl) (dK ho hdep (by kernel_rfl : waitsB oFl6I 17 15 = true))
      have x105 := hI.val 16 105 (.int .i64 m) (mG (i := 16) rfl) (dK ho hdep (by kernel_rfl : waitsB oFl6I 17 16 = true))
      exact hI.rd hE hsz 17 106 (.pointer (some ⟨hx, m, none⟩)) ho rfl rfl hdep (by decide) (vals_at hn1 hn2 17 rfl) (by simp [go_sem, execOp, Act.eval, x104, x105, hmk])
    · have hl : oFl6I[18]? = some ⟨some 107, Op.load _ (Operand.tmp 106), _, _, _, none⟩ := rfl
      obtain rfl := oI ho hl
      have x106 := hI.val 17 106 (.pointer (some ⟨hx, m, none⟩)) (mG (i := 17) rfl) (dK ho hdep (by kernel_rfl : waitsB oFl6I 18 17 = true))
      have hS1 := hI.eff
      have e27 : L 27 = false := hI.no hL (by kernel_rfl : waitsB oFl6I 27 18 = true)
      have e29 : L 29 = false := hI.no hL (by kernel_rfl : waitsB oFl6I 29 18 = true)
      simp only [e27, e29, pick_false] at hS1
      obtain ⟨_, hp⟩ := hS1.has 4 rfl
      obtain ⟨hcell, _, hlt, _⟩ := sl_elem hp (m) (by rw [keysI_length]; omega)
      rw [hyk] at hcell
      exact hI.rd hE hsz 18 107 (encI y.1) ho rfl rfl hdep (by decide) (vals_at hn1 hn2 18 rfl) (by simp [go_sem, execOp, Act.eval, x106, hcell])
    · have hl : oFl6I[19]? = some ⟨some 108, Op.move (Operand.tmp 7), _, _, _, none⟩ := rfl
      obtain rfl := oI ho hl
      have x7 := hI.old 7 (.pointer (some ⟨lb, 0, none⟩)) (by decide) h7
      exact hI.rd hE hsz 19 108 (.pointer (some ⟨lb, 0, none⟩)) ho rfl rfl hdep (by decide) (vals_at hn1 hn2 19 rfl) (by simp [go_sem, execOp, Act.eval, x7])
    · have hl : oFl6I[20]? = some ⟨some 109, Op.nilCheck (Operand.tmp 108), _, _, _, none⟩ := rfl
      obtain rfl := oI ho hl
      have x108 := hI.val 19 108 (.pointer (some ⟨lb, 0, none⟩)) (mG (i := 19) rfl) (dK ho hdep (by kernel_rfl : waitsB oFl6I 20 19 = true))
      exact hI.rd hE hsz 20 109 (.pointer (some ⟨lb, 0, none⟩)) ho rfl rfl hdep (by decide) (vals_at hn1 hn2 20 rfl) (by simp [go_sem, execOp, Act.eval, x108])
    · have hl : oFl6I[21]? = some ⟨some 110, Op.fieldAddr _ (Operand.tmp 109) 1, _, _, _, none⟩ := rfl
      obtain rfl := oI ho hl
      have x109 := hI.val 20 109 (.pointer (some ⟨lb, 0, none⟩)) (mG (i := 20) rfl) (dK ho hdep (by kernel_rfl : waitsB oFl6I 21 20 = true))
      exact hI.rd hE hsz 21 110 (.pointer (some ⟨lb, 1, none⟩)) ho rfl rfl hdep (by decide) (vals_at hn1 hn2 21 rfl) (by simp [go_sem, execOp, Act.eval, x109])
    · have hl : oFl6I[22]? = some ⟨some 111, Op.load _ (Operand.tmp 110), _, _, _, none⟩ := rfl
      obtain rfl := oI ho hl
      have x110 := hI.val 21 110 (.pointer (some ⟨lb, 1, none⟩)) (mG (i := 21) rfl) (dK ho hdep (by kernel_rfl : waitsB oFl6I 22 21 = true))
      have hS1 := hI.eff
      have e27 : L 27 = false := hI.no hL (by kernel_rfl : waitsB oFl6I 27 22 = true)
      have e29 : L 29 = false := hI.no hL (by kernel_rfl : waitsB oFl6I 29 22 = true)
      simp only [e27, e29, pick_false] at hS1
      obtain ⟨_, hp⟩ := hS1.has 3 rfl
      have hcell := (blk_get hp).1 1
      have hlt := (blk_get hp).2.2
      simp only [List.getElem?_toArray, List.getElem?_cons_zero, List.getElem?_cons_succ] at hcell
      exact hI.rd hE hsz 22 111 (.slice (some ⟨hy, 0, none⟩) my dy) ho rfl rfl hdep (by decide) (vals_at hn1 hn2 22 rfl) (by simp [go_sem, execOp, Act.eval, x110, hcell])
    · have hl : oFl6I[23]? = some ⟨some 112, Op.move (Operand.tmp 8), _, _, _, none⟩ := rfl
      obtain rfl := oI ho hl
      have x8 := hI.old 8 (.int .i64 m) (by decide) h8
      exact hI.rd hE hsz 23 112 (.int .i64 m) ho rfl rfl hdep (by decide) (vals_at hn1 hn2 23 rfl) (by simp [go_sem, execOp, Act.eval, x8])
    · have hl : oFl6I[24]? = some ⟨some 113, Op.indexAddr _ (Operand.tmp 111) (Operand.tmp 112), _, _, _, none⟩ := rfl
      obtain rfl := oI ho hl
      have x111 := hI.val 22 111 (.slice (some ⟨hy, 0, none⟩) my dy) (mG (i := 22) rfl) (dK ho hdep (by kernel_rfl : waitsB oFl6I 24 22 = true))
      have x112 := hI.val 23 112 (.int .i64 m) (mG (i := 23) rfl) (dK ho hdep (by kernel_rfl : waitsB oFl6I 24 23 = true))
      exact hI.rd hE hsz 24 113 (.pointer (some ⟨hy, m, none⟩)) ho rfl rfl hdep (by decide) (vals_at hn1 hn2 24 rfl) (by simp [go_sem, execOp, Act.eval, x111, x112, hmv])
    · have hl : oFl6I[25]? = some ⟨some 114, Op.load _ (Operand.tmp 113), _, _, _, none⟩ := rfl
      obtain rfl := oI ho hl
      have x113 := hI.val 24 113 (.pointer (some ⟨hy, m, none⟩)) (mG (i := 24) rfl) (dK ho hdep (by kernel_rfl : waitsB oFl6I 25 24 = true))
      have hS1 := hI.eff
      have e27 : L 27 = false := hI.no hL (by kernel_rfl : waitsB oFl6I 27 25 = true)
      have e29 : L 29 = false := hI.no hL (by kernel_rfl : waitsB oFl6I 29 25 = true)
      simp only [e27, e29, pick_false] at hS1
      obtain ⟨_, hp⟩ := hS1.has 5 rfl
      obtain ⟨hcell, _, hlt, _⟩ := sl_elem hp (m) (by rw [valsI_length]; omega)
      rw [hyv] at hcell
      exact hI.rd hE hsz 25 114 (valI y.2) ho rfl rfl hdep (by decide) (vals_at hn1 hn2 25 rfl) (by simp [go_sem, execOp, Act.eval, x113, hcell])
    · have hl : oFl6I[26]? = some ⟨some 115, Op.indexAddr _ (Operand.tmp 92) (Operand.tmp 94), _, _, _, none⟩ := rfl
      obtain rfl := oI ho hl
      have x92 := hI.val 3 92 (.slice (some ⟨gx, 0, none⟩) nx cx) (mG (i := 3) rfl) (dK ho hdep (by kernel_rfl : waitsB oFl6I 26 3 = true))
      have x94 := hI.val 5 94 (.int .i64 j) (mG (i := 5) rfl) (dK ho hdep (by kernel_rfl : waitsB oFl6I 26 5 = true))
      exact hI.rd hE hsz 26 115 (.pointer (some ⟨gx, j, none⟩)) ho rfl rfl hdep (by decide) (vals_at hn1 hn2 26 rfl) (by simp [go_sem, execOp, Act.eval, x92, x94, hik])
    · have hl : oFl6I[27]? = some ⟨none, Op.store _ (Operand.tmp 115) (Operand.tmp 107), _, _, _, none⟩ := rfl
      obtain rfl := oI ho hl
      have x115 := hI.val 26 115 (.pointer (some ⟨gx, j, none⟩)) (mG (i := 26) rfl) (dK ho hdep (by kernel_rfl : waitsB oFl6I 27 26 = true))
      have x107 := hI.val 18 107 (encI y.1) (mG (i := 18) rfl) (dK ho hdep (by kernel_rfl : waitsB oFl6I 27 18 = true))
      have hS1 := hI.eff
      have e27 : L 27 = false := hL
      have e29 : L 29 = false := hI.no hL (by kernel_rfl : waitsB oFl6I 29 27 = true)
      simp only [e27, e29, pick_false] at hS1
      obtain ⟨f, hp, hset⟩ := hS1.get 1 rfl
      obtain ⟨hcell, hfz, hlt, _⟩ := sl_elem hp (j) (by rw [keysI_length]; omega)
      refine inv_stored ho rfl rfl (by simp [go_sem, execOp, Act.eval, x115, x107, hcell, hfz, encI]; rfl) (hI.step 27 ho hdep (by intro t ht; exact vals_ne1 rfl (by decide : 27 ∉ [0, 1, 2, 3, 4, 5, 6, 7, 8, 9, 10, 11, 12, 13, 14, 15, 16, 17, 18, 19, 20, 21, 22, 23, 24, 25, 26, 28]) ht) ?_)
      obtain ⟨hb2, ht2⟩ := sl_set hp (j) (encI y.1)
      have hS2 := hset _ _ _ hb2 ht2
      simp only [e27, e29, Bool.or_false, Bool.or_true, Nat.reduceEqDiff, decide_true, decide_false, pick_true, pick_false]
      exact hS2
    · have hl : oFl6I[28]? = some ⟨some 116, Op.indexAddr _ (Operand.tmp 98) (Operand.tmp 100), _, _, _, none⟩ := rfl
      obtain rfl := oI ho hl
      have x98 := hI.val 9 98 (.slice (some ⟨gy, 0, none⟩) ny cy) (mG (i := 9) rfl) (dK ho hdep (by kernel_rfl : waitsB oFl6I 28 9 = true))
      have x100 := hI.val 11 100 (.int .i64 j) (mG (i := 11) rfl) (dK ho hdep (by kernel_rfl : waitsB oFl6I 28 11 = true))
      exact hI.rd hE hsz 28 116 (.pointer (some ⟨gy, j, none⟩)) ho rfl rfl hdep (by decide) (vals_at hn1 hn2 27 rfl) (by simp [go_sem, execOp, Act.eval, x98, x100, hiv])
    · have hl : oFl6I[29]? = some ⟨none, Op.store _ (Operand.tmp 116) (Operand.tmp 114), _, _, _, none⟩ := rfl
      obtain rfl := oI ho hl
      have x116 := hI.val 28 116 (.pointer (some ⟨gy, j, none⟩)) (mG (i := 27) rfl) (dK ho hdep (by kernel_rfl : waitsB oFl6I 29 28 = true))
      have x114 := hI.val 25 114 (valI y.2) (mG (i := 25) rfl) (dK ho hdep (by kernel_rfl : waitsB oFl6I 29 25 = true))
      have hS1 := hI.eff
      have e27 : L 27 = true := dK ho hdep (by kernel_rfl : waitsB oFl6I 29 27 = true)
      have e29 : L 29 = false := hL
      simp only [e27, e29, pick_true, pick_false] at hS1
      obtain ⟨f, hp, hset⟩ := hS1.get 2 rfl
      obtain ⟨hcell, hfz, hlt, _⟩ := sl_elem hp (j) (by rw [valsI_length]; omega)
      refine inv_stored ho rfl rfl (by simp [go_sem, execOp, Act.eval, x116, x114, hcell, hfz, valI]; rfl) (hI.step 29 ho hdep (by intro t ht; exact vals_ne1 rfl (by decide : 29 ∉ [0, 1, 2, 3, 4, 5, 6, 7, 8, 9, 10, 11, 12, 13, 14, 15, 16, 17, 18, 19, 20, 21, 22, 23, 24, 25, 26, 28]) ht) ?_)
      obtain ⟨hb2, ht2⟩ := sl_set hp (j) (valI y.2)
      have hS2 := hset _ _ _ hb2 ht2
      simp only [e27, e29, Bool.or_false, Bool.or_true, Nat.reduceEqDiff, decide_true, decide_false, pick_true]
      exact hS2
  · intro L a1 w1 hL hI
    have hS1 := hI.eff
    simp only [hL 27 (by rw [hsize]; decide), hL 29 (by rw [hsize]; decide), pick_true] at hS1
    have := hQ (fun d => a1.eval (.tmp d)) w1  hS1
    have e := hI.frame.eq
    rw [e]
    exact this
noncomputable def oFl7I : Array Oper := ((Try.f75.body).bind fun c => opsOf c 7).getD #[]
set_option maxHeartbeats 4000000 in
set_option maxRecDepth 100000 in
theorem rFl7I {Q : Exit → Act → World → Prop} {a : Act} {w w0 : World} {fp0 : List Nat} (b i : Nat) (xk xv xp : Value) (xe : M Int Int) (hi : i < xe.length) (hlen : xe.length < 1099511627776) (R : List Asn) (ops : Array Oper) (hops : ops = oFl7I) (hsz : a.tmps.size = 310) (h7 : a.eval (.tmp 7) = .pointer (some ⟨b, 0, none⟩)) (h8 : a.eval (.tmp 8) = .int .i64 i)
    (hS : St w0 fp0 ([blkA b 70 #[vpick false (a.eval (.tmp 126)) xk, vpick false (a.eval (.tmp 134)) xv, xp], pick false (slA 3 (a.eval (.tmp 126)) ((keysI xe).eraseIdx i)) (slA 3 xk (keysI xe)), pick false (slA 3 (a.eval (.tmp 134)) ((valsI xe).eraseIdx i)) (slA 3 xv (valsI xe))] ++ R) w)
    (hQ : ∀ (u : Nat → Value) w1, St w0 fp0 ([blkA b 70 #[vpick true (u 126) xk, vpick true (u 134) xv, xp], pick true (slA 3 (u 126) ((keysI xe).eraseIdx i)) (slA 3 xk (keysI xe)), pick true (slA 3 (u 134) ((valsI xe).eraseIdx i)) (slA 3 xv (valsI xe))] ++ R) w1 → Q .normal (putL a ((List.range' 117 22).map fun d => (d, u d))) w1) : (Code.region 7 ops true).wp Try.prog Q a w := by
  subst hops
  have hw : IntKind.i64.wrap ((i : Int) + (1 : Int)) = (i : Int) + (1 : Int) := by rw [IntKind.wrap_i64]; omega
  have hsize : oFl7I.size = 24 := by kernel_rfl
  have hE : Looks (fun L g w => St w0 fp0 ([blkA b 70 #[vpick (L 20) (g 126) xk, vpick (L 23) (g 134) xv, xp], pick (L 9) (slA 3 (g 126) ((keysI xe).eraseIdx i)) (slA 3 xk (keysI xe)), pick (L 17) (slA 3 (g 134) ((valsI xe).eraseIdx i)) (slA 3 xv (valsI xe))] ++ R) w) [9, 17, 20, 23] [126, 134] := by
    intro L L' g g' w hL hg h
    simpa only [← hL 9 (by decide), ← hL 17 (by decide), ← hL 20 (by decide), ← hL 23 (by decide), ← hg 126 (by decide), ← hg 134 (by decide)] using h
  have hn1 : (([(0, 117, .pointer (some ⟨b, 0, none⟩)), (1, 118, .pointer (some ⟨b, 0, none⟩)), (2, 119, .pointer (some ⟨b, 0, none⟩)), (3, 120, .pointer (some ⟨b, 0, none⟩)), (4, 121, .pointer (some ⟨b, 0, none⟩)), (5, 122, xk), (6, 123, .int .i64 i), (7, 124, .int .i64 i), (8, 125, .int .i64 ((i : Int) + 1)), (10, 127, .pointer (some ⟨b, 0, none⟩)), (11, 128, .pointer (some ⟨b, 0, none⟩)), (12, 129, .pointer (some ⟨b, 1, none⟩)), (13, 130, xv), (14, 131, .int .i64 i), (15, 132, .int .i64 i), (16, 133, .int .i64 ((i : Int) + 1)), (18, 135, .pointer (some ⟨b, 0, none⟩)), (19, 136, .pointer (some ⟨b, 0, none⟩)), (21, 137, .pointer (some ⟨b, 0, none⟩)), (22, 138, .pointer (some ⟨b, 1, none⟩))] : List (Nat × Nat × Value)).map (·.1)).Nodup := by
    show List.Nodup [0, 1, 2, 3, 4, 5, 6, 7, 8, 10, 11, 12, 13, 14, 15, 16, 18, 19, 21, 22]
    decide
  have hn2 : (([(0, 117, .pointer (some ⟨b, 0, none⟩)), (1, 118, .pointer (some ⟨b, 0, none⟩)), (2, 119, .pointer (some ⟨b, 0, none⟩)), (3, 120, .pointer (some ⟨b, 0, none⟩)), (4, 121, .pointer (some ⟨b, 0, none⟩)), (5, 122, xk), (6, 123, .int .i64 i), (7, 124, .int .i64 i), (8, 125, .int .i64 ((i : Int) + 1)), (10, 127, .pointer (some ⟨b, 0, none⟩)), (11, 128, .pointer (some ⟨b, 0, none⟩)), (12, 129, .pointer (some ⟨b, 1, none⟩)), (13, 130, xv), (14, 131, .int .i64 i), (15, 132, .int .i64 i), (16, 133, .int .i64 ((i : Int) + 1)), (18, 135, .pointer (some ⟨b, 0, none⟩)), (19, 136, .pointer (some ⟨b, 0, none⟩)), (21, 137, .pointer (some ⟨b, 0, none⟩)), (22, 138, .pointer (some ⟨b, 1, none⟩))] : List (Nat × Nat × Value)).map (·.2.1)).Nodup := by
    show List.Nodup [117, 118, 119, 120, 121, 122, 123, 124, 125, 127, 128, 129, 130, 131, 132, 133, 135, 136, 137, 138]
    decide
  refine wp_region_vals (ops' := oFl7I) [117, 118, 119, 120, 121, 122, 123, 124, 125, 126, 127, 128, 129, 130, 131, 132, 133, 134, 135, 136, 137, 138] [(0, 117, .pointer (some ⟨b, 0, none⟩)), (1, 118, .pointer (some ⟨b, 0, none⟩)), (2, 119, .pointer (some ⟨b, 0, none⟩)), (3, 120, .pointer (some ⟨b, 0, none⟩)), (4, 121, .pointer (some ⟨b, 0, none⟩)), (5, 122, xk), (6, 123, .int .i64 i), (7, 124, .int .i64 i), (8, 125, .int .i64 ((i : Int) + 1)), (10, 127, .pointer (some ⟨b, 0, none⟩)), (11, 128, .pointer (some ⟨b, 0, none⟩)), (12, 129, .pointer (some ⟨b, 1, none⟩)), (13, 130, xv), (14, 131, .int .i64 i), (15, 132, .int .i64 i), (16, 133, .int .i64 ((i : Int) + 1)), (18, 135, .pointer (some ⟨b, 0, none⟩)), (19, 136, .pointer (some ⟨b, 0, none⟩)), (21, 137, .pointer (some ⟨b, 0, none⟩)), (22, 138, .pointer (some ⟨b, 1, none⟩))] (fun L g w => St w0 fp0 ([blkA b 70 #[vpick (L 20) (g 126) xk, vpick (L 23) (g 134) xv, xp], pick (L 9) (slA 3 (g 126) ((keysI xe).eraseIdx i)) (slA 3 xk (keysI xe)), pick (L 17) (slA 3 (g 134) ((valsI xe).eraseIdx i)) (slA 3 xv (valsI xe))] ++ R) w) rfl (by kernel_rfl) (by kernel_rfl) (hS.mono (below_drew w)) ?_ ?_
  · intro oi o L a1 w1 ho hL hdep hI
    have hoi : oi < 24 := by have := (Array.getElem?_eq_some_iff.1 ho).1; omega
    have h1sz : a1.tmps.size = 310 := hI.frame.size.trans hsz
    rcases (by omega : oi = 0 ∨ oi = 1 ∨ oi = 2 ∨ oi = 3 ∨ oi = 4 ∨ oi = 5 ∨ oi = 6 ∨ oi = 7 ∨ oi = 8 ∨ oi = 9 ∨ oi = 10 ∨ oi = 11 ∨ oi = 12 ∨ oi = 13 ∨ oi = 14 ∨ oi = 15 ∨ oi = 16 ∨ oi = 17 ∨ oi = 18 ∨ oi = 19 ∨ oi = 20 ∨ oi = 21 ∨ oi = 22 ∨ oi = 23) with rfl | rfl | rfl | rfl | rfl | rfl | rfl | rfl | rfl | rfl | rfl | rfl | rfl | rfl | rfl | rfl | rfl | rfl | rfl | rfl | rfl | rfl | rfl | rfl
    · have hl : oFl7I[0]? = some ⟨some 117, Op.move (Operand.tmp 7), _, _, _, none⟩ := rfl
      obtain rfl := oI ho hl
      have x7 := hI.old 7 (.pointer (some ⟨b, 0, none⟩)) (by decide) h7
      exact hI.rd hE hsz 0 117 (.pointer (some ⟨b, 0, none⟩)) ho rfl rfl hdep (by decide) (vals_at hn1 hn2 0 rfl) (by simp [go_sem, execOp, Act.eval, x7])
    · have hl : oFl7I[1]? = some ⟨some 118, Op.move (Operand.tmp 7), _, _, _, none⟩ := rfl
      obtain rfl := oI ho hl
      have x7 := hI.old 7 (.pointer (some ⟨b, 0, none⟩)) (by decide) h7
      exact hI.rd hE hsz 1 118 (.pointer (some ⟨b, 0, none⟩)) ho rfl rfl hdep (by decide) (vals_at hn1 hn2 1 rfl) (by simp [go_sem, execOp, Act.eval, x7])
    · have hl : oFl7I[2]? = some ⟨some 119, Op.move (Operand.tmp 7), _, _, _, none⟩ := rfl
      obtain rfl := oI ho hl
      have x7 := hI.old 7 (.pointer (some ⟨b, 0, none⟩)) (by decide) h7
      exact hI.rd hE hsz 2 119 (.pointer (some ⟨b, 0, none⟩)) ho rfl rfl hdep (by decide) (vals_at hn1 hn2 2 rfl) (by simp [go_sem, execOp, Act.eval, x7])
    · have hl : oFl7I[3]? = some ⟨some 120, Op.nilCheck (Operand.tmp 119), _, _, _, none⟩ := rfl
      obtain rfl := oI ho hl
      have x119 := hI.val 2 119 (.pointer (some ⟨b, 0, none⟩)) (mG (i := 2) rfl) (dK ho hdep (by kernel_rfl : waitsB oFl7I 3 2 = true))
      exact hI.rd hE hsz 3 120 (.pointer (some ⟨b, 0, none⟩)) ho rfl rfl hdep (by decide) (vals_at hn1 hn2 3 rfl) (by simp [go_sem, execOp, Act.eval, x119])
    · have hl : oFl7I[4]? = some ⟨some 121, Op.fieldAddr _ (Operand.tmp 120) 0, _, _, _, none⟩ := rfl
      obtain rfl := oI ho hl
      have x120 := hI.val 3 120 (.pointer (some ⟨b, 0, none⟩)) (mG (i := 3) rfl) (dK ho hdep (by kernel_rfl : waitsB oFl7I 4 3 = true))
      exact hI.rd hE hsz 4 121 (.pointer (some ⟨b, 0, none⟩)) ho rfl rfl hdep (by decide) (vals_at hn1 hn2 4 rfl) (by simp [go_sem, execOp, Act.eval, x120])
    · have hl : oFl7I[5]? = some ⟨some 122, Op.load _ (Operand.tmp 121), _, _, _, none⟩ := rfl
      obtain rfl := oI ho hl
      have x121 := hI.val 4 121 (.pointer (some ⟨b, 0, none⟩)) (mG (i := 4) rfl) (dK ho hdep (by kernel_rfl : waitsB oFl7I 5 4 = true))
      have hS1 := hI.eff
      have e9 : L 9 = false := hI.no hL (by kernel_rfl : waitsB oFl7I 9 5 = true)
      have e17 : L 17 = false := hI.no (hI.no hL (by kernel_rfl : waitsB oFl7I 9 5 = true)) (by kernel_rfl : waitsB oFl7I 17 9 = true)
      have e20 : L 20 = false := hI.no hL (by kernel_rfl : waitsB oFl7I 20 5 = true)
      have e23 : L 23 = false := hI.no hL (by kernel_rfl : waitsB oFl7I 23 5 = true)
      simp only [e9, e17, e20, e23, pick_false, vpick_false] at hS1
      obtain ⟨_, hp⟩ := hS1.has 0 rfl
      have hcell := (blk_get hp).1 0
      have hlt := (blk_get hp).2.2
      simp only [List.getElem?_toArray, List.getElem?_cons_zero] at hcell
      exact hI.rd hE hsz 5 122 (xk) ho rfl rfl hdep (by decide) (vals_at hn1 hn2 5 rfl) (by simp [go_sem, execOp, Act.eval, x121, hcell])
    · have hl : oFl7I[6]? = some ⟨some 123, Op.move (Operand.tmp 8), _, _, _, none⟩ := rfl
      obtain rfl := oI ho hl
      have x8 := hI.old 8 (.int .i64 i) (by decide) h8
      exact hI.rd hE hsz 6 123 (.int .i64 i) ho rfl rfl hdep (by decide) (vals_at hn1 hn2 6 rfl) (by simp [go_sem, execOp, Act.eval, x8])
    · have hl : oFl7I[7]? = some ⟨some 124, Op.move (Operand.tmp 8), _, _, _, none⟩ := rfl
      obtain rfl := oI ho hl
      have x8 := hI.old 8 (.int .i64 i) (by decide) h8
      exact hI.rd hE hsz 7 124 (.int .i64 i) ho rfl rfl hdep (by decide) (vals_at hn1 hn2 7 rfl) (by simp [go_sem, execOp, Act.eval, x8])
    · have hl : oFl7I[8]? = some ⟨some 125, Op.binOp BinOp.add _ (Operand.tmp 124) (Operand.const (Value.int IntKind.i64 1)) _, _, _, _, none⟩ := rfl
      obtain rfl := oI ho hl
      have x124 := hI.val 7 124 (.int .i64 i) (mG (i := 7) rfl) (dK ho hdep (by kernel_rfl : waitsB oFl7I 8 7 = true))
      exact hI.rd hE hsz 8 125 (.int .i64 ((i : Int) + 1)) ho rfl rfl hdep (by decide) (vals_at hn1 hn2 8 rfl) (by simp [go_sem, execOp, Act.eval, x124, hw])
    · have hl : oFl7I[9]? = some ⟨some 126, Op.call ⟨Callee.value (Operand.func _), #[Operand.tmp 122, Operand.tmp 123, Operand.tmp 125], _⟩, _, _, _, none⟩ := rfl
      obtain rfl := oI ho hl
      have x122 := hI.val 5 122 (xk) (mG (i := 5) rfl) (dK ho hdep (by kernel_rfl : waitsB oFl7I 9 5 = true))
      have x123 := hI.val 6 123 (.int .i64 i) (mG (i := 6) rfl) (dK ho hdep (by kernel_rfl : waitsB oFl7I 9 6 = true))
      have x125 := hI.val 8 125 (.int .i64 ((i : Int) + 1)) (mG (i := 8) rfl) (dK ho hdep (by kernel_rfl : waitsB oFl7I 9 8 = true))
      have hS1 := hI.eff
      have e9 : L 9 = false := hL
      have e17 : L 17 = false := hI.no hL (by kernel_rfl : waitsB oFl7I 17 9 = true)
      have e20 : L 20 = false := hI.no hL (by kernel_rfl : waitsB oFl7I 20 9 = true)
      have e23 : L 23 = false := hI.no hL (by kernel_rfl : waitsB oFl7I 23 9 = true)
      simp only [e9, e17, e20, e23, pick_false, vpick_false] at hS1
      obtain ⟨f, hsl, hset⟩ := hS1.get 1 rfl
      refine inv_call ho rfl (f := 73) (by simp [go_sem, Act.eval, x122, x123, x125]) (delI_calls _ _ (i) _ hsl (by rw [keysI_length]; exact hi) (by rw [keysI_length]; exact hlen) (keysI_one xe)) ?_
      rintro e w2 ⟨an, nn, cn, f', rfl, hsl', htr⟩
      refine ⟨_, rfl, hI.put 9 126 _ ho hdep (by decide) (by intro t ht; exact vals_ne2 rfl rfl (by decide : 9 ∉ [0, 1, 2, 3, 4, 5, 6, 7, 8, 10, 11, 12, 13, 14, 15, 16, 18, 19, 21, 22]) (by decide : 126 ∉ [117, 118, 119, 120, 121, 122, 123, 124, 125, 127, 128, 129, 130, 131, 132, 133, 135, 136, 137, 138]) ht) ?_⟩
      have hS2 := hset _ _ _ hsl' htr
      simp only [e9, e17, e20, e23, Bool.or_false, Bool.or_true, Nat.reduceEqDiff, decide_true, decide_false, pick_true, pick_false, vpick_false, eval_put_same (by rw [h1sz]; decide : 126 < a1.tmps.size), eval_put_ne (by decide : 126 ≠ 134)]
      exact hS2
    · have hl : oFl7I[10]? = some ⟨some 127, Op.move (Operand.tmp 7), _, _, _, none⟩ := rfl
      obtain rfl := oI ho hl
      have x7 := hI.old 7 (.pointer (some ⟨b, 0, none⟩)) (by decide) h7
      exact hI.rd hE hsz 10 127 (.pointer (some ⟨b, 0, none⟩)) ho rfl rfl hdep (by decide) (vals_at hn1 hn2 9 rfl) (by simp [go_sem, execOp, Act.eval, x7])
    · have hl : oFl7I[11]? = some ⟨some 128, Op.nilCheck (Operand.tmp 127), _, _, _, none⟩ := rfl
      obtain rfl := oI ho hl
      have x127 := hI.val 10 127 (.pointer (some ⟨b, 0, none⟩)) (mG (i := 9) rfl) (dK ho hdep (by kernel_rfl : waitsB oFl7I 11 10 = true))
      exact hI.rd hE hsz 11 128 (.pointer (some ⟨b, 0, none⟩)) ho rfl rfl hdep (by decide) (vals_at hn1 hn2 10 rfl) (by simp [go_sem, execOp, Act.eval, x127])
    · have hl : oFl7I[12]? = some ⟨some 129, Op.fieldAddr _ (Operand.tmp 128) 1, _, _, _, none⟩ := rfl
      obtain rfl := oI ho hl
      have x128 := hI.val 11 128 (.pointer (some ⟨b, 0, none⟩)) (mG (i := 10) rfl) (dK ho hdep (by kernel_rfl : waitsB oFl7I 12 11 = true))
      exact hI.rd hE hsz 12 129 (.pointer (some ⟨b, 1, none⟩)) ho rfl rfl hdep (by decide) (vals_at hn1 hn2 11 rfl) (by simp [go_sem, execOp, Act.eval, x128])
    · have hl : oFl7I[13]? = some ⟨some 130, Op.load _ (Operand.tmp 129), _, _, _, none⟩ := rfl
      obtain rfl := oI ho hl
      have x129 := hI.val 12 129 (.pointer (some ⟨b, 1, none⟩)) (mG (i := 11) rfl) (dK ho hdep (by kernel_rfl : waitsB oFl7I 13 12 = true))
      have hS1 := hI.eff
      have e17 : L 17 = false := hI.no hL (by kernel_rfl : waitsB oFl7I 17 13 = true)
      have e20 : L 20 = false := hI.no hL (by kernel_rfl : waitsB oFl7I 20 13 = true)
      have e23 : L 23 = false := hI.no hL (by kernel_rfl : waitsB oFl7I 23 13 = true)
      simp only [e17, e20, e23, pick_false, vpick_false] at hS1
      obtain ⟨_, hp⟩ := hS1.has 0 rfl
      have hcell := (blk_get hp).1 1
      have hlt := (blk_get hp).2.2
      simp only [List.getElem?_toArray, List.getElem?_cons_zero, List.getElem?_cons_succ] at hcell
      exact hI.rd hE hsz 13 130 (xv) ho rfl rfl hdep (by decide) (vals_at hn1 hn2 12 rfl) (by simp [go_sem, execOp, Act.eval, x129, hcell])
    · have hl : oFl7I[14]? = some ⟨some 131, Op.move (Operand.tmp 8), _, _, _, none⟩ := rfl
      obtain rfl := oI ho hl
      have x8 := hI.old 8 (.int .i64 i) (by decide) h8
      exact hI.rd hE hsz 14 131 (.int .i64 i) ho rfl rfl hdep (by decide) (vals_at hn1 hn2 13 rfl) (by simp [go_sem, execOp, Act.eval, x8])
    · have hl : oFl7I[15]? = some ⟨some 132, Op.move (Operand.tmp 8), _, _, _, none⟩ := rfl
      obtain rfl := oI ho hl
      have x8 := hI.old 8 (.int .i64 i) (by decide) h8
      exact hI.rd hE hsz 15 132 (.int .i64 i) ho rfl rfl hdep (by decide) (vals_at hn1 hn2 14 rfl) (by simp [go_sem, execOp, Act.eval, x8])
    · have hl : oFl7I[16]? = some ⟨some 133, Op.binOp BinOp.add _ (Operand.tmp 132) (Operand.const (Value.int IntKind.i64 1)) _, _, _, _, none⟩ := rfl
      obtain rfl := oI ho hl
      have x132 := hI.val 15 132 (.int .i64 i) (mG (i := 14) rfl) (dK ho hdep (by kernel_rfl : waitsB oFl7I 16 15 = true))
      exact hI.rd hE hsz 16 133 (.int .i64 ((i : Int) + 1)) ho rfl rfl hdep (by decide) (vals_at hn1 hn2 15 rfl) (by simp [go_sem, execOp, Act.eval, x132, hw])
    · have hl : oFl7I[17]? = some ⟨some 134, Op.call ⟨Callee.value (Operand.func _), #[Operand.tmp 130, Operand.tmp 131, Operand.tmp 133], _⟩, _, _, _, none⟩ := rfl
      obtain rfl := oI ho hl
      have x130 := hI.val 13 130 (xv) (mG (i := 12) rfl) (dK ho hdep (by kernel_rfl : waitsB oFl7I 17 13 = true))
      have x131 := hI.val 14 131 (.int .i64 i) (mG (i := 13) rfl) (dK ho hdep (by kernel_rfl : waitsB oFl7I 17 14 = true))
      have x133 := hI.val 16 133 (.int .i64 ((i : Int) + 1)) (mG (i := 15) rfl) (dK ho hdep (by kernel_rfl : waitsB oFl7I 17 16 = true))
      have hS1 := hI.eff
      have e9 : L 9 = true := dK ho hdep (by kernel_rfl : waitsB oFl7I 17 9 = true)
      have e17 : L 17 = false := hL
      have e20 : L 20 = false := hI.no hL (by kernel_rfl : waitsB oFl7I 20 17 = true)
      have e23 : L 23 = false := hI.no hL (by kernel_rfl : waitsB oFl7I 23 17 = true)
      simp only [e9, e17, e20, e23, pick_true, pick_false, vpick_false] at hS1
      obtain ⟨f, hsl, hset⟩ := hS1.get 2 rfl
      refine inv_call ho rfl (f := 73) (by simp [go_sem, Act.eval, x130, x131, x133]) (delI_calls _ _ (i) _ hsl (by rw [valsI_length]; exact hi) (by rw [valsI_length]; exact hlen) (valsI_one xe)) ?_
      rintro e w2 ⟨an, nn, cn, f', rfl, hsl', htr⟩
      refine ⟨_, rfl, hI.put 17 134 _ ho hdep (by decide) (by intro t ht; exact vals_ne2 rfl rfl (by decide : 17 ∉ [0, 1, 2, 3, 4, 5, 6, 7, 8, 10, 11, 12, 13, 14, 15, 16, 18, 19, 21, 22]) (by decide : 134 ∉ [117, 118, 119, 120, 121, 122, 123, 124, 125, 127, 128, 129, 130, 131, 132, 133, 135, 136, 137, 138]) ht) ?_⟩
      have hS2 := hset _ _ _ hsl' htr
      simp only [e9, e17, e20, e23, Bool.or_false, Bool.or_true, Nat.reduceEqDiff, decide_true, decide_false, pick_true, vpick_false, eval_put_same (by rw [h1sz]; decide : 134 < a1.tmps.size), eval_put_ne (by decide : 134 ≠ 126)]
      exact hS2
    · have hl : oFl7I[18]? = some ⟨some 135, Op.nilCheck (Operand.tmp 117), _, _, _, none⟩ := rfl
      obtain rfl := oI ho hl
      have x117 := hI.val 0 117 (.pointer (some ⟨b, 0, none⟩)) (mG (i := 0) rfl) (dK ho hdep (by kernel_rfl : waitsB oFl7I 18 0 = true))
      exact hI.rd hE hsz 18 135 (.pointer (some ⟨b, 0, none⟩)) ho rfl rfl hdep (by decide) (vals_at hn1 hn2 16 rfl) (by simp [go_sem, execOp, Act.eval, x117])
    · have hl : oFl7I[19]? = some ⟨some 136, Op.fieldAddr _ (Operand.tmp 135) 0, _, _, _, none⟩ := rfl
      obtain rfl := oI ho hl
      have x135 := hI.val 18 135 (.pointer (some ⟨b, 0, none⟩)) (mG (i := 16) rfl) (dK ho hdep (by kernel_rfl : waitsB oFl7I 19 18 = true))
      exact hI.rd hE hsz 19 136 (.pointer (some ⟨b, 0, none⟩)) ho rfl rfl hdep (by decide) (vals_at hn1 hn2 17 rfl) (by simp [go_sem, execOp, Act.eval, x135])
    · have hl : oFl7I[20]? = some ⟨none, Op.store _ (Operand.tmp 136) (Operand.tmp 126), _, _, _, none⟩ := rfl
      obtain rfl := oI ho hl
      have x136 := hI.val 19 136 (.pointer (some ⟨b, 0, none⟩)) (mG (i := 17) rfl) (dK ho hdep (by kernel_rfl : waitsB oFl7I 20 19 = true))
      have hS1 := hI.eff
      have e9 : L 9 = true := dK ho hdep (by kernel_rfl : waitsB oFl7I 20 9 = true)
      have e17 : L 17 = true := dK ho hdep (by kernel_rfl : waitsB oFl7I 20 17 = true)
      have e20 : L 20 = false := hL
      have e23 : L 23 = false := hI.no hL (by kernel_rfl : waitsB oFl7I 23 20 = true)
      simp only [e9, e17, e20, e23, pick_true, vpick_false] at hS1
      obtain ⟨_, hpv⟩ := hS1.has 1 rfl
      obtain ⟨av, nv, cv, hv⟩ := sl_shape hpv
      have xv := eval_spell hv
      obtain ⟨f, hp, hset⟩ := hS1.get 0 rfl
      have hcell := (blk_get hp).1 0
      have hfz := (blk_get hp).2.1 0
      have hlt := (blk_get hp).2.2
      simp only [List.getElem?_toArray, List.getElem?_cons_zero] at hcell
      refine inv_stored ho rfl rfl (by simp [go_sem, execOp, Act.eval, x136, xv, hcell, hfz]; rfl) (hI.step 20 ho hdep (by intro t ht; exact vals_ne1 rfl (by decide : 20 ∉ [0, 1, 2, 3, 4, 5, 6, 7, 8, 10, 11, 12, 13, 14, 15, 16, 18, 19, 21, 22]) ht) ?_)
      obtain ⟨hb2, ht2⟩ := blk_set hp 0 (a1.eval (.tmp 126))
      have hS2 := hset _ _ _ hb2 ht2
      simp only [e9, e17, e20, e23, Bool.or_false, Bool.or_true, Nat.reduceEqDiff, decide_true, decide_false, pick_true, vpick_true, vpick_false]
      rw [hv] at hS2
      rw [hv]
      exact hS2
    · have hl : oFl7I[21]? = some ⟨some 137, Op.nilCheck (Operand.tmp 118), _, _, _, none⟩ := rfl
      obtain rfl := oI ho hl
      have x118 := hI.val 1 118 (.pointer (some ⟨b, 0, none⟩)) (mG (i := 1) rfl) (dK ho hdep (by kernel_rfl : waitsB oFl7I 21 1 = true))
      exact hI.rd hE hsz 21 137 (.pointer (some ⟨b, 0, none⟩)) ho rfl rfl hdep (by decide) (vals_at hn1 hn2 18 rfl) (by simp [go_sem, execOp, Act.eval, x118])
    · have hl : oFl7I[22]? = some ⟨some 138, Op.fieldAddr _ (Operand.tmp 137) 1, _, _, _, none⟩ := rfl
      obtain rfl := oI ho hl
      have x137 := hI.val 21 137 (.pointer (some ⟨b, 0, none⟩)) (mG (i := 18) rfl) (dK ho hdep (by kernel_rfl : waitsB oFl7I 22 21 = true))
      exact hI.rd hE hsz 22 138 (.pointer (some ⟨b, 1, none⟩)) ho rfl rfl hdep (by decide) (vals_at hn1 hn2 19 rfl) (by simp [go_sem, execOp, Act.eval, x137])
    · have hl : oFl7I[23]? = some ⟨none, Op.store _ (Operand.tmp 138) (Operand.tmp 134), _, _, _, none⟩ := rfl
      obtain rfl := oI ho hl
      have x138 := hI.val 22 138 (.pointer (some ⟨b, 1, none⟩)) (mG (i := 19) rfl) (dK ho hdep (by kernel_rfl : waitsB oFl7I 23 22 = true))
      have hS1 := hI.eff
      have e9 : L 9 = true := dK ho hdep (by kernel_rfl : waitsB oFl7I 23 9 = true)
      have e17 : L 17 = true := dK ho hdep (by kernel_rfl : waitsB oFl7I 23 17 = true)
      have e20 : L 20 = true := dK ho hdep (by kernel_rfl : waitsB oFl7I 23 20 = true)
      have e23 : L 23 = false := hL
      simp only [e9, e17, e20, e23, pick_true, vpick_true, vpick_false] at hS1
      obtain ⟨_, hpv⟩ := hS1.has 2 rfl
      obtain ⟨av, nv, cv, hv⟩ := sl_shape hpv
      have xv := eval_spell hv
      obtain ⟨f, hp, hset⟩ := hS1.get 0 rfl
      have hcell := (blk_get hp).1 1
      have hfz := (blk_get hp).2.1 1
      have hlt := (blk_get hp).2.2
      simp only [List.getElem?_toArray, List.getElem?_cons_zero, List.getElem?_cons_succ] at hcell
      refine inv_stored ho rfl rfl (by simp [go_sem, execOp, Act.eval, x138, xv, hcell, hfz]; rfl) (hI.step 23 ho hdep (by intro t ht; exact vals_ne1 rfl (by decide : 23 ∉ [0, 1, 2, 3, 4, 5, 6, 7, 8, 10, 11, 12, 13, 14, 15, 16, 18, 19, 21, 22]) ht) ?_)
      obtain ⟨hb2, ht2⟩ := blk_set hp 1 (a1.eval (.tmp 134))
      have hS2 := hset _ _ _ hb2 ht2
      simp only [e9, e17, e20, e23, Bool.or_false, Bool.or_true, Nat.reduceEqDiff, decide_true, decide_false, pick_true, vpick_true]
      rw [hv] at hS2
      rw [hv]
      exact hS2
  · intro L a1 w1 hL hI
    have hS1 := hI.eff
    simp only [hL 9 (by rw [hsize]; decide), hL 17 (by rw [hsize]; decide), hL 20 (by rw [hsize]; decide), hL 23 (by rw [hsize]; decide), pick_true, vpick_true] at hS1
    have := hQ (fun d => a1.eval (.tmp d)) w1  hS1
    have e := hI.frame.eq
    rw [e]
    exact this
noncomputable def oFl8I : Array Oper := ((Try.f75.body).bind fun c => opsOf c 8).getD #[]
set_option maxHeartbeats 4000000 in
set_option maxRecDepth 100000 in
theorem rFl8I {Q : Exit → Act → World → Prop} {a : Act} {w w0 : World} {fp0 : List Nat} (lb lz lcap : Nat) (la : Option Addr) (lk lv : Value) (R : List Asn) (ops : Array Oper) (hops : ops = oFl8I) (hsz : a.tmps.size = 310) (h7 : a.eval (.tmp 7) = .pointer (some ⟨lb, 0, none⟩))
    (hS : St w0 fp0 ([pick false (pureA ((a.eval (.tmp 140)) = .bool (lz == 0))) emp, blkA lb 70 #[lk, lv, .slice la lz lcap]] ++ R) w)
    (hQ : ∀ (u : Nat → Value) w1, (u 141 = .bool (!(lz == 0))) → St w0 fp0 ([pick true (pureA ((u 140) = .bool (lz == 0))) emp, blkA lb 70 #[lk, lv, .slice la lz lcap]] ++ R) w1 → Q .normal (putL a ((List.range' 139 3).map fun d => (d, u d))) w1) : (Code.region 8 ops false).wp Try.prog Q a w := by
  subst hops
  have hsize : oFl8I.size = 3 := by kernel_rfl
  have hE : Looks (fun L g w => St w0 fp0 ([pick (L 1) (pureA ((g 140) = .bool (lz == 0))) emp, blkA lb 70 #[lk, lv, .slice la lz lcap]] ++ R) w) [1] [140] := by
    intro L L' g g' w hL hg h
    simpa only [← hL 1 (by decide), ← hg 140 (by decide)] using h
  have hn1 : (([(0, 139, .pointer (some ⟨lb, 0, none⟩)), (2, 141, .bool (!(lz == 0)))] : List (Nat × Nat × Value)).map (·.1)).Nodup := by
    show List.Nodup [0, 2]
    decide
  have hn2 : (([(0, 139, .pointer (some ⟨lb, 0, none⟩)), (2, 141, .bool (!(lz == 0)))] : List (Nat × Nat × Value)).map (·.2.1)).Nodup := by
    show List.Nodup [139, 141]
    decide
  refine wp_region_vals0 (ops' := oFl8I) [139, 140, 141] [(0, 139, .pointer (some ⟨lb, 0, none⟩)), (2, 141, .bool (!(lz == 0)))] (fun L g w => St w0 fp0 ([pick (L 1) (pureA ((g 140) = .bool (lz == 0))) emp, blkA lb 70 #[lk, lv, .slice la lz lcap]] ++ R) w) rfl (by kernel_rfl) hS ?_ ?_
  · intro oi o L a1 w1 ho hL hdep hI
    have hoi : oi < 3 := by have := (Array.getElem?_eq_some_iff.1 ho).1; omega
    have h1sz : a1.tmps.size = 310 := hI.frame.size.trans hsz
    rcases (by omega : oi = 0 ∨ oi = 1 ∨ oi = 2) with rfl | rfl | rfl
    · have hl : oFl8I[0]? = some ⟨some 139, Op.move (Operand.tmp 7), _, _, _, none⟩ := rfl
      obtain rfl := oI ho hl
      have x7 := hI.old 7 (.pointer (some ⟨lb, 0, none⟩)) (by decide) h7
      exact hI.rd hE hsz 0 139 (.pointer (some ⟨lb, 0, none⟩)) ho rfl rfl hdep (by decide) (vals_at hn1 hn2 0 rfl) (by simp [go_sem, execOp, Act.eval, x7])
    · have hl : oFl8I[1]? = some ⟨some 140, Op.call ⟨Callee.value (Operand.func _), #[Operand.tmp 139], _⟩, _, _, _, none⟩ := rfl
      obtain rfl := oI ho hl
      have x139 := hI.val 0 139 (.pointer (some ⟨lb, 0, none⟩)) (mG (i := 0) rfl) (dK ho hdep (by kernel_rfl : waitsB oFl8I 1 0 = true))
      have hS1 := hI.eff
      have e1 : L 1 = false := hL
      simp only [e1, pick_false] at hS1
      obtain ⟨_, hp⟩ := hS1.has 1 rfl
      refine inv_call ho rfl (f := 53) (by simp [go_sem, Act.eval, x139, ptrI]) (leafI_calls lb _ _ la lz lcap w1 hp) ?_
      rintro e w2 ⟨rfl, rfl⟩
      refine ⟨_, rfl, hI.put 1 140 _ ho hdep (by decide) (by intro t ht; exact vals_ne2 rfl rfl (by decide : 1 ∉ [0, 2]) (by decide : 140 ∉ [139, 141]) ht) ?_⟩
      have hS2 := hS1.setP 0 rfl True trivial
      simp only [e1, Bool.or_true, decide_true, pick_true, eval_put_same (by rw [h1sz]; decide : 140 < a1.tmps.size)]
      exact hS2
    · have hl : oFl8I[2]? = some ⟨some 141, Op.unOp UnOp.not _ (Operand.tmp 140), _, _, _, none⟩ := rfl
      obtain rfl := oI ho hl
      have hS1 := hI.eff
      have e1 : L 1 = true := dK ho hdep (by kernel_rfl : waitsB oFl8I 2 1 = true)
      simp only [e1, pick_true] at hS1
      obtain ⟨_, hP, _⟩ := hS1.has 0 rfl
      have hcell := eval_spell hP
      exact hI.rd hE hsz 2 141 (.bool (!(lz == 0))) ho rfl rfl hdep (by decide) (vals_at hn1 hn2 1 rfl) (by simp [go_sem, execOp, Act.eval, hcell])
  · intro L a1 w1 hL hI
    have hS1 := hI.eff
    simp only [hL 1 (by rw [hsize]; decide), pick_true] at hS1
    have := hQ (fun d => a1.eval (.tmp d)) w1 (hI.vals (2, 141, .bool (!(lz == 0))) (mG (i := 1) rfl) (hL 2 (by rw [hsize]; decide))) hS1
    have e := hI.frame.eq
    rw [e]
    exact this
noncomputable def oFl9I : Array Oper := ((Try.f75.body).bind fun c => opsOf c 9).getD #[]
set_option maxHeartbeats 4000000 in
set_option maxRecDepth 100000 in
theorem rFl9I {Q : Exit → Act → World → Prop} {a : Act} {w w0 : World} {fp0 : List Nat} (cb lb gp np cp m : Nat) (ck cv cpp lk lv : Value) (bs lbs : List Nat) (q : Nat) (hq : lbs[m + 1]? = some q) (hmk : m + 1 < np) (hek : np = lbs.length) (hlx : bs.length < 1099511627776) (hj : m < 1099511627776) (R : List Asn) (ops : Array Oper) (hops : ops = oFl9I) (hsz : a.tmps.size = 310) (h6 : a.eval (.tmp 6) = .pointer (some ⟨cb, 0, none⟩)) (h7 : a.eval (.tmp 7) = .pointer (some ⟨lb, 0, none⟩)) (h8 : a.eval (.tmp 8) = .int .i64 m)
    (hS : St w0 fp0 ([pick false (boxA 67 (a.eval (.tmp 155)) (.pointer (some ⟨q, 0, none⟩))) emp, blkA cb 70 #[ck, cv, vpick false (a.eval (.tmp 156)) cpp], pick false (slA 67 (a.eval (.tmp 156)) ((bs.map ptrI).take 0 ++ (.pointer (some ⟨q, 0, none⟩)) :: (bs.map ptrI).drop 0)) (slA 67 cpp (bs.map ptrI)), blkA lb 70 #[lk, lv, .slice (some ⟨gp, 0, none⟩) np cp], slA 67 (.slice (some ⟨gp, 0, none⟩) np cp) (lbs.map ptrI)] ++ R) w)
    (hQ : ∀ (u : Nat → Value) w1, St w0 fp0 ([pick true (boxA 67 (u 155) (.pointer (some ⟨q, 0, none⟩))) emp, blkA cb 70 #[ck, cv, vpick true (u 156) cpp], pick true (slA 67 (u 156) ((bs.map ptrI).take 0 ++ (.pointer (some ⟨q, 0, none⟩)) :: (bs.map ptrI).drop 0)) (slA 67 cpp (bs.map ptrI)), blkA lb 70 #[lk, lv, .slice (some ⟨gp, 0, none⟩) np cp], slA 67 (.slice (some ⟨gp, 0, none⟩) np cp) (lbs.map ptrI)] ++ R) w1 → Q .normal (putL a ((List.range' 142 17).map fun d => (d, u d))) w1) : (Code.region 9 ops true).wp Try.prog Q a w := by
  subst hops
  have hw : IntKind.i64.wrap ((m : Int) + (1 : Int)) = (m : Int) + (1 : Int) := by rw [IntKind.wrap_i64]; omega
  have hm1 : (m : Int) + 1 < np := by omega
  have hm0 : ¬ ((m : Int) + 1 < 0) := by omega
  have hm2 : ((m + 1 : Nat) : Int) < np := by omega
  have hyq : ∀ h, (lbs.map ptrI)[m + 1]'h = .pointer (some ⟨q, 0, none⟩) := by intro h; simp only [List.getElem_map]; rw [(List.getElem?_eq_some_iff.1 hq).2]; rfl
  have hsize : oFl9I.size = 18 := by kernel_rfl
  have hE : Looks (fun L g w => St w0 fp0 ([pick (L 13) (boxA 67 (g 155) (.pointer (some ⟨q, 0, none⟩))) emp, blkA cb 70 #[ck, cv, vpick (L 17) (g 156) cpp], pick (L 14) (slA 67 (g 156) ((bs.map ptrI).take 0 ++ (.pointer (some ⟨q, 0, none⟩)) :: (bs.map ptrI).drop 0)) (slA 67 cpp (bs.map ptrI)), blkA lb 70 #[lk, lv, .slice (some ⟨gp, 0, none⟩) np cp], slA 67 (.slice (some ⟨gp, 0, none⟩) np cp) (lbs.map ptrI)] ++ R) w) [13, 14, 17] [155, 156] := by
    intro L L' g g' w hL hg h
    simpa only [← hL 13 (by decide), ← hL 14 (by decide), ← hL 17 (by decide), ← hg 155 (by decide), ← hg 156 (by decide)] using h
  have hn1 : (([(0, 142, .pointer (some ⟨cb, 0, none⟩)), (1, 143, .pointer (some ⟨cb, 0, none⟩)), (2, 144, .pointer (some ⟨cb, 0, none⟩)), (3, 145, .pointer (some ⟨cb, 2, none⟩)), (4, 146, cpp), (5, 147, .pointer (some ⟨lb, 0, none⟩)), (6, 148, .pointer (some ⟨lb, 0, none⟩)), (7, 149, .pointer (some ⟨lb, 2, none⟩)), (8, 150, .slice (some ⟨gp, 0, none⟩) np cp), (9, 151, .int .i64 m), (10, 152, .int .i64 ((m + 1 : Nat) : Int)), (11, 153, .pointer (some ⟨gp, m + 1, none⟩)), (12, 154, .pointer (some ⟨q, 0, none⟩)), (15, 157, .pointer (some ⟨cb, 0, none⟩)), (16, 158, .pointer (some ⟨cb, 2, none⟩))] : List (Nat × Nat × Value)).map (·.1)).Nodup := by
    show List.Nodup [0, 1, 2, 3, 4, 5, 6, 7, 8, 9, 10, 11, 12, 15, 16]
    decide
  have hn2 : (([(0, 142, .pointer (some ⟨cb, 0, none⟩)), (1, 143, .pointer (some ⟨cb, 0, none⟩)), (2, 144, .pointer (some ⟨cb, 0, none⟩)), (3, 145, .pointer (some ⟨cb, 2, none⟩)), (4, 146, cpp), (5, 147, .pointer (some ⟨lb, 0, none⟩)), (6, 148, .pointer (some ⟨lb, 0, none⟩)), (7, 149, .pointer (some ⟨lb, 2, none⟩)), (8, 150, .slice (some ⟨gp, 0, none⟩) np cp), (9, 151, .int .i64 m), (10, 152, .int .i64 ((m + 1 : Nat) : Int)), (11, 153, .pointer (some ⟨gp, m + 1, none⟩)), (12, 154, .pointer (some ⟨q, 0, none⟩)), (15, 157, .pointer (some ⟨cb, 0, none⟩)), (16, 158, .pointer (some ⟨cb, 2, none⟩))] : List (Nat × Nat × Value)).map (·.2.1)).Nodup := by
    show List.Nodup [142, 143, 144, 145, 146, 147, 148, 149, 150, 151, 152, 153, 154, 157, 158]
    decide
  refine wp_region_vals (ops' := oFl9I) [142, 143, 144, 145, 146, 147, 148, 149, 150, 151, 152, 153, 154, 155, 156, 157, 158] [(0, 142, .pointer (some ⟨cb, 0, none⟩)), (1, 143, .pointer (some ⟨cb, 0, none⟩)), (2, 144, .pointer (some ⟨cb, 0, none⟩)), (3, 145, .pointer (some ⟨cb, 2, none⟩)), (4, 146, cpp), (5, 147, .pointer (some ⟨lb, 0, none⟩)), (6, 148, .pointer (some ⟨lb, 0, none⟩)), (7, 149, .pointer (some ⟨lb, 2, none⟩)), (8, 150, .slice (some ⟨gp, 0, none⟩) np cp), (9, 151, .int .i64 m), (10, 152, .int .i64 ((m + 1 : Nat) : Int)), (11, 153, .pointer (some ⟨gp, m + 1, none⟩)), (12, 154, .pointer (some ⟨q, 0, none⟩)), (15, 157, .pointer (some ⟨cb, 0, none⟩)), (16, 158, .pointer (some ⟨cb, 2, none⟩))] (fun L g w => St w0 fp0 ([pick (L 13) (boxA 67 (g 155) (.pointer (some ⟨q, 0, none⟩))) emp, blkA cb 70 #[ck, cv, vpick (L 17) (g 156) cpp], pick (L 14) (slA 67 (g 156) ((bs.map ptrI).take 0 ++ (.pointer (some ⟨q, 0, none⟩)) :: (bs.map ptrI).drop 0)) (slA 67 cpp (bs.map ptrI)), blkA lb 70 #[lk, lv, .slice (some ⟨gp, 0, none⟩) np cp], slA 67 (.slice (some ⟨gp, 0, none⟩) np cp) (lbs.map ptrI)] ++ R) w) rfl (by kernel_rfl) (by kernel_rfl) (hS.mono (below_drew w)) ?_ ?_
  · intro oi o L a1 w1 ho hL hdep hI
    have hoi : oi < 18 := by have := (Array.getElem?_eq_some_iff.1 ho).1; omega
    have h1sz : a1.tmps.size = 310 := hI.frame.size.trans hsz
    rcases (by omega : oi = 0 ∨ oi = 1 ∨ oi = 2 ∨ oi = 3 ∨ oi = 4 ∨ oi = 5 ∨ oi = 6 ∨ oi = 7 ∨ oi = 8 ∨ oi = 9 ∨ oi = 10 ∨ oi = 11 ∨ oi = 12 ∨ oi = 13 ∨ oi = 14 ∨ oi = 15 ∨ oi = 16 ∨ oi = 17) with rfl | rfl | rfl | rfl | rfl | rfl | rfl | rfl | rfl | rfl | rfl | rfl | rfl | rfl | rfl | rfl | rfl | rfl
    · have hl : oFl9I[0]? = some ⟨some 142, Op.move (Operand.tmp 6), _, _, _, none⟩ := rfl
      obtain rfl := oI ho hl
      have x6 := hI.old 6 (.pointer (some ⟨cb, 0, none⟩)) (by decide) h6
      exact hI.rd hE hsz 0 142 (.pointer (some ⟨cb, 0, none⟩)) ho rfl rfl hdep (by decide) (vals_at hn1 hn2 0 rfl) (by simp [go_sem, execOp, Act.eval, x6])
    · have hl : oFl9I[1]? = some ⟨some 143, Op.move (Operand.tmp 6), _, _, _, none⟩ := rfl
      obtain rfl := oI ho hl
      have x6 := hI.old 6 (.pointer (some ⟨cb, 0, none⟩)) (by decide) h6
      exact hI.rd hE hsz 1 143 (.pointer (some ⟨cb, 0, none⟩)) ho rfl rfl hdep (by decide) (vals_at hn1 hn2 1 rfl) (by simp [go_sem, execOp, Act.eval, x6])
    · have hl : oFl9I[2]? = some ⟨some 144, Op.nilCheck (Operand.tmp 143), _, _, _, none⟩ := rfl
      obtain rfl := oI ho hl
      have x143 := hI.val 1 143 (.pointer (some ⟨cb, 0, none⟩)) (mG (i := 1) rfl) (dK ho hdep (by kernel_rfl : waitsB oFl9I 2 1 = true))
      exact hI.rd hE hsz 2 144 (.pointer (some ⟨cb, 0, none⟩)) ho rfl rfl hdep (by decide) (vals_at hn1 hn2 2 rfl) (by simp [go_sem, execOp, Act.eval, x143])
    · have hl : oFl9I[3]? = some ⟨some 145, Op.fieldAddr _ (Operand.tmp 144) 2, _, _, _, none⟩ := rfl
      obtain rfl := oI ho hl
      have x144 := hI.val 2 144 (.pointer (some ⟨cb, 0, none⟩)) (mG (i := 2) rfl) (dK ho hdep (by kernel_rfl : waitsB oFl9I 3 2 = true))
      exact hI.rd hE hsz 3 145 (.pointer (some ⟨cb, 2, none⟩)) ho rfl rfl hdep (by decide) (vals_at hn1 hn2 3 rfl) (by simp [go_sem, execOp, Act.eval, x144])
    · have hl : oFl9I[4]? = some ⟨some 146, Op.load _ (Operand.tmp 145), _, _, _, none⟩ := rfl
      obtain rfl := oI ho hl
      have x145 := hI.val 3 145 (.pointer (some ⟨cb, 2, none⟩)) (mG (i := 3) rfl) (dK ho hdep (by kernel_rfl : waitsB oFl9I 4 3 = true))
      have hS1 := hI.eff
      have e14 : L 14 = false := hI.no hL (by kernel_rfl : waitsB oFl9I 14 4 = true)
      have e17 : L 17 = false := hI.no hL (by kernel_rfl : waitsB oFl9I 17 4 = true)
      simp only [e14, e17, pick_false, vpick_false] at hS1
      obtain ⟨_, hp⟩ := hS1.has 1 rfl
      have hcell := (blk_get hp).1 2
      have hlt := (blk_get hp).2.2
      simp only [List.getElem?_toArray, List.getElem?_cons_zero, List.getElem?_cons_succ] at hcell
      exact hI.rd hE hsz 4 146 (cpp) ho rfl rfl hdep (by decide) (vals_at hn1 hn2 4 rfl) (by simp [go_sem, execOp, Act.eval, x145, hcell])
    · have hl : oFl9I[5]? = some ⟨some 147, Op.move (Operand.tmp 7), _, _, _, none⟩ := rfl
      obtain rfl := oI ho hl
      have x7 := hI.old 7 (.pointer (some ⟨lb, 0, none⟩)) (by decide) h7
      exact hI.rd hE hsz 5 147 (.pointer (some ⟨lb, 0, none⟩)) ho rfl rfl hdep (by decide) (vals_at hn1 hn2 5 rfl) (by simp [go_sem, execOp, Act.eval, x7])
    · have hl : oFl9I[6]? = some ⟨some 148, Op.nilCheck (Operand.tmp 147), _, _, _, none⟩ := rfl
      obtain rfl := oI ho hl
      have x147 := hI.val 5 147 (.pointer (some ⟨lb, 0, none⟩)) (mG (i := 5) rfl) (dK ho hdep (by kernel_rfl : waitsB oFl9I 6 5 = true))
      exact hI.rd hE hsz 6 148 (.pointer (some ⟨lb, 0, none⟩)) ho rfl rfl hdep (by decide) (vals_at hn1 hn2 6 rfl) (by simp [go_sem, execOp, Act.eval, x147])
    · have hl : oFl9I[7]? = some ⟨some 149, Op.fieldAddr _ (Operand.tmp 148) 2, _, _, _, none⟩ := rfl
      obtain rfl := oI ho hl
      have x148 := hI.val 6 148 (.pointer (some ⟨lb, 0, none⟩)) (mG (i := 6) rfl) (dK ho hdep (by kernel_rfl : waitsB oFl9I 7 6 = true))
      exact hI.rd hE hsz 7 149 (.pointer (some ⟨lb, 2, none⟩)) ho rfl rfl hdep (by decide) (vals_at hn1 hn2 7 rfl) (by simp [go_sem, execOp, Act.eval, x148])
    · have hl : oFl9I[8]? = some ⟨some 150, Op.load _ (Operand.tmp 149), _, _, _, none⟩ := rfl
      obtain rfl := oI ho hl
      have x149 := hI.val 7 149 (.pointer (some ⟨lb, 2, none⟩)) (mG (i := 7) rfl) (dK ho hdep (by kernel_rfl : waitsB oFl9I 8 7 = true))
      have hS1 := hI.eff
      have e17 : L 17 = false := hI.no hL (by kernel_rfl : waitsB oFl9I 17 8 = true)
      simp only [e17, vpick_false] at hS1
      obtain ⟨_, hp⟩ := hS1.has 3 rfl
      have hcell := (blk_get hp).1 2
      have hlt := (blk_get hp).2.2
      simp only [List.getElem?_toArray, List.getElem?_cons_zero, List.getElem?_cons_succ] at hcell
      exact hI.rd hE hsz 8 150 (.slice (some ⟨gp, 0, none⟩) np cp) ho rfl rfl hdep (by decide) (vals_at hn1 hn2 8 rfl) (by simp [go_sem, execOp, Act.eval, x149, hcell])
    · have hl : oFl9I[9]? = some ⟨some 151, Op.move (Operand.tmp 8), _, _, _, none⟩ := rfl
      obtain rfl := oI ho hl
      have x8 := hI.old 8 (.int .i64 m) (by decide) h8
      exact hI.rd hE hsz 9 151 (.int .i64 m) ho rfl rfl hdep (by decide) (vals_at hn1 hn2 9 rfl) (by simp [go_sem, execOp, Act.eval, x8])
    · have hl : oFl9I[10]? = some ⟨some 152, Op.binOp BinOp.add _ (Operand.tmp 151) (Operand.const (Value.int IntKind.i64 1)) _, _, _, _, none⟩ := rfl
      obtain rfl := oI ho hl
      have x151 := hI.val 9 151 (.int .i64 m) (mG (i := 9) rfl) (dK ho hdep (by kernel_rfl : waitsB oFl9I 10 9 = true))
      exact hI.rd hE hsz 10 152 (.int .i64 ((m + 1 : Nat) : Int)) ho rfl rfl hdep (by decide) (vals_at hn1 hn2 10 rfl) (by simp [go_sem, execOp, Act.eval, x151, hw])
    · have hl : oFl9I[11]? = some ⟨some 153, Op.indexAddr _ (Operand.tmp 150) (Operand.tmp 152), _, _, _, none⟩ := rfl
      obtain rfl := oI ho hl
      have x150 := hI.val 8 150 (.slice (some ⟨gp, 0, none⟩) np cp) (mG (i := 8) rfl) (dK ho hdep (by kernel_rfl : waitsB oFl9I 11 8 = true))
      have x152 := hI.val 10 152 (.int .i64 ((m + 1 : Nat) : Int)) (mG (i := 10) rfl) (dK ho hdep (by kernel_rfl : waitsB oFl9I 11 10 = true))
      exact hI.rd hE hsz 11 153 (.pointer (some ⟨gp, m + 1, none⟩)) ho rfl rfl hdep (by decide) (vals_at hn1 hn2 11 rfl) (by simp [go_sem, execOp, Act.eval, x150, x152, hm1, hm0])
    · have hl : oFl9I[12]? = some ⟨some 154, Op.load _ (Operand.tmp 153), _, _, _, none⟩ := rfl
      obtain rfl := oI ho hl
      have x153 := hI.val 11 153 (.pointer (some ⟨gp, m + 1, none⟩)) (mG (i := 11) rfl) (dK ho hdep (by kernel_rfl : waitsB oFl9I 12 11 = true))
      have hS1 := hI.eff
      have e13 : L 13 = false := hI.no hL (by kernel_rfl : waitsB oFl9I 13 12 = true)
      have e14 : L 14 = false := hI.no (hI.no hL (by kernel_rfl : waitsB oFl9I 13 12 = true)) (by kernel_rfl : waitsB oFl9I 14 13 = true)
      have e17 : L 17 = false := hI.no hL (by kernel_rfl : waitsB oFl9I 17 12 = true)
      simp only [e13, e14, e17, pick_false, vpick_false] at hS1
      obtain ⟨_, hp⟩ := hS1.has 4 rfl
      obtain ⟨hcell, _, hlt, _⟩ := sl_elem hp (m + 1) (by rw [List.length_map]; omega)
      rw [hyq] at hcell
      exact hI.rd hE hsz 12 154 (.pointer (some ⟨q, 0, none⟩)) ho rfl rfl hdep (by decide) (vals_at hn1 hn2 12 rfl) (by simp [go_sem, execOp, Act.eval, x153, hcell])
    · have hl : oFl9I[13]? = some ⟨some 155, Op.buildSlice _ 1 #[(0, Operand.tmp 154)], _, _, _, none⟩ := rfl
      obtain rfl := oI ho hl
      have x154 := hI.val 12 154 (.pointer (some ⟨q, 0, none⟩)) (mG (i := 12) rfl) (dK ho hdep (by kernel_rfl : waitsB oFl9I 13 12 = true))
      have hS1 := hI.eff
      have e13 : L 13 = false := hL
      have e14 : L 14 = false := hI.no hL (by kernel_rfl : waitsB oFl9I 14 13 = true)
      have e17 : L 17 = false := hI.no hL (by kernel_rfl : waitsB oFl9I 17 13 = true)
      simp only [e13, e14, e17, pick_false, vpick_false] at hS1
      refine inv_value ho rfl (v := .slice (some ⟨w1.heap.size, 0, none⟩) 1 1) (w' := w1.alloc (.cells #[.pointer (some ⟨q, 0, none⟩)] 67)) (by simp [go_sem, execOp, Act.eval, x154]) (hI.put 13 155 _ ho hdep (by decide) (by intro t ht; exact vals_ne2 rfl rfl (by decide : 13 ∉ [0, 1, 2, 3, 4, 5, 6, 7, 8, 9, 10, 11, 12, 15, 16]) (by decide : 155 ∉ [142, 143, 144, 145, 146, 147, 148, 149, 150, 151, 152, 153, 154, 157, 158]) ht) ?_)
      have hS2 := St.box hS1 0 rfl 67 (.pointer (some ⟨q, 0, none⟩))
      simp only [e13, e14, e17, Bool.or_false, Bool.or_true, Nat.reduceEqDiff, decide_true, decide_false, pick_true, pick_false, vpick_false, eval_put_same (by rw [h1sz]; decide : 155 < a1.tmps.size), eval_put_ne (by decide : 155 ≠ 156)]
      exact hS2
    · have hl : oFl9I[14]? = some ⟨some 156, Op.call ⟨Callee.value (Operand.func _), #[Operand.tmp 146, Operand.const (Value.int IntKind.i64 0), Operand.tmp 155], _⟩, _, _, _, none⟩ := rfl
      obtain rfl := oI ho hl
      have x146 := hI.val 4 146 (cpp) (mG (i := 4) rfl) (dK ho hdep (by kernel_rfl : waitsB oFl9I 14 4 = true))
      have hS1 := hI.eff
      have e13 : L 13 = true := dK ho hdep (by kernel_rfl : waitsB oFl9I 14 13 = true)
      have e14 : L 14 = false := hL
      have e17 : L 17 = false := hI.no hL (by kernel_rfl : waitsB oFl9I 17 14 = true)
      simp only [e13, e14, e17, pick_true, pick_false, vpick_false] at hS1
      obtain ⟨f, g, hbx, hsl, hd, _, hset⟩ := hS1.two 0 2 (by decide) rfl rfl
      obtain ⟨vb, hgb, hvb, rfl⟩ := hbx
      have xb := eval_spell hgb
      refine inv_call ho rfl (f := 61) (by simp [go_sem, Act.eval, x146, xb]) (insP_calls _ _ (0) _ _ _ hsl (by rw [List.length_map]; omega) (by rw [List.length_map]; exact hlx) (ptrI_one bs) rfl hvb (fun hm => hd _ (by simp) hm)) ?_
      rintro e w2 ⟨an, nn, cn, f', rfl, hsl', htr⟩
      refine ⟨_, rfl, hI.put 14 156 _ ho hdep (by decide) (by intro t ht; exact vals_ne2 rfl rfl (by decide : 14 ∉ [0, 1, 2, 3, 4, 5, 6, 7, 8, 9, 10, 11, 12, 15, 16]) (by decide : 156 ∉ [142, 143, 144, 145, 146, 147, 148, 149, 150, 151, 152, 153, 154, 157, 158]) ht) ?_⟩
      have hS2 := hset _ _ _ hsl' htr
      simp only [e13, e14, e17, Bool.or_false, Bool.or_true, Nat.reduceEqDiff, decide_true, decide_false, pick_true, vpick_false, eval_put_same (by rw [h1sz]; decide : 156 < a1.tmps.size), eval_put_ne (by decide : 156 ≠ 155)]
      exact hS2
    · have hl : oFl9I[15]? = some ⟨some 157, Op.nilCheck (Operand.tmp 142), _, _, _, none⟩ := rfl
      obtain rfl := oI ho hl
      have x142 := hI.val 0 142 (.pointer (some ⟨cb, 0, none⟩)) (mG (i := 0) rfl) (dK ho hdep (by kernel_rfl : waitsB oFl9I 15 0 = true))
      exact hI.rd hE hsz 15 157 (.pointer (some ⟨cb, 0, none⟩)) ho rfl rfl hdep (by decide) (vals_at hn1 hn2 13 rfl) (by simp [go_sem, execOp, Act.eval, x142])
    · have hl : oFl9I[16]? = some ⟨some 158, Op.fieldAddr _ (Operand.tmp 157) 2, _, _, _, none⟩ := rfl
      obtain rfl := oI ho hl
      have x157 := hI.val 15 157 (.pointer (some ⟨cb, 0, none⟩)) (mG (i := 13) rfl) (dK ho hdep (by kernel_rfl : waitsB oFl9I 16 15 = true))
      exact hI.rd hE hsz 16 158 (.pointer (some ⟨cb, 2, none⟩)) ho rfl rfl hdep (by decide) (vals_at hn1 hn2 14 rfl) (by simp [go_sem, execOp, Act.eval, x157])
    · have hl : oFl9I[17]? = some ⟨none, Op.store _ (Operand.tmp 158) (Operand.tmp 156), _, _, _, none⟩ := rfl
      obtain rfl := oI ho hl
      have x158 := hI.val 16 158 (.pointer (some ⟨cb, 2, none⟩)) (mG (i := 14) rfl) (dK ho hdep (by kernel_rfl : waitsB oFl9I 17 16 = true))
      have hS1 := hI.eff
      have e13 : L 13 = true := dK ho hdep (by kernel_rfl : waitsB oFl9I 17 13 = true)
      have e14 : L 14 = true := dK ho hdep (by kernel_rfl : waitsB oFl9I 17 14 = true)
      have e17 : L 17 = false := hL
      simp only [e13, e14, e17, pick_true, vpick_false] at hS1
      obtain ⟨_, hpv⟩ := hS1.has 2 rfl
      obtain ⟨av, nv, cv, hv⟩ := sl_shape hpv
      have xv := eval_spell hv
      obtain ⟨f, hp, hset⟩ := hS1.get 1 rfl
      have hcell := (blk_get hp).1 2
      have hfz := (blk_get hp).2.1 2
      have hlt := (blk_get hp).2.2
      simp only [List.getElem?_toArray, List.getElem?_cons_zero, List.getElem?_cons_succ] at hcell
      refine inv_stored ho rfl rfl (by simp [go_sem, execOp, Act.eval, x158, xv, hcell, hfz]; rfl) (hI.step 17 ho hdep (by intro t ht; exact vals_ne1 rfl (by decide : 17 ∉ [0, 1, 2, 3, 4, 5, 6, 7, 8, 9, 10, 11, 12, 15, 16]) ht) ?_)
      obtain ⟨hb2, ht2⟩ := blk_set hp 2 (a1.eval (.tmp 156))
      have hS2 := hset _ _ _ hb2 ht2
      simp only [e13, e14, e17, Bool.or_false, Bool.or_true, Nat.reduceEqDiff, decide_true, decide_false, pick_true, vpick_true]
      rw [hv] at hS2
      rw [hv]
      exact hS2
  · intro L a1 w1 hL hI
    have hS1 := hI.eff
    simp only [hL 13 (by rw [hsize]; decide), hL 14 (by rw [hsize]; decide), hL 17 (by rw [hsize]; decide), pick_true, vpick_true] at hS1
    have := hQ (fun d => a1.eval (.tmp d)) w1  hS1
    have e := hI.frame.eq
    rw [e]
    exact this
noncomputable def oFl10I : Array Oper := ((Try.f75.body).bind fun c => opsOf c 10).getD #[]
set_option maxHeartbeats 4000000 in
set_option maxRecDepth 100000 in
theorem rFl10I {Q : Exit → Act → World → Prop} {a : Act} {w w0 : World} {fp0 : List Nat} (b i : Nat) (xk xv xp : Value) (bs : List Nat) (hi : i + 1 < bs.length) (hlen : bs.length < 1099511627776) (R : List Asn) (ops : Array Oper) (hops : ops = oFl10I) (hsz : a.tmps.size = 310) (h7 : a.eval (.tmp 7) = .pointer (some ⟨b, 0, none⟩)) (h8 : a.eval (.tmp 8) = .int .i64 i)
    (hS : St w0 fp0 ([blkA b 70 #[xk, xv, vpick false (a.eval (.tmp 168)) xp], pick false (slA 67 (a.eval (.tmp 168)) ((bs.map ptrI).eraseIdx (i + 1))) (slA 67 xp (bs.map ptrI))] ++ R) w)
    (hQ : ∀ (u : Nat → Value) w1, St w0 fp0 ([blkA b 70 #[xk, xv, vpick true (u 168) xp], pick true (slA 67 (u 168) ((bs.map ptrI).eraseIdx (i + 1))) (slA 67 xp (bs.map ptrI))] ++ R) w1 → Q .normal (putL a ((List.range' 159 12).map fun d => (d, u d))) w1) : (Code.region 10 ops false).wp Try.prog Q a w := by
  subst hops
  have hw : IntKind.i64.wrap ((i : Int) + (1 : Int)) = (i : Int) + (1 : Int) := by rw [IntKind.wrap_i64]; omega
  have hw2 : IntKind.i64.wrap ((i : Int) + (2 : Int)) = ((i : Int) + (1 : Int)) + 1 := by rw [IntKind.wrap_i64]; omega
  have hsize : oFl10I.size = 13 := by kernel_rfl
  have hE : Looks (fun L g w => St w0 fp0 ([blkA b 70 #[xk, xv, vpick (L 12) (g 168) xp], pick (L 9) (slA 67 (g 168) ((bs.map ptrI).eraseIdx (i + 1))) (slA 67 xp (bs.map ptrI))] ++ R) w) [9, 12] [168] := by
    intro L L' g g' w hL hg h
    simpa only [← hL 9 (by decide), ← hL 12 (by decide), ← hg 168 (by decide)] using h
  have hn1 : (([(0, 159, .pointer (some ⟨b, 0, none⟩)), (1, 160, .pointer (some ⟨b, 0, none⟩)), (2, 161, .pointer (some ⟨b, 0, none⟩)), (3, 162, .pointer (some ⟨b, 2, none⟩)), (4, 163, xp), (5, 164, .int .i64 i), (6, 165, .int .i64 ((i + 1 : Nat) : Int)), (7, 166, .int .i64 i), (8, 167, .int .i64 (((i + 1 : Nat) : Int) + 1)), (10, 169, .pointer (some ⟨b, 0, none⟩)), (11, 170, .pointer (some ⟨b, 2, none⟩))] : List (Nat × Nat × Value)).map (·.1)).Nodup := by
    show List.Nodup [0, 1, 2, 3, 4, 5, 6, 7, 8, 10, 11]
    decide
  have hn2 : (([(0, 159, .pointer (some ⟨b, 0, none⟩)), (1, 160, .pointer (some ⟨b, 0, none⟩)), (2, 161, .pointer (some ⟨b, 0, none⟩)), (3, 162, .pointer (some ⟨b, 2, none⟩)), (4, 163, xp), (5, 164, .int .i64 i), (6, 165, .int .i64 ((i + 1 : Nat) : Int)), (7, 166, .int .i64 i), (8, 167, .int .i64 (((i + 1 : Nat) : Int) + 1)), (10, 169, .pointer (some ⟨b, 0, none⟩)), (11, 170, .pointer (some ⟨b, 2, none⟩))] : List (Nat × Nat × Value)).map (·.2.1)).Nodup := by
    show List.Nodup [159, 160, 161, 162, 163, 164, 165, 166, 167, 169, 170]
    decide
  refine wp_region_vals0 (ops' := oFl10I) [159, 160, 161, 162, 163, 164, 165, 166, 167, 168, 169, 170] [(0, 159, .pointer (some ⟨b, 0, none⟩)), (1, 160, .pointer (some ⟨b, 0, none⟩)), (2, 161, .pointer (some ⟨b, 0, none⟩)), (3, 162, .pointer (some ⟨b, 2, none⟩)), (4, 163, xp), (5, 164, .int .i64 i), (6, 165, .int .i64 ((i + 1 : Nat) : Int)), (7, 166, .int .i64 i), (8, 167, .int .i64 (((i + 1 : Nat) : Int) + 1)), (10, 169, .pointer (some ⟨b, 0, none⟩)), (11, 170, .pointer (some ⟨b, 2, none⟩))] (fun L g w => St w0 fp0 ([blkA b 70 #[xk, xv, vpick (L 12) (g 168) xp], pick (L 9) (slA 67 (g 168) ((bs.map ptrI).eraseIdx (i + 1))) (slA 67 xp (bs.map ptrI))] ++ R) w) rfl (by kernel_rfl) hS ?_ ?_
  · intro oi o L a1 w1 ho hL hdep hI
    have hoi : oi < 13 := by have := (Array.getElem?_eq_some_iff.1 ho).1; omega
    have h1sz : a1.tmps.size = 310 := hI.frame.size.trans hsz
    rcases (by omega : oi = 0 ∨ oi = 1 ∨ oi = 2 ∨ oi = 3 ∨ oi = 4 ∨ oi = 5 ∨ oi = 6 ∨ oi = 7 ∨ oi = 8 ∨ oi = 9 ∨ oi = 10 ∨ oi = 11 ∨ oi = 12) with rfl | rfl | rfl | rfl | rfl | rfl | rfl | rfl | rfl | rfl | rfl | rfl | rfl
    · have hl : oFl10I[0]? = some ⟨some 159, Op.move (Operand.tmp 7), _, _, _, none⟩ := rfl
      obtain rfl := oI ho hl
      have x7 := hI.old 7 (.pointer (some ⟨b, 0, none⟩)) (by decide) h7
      exact hI.rd hE hsz 0 159 (.pointer (some ⟨b, 0, none⟩)) ho rfl rfl hdep (by decide) (vals_at hn1 hn2 0 rfl) (by simp [go_sem, execOp, Act.eval, x7])
    · have hl : oFl10I[1]? = some ⟨some 160, Op.move (Operand.tmp 7), _, _, _, none⟩ := rfl
      obtain rfl := oI ho hl
      have x7 := hI.old 7 (.pointer (some ⟨b, 0, none⟩)) (by decide) h7
      exact hI.rd hE hsz 1 160 (.pointer (some ⟨b, 0, none⟩)) ho rfl rfl hdep (by decide) (vals_at hn1 hn2 1 rfl) (by simp [go_sem, execOp, Act.eval, x7])
    · have hl : oFl10I[2]? = some ⟨some 161, Op.nilCheck (Operand.tmp 160), _, _, _, none⟩ := rfl
      obtain rfl := oI ho hl
      have x160 := hI.val 1 160 (.pointer (some ⟨b, 0, none⟩)) (mG (i := 1) rfl) (dK ho hdep (by kernel_rfl : waitsB oFl10I 2 1 = true))
      exact hI.rd hE hsz 2 161 (.pointer (some ⟨b, 0, none⟩)) ho rfl rfl hdep (by decide) (vals_at hn1 hn2 2 rfl) (by simp [go_sem, execOp, Act.eval, x160])
    · have hl : oFl10I[3]? = some ⟨some 162, Op.fieldAddr _ (Operand.tmp 161) 2, _, _, _, none⟩ := rfl
      obtain rfl := oI ho hl
      have x161 := hI.val 2 161 (.pointer (some ⟨b, 0, none⟩)) (mG (i := 2) rfl) (dK ho hdep (by kernel_rfl : waitsB oFl10I 3 2 = true))
      exact hI.rd hE hsz 3 162 (.pointer (some ⟨b, 2, none⟩)) ho rfl rfl hdep (by decide) (vals_at hn1 hn2 3 rfl) (by simp [go_sem, execOp, Act.eval, x161])
    · have hl : oFl10I[4]? = some ⟨some 163, Op.load _ (Operand.tmp 162), _, _, _, none⟩ := rfl
      obtain rfl := oI ho hl
      have x162 := hI.val 3 162 (.pointer (some ⟨b, 2, none⟩)) (mG (i := 3) rfl) (dK ho hdep (by kernel_rfl : waitsB oFl10I 4 3 = true))
      have hS1 := hI.eff
      have e9 : L 9 = false := hI.no hL (by kernel_rfl : waitsB oFl10I 9 4 = true)
      have e12 : L 12 = false := hI.no hL (by kernel_rfl : waitsB oFl10I 12 4 = true)
      simp only [e9, e12, pick_false, vpick_false] at hS1
      obtain ⟨_, hp⟩ := hS1.has 0 rfl
      have hcell := (blk_get hp).1 2
      have hlt := (blk_get hp).2.2
      simp only [List.getElem?_toArray, List.getElem?_cons_zero, List.getElem?_cons_succ] at hcell
      exact hI.rd hE hsz 4 163 (xp) ho rfl rfl hdep (by decide) (vals_at hn1 hn2 4 rfl) (by simp [go_sem, execOp, Act.eval, x162, hcell])
    · have hl : oFl10I[5]? = some ⟨some 164, Op.move (Operand.tmp 8), _, _, _, none⟩ := rfl
      obtain rfl := oI ho hl
      have x8 := hI.old 8 (.int .i64 i) (by decide) h8
      exact hI.rd hE hsz 5 164 (.int .i64 i) ho rfl rfl hdep (by decide) (vals_at hn1 hn2 5 rfl) (by simp [go_sem, execOp, Act.eval, x8])
    · have hl : oFl10I[6]? = some ⟨some 165, Op.binOp BinOp.add _ (Operand.tmp 164) (Operand.const (Value.int IntKind.i64 1)) _, _, _, _, none⟩ := rfl
      obtain rfl := oI ho hl
      have x164 := hI.val 5 164 (.int .i64 i) (mG (i := 5) rfl) (dK ho hdep (by kernel_rfl : waitsB oFl10I 6 5 = true))
      exact hI.rd hE hsz 6 165 (.int .i64 ((i + 1 : Nat) : Int)) ho rfl rfl hdep (by decide) (vals_at hn1 hn2 6 rfl) (by simp [go_sem, execOp, Act.eval, x164, hw])
    · have hl : oFl10I[7]? = some ⟨some 166, Op.move (Operand.tmp 8), _, _, _, none⟩ := rfl
      obtain rfl := oI ho hl
      have x8 := hI.old 8 (.int .i64 i) (by decide) h8
      exact hI.rd hE hsz 7 166 (.int .i64 i) ho rfl rfl hdep (by decide) (vals_at hn1 hn2 7 rfl) (by simp [go_sem, execOp, Act.eval, x8])
    · have hl : oFl10I[8]? = some ⟨some 167, Op.binOp BinOp.add _ (Operand.tmp 166) (Operand.const (Value.int IntKind.i64 2)) _, _, _, _, none⟩ := rfl
      obtain rfl := oI ho hl
      have x166 := hI.val 7 166 (.int .i64 i) (mG (i := 7) rfl) (dK ho hdep (by kernel_rfl : waitsB oFl10I 8 7 = true))
      exact hI.rd hE hsz 8 167 (.int .i64 (((i + 1 : Nat) : Int) + 1)) ho rfl rfl hdep (by decide) (vals_at hn1 hn2 8 rfl) (by simp [go_sem, execOp, Act.eval, x166, hw2])
    · have hl : oFl10I[9]? = some ⟨some 168, Op.call ⟨Callee.value (Operand.func _), #[Operand.tmp 163, Operand.tmp 165, Operand.tmp 167], _⟩, _, _, _, none⟩ := rfl
      obtain rfl := oI ho hl
      have x163 := hI.val 4 163 (xp) (mG (i := 4) rfl) (dK ho hdep (by kernel_rfl : waitsB oFl10I 9 4 = true))
      have x165 := hI.val 6 165 (.int .i64 ((i + 1 : Nat) : Int)) (mG (i := 6) rfl) (dK ho hdep (by kernel_rfl : waitsB oFl10I 9 6 = true))
      have x167 := hI.val 8 167 (.int .i64 (((i + 1 : Nat) : Int) + 1)) (mG (i := 8) rfl) (dK ho hdep (by kernel_rfl : waitsB oFl10I 9 8 = true))
      have hS1 := hI.eff
      have e9 : L 9 = false := hL
      have e12 : L 12 = false := hI.no hL (by kernel_rfl : waitsB oFl10I 12 9 = true)
      simp only [e9, e12, pick_false, vpick_false] at hS1
      obtain ⟨f, hsl, hset⟩ := hS1.get 1 rfl
      refine inv_call ho rfl (f := 85) (by simp [go_sem, Act.eval, x163, x165, x167]) (delP_calls _ _ (i + 1) _ hsl (by rw [List.length_map]; exact hi) (by rw [List.length_map]; exact hlen) (ptrI_one bs)) ?_
      rintro e w2 ⟨an, nn, cn, f', rfl, hsl', htr⟩
      refine ⟨_, rfl, hI.put 9 168 _ ho hdep (by decide) (by intro t ht; exact vals_ne2 rfl rfl (by decide : 9 ∉ [0, 1, 2, 3, 4, 5, 6, 7, 8, 10, 11]) (by decide : 168 ∉ [159, 160, 161, 162, 163, 164, 165, 166, 167, 169, 170]) ht) ?_⟩
      have hS2 := hset _ _ _ hsl' htr
      simp only [e9, e12, Bool.or_false, Bool.or_true, Nat.reduceEqDiff, decide_true, decide_false, pick_true, vpick_false, eval_put_same (by rw [h1sz]; decide : 168 < a1.tmps.size)]
      exact hS2
    · have hl : oFl10I[10]? = some ⟨some 169, Op.nilCheck (Operand.tmp 159), _, _, _, none⟩ := rfl
      obtain rfl := oI ho hl
      have x159 := hI.val 0 159 (.pointer (some ⟨b, 0, none⟩)) (mG (i := 0) rfl) (dK ho hdep (by kernel_rfl : waitsB oFl10I 10 0 = true))
      exact hI.rd hE hsz 10 169 (.pointer (some ⟨b, 0, none⟩)) ho rfl rfl hdep (by decide) (vals_at hn1 hn2 9 rfl) (by simp [go_sem, execOp, Act.eval, x159])
    · have hl : oFl10I[11]? = some ⟨some 170, Op.fieldAddr _ (Operand.tmp 169) 2, _, _, _, none⟩ := rfl
      obtain rfl := oI ho hl
      have x169 := hI.val 10 169 (.pointer (some ⟨b, 0, none⟩)) (mG (i := 9) rfl) (dK ho hdep (by kernel_rfl : waitsB oFl10I 11 10 = true))
      exact hI.rd hE hsz 11 170 (.pointer (some ⟨b, 2, none⟩)) ho rfl rfl hdep (by decide) (vals_at hn1 hn2 10 rfl) (by simp [go_sem, execOp, Act.eval, x169])
    · have hl : oFl10I[12]? = some ⟨none, Op.store _ (Operand.tmp 170) (Operand.tmp 168), _, _, _, none⟩ := rfl
      obtain rfl := oI ho hl
      have x170 := hI.val 11 170 (.pointer (some ⟨b, 2, none⟩)) (mG (i := 10) rfl) (dK ho hdep (by kernel_rfl : waitsB oFl10I 12 11 = true))
      have hS1 := hI.eff
      have e9 : L 9 = true := dK ho hdep (by kernel_rfl : waitsB oFl10I 12 9 = true)
      have e12 : L 12 = false := hL
      simp only [e9, e12, pick_true, vpick_false] at hS1
      obtain ⟨_, hpv⟩ := hS1.has 1 rfl
      obtain ⟨av, nv, cv, hv⟩ := sl_shape hpv
      have xv := eval_spell hv
      obtain ⟨f, hp, hset⟩ := hS1.get 0 rfl
      have hcell := (blk_get hp).1 2
      have hfz := (blk_get hp).2.1 2
      have hlt := (blk_get hp).2.2
      simp only [List.getElem?_toArray, List.getElem?_cons_zero, List.getElem?_cons_succ] at hcell
      refine inv_stored ho rfl rfl (by simp [go_sem, execOp, Act.eval, x170, xv, hcell, hfz]; rfl) (hI.step 12 ho hdep (by intro t ht; exact vals_ne1 rfl (by decide : 12 ∉ [0, 1, 2, 3, 4, 5, 6, 7, 8, 10, 11]) ht) ?_)
      obtain ⟨hb2, ht2⟩ := blk_set hp 2 (a1.eval (.tmp 168))
      have hS2 := hset _ _ _ hb2 ht2
      simp only [e9, e12, Bool.or_false, Bool.or_true, Nat.reduceEqDiff, decide_true, decide_false, pick_true, vpick_true]
      rw [hv] at hS2
      rw [hv]
      exact hS2
  · intro L a1 w1 hL hI
    have hS1 := hI.eff
    simp only [hL 9 (by rw [hsize]; decide), hL 12 (by rw [hsize]; decide), pick_true, vpick_true] at hS1
    have := hQ (fun d => a1.eval (.tmp d)) w1  hS1
    have e := hI.frame.eq
    rw [e]
    exact this
noncomputable def oFl13I : Array Oper := ((Try.f75.body).bind fun c => opsOf c 13).getD #[]
set_option maxHeartbeats 4000000 in
set_option maxRecDepth 100000 in
theorem rFl13I {Q : Exit → Act → World → Prop} {a : Act} {w w0 : World} {fp0 : List Nat} (b cb gx nx cx gy ny cy j : Nat) (xp ck cv cp : Value) (xe ce : M Int Int) (y : Int × Int) (hy : xe[j]? = some y) (hik : j < nx) (hiv : j < ny) (_hek : nx = xe.length) (hev : ny = xe.length) (hlx : ce.length + 1 < 1099511627776) (R : List Asn) (ops : Array Oper) (hops : ops = oFl13I) (hsz : a.tmps.size = 310) (h1 : a.eval (.tmp 1) = .pointer (some ⟨b, 0, none⟩)) (h2 : a.eval (.tmp 2) = .int .i64 j) (h6 : a.eval (.tmp 6) = .pointer (some ⟨cb, 0, none⟩))
    (hS : St w0 fp0 ([pick false (boxA 3 (a.eval (.tmp 217)) (encI y.1)) emp, pick false (boxA 3 (a.eval (.tmp 230)) (valI y.2)) emp, blkA cb 70 #[vpick false (a.eval (.tmp 218)) ck, vpick false (a.eval (.tmp 231)) cv, cp], pick false (slA 3 (a.eval (.tmp 218)) (keysI ce ++ [encI y.1])) (slA 3 ck (keysI ce)), pick false (slA 3 (a.eval (.tmp 231)) (valsI ce ++ [valI y.2])) (slA 3 cv (valsI ce)), blkA b 70 #[.slice (some ⟨gx, 0, none⟩) nx cx, .slice (some ⟨gy, 0, none⟩) ny cy, xp], slA 3 (.slice (some ⟨gx, 0, none⟩) nx cx) (keysI xe), slA 3 (.slice (some ⟨gy, 0, none⟩) ny cy) (valsI xe)] ++ R) w)
    (hQ : ∀ (u : Nat → Value) w1, St w0 fp0 ([pick true (boxA 3 (u 217) (encI y.1)) emp, pick true (boxA 3 (u 230) (valI y.2)) emp, blkA cb 70 #[vpick true (u 218) ck, vpick true (u 231) cv, cp], pick true (slA 3 (u 218) (keysI ce ++ [encI y.1])) (slA 3 ck (keysI ce)), pick true (slA 3 (u 231) (valsI ce ++ [valI y.2])) (slA 3 cv (valsI ce)), blkA b 70 #[.slice (some ⟨gx, 0, none⟩) nx cx, .slice (some ⟨gy, 0, none⟩) ny cy, xp], slA 3 (.slice (some ⟨gx, 0, none⟩) nx cx) (keysI xe), slA 3 (.slice (some ⟨gy, 0, none⟩) ny cy) (valsI xe)] ++ R) w1 → Q .normal (putL a ((List.range' 204 32).map fun d => (d, u d))) w1) : (Code.region 13 ops true).wp Try.prog Q a w := by
  subst hops
  have hyk : ∀ h, (keysI xe)[j]'h = encI y.1 := by intro h; simp only [keysI, List.getElem_map]; rw [(List.getElem?_eq_some_iff.1 hy).2]
  have hyv : ∀ h, (valsI xe)[j]'h = valI y.2 := by intro h; simp only [valsI, List.getElem_map]; rw [(List.getElem?_eq_some_iff.1 hy).2]
  have hsize : oFl13I.size = 34 := by kernel_rfl
  have hE : Looks (fun L g w => St w0 fp0 ([pick (L 13) (boxA 3 (g 217) (encI y.1)) emp, pick (L 26) (boxA 3 (g 230) (valI y.2)) emp, blkA cb 70 #[vpick (L 30) (g 218) ck, vpick (L 33) (g 231) cv, cp], pick (L 14) (slA 3 (g 218) (keysI ce ++ [encI y.1])) (slA 3 ck (keysI ce)), pick (L 27) (slA 3 (g 231) (valsI ce ++ [valI y.2])) (slA 3 cv (valsI ce)), blkA b 70 #[.slice (some ⟨gx, 0, none⟩) nx cx, .slice (some ⟨gy, 0, none⟩) ny cy, xp], slA 3 (.slice (some ⟨gx, 0, none⟩) nx cx) (keysI xe), slA 3 (.slice (some ⟨gy, 0, none⟩) ny cy) (valsI xe)] ++ R) w) [13, 14, 26, 27, 30, 33] [217, 218, 230, 231] := by
    intro L L' g g' w hL hg h
    simpa only [← hL 13 (by decide), ← hL 14 (by decide), ← hL 26 (by decide), ← hL 27 (by decide), ← hL 30 (by decide), ← hL 33 (by decide), ← hg 217 (by decide), ← hg 218 (by decide), ← hg 230 (by decide), ← hg 231 (by decide)] using h
  have hn1 : (([(0, 204, .pointer (some ⟨cb, 0, none⟩)), (1, 205, .pointer (some ⟨cb, 0, none⟩)), (2, 206, .pointer (some ⟨cb, 0, none⟩)), (3, 207, .pointer (some ⟨cb, 0, none⟩)), (4, 208, .pointer (some ⟨cb, 0, none⟩)), (5, 209, ck), (6, 210, .pointer (some ⟨b, 0, none⟩)), (7, 211, .pointer (some ⟨b, 0, none⟩)), (8, 212, .pointer (some ⟨b, 0, none⟩)), (9, 213, .slice (some ⟨gx, 0, none⟩) nx cx), (10, 214, .int .i64 j), (11, 215, .pointer (some ⟨gx, j, none⟩)), (12, 216, encI y.1), (15, 219, .pointer (some ⟨cb, 0, none⟩)), (16, 220, .pointer (some ⟨cb, 0, none⟩)), (17, 221, .pointer (some ⟨cb, 1, none⟩)), (18, 222, cv), (19, 223, .pointer (some ⟨b, 0, none⟩)), (20, 224, .pointer (some ⟨b, 0, none⟩)), (21, 225, .pointer (some ⟨b, 1, none⟩)), (22, 226, .slice (some ⟨gy, 0, none⟩) ny cy), (23, 227, .int .i64 j), (24, 228, .pointer (some ⟨gy, j, none⟩)), (25, 229, valI y.2), (28, 232, .pointer (some ⟨cb, 0, none⟩)), (29, 233, .pointer (some ⟨cb, 0, none⟩)), (31, 234, .pointer (some ⟨cb, 0, none⟩)), (32, 235, .pointer (some ⟨cb, 1, none⟩))] : List (Nat × Nat × Value)).map (·.1)).Nodup := by
    show List.Nodup [0, 1, 2, 3, 4, 5, 6, 7, 8, 9, 10, 11, 12, 15, 16, 17, 18, 19, 20, 21, 22, 23, 24, 25, 28, 29, 31, 32]
    decide
  have hn2 : (([(0, 204, .pointer (some ⟨cb, 0, none⟩)), (1, 205, .pointer (some ⟨cb, 0, none⟩)), (2, 206, .pointer (some ⟨cb, 0, none⟩)), (3, 207, .pointer (some ⟨cb, 0, none⟩)), (4, 208, .pointer (some ⟨cb, 0, none⟩)), (5, 209, ck), (6, 210, .pointer (some ⟨b, 0, none⟩)), (7, 211, .pointer (some ⟨b, 0, none⟩)), (8, 212, .pointer (some ⟨b, 0, none⟩)), (9, 213, .slice (some ⟨gx, 0, none⟩) nx cx), (10, 214, .int .i64 j), (11, 215, .pointer (some ⟨gx, j, none⟩)), (12, 216, encI y.1), (15, 219, .pointer (some ⟨cb, 0, none⟩)), (16, 220, .pointer (some ⟨cb, 0, none⟩)), (17, 221, .pointer (some ⟨cb, 1, none⟩)), (18, 222, cv), (19, 223, .pointer (some ⟨b, 0, none⟩)), (20, 224, .pointer (some ⟨b, 0, none⟩)), (21, 225, .pointer (some ⟨b, 1, none⟩)), (22, 226, .slice (some ⟨gy, 0, none⟩) ny cy), (23, 227, .int .i64 j), (24, 228, .pointer (some ⟨gy, j, none⟩)), (25, 229, valI y.2), (28, 232, .pointer (some ⟨cb, 0, none⟩)), (29, 233, .pointer (some ⟨cb, 0, none⟩)), (31, 234, .pointer (some ⟨cb, 0, none⟩)), (32, 235, .pointer (some ⟨cb, 1, none⟩))] : List (Nat × Nat × Value)).map (·.2.1)).Nodup := by
    show List.Nodup [204, 205, 206, 207, 208, 209, 210, 211, 212, 213, 214, 215, 216, 219, 220, 221, 222, 223, 224, 225, 226, 227, 228, 229, 232, 233, 234, 235]
    decide
  refine wp_region_vals (ops' := oFl13I) [204, 205, 206, 207, 208, 209, 210, 211, 212, 213, 214, 215, 216, 217, 218, 219, 220, 221, 222, 223, 224, 225, 226, 227, 228, 229, 230, 231, 232, 233, 234, 235] [(0, 204, .pointer (some ⟨cb, 0, none⟩)), (1, 205, .pointer (some ⟨cb, 0, none⟩)), (2, 206, .pointer (some ⟨cb, 0, none⟩)), (3, 207, .pointer (some ⟨cb, 0, none⟩)), (4, 208, .pointer (some ⟨cb, 0, none⟩)), (5, 209, ck), (6, 210, .pointer (some ⟨b, 0, none⟩)), (7, 211, .pointer (some ⟨b, 0, none⟩)), (8, 212, .pointer (some ⟨b, 0, none⟩)), (9, 213, .slice (some ⟨gx, 0, none⟩) nx cx), (10, 214, .int .i64 j), (11, 215, .pointer (some ⟨gx, j, none⟩)), (12, 216, encI y.1), (15, 219, .pointer (some ⟨cb, 0, none⟩)), (16, 220, .pointer (some ⟨cb, 0, none⟩)), (17, 221, .pointer (some ⟨cb, 1, none⟩)), (18, 222, cv), (19, 223, .pointer (some ⟨b, 0, none⟩)), (20, 224, .pointer (some ⟨b, 0, none⟩)), (21, 225, .pointer (some ⟨b, 1, none⟩)), (22, 226, .slice (some ⟨gy, 0, none⟩) ny cy), (23, 227, .int .i64 j), (24, 228, .pointer (some ⟨gy, j, none⟩)), (25, 229, valI y.2), (28, 232, .pointer (some ⟨cb, 0, none⟩)), (29, 233, .pointer (some ⟨cb, 0, none⟩)), (31, 234, .pointer (some ⟨cb, 0, none⟩)), (32, 235, .pointer (some ⟨cb, 1, none⟩))] (fun L g w => St w0 fp0 ([pick (L 13) (boxA 3 (g 217) (encI y.1)) emp, pick (L 26) (boxA 3 (g 230) (valI y.2)) emp, blkA cb 70 #[vpick (L 30) (g 218) ck, vpick (L 33) (g 231) cv, cp], pick (L 14) (slA 3 (g 218) (keysI ce ++ [encI y.1])) (slA 3 ck (keysI ce)), pick (L 27) (slA 3 (g 231) (valsI ce ++ [valI y.2])) (slA 3 cv (valsI ce)), blkA b 70 #[.slice (some ⟨gx, 0, none⟩) nx cx, .slice (some ⟨gy, 0, none⟩) ny cy, xp], slA 3 (.slice (some ⟨gx, 0, none⟩) nx cx) (keysI xe), slA 3 (.slice (some ⟨gy, 0, none⟩) ny cy) (valsI xe)] ++ R) w) rfl (by kernel_rfl) (by kernel_rfl) (hS.mono (below_drew w)) ?_ ?_
  · intro oi o L a1 w1 ho hL hdep hI
    have hoi : oi < 34 := by have := (Array.getElem?_eq_some_iff.1 ho).1; omega
    have h1sz : a1.tmps.size = 310 := hI.frame.size.trans hsz
    rcases (by omega : oi = 0 ∨ oi = 1 ∨ oi = 2 ∨ oi = 3 ∨ oi = 4 ∨ oi = 5 ∨ oi = 6 ∨ oi = 7 ∨ oi = 8 ∨ oi = 9 ∨ oi = 10 ∨ oi = 11 ∨ oi = 12 ∨ oi = 13 ∨ oi = 14 ∨ oi = 15 ∨ oi = 16 ∨ oi = 17 ∨ oi = 18 ∨ oi = 19 ∨ oi = 20 ∨ oi = 21 ∨ oi = 22 ∨ oi = 23 ∨ oi = 24 ∨ oi = 25 ∨ oi = 26 ∨ oi = 27 ∨ oi = 28 ∨ oi = 29 ∨ oi = 30 ∨ oi = 31 ∨ oi = 32 ∨ oi = 33) with rfl | rfl | rfl | rfl | rfl | rfl | rfl | rfl | rfl | rfl | rfl | rfl | rfl | rfl | rfl | rfl | rfl | rfl | rfl | rfl | rfl | rfl | rfl | rfl | rfl | rfl | rfl | rfl | rfl | rfl | rfl | rfl | rfl | rfl
    · have hl : oFl13I[0]? = some ⟨some 204, Op.move (Operand.tmp 6), _, _, _, none⟩ := rfl
      obtain rfl := oI ho hl
      have x6 := hI.old 6 (.pointer (some ⟨cb, 0, none⟩)) (by decide) h6
      exact hI.rd hE hsz 0 204 (.pointer (some ⟨cb, 0, none⟩)) ho rfl rfl hdep (by decide) (vals_at hn1 hn2 0 rfl) (by simp [go_sem, execOp, Act.eval, x6])
    · have hl : oFl13I[1]? = some ⟨some 205, Op.move (Operand.tmp 6), _, _, _, none⟩ := rfl
      obtain rfl := oI ho hl
      have x6 := hI.old 6 (.pointer (some ⟨cb, 0, none⟩)) (by decide) h6
      exact hI.rd hE hsz 1 205 (.pointer (some ⟨cb, 0, none⟩)) ho rfl rfl hdep (by decide) (vals_at hn1 hn2 1 rfl) (by simp [go_sem, execOp, Act.eval, x6])
    · have hl : oFl13I[2]? = some ⟨some 206, Op.move (Operand.tmp 6), _, _, _, none⟩ := rfl
      obtain rfl := oI ho hl
      have x6 := hI.old 6 (.pointer (some ⟨cb, 0, none⟩)) (by decide) h6
      exact hI.rd hE hsz 2 206 (.pointer (some ⟨cb, 0, none⟩)) ho rfl rfl hdep (by decide) (vals_at hn1 hn2 2 rfl) (by simp [go_sem, execOp, Act.eval, x6])
    · have hl : oFl13I[3]? = some ⟨some 207, Op.nilCheck (Operand.tmp 206), _, _, _, none⟩ := rfl
      obtain rfl := oI ho hl
      have x206 := hI.val 2 206 (.pointer (some ⟨cb, 0, none⟩)) (mG (i := 2) rfl) (dK ho hdep (by kernel_rfl : waitsB oFl13I 3 2 = true))
      exact hI.rd hE hsz 3 207 (.pointer (some ⟨cb, 0, none⟩)) ho rfl rfl hdep (by decide) (vals_at hn1 hn2 3 rfl) (by simp [go_sem, execOp, Act.eval, x206])
    · have hl : oFl13I[4]? = some ⟨some 208, Op.fieldAddr _ (Operand.tmp 207) 0, _, _, _, none⟩ := rfl
      obtain rfl := oI ho hl
      have x207 := hI.val 3 207 (.pointer (some ⟨cb, 0, none⟩)) (mG (i := 3) rfl) (dK ho hdep (by kernel_rfl : waitsB oFl13I 4 3 = true))
      exact hI.rd hE hsz 4 208 (.pointer (some ⟨cb, 0, none⟩)) ho rfl rfl hdep (by decide) (vals_at hn1 hn2 4 rfl) (by simp [go_sem, execOp, Act.eval, x207])
    · have hl : oFl13I[5]? = some ⟨some 209, Op.load _ (Operand.tmp 208), _, _, _, none⟩ := rfl
      obtain rfl := oI ho hl
      have x208 := hI.val 4 208 (.pointer (some ⟨cb, 0, none⟩)) (mG (i := 4) rfl) (dK ho hdep (by kernel_rfl : waitsB oFl13I 5 4 = true))
      have hS1 := hI.eff
      have e14 : L 14 = false := hI.no hL (by kernel_rfl : waitsB oFl13I 14 5 = true)
      have e27 : L 27 = false := hI.no (hI.no hL (by kernel_rfl : waitsB oFl13I 14 5 = true)) (by kernel_rfl : waitsB oFl13I 27 14 = true)
      have e30 : L 30 = false := hI.no hL (by kernel_rfl : waitsB oFl13I 30 5 = true)
      have e33 : L 33 = false := hI.no hL (by kernel_rfl : waitsB oFl13I 33 5 = true)
      simp only [e14, e27, e30, e33, pick_false, vpick_false] at hS1
      obtain ⟨_, hp⟩ := hS1.has 2 rfl
      have hcell := (blk_get hp).1 0
      have hlt := (blk_get hp).2.2
      simp only [List.getElem?_toArray, List.getElem?_cons_zero] at hcell
      exact hI.rd hE hsz 5 209 (ck) ho rfl rfl hdep (by decide) (vals_at hn1 hn2 5 rfl) (by simp [go_sem, execOp, Act.eval, x208, hcell])
    · have hl : oFl13I[6]? = some ⟨some 210, Op.move (Operand.tmp 1), _, _, _, none⟩ := rfl
      obtain rfl := oI ho hl
      have x1 := hI.old 1 (.pointer (some ⟨b, 0, none⟩)) (by decide) h1
      exact hI.rd hE hsz 6 210 (.pointer (some ⟨b, 0, none⟩)) ho rfl rfl hdep (by decide) (vals_at hn1 hn2 6 rfl) (by simp [go_sem, execOp, Act.eval, x1])
    · have hl : oFl13I[7]? = some ⟨some 211, Op.nilCheck (Operand.tmp 210), _, _, _, none⟩ := rfl
      obtain rfl := oI ho hl
      have x210 := hI.val 6 210 (.pointer (some ⟨b, 0, none⟩)) (mG (i := 6) rfl) (dK ho hdep (by kernel_rfl : waitsB oFl13I 7 6 = true))
      exact hI.rd hE hsz 7 211 (.pointer (some ⟨b, 0, none⟩)) ho rfl rfl hdep (by decide) (vals_at hn1 hn2 7 rfl) (by simp [go_sem, execOp, Act.eval, x210])
    · have hl : oFl13I[8]? = some ⟨some 212, Op.fieldAddr _ (Operand.tmp 211) 0, _, _, _, none⟩ := rfl
      obtain rfl := oI ho hl
      have x211 := hI.val 7 211 (.pointer (some ⟨b, 0, none⟩)) (mG (i := 7) rfl) (dK ho hdep (by kernel_rfl : waitsB oFl13I 8 7 = true))
      exact hI.rd hE hsz 8 212 (.pointer (some ⟨b, 0, none⟩)) ho rfl rfl hdep (by decide) (vals_at hn1 hn2 8 rfl) (by simp [go_sem, execOp, Act.eval, x211])
    · have hl : oFl13I[9]? = some ⟨some 213, Op.load _ (Operand.tmp 212), _, _, _, none⟩ := rfl
      obtain rfl := oI ho hl
      have x212 := hI.val 8 212 (.pointer (some ⟨b, 0, none⟩)) (mG (i := 8) rfl) (dK ho hdep (by kernel_rfl : waitsB oFl13I 9 8 = true))
      have hS1 := hI.eff
      have e30 : L 30 = false := hI.no hL (by kernel_rfl : waitsB oFl13I 30 9 = true)
      have e33 : L 33 = false := hI.no hL (by kernel_rfl : waitsB oFl13I 33 9 = true)
      simp only [e30, e33, vpick_false] at hS1
      obtain ⟨_, hp⟩ := hS1.has 5 rfl
      have hcell := (blk_get hp).1 0
      have hlt := (blk_get hp).2.2
      simp only [List.getElem?_toArray, List.getElem?_cons_zero] at hcell
      exact hI.rd hE hsz 9 213 (.slice (some ⟨gx, 0, none⟩) nx cx) ho rfl rfl hdep (by decide) (vals_at hn1 hn2 9 rfl) (by simp [go_sem, execOp, Act.eval, x212, hcell])
    · have hl : oFl13I[10]? = some ⟨some 214, Op.move (Operand.tmp 2), _, _, _, none⟩ := rfl
      obtain rfl := oI ho hl
      have x2 := hI.old 2 (.int .i64 j) (by decide) h2
      exact hI.rd hE hsz 10 214 (.int .i64 j) ho rfl rfl hdep (by decide) (vals_at hn1 hn2 10 rfl) (by simp [go_sem, execOp, Act.eval, x2])
    · have hl : oFl13I[11]? = some ⟨some 215, Op.indexAddr _ (Operand.tmp 213) (Operand.tmp 214), _, _, _, none⟩ := rfl
      obtain rfl := oI ho hl
      have x213 := hI.val 9 213 (.slice (some ⟨gx, 0, none⟩) nx cx) (mG (i := 9) rfl) (dK ho hdep (by kernel_rfl : waitsB oFl13I 11 9 = true))
      have x214 := hI.val 10 214 (.int .i64 j) (mG (i := 10) rfl) (dK ho hdep (by kernel_rfl : waitsB oFl13I 11 10 = true))
      exact hI.rd hE hsz 11 215 (.pointer (some ⟨gx, j, none⟩)) ho rfl rfl hdep (by decide) (vals_at hn1 hn2 11 rfl) (by simp [go_sem, execOp, Act.eval, x213, x214, hik])
    · have hl : oFl13I[12]? = some ⟨some 216, Op.load _ (Operand.tmp 215), _, _, _, none⟩ := rfl
      obtain rfl := oI ho hl
      have x215 := hI.val 11 215 (.pointer (some ⟨gx, j, none⟩)) (mG (i := 11) rfl) (dK ho hdep (by kernel_rfl : waitsB oFl13I 12 11 = true))
      have hS1 := hI.eff
      have e13 : L 13 = false := hI.no hL (by kernel_rfl : waitsB oFl13I 13 12 = true)
      have e14 : L 14 = false := hI.no (hI.no hL (by kernel_rfl : waitsB oFl13I 13 12 = true)) (by kernel_rfl : waitsB oFl13I 14 13 = true)
      have e30 : L 30 = false := hI.no hL (by kernel_rfl : waitsB oFl13I 30 12 = true)
      have e33 : L 33 = false := hI.no hL (by kernel_rfl : waitsB oFl13I 33 12 = true)
      simp only [e13, e14, e30, e33, pick_false, vpick_false] at hS1
      obtain ⟨_, hp⟩ := hS1.has 6 rfl
      obtain ⟨hcell, _, hlt, _⟩ := sl_elem hp (j) (by rw [keysI_length]; omega)
      rw [hyk] at hcell
      exact hI.rd hE hsz 12 216 (encI y.1) ho rfl rfl hdep (by decide) (vals_at hn1 hn2 12 rfl) (by simp [go_sem, execOp, Act.eval, x215, hcell])
    · have hl : oFl13I[13]? = some ⟨some 217, Op.buildSlice _ 1 #[(0, Operand.tmp 216)], _, _, _, none⟩ := rfl
      obtain rfl := oI ho hl
      have x216 := hI.val 12 216 (encI y.1) (mG (i := 12) rfl) (dK ho hdep (by kernel_rfl : waitsB oFl13I 13 12 = true))
      have hS1 := hI.eff
      have e13 : L 13 = false := hL
      have e14 : L 14 = false := hI.no hL (by kernel_rfl : waitsB oFl13I 14 13 = true)
      have e27 : L 27 = false := hI.no (hI.no hL (by kernel_rfl : waitsB oFl13I 14 13 = true)) (by kernel_rfl : waitsB oFl13I 27 14 = true)
      have e30 : L 30 = false := hI.no hL (by kernel_rfl : waitsB oFl13I 30 13 = true)
      have e33 : L 33 = false := hI.no hL (by kernel_rfl : waitsB oFl13I 33 13 = true)
      simp only [e13, e14, e27, e30, e33, pick_false, vpick_false] at hS1
      refine inv_value ho rfl (v := .slice (some ⟨w1.heap.size, 0, none⟩) 1 1) (w' := w1.alloc (.cells #[encI y.1] 3)) (by simp [go_sem, execOp, Act.eval, x216, encI]) (hI.put 13 217 _ ho hdep (by decide) (by intro t ht; exact vals_ne2 rfl rfl (by decide : 13 ∉ [0, 1, 2, 3, 4, 5, 6, 7, 8, 9, 10, 11, 12, 15, 16, 17, 18, 19, 20, 21, 22, 23, 24, 25, 28, 29, 31, 32]) (by decide : 217 ∉ [204, 205, 206, 207, 208, 209, 210, 211, 212, 213, 214, 215, 216, 219, 220, 221, 222, 223, 224, 225, 226, 227, 228, 229, 232, 233, 234, 235]) ht) ?_)
      have hS2 := St.box hS1 0 rfl 3 (encI y.1)
      simp only [e13, e14, e27, e30, e33, Bool.or_false, Bool.or_true, Nat.reduceEqDiff, decide_true, decide_false, pick_true, pick_false, vpick_false, eval_put_same (by rw [h1sz]; decide : 217 < a1.tmps.size), eval_put_ne (by decide : 217 ≠ 218), eval_put_ne (by decide : 217 ≠ 230), eval_put_ne (by decide : 217 ≠ 231)]
      exact hS2
    · have hl : oFl13I[14]? = some ⟨some 218, Op.call ⟨Callee.builtin Builtin.append, #[Operand.tmp 209, Operand.tmp 217], _⟩, _, _, _, none⟩ := rfl
      obtain rfl := oI ho hl
      have x209 := hI.val 5 209 (ck) (mG (i := 5) rfl) (dK ho hdep (by kernel_rfl : waitsB oFl13I 14 5 = true))
      have hS1 := hI.eff
      have e13 : L 13 = true := dK ho hdep (by kernel_rfl : waitsB oFl13I 14 13 = true)
      have e14 : L 14 = false := hL
      have e27 : L 27 = false := hI.no hL (by kernel_rfl : waitsB oFl13I 27 14 = true)
      have e30 : L 30 = false := hI.no hL (by kernel_rfl : waitsB oFl13I 30 14 = true)
      have e33 : L 33 = false := hI.no hL (by kernel_rfl : waitsB oFl13I 33 14 = true)
      simp only [e13, e14, e27, e30, e33, pick_true, pick_false, vpick_false] at hS1
      obtain ⟨f, g, hbx, hrw, _, _, hset⟩ := hS1.two 0 3 (by decide) rfl rfl
      obtain ⟨vb, hgb, hvb, rfl⟩ := hbx
      obtain ⟨v2, w2, f2, hr2, ho2, ht2⟩ := appbI w1 _ hrw vb _ _ hvb rfl (by rw [keysI_length]; omega)
      refine inv_value ho rfl (v := v2) (w' := w2) (run_append_op (s := .tmp 209) (x := .tmp 217) (t := 22) rfl (spell_eval x209) hgb hr2) (hI.put 14 218 _ ho hdep (by decide) (by intro t ht; exact vals_ne2 rfl rfl (by decide : 14 ∉ [0, 1, 2, 3, 4, 5, 6, 7, 8, 9, 10, 11, 12, 15, 16, 17, 18, 19, 20, 21, 22, 23, 24, 25, 28, 29, 31, 32]) (by decide : 218 ∉ [204, 205, 206, 207, 208, 209, 210, 211, 212, 213, 214, 215, 216, 219, 220, 221, 222, 223, 224, 225, 226, 227, 228, 229, 232, 233, 234, 235]) ht) ?_)
      have hS2 := hset _ _ _ ho2 ht2
      simp only [e13, e14, e27, e30, e33, Bool.or_false, Bool.or_true, Nat.reduceEqDiff, decide_true, decide_false, pick_true, pick_false, vpick_false, eval_put_same (by rw [h1sz]; decide : 218 < a1.tmps.size), eval_put_ne (by decide : 218 ≠ 217), eval_put_ne (by decide : 218 ≠ 230), eval_put_ne (by decide : 218 ≠ 231)]
      exact hS2
    · have hl : oFl13I[15]? = some ⟨some 219, Op.move (Operand.tmp 6), _, _, _, none⟩ := rfl
      obtain rfl := oI ho hl
      have x6 := hI.old 6 (.pointer (some ⟨cb, 0, none⟩)) (by decide) h6
      exact hI.rd hE hsz 15 219 (.pointer (some ⟨cb, 0, none⟩)) ho rfl rfl hdep (by decide) (vals_at hn1 hn2 13 rfl) (by simp [go_sem, execOp, Act.eval, x6])
    · have hl : oFl13I[16]? = some ⟨some 220, Op.nilCheck (Operand.tmp 219), _, _, _, none⟩ := rfl
      obtain rfl := oI ho hl
      have x219 := hI.val 15 219 (.pointer (some ⟨cb, 0, none⟩)) (mG (i := 13) rfl) (dK ho hdep (by kernel_rfl : waitsB oFl13I 16 15 = true))
      exact hI.rd hE hsz 16 220 (.pointer (some ⟨cb, 0, none⟩)) ho rfl rfl hdep (by decide) (vals_at hn1 hn2 14 rfl) (by simp [go_sem, execOp, Act.eval, x219])
    · have hl : oFl13I[17]? = some ⟨some 221, Op.fieldAddr _ (Operand.tmp 220) 1, _, _, _, none⟩ := rfl
      obtain rfl := oI ho hl
      have x220 := hI.val 16 220 (.pointer (some ⟨cb, 0, none⟩)) (mG (i := 14) rfl) (dK ho hdep (by kernel_rfl : waitsB oFl13I 17 16 = true))
      exact hI.rd hE hsz 17 221 (.pointer (some ⟨cb, 1, none⟩)) ho rfl rfl hdep (by decide) (vals_at hn1 hn2 15 rfl) (by simp [go_sem, execOp, Act.eval, x220])
    · have hl : oFl13I[18]? = some ⟨some 222, Op.load _ (Operand.tmp 221), _, _, _, none⟩ := rfl
      obtain rfl := oI ho hl
      have x221 := hI.val 17 221 (.pointer (some ⟨cb, 1, none⟩)) (mG (i := 15) rfl) (dK ho hdep (by kernel_rfl : waitsB oFl13I 18 17 = true))
      have hS1 := hI.eff
      have e27 : L 27 = false := hI.no hL (by kernel_rfl : waitsB oFl13I 27 18 = true)
      have e30 : L 30 = false := hI.no hL (by kernel_rfl : waitsB oFl13I 30 18 = true)
      have e33 : L 33 = false := hI.no hL (by kernel_rfl : waitsB oFl13I 33 18 = true)
      simp only [e27, e30, e33, pick_false, vpick_false] at hS1
      obtain ⟨_, hp⟩ := hS1.has 2 rfl
      have hcell := (blk_get hp).1 1
      have hlt := (blk_get hp).2.2
      simp only [List.getElem?_toArray, List.getElem?_cons_zero, List.getElem?_cons_succ] at hcell
      exact hI.rd hE hsz 18 222 (cv) ho rfl rfl hdep (by decide) (vals_at hn1 hn2 16 rfl) (by simp [go_sem, execOp, Act.eval, x221, hcell])
    · have hl : oFl13I[19]? = some ⟨some 223, Op.move (Operand.tmp 1), _, _, _, none⟩ := rfl
      obtain rfl := oI ho hl
      have x1 := hI.old 1 (.pointer (some ⟨b, 0, none⟩)) (by decide) h1
      exact hI.rd hE hsz 19 223 (.pointer (some ⟨b, 0, none⟩)) ho rfl rfl hdep (by decide) (vals_at hn1 hn2 17 rfl) (by simp [go_sem, execOp, Act.eval, x1])
    · have hl : oFl13I[20]? = some ⟨some 224, Op.nilCheck (Operand.tmp 223), _, _, _, none⟩ := rfl
      obtain rfl := oI ho hl
      have x223 := hI.val 19 223 (.pointer (some ⟨b, 0, none⟩)) (mG (i := 17) rfl) (dK ho hdep (by kernel_rfl : waitsB oFl13I 20 19 = true))
      exact hI.rd hE hsz 20 224 (.pointer (some ⟨b, 0, none⟩)) ho rfl rfl hdep (by decide) (vals_at hn1 hn2 18 rfl) (by simp [go_sem, execOp, Act.eval, x223])
    · have hl : oFl13I[21]? = some ⟨some 225, Op.fieldAddr _ (Operand.tmp 224) 1, _, _, _, none⟩ := rfl
      obtain rfl := oI ho hl
      have x224 := hI.val 20 224 (.pointer (some ⟨b, 0, none⟩)) (mG (i := 18) rfl) (dK ho hdep (by kernel_rfl : waitsB oFl13I 21 20 = true))
      exact hI.rd hE hsz 21 225 (.pointer (some ⟨b, 1, none⟩)) ho rfl rfl hdep (by decide) (vals_at hn1 hn2 19 rfl) (by simp [go_sem, execOp, Act.eval, x224])
    · have hl : oFl13I[22]? = some ⟨some 226, Op.load _ (Operand.tmp 225), _, _, _, none⟩ := rfl
      obtain rfl := oI ho hl
      have x225 := hI.val 21 225 (.pointer (some ⟨b, 1, none⟩)) (mG (i := 19) rfl) (dK ho hdep (by kernel_rfl : waitsB oFl13I 22 21 = true))
      have hS1 := hI.eff
      have e30 : L 30 = false := hI.no hL (by kernel_rfl : waitsB oFl13I 30 22 = true)
      have e33 : L 33 = false := hI.no hL (by kernel_rfl : waitsB oFl13I 33 22 = true)
      simp only [e30, e33, vpick_false] at hS1
      obtain ⟨_, hp⟩ := hS1.has 5 rfl
      have hcell := (blk_get hp).1 1
      have hlt := (blk_get hp).2.2
      simp only [List.getElem?_toArray, List.getElem?_cons_zero, List.getElem?_cons_succ] at hcell
      exact hI.rd hE hsz 22 226 (.slice (some ⟨gy, 0, none⟩) ny cy) ho rfl rfl hdep (by decide) (vals_at hn1 hn2 20 rfl) (by simp [go_sem, execOp, Act.eval, x225, hcell])
    · have hl : oFl13I[23]? = some ⟨some 227, Op.move (Operand.tmp 2), _, _, _, none⟩ := rfl
      obtain rfl := oI ho hl
      have x2 := hI.old 2 (.int .i64 j) (by decide) h2
      exact hI.rd hE hsz 23 227 (.int .i64 j) ho rfl rfl hdep (by decide) (vals_at hn1 hn2 21 rfl) (by simp [go_sem, execOp, Act.eval, x2])
    · have hl : oFl13I[24]? = some ⟨some 228, Op.indexAddr _ (Operand.tmp 226) (Operand.tmp 227), _, _, _, none⟩ := rfl
      obtain rfl := oI ho hl
      have x226 := hI.val 22 226 (.slice (some ⟨gy, 0, none⟩) ny cy) (mG (i := 20) rfl) (dK ho hdep (by kernel_rfl : waitsB oFl13I 24 22 = true))
      have x227 := hI.val 23 227 (.int .i64 j) (mG (i := 21) rfl) (dK ho hdep (by kernel_rfl : waitsB oFl13I 24 23 = true))
      exact hI.rd hE hsz 24 228 (.pointer (some ⟨gy, j, none⟩)) ho rfl rfl hdep (by decide) (vals_at hn1 hn2 22 rfl) (by simp [go_sem, execOp, Act.eval, x226, x227, hiv])
    · have hl : oFl13I[25]? = some ⟨some 229, Op.load _ (Operand.tmp 228), _, _, _, none⟩ := rfl
      obtain rfl := oI ho hl
      have x228 := hI.val 24 228 (.pointer (some ⟨gy, j, none⟩)) (mG (i := 22) rfl) (dK ho hdep (by kernel_rfl : waitsB oFl13I 25 24 = true))
      have hS1 := hI.eff
      have e26 : L 26 = false := hI.no hL (by kernel_rfl : waitsB oFl13I 26 25 = true)
      have e27 : L 27 = false := hI.no (hI.no hL (by kernel_rfl : waitsB oFl13I 26 25 = true)) (by kernel_rfl : waitsB oFl13I 27 26 = true)
      have e30 : L 30 = false := hI.no hL (by kernel_rfl : waitsB oFl13I 30 25 = true)
      have e33 : L 33 = false := hI.no hL (by kernel_rfl : waitsB oFl13I 33 25 = true)
      simp only [e26, e27, e30, e33, pick_false, vpick_false] at hS1
      obtain ⟨_, hp⟩ := hS1.has 7 rfl
      obtain ⟨hcell, _, hlt, _⟩ := sl_elem hp (j) (by rw [valsI_length]; omega)
      rw [hyv] at hcell
      exact hI.rd hE hsz 25 229 (valI y.2) ho rfl rfl hdep (by decide) (vals_at hn1 hn2 23 rfl) (by simp [go_sem, execOp, Act.eval, x228, hcell])
    · have hl : oFl13I[26]? = some ⟨some 230, Op.buildSlice _ 1 #[(0, Operand.tmp 229)], _, _, _, none⟩ := rfl
      obtain rfl := oI ho hl
      have x229 := hI.val 25 229 (valI y.2) (mG (i := 23) rfl) (dK ho hdep (by kernel_rfl : waitsB oFl13I 26 25 = true))
      have hS1 := hI.eff
      have e26 : L 26 = false := hL
      have e27 : L 27 = false := hI.no hL (by kernel_rfl : waitsB oFl13I 27 26 = true)
      have e30 : L 30 = false := hI.no (hI.no hL (by kernel_rfl : waitsB oFl13I 27 26 = true)) (by kernel_rfl : waitsB oFl13I 30 27 = true)
      have e33 : L 33 = false := hI.no hL (by kernel_rfl : waitsB oFl13I 33 26 = true)
      simp only [e26, e27, e30, e33, pick_false, vpick_false] at hS1
      refine inv_value ho rfl (v := .slice (some ⟨w1.heap.size, 0, none⟩) 1 1) (w' := w1.alloc (.cells #[valI y.2] 3)) (by simp [go_sem, execOp, Act.eval, x229, valI]) (hI.put 26 230 _ ho hdep (by decide) (by intro t ht; exact vals_ne2 rfl rfl (by decide : 26 ∉ [0, 1, 2, 3, 4, 5, 6, 7, 8, 9, 10, 11, 12, 15, 16, 17, 18, 19, 20, 21, 22, 23, 24, 25, 28, 29, 31, 32]) (by decide : 230 ∉ [204, 205, 206, 207, 208, 209, 210, 211, 212, 213, 214, 215, 216, 219, 220, 221, 222, 223, 224, 225, 226, 227, 228, 229, 232, 233, 234, 235]) ht) ?_)
      have hS2 := St.box hS1 1 rfl 3 (valI y.2)
      simp only [e26, e27, e30, e33, Bool.or_false, Bool.or_true, Nat.reduceEqDiff, decide_true, decide_false, pick_true, pick_false, vpick_false, eval_put_same (by rw [h1sz]; decide : 230 < a1.tmps.size), eval_put_ne (by decide : 230 ≠ 217), eval_put_ne (by decide : 230 ≠ 218), eval_put_ne (by decide : 230 ≠ 231)]
      exact hS2
    · have hl : oFl13I[27]? = some ⟨some 231, Op.call ⟨Callee.builtin Builtin.append, #[Operand.tmp 222, Operand.tmp 230], _⟩, _, _, _, none⟩ := rfl
      obtain rfl := oI ho hl
      have x222 := hI.val 18 222 (cv) (mG (i := 16) rfl) (dK ho hdep (by kernel_rfl : waitsB oFl13I 27 18 = true))
      have hS1 := hI.eff
      have e13 : L 13 = true := hI.yes (dK ho hdep (by kernel_rfl : waitsB oFl13I 27 14 = true)) (by kernel_rfl : waitsB oFl13I 14 13 = true)
      have e14 : L 14 = true := dK ho hdep (by kernel_rfl : waitsB oFl13I 27 14 = true)
      have e26 : L 26 = true := dK ho hdep (by kernel_rfl : waitsB oFl13I 27 26 = true)
      have e27 : L 27 = false := hL
      have e30 : L 30 = false := hI.no hL (by kernel_rfl : waitsB oFl13I 30 27 = true)
      have e33 : L 33 = false := hI.no hL (by kernel_rfl : waitsB oFl13I 33 27 = true)
      simp only [e13, e14, e26, e27, e30, e33, pick_true, pick_false, vpick_false] at hS1
      obtain ⟨f, g, hbx, hrw, _, _, hset⟩ := hS1.two 1 4 (by decide) rfl rfl
      obtain ⟨vb, hgb, hvb, rfl⟩ := hbx
      obtain ⟨v2, w2, f2, hr2, ho2, ht2⟩ := appbI w1 _ hrw vb _ _ hvb rfl (by rw [valsI_length]; omega)
      refine inv_value ho rfl (v := v2) (w' := w2) (run_append_op (s := .tmp 222) (x := .tmp 230) (t := 22) rfl (spell_eval x222) hgb hr2) (hI.put 27 231 _ ho hdep (by decide) (by intro t ht; exact vals_ne2 rfl rfl (by decide : 27 ∉ [0, 1, 2, 3, 4, 5, 6, 7, 8, 9, 10, 11, 12, 15, 16, 17, 18, 19, 20, 21, 22, 23, 24, 25, 28, 29, 31, 32]) (by decide : 231 ∉ [204, 205, 206, 207, 208, 209, 210, 211, 212, 213, 214, 215, 216, 219, 220, 221, 222, 223, 224, 225, 226, 227, 228, 229, 232, 233, 234, 235]) ht) ?_)
      have hS2 := hset _ _ _ ho2 ht2
      simp only [e13, e14, e26, e27, e30, e33, Bool.or_false, Bool.or_true, Nat.reduceEqDiff, decide_true, decide_false, pick_true, vpick_false, eval_put_same (by rw [h1sz]; decide : 231 < a1.tmps.size), eval_put_ne (by decide : 231 ≠ 217), eval_put_ne (by decide : 231 ≠ 218), eval_put_ne (by decide : 231 ≠ 230)]
      exact hS2
    · have hl : oFl13I[28]? = some ⟨some 232, Op.nilCheck (Operand.tmp 204), _, _, _, none⟩ := rfl
      obtain rfl := oI ho hl
      have x204 := hI.val 0 204 (.pointer (some ⟨cb, 0, none⟩)) (mG (i := 0) rfl) (dK ho hdep (by kernel_rfl : waitsB oFl13I 28 0 = true))
      exact hI.rd hE hsz 28 232 (.pointer (some ⟨cb, 0, none⟩)) ho rfl rfl hdep (by decide) (vals_at hn1 hn2 24 rfl) (by simp [go_sem, execOp, Act.eval, x204])
    · have hl : oFl13I[29]? = some ⟨some 233, Op.fieldAddr _ (Operand.tmp 232) 0, _, _, _, none⟩ := rfl
      obtain rfl := oI ho hl
      have x232 := hI.val 28 232 (.pointer (some ⟨cb, 0, none⟩)) (mG (i := 24) rfl) (dK ho hdep (by kernel_rfl : waitsB oFl13I 29 28 = true))
      exact hI.rd hE hsz 29 233 (.pointer (some ⟨cb, 0, none⟩)) ho rfl rfl hdep (by decide) (vals_at hn1 hn2 25 rfl) (by simp [go_sem, execOp, Act.eval, x232])
    · have hl : oFl13I[30]? = some ⟨none, Op.store _ (Operand.tmp 233) (Operand.tmp 218), _, _, _, none⟩ := rfl
      obtain rfl := oI ho hl
      have x233 := hI.val 29 233 (.pointer (some ⟨cb, 0, none⟩)) (mG (i := 25) rfl) (dK ho hdep (by kernel_rfl : waitsB oFl13I 30 29 = true))
      have hS1 := hI.eff
      have e13 : L 13 = true := dK ho hdep (by kernel_rfl : waitsB oFl13I 30 13 = true)
      have e14 : L 14 = true := dK ho hdep (by kernel_rfl : waitsB oFl13I 30 14 = true)
      have e26 : L 26 = true := hI.yes (dK ho hdep (by kernel_rfl : waitsB oFl13I 30 27 = true)) (by kernel_rfl : waitsB oFl13I 27 26 = true)
      have e27 : L 27 = true := dK ho hdep (by kernel_rfl : waitsB oFl13I 30 27 = true)
      have e30 : L 30 = false := hL
      have e33 : L 33 = false := hI.no hL (by kernel_rfl : waitsB oFl13I 33 30 = true)
      simp only [e13, e14, e26, e27, e30, e33, pick_true, vpick_false] at hS1
      obtain ⟨_, hpv⟩ := hS1.has 3 rfl
      obtain ⟨av, nv, cv, hv⟩ := sl_shape hpv
      have xv := eval_spell hv
      obtain ⟨f, hp, hset⟩ := hS1.get 2 rfl
      have hcell := (blk_get hp).1 0
      have hfz := (blk_get hp).2.1 0
      have hlt := (blk_get hp).2.2
      simp only [List.getElem?_toArray, List.getElem?_cons_zero] at hcell
      refine inv_stored ho rfl rfl (by simp [go_sem, execOp, Act.eval, x233, xv, hcell, hfz]; rfl) (hI.step 30 ho hdep (by intro t ht; exact vals_ne1 rfl (by decide : 30 ∉ [0, 1, 2, 3, 4, 5, 6, 7, 8, 9, 10, 11, 12, 15, 16, 17, 18, 19, 20, 21, 22, 23, 24, 25, 28, 29, 31, 32]) ht) ?_)
      obtain ⟨hb2, ht2⟩ := blk_set hp 0 (a1.eval (.tmp 218))
      have hS2 := hset _ _ _ hb2 ht2
      simp only [e13, e14, e26, e27, e30, e33, Bool.or_false, Bool.or_true, Nat.reduceEqDiff, decide_true, decide_false, pick_true, vpick_true, vpick_false]
      rw [hv] at hS2
      rw [hv]
      exact hS2
    · have hl : oFl13I[31]? = some ⟨some 234, Op.nilCheck (Operand.tmp 205), _, _, _, none⟩ := rfl
      obtain rfl := oI ho hl
      have x205 := hI.val 1 205 (.pointer (some ⟨cb, 0, none⟩)) (mG (i := 1) rfl) (dK ho hdep (by kernel_rfl : waitsB oFl13I 31 1 = true))
      exact hI.rd hE hsz 31 234 (.pointer (some ⟨cb, 0, none⟩)) ho rfl rfl hdep (by decide) (vals_at hn1 hn2 26 rfl) (by simp [go_sem, execOp, Act.eval, x205])
    · have hl : oFl13I[32]? = some ⟨some 235, Op.fieldAddr _ (Operand.tmp 234) 1, _, _, _, none⟩ := rfl
      obtain rfl := oI ho hl
      have x234 := hI.val 31 234 (.pointer (some ⟨cb, 0, none⟩)) (mG (i := 26) rfl) (dK ho hdep (by kernel_rfl : waitsB oFl13I 32 31 = true))
      exact hI.rd hE hsz 32 235 (.pointer (some ⟨cb, 1, none⟩)) ho rfl rfl hdep (by decide) (vals_at hn1 hn2 27 rfl) (by simp [go_sem, execOp, Act.eval, x234])
    · have hl : oFl13I[33]? = some ⟨none, Op.store _ (Operand.tmp 235) (Operand.tmp 231), _, _, _, none⟩ := rfl
      obtain rfl := oI ho hl
      have x235 := hI.val 32 235 (.pointer (some ⟨cb, 1, none⟩)) (mG (i := 27) rfl) (dK ho hdep (by kernel_rfl : waitsB oFl13I 33 32 = true))
      have hS1 := hI.eff
      have e13 : L 13 = true := dK ho hdep (by kernel_rfl : waitsB oFl13I 33 13 = true)
      have e14 : L 14 = true := dK ho hdep (by kernel_rfl : waitsB oFl13I 33 14 = true)
      have e26 : L 26 = true := dK ho hdep (by kernel_rfl : waitsB oFl13I 33 26 = true)
      have e27 : L 27 = true := dK ho hdep (by kernel_rfl : waitsB oFl13I 33 27 = true)
      have e30 : L 30 = true := dK ho hdep (by kernel_rfl : waitsB oFl13I 33 30 = true)
      have e33 : L 33 = false := hL
      simp only [e13, e14, e26, e27, e30, e33, pick_true, vpick_true, vpick_false] at hS1
      obtain ⟨_, hpv⟩ := hS1.has 4 rfl
      obtain ⟨av, nv, cv, hv⟩ := sl_shape hpv
      have xv := eval_spell hv
      obtain ⟨f, hp, hset⟩ := hS1.get 2 rfl
      have hcell := (blk_get hp).1 1
      have hfz := (blk_get hp).2.1 1
      have hlt := (blk_get hp).2.2
      simp only [List.getElem?_toArray, List.getElem?_cons_zero, List.getElem?_cons_succ] at hcell
      refine inv_stored ho rfl rfl (by simp [go_sem, execOp, Act.eval, x235, xv, hcell, hfz]; rfl) (hI.step 33 ho hdep (by intro t ht; exact vals_ne1 rfl (by decide : 33 ∉ [0, 1, 2, 3, 4, 5, 6, 7, 8, 9, 10, 11, 12, 15, 16, 17, 18, 19, 20, 21, 22, 23, 24, 25, 28, 29, 31, 32]) ht) ?_)
      obtain ⟨hb2, ht2⟩ := blk_set hp 1 (a1.eval (.tmp 231))
      have hS2 := hset _ _ _ hb2 ht2
      simp only [e13, e14, e26, e27, e30, e33, Bool.or_false, Bool.or_true, Nat.reduceEqDiff, decide_true, decide_false, pick_true, vpick_true]
      rw [hv] at hS2
      rw [hv]
      exact hS2
  · intro L a1 w1 hL hI
    have hS1 := hI.eff
    simp only [hL 13 (by rw [hsize]; decide), hL 14 (by rw [hsize]; decide), hL 26 (by rw [hsize]; decide), hL 27 (by rw [hsize]; decide), hL 30 (by rw [hsize]; decide), hL 33 (by rw [hsize]; decide), pick_true, vpick_true] at hS1
    have := hQ (fun d => a1.eval (.tmp d)) w1  hS1
    have e := hI.frame.eq
    rw [e]
    exact this
noncomputable def oFl14I : Array Oper := ((Try.f75.body).bind fun c => opsOf c 14).getD #[]
set_option maxHeartbeats 4000000 in
set_option maxRecDepth 100000 in
theorem rFl14I {Q : Exit → Act → World → Prop} {a : Act} {w w0 : World} {fp0 : List Nat} (b lb gx nx cx gy ny cy hx mx dx hy my dy j : Nat) (xp lp : Value) (xe le : M Int Int) (y : Int × Int) (hyy : le[0]? = some y) (hik : j < nx) (hiv : j < ny) (_hek : nx = xe.length) (hev : ny = xe.length) (hmk : 0 < mx) (hmv : 0 < my) (hlk : mx = le.length) (_hlv : my = le.length) (_hj : j < 1099511627776) (R : List Asn) (ops : Array Oper) (hops : ops = oFl14I) (hsz : a.tmps.size = 310) (h1 : a.eval (.tmp 1) = .pointer (some ⟨b, 0, none⟩)) (h2 : a.eval (.tmp 2) = .int .i64 j) (h9 : a.eval (.tmp 9) = .pointer (some ⟨lb, 0, none⟩))
    (hS : St w0 fp0 ([blkA b 70 #[.slice (some ⟨gx, 0, none⟩) nx cx, .slice (some ⟨gy, 0, none⟩) ny cy, xp], pick false (slA 3 (.slice (some ⟨gx, 0, none⟩) nx cx) ((keysI xe).set j (encI y.1))) (slA 3 (.slice (some ⟨gx, 0, none⟩) nx cx) (keysI xe)), pick false (slA 3 (.slice (some ⟨gy, 0, none⟩) ny cy) ((valsI xe).set j (valI y.2))) (slA 3 (.slice (some ⟨gy, 0, none⟩) ny cy) (valsI xe)), blkA lb 70 #[.slice (some ⟨hx, 0, none⟩) mx dx, .slice (some ⟨hy, 0, none⟩) my dy, lp], slA 3 (.slice (some ⟨hx, 0, none⟩) mx dx) (keysI le), slA 3 (.slice (some ⟨hy, 0, none⟩) my dy) (valsI le)] ++ R) w)
    (hQ : ∀ (u : Nat → Value) w1, St w0 fp0 ([blkA b 70 #[.slice (some ⟨gx, 0, none⟩) nx cx, .slice (some ⟨gy, 0, none⟩) ny cy, xp], pick true (slA 3 (.slice (some ⟨gx, 0, none⟩) nx cx) ((keysI xe).set j (encI y.1))) (slA 3 (.slice (some ⟨gx, 0, none⟩) nx cx) (keysI xe)), pick true (slA 3 (.slice (some ⟨gy, 0, none⟩) ny cy) ((valsI xe).set j (valI y.2))) (slA 3 (.slice (some ⟨gy, 0, none⟩) ny cy) (valsI xe)), blkA lb 70 #[.slice (some ⟨hx, 0, none⟩) mx dx, .slice (some ⟨hy, 0, none⟩) my dy, lp], slA 3 (.slice (some ⟨hx, 0, none⟩) mx dx) (keysI le), slA 3 (.slice (some ⟨hy, 0, none⟩) my dy) (valsI le)] ++ R) w1 → Q .normal (putL a ((List.range' 236 24).map fun d => (d, u d))) w1) : (Code.region 14 ops true).wp Try.prog Q a w := by
  subst hops
  have hyk : ∀ h, (keysI le)[0]'h = encI y.1 := by intro h; simp only [keysI, List.getElem_map]; rw [(List.getElem?_eq_some_iff.1 hyy).2]
  have hyv : ∀ h, (valsI le)[0]'h = valI y.2 := by intro h; simp only [valsI, List.getElem_map]; rw [(List.getElem?_eq_some_iff.1 hyy).2]
  have hsize : oFl14I.size = 26 := by kernel_rfl
  have hE : Looks (fun L g w => St w0 fp0 ([blkA b 70 #[.slice (some ⟨gx, 0, none⟩) nx cx, .slice (some ⟨gy, 0, none⟩) ny cy, xp], pick (L 23) (slA 3 (.slice (some ⟨gx, 0, none⟩) nx cx) ((keysI xe).set j (encI y.1))) (slA 3 (.slice (some ⟨gx, 0, none⟩) nx cx) (keysI xe)), pick (L 25) (slA 3 (.slice (some ⟨gy, 0, none⟩) ny cy) ((valsI xe).set j (valI y.2))) (slA 3 (.slice (some ⟨gy, 0, none⟩) ny cy) (valsI xe)), blkA lb 70 #[.slice (some ⟨hx, 0, none⟩) mx dx, .slice (some ⟨hy, 0, none⟩) my dy, lp], slA 3 (.slice (some ⟨hx, 0, none⟩) mx dx) (keysI le), slA 3 (.slice (some ⟨hy, 0, none⟩) my dy) (valsI le)] ++ R) w) [23, 25] [] := by
    intro L L' g g' w hL hg h
    simpa only [← hL 23 (by decide), ← hL 25 (by decide)] using h
  have hn1 : (([(0, 236, .pointer (some ⟨b, 0, none⟩)), (1, 237, .pointer (some ⟨b, 0, none⟩)), (2, 238, .pointer (some ⟨b, 0, none⟩)), (3, 239, .slice (some ⟨gx, 0, none⟩) nx cx), (4, 240, .int .i64 j), (5, 241, .pointer (some ⟨b, 0, none⟩)), (6, 242, .pointer (some ⟨b, 0, none⟩)), (7, 243, .pointer (some ⟨b, 1, none⟩)), (8, 244, .slice (some ⟨gy, 0, none⟩) ny cy), (9, 245, .int .i64 j), (10, 246, .pointer (some ⟨lb, 0, none⟩)), (11, 247, .pointer (some ⟨lb, 0, none⟩)), (12, 248, .pointer (some ⟨lb, 0, none⟩)), (13, 249, .slice (some ⟨hx, 0, none⟩) mx dx), (14, 250, .pointer (some ⟨hx, 0, none⟩)), (15, 251, encI y.1), (16, 252, .pointer (some ⟨lb, 0, none⟩)), (17, 253, .pointer (some ⟨lb, 0, none⟩)), (18, 254, .pointer (some ⟨lb, 1, none⟩)), (19, 255, .slice (some ⟨hy, 0, none⟩) my dy), (20, 256, .pointer (some ⟨hy, 0, none⟩)), (21, 257, valI y.2), (22, 258, .pointer (some ⟨gx, j, none⟩)), (24, 259, .pointer (some ⟨gy, j, none⟩))] : List (Nat × Nat × Value)).map (·.1)).Nodup := by
    show List.Nodup [0, 1, 2, 3, 4, 5, 6, 7, 8, 9, 10, 11, 12, 13, 14, 15, 16, 17, 18, 19, 20, 21, 22, 24]
    decide
  have hn2 : (([(0, 236, .pointer (some ⟨b, 0, none⟩)), (1, 237, .pointer (some ⟨b, 0, none⟩)), (2, 238, .pointer (some ⟨b, 0, none⟩)), (3, 239, .slice (some ⟨gx, 0, none⟩) nx cx), (4, 240, .int .i64 j), (5, 241, .pointer (some ⟨b, 0, none⟩)), (6, 242, .pointer (some ⟨b, 0, none⟩)), (7, 243, .pointer (some ⟨b, 1, none⟩)), (8, 244, .slice (some ⟨gy, 0, none⟩) ny cy), (9, 245, .int .i64 j), (10, 246, .pointer (some ⟨lb, 0, none⟩)), (11, 247, .pointer (some ⟨lb, 0, none⟩)), (12, 248, .pointer (some ⟨lb, 0, none⟩)), (13, 249, .slice (some ⟨hx, 0, none⟩) mx dx), (14, 250, .pointer (some ⟨hx, 0, none⟩)), (15, 251, encI y.1), (16, 252, .pointer (some ⟨lb, 0, none⟩)), (17, 253, .pointer (some ⟨lb, 0, none⟩)), (18, 254, .pointer (some ⟨lb, 1, none⟩)), (19, 255, .slice (some ⟨hy, 0, none⟩) my dy), (20, 256, .pointer (some ⟨hy, 0, none⟩)), (21, 257, valI y.2), (22, 258, .pointer (some ⟨gx, j, none⟩)), (24, 259, .pointer (some ⟨gy, j, none⟩))] : List (Nat × Nat × Value)).map (·.2.1)).Nodup := by
    show List.Nodup [236, 237, 238, 239, 240, 241, 242, 243, 244, 245, 246, 247, 248, 249, 250, 251, 252, 253, 254, 255, 256, 257, 258, 259]
    decide
  refine wp_region_vals (ops' := oFl14I) [236, 237, 238, 239, 240, 241, 242, 243, 244, 245, 246, 247, 248, 249, 250, 251, 252, 253, 254, 255, 256, 257, 258, 259] [(0, 236, .pointer (some ⟨b, 0, none⟩)), (1, 237, .pointer (some ⟨b, 0, none⟩)), (2, 238, .pointer (some ⟨b, 0, none⟩)), (3, 239, .slice (some ⟨gx, 0, none⟩) nx cx), (4, 240, .int .i64 j), (5, 241, .pointer (some ⟨b, 0, none⟩)), (6, 242, .pointer (some ⟨b, 0, none⟩)), (7, 243, .pointer (some ⟨b, 1, none⟩)), (8, 244, .slice (some ⟨gy, 0, none⟩) ny cy), (9, 245, .int .i64 j), (10, 246, .pointer (some ⟨lb, 0, none⟩)), (11, 247, .pointer (some ⟨lb, 0, none⟩)), (12, 248, .pointer (some ⟨lb, 0, none⟩)), (13, 249, .slice (some ⟨hx, 0, none⟩) mx dx), (14, 250, .pointer (some ⟨hx, 0, none⟩)), (15, 251, encI y.1), (16, 252, .pointer (some ⟨lb, 0, none⟩)), (17, 253, .pointer (some ⟨lb, 0, none⟩)), (18, 254, .pointer (some ⟨lb, 1, none⟩)), (19, 255, .slice (some ⟨hy, 0, none⟩) my dy), (20, 256, .pointer (some ⟨hy, 0, none⟩)), (21, 257, valI y.2), (22, 258, .pointer (some ⟨gx, j, none⟩)), (24, 259, .pointer (some ⟨gy, j, none⟩))] (fun L g w => St w0 fp0 ([blkA b 70 #[.slice (some ⟨gx, 0, none⟩) nx cx, .slice (some ⟨gy, 0, none⟩) ny cy, xp], pick (L 23) (slA 3 (.slice (some ⟨gx, 0, none⟩) nx cx) ((keysI xe).set j (encI y.1))) (slA 3 (.slice (some ⟨gx, 0, none⟩) nx cx) (keysI xe)), pick (L 25) (slA 3 (.slice (some ⟨gy, 0, none⟩) ny cy) ((valsI xe).set j (valI y.2))) (slA 3 (.slice (some ⟨gy, 0, none⟩) ny cy) (valsI xe)), blkA lb 70 #[.slice (some ⟨hx, 0, none⟩) mx dx, .slice (some ⟨hy, 0, none⟩) my dy, lp], slA 3 (.slice (some ⟨hx, 0, none⟩) mx dx) (keysI le), slA 3 (.slice (some ⟨hy, 0, none⟩) my dy) (valsI le)] ++ R) w) rfl (by kernel_rfl) (by kernel_rfl) (hS.mono (below_drew w)) ?_ ?_
  · intro oi o L a1 w1 ho hL hdep hI
    have hoi : oi < 26 := by have := (Array.getElem?_eq_some_iff.1 ho).1; omega
    have h1sz : a1.tmps.size = 310 := hI.frame.size.trans hsz
    rcases (by omega : oi = 0 ∨ oi = 1 ∨ oi = 2 ∨ oi = 3 ∨ oi = 4 ∨ oi = 5 ∨ oi = 6 ∨ oi = 7 ∨ oi = 8 ∨ oi = 9 ∨ oi = 10 ∨ oi = 11 ∨ oi = 12 ∨ oi = 13 ∨ oi = 14 ∨ oi = 15 ∨ oi = 16 ∨ oi = 17 ∨ oi = 18 ∨ oi = 19 ∨ oi = 20 ∨ oi = 21 ∨ oi = 22 ∨ oi = 23 ∨ oi = 24 ∨ oi = 25) with rfl | rfl | rfl | rfl | rfl | rfl | rfl | rfl | rfl | rfl | rfl | rfl | rfl | rfl | rfl | rfl | rfl | rfl | rfl | rfl | rfl | rfl | rfl | rfl | rfl | rfl
    · have hl : oFl14I[0]? = some ⟨some 236, Op.move (Operand.tmp 1), _, _, _, none⟩ := rfl
      obtain rfl := oI ho hl
      have x1 := hI.old 1 (.pointer (some ⟨b, 0, none⟩)) (by decide) h1
      exact hI.rd hE hsz 0 236 (.pointer (some ⟨b, 0, none⟩)) ho rfl rfl hdep (by decide) (vals_at hn1 hn2 0 rfl) (by simp [go_sem, execOp, Act.eval, x1])
    · have hl : oFl14I[1]? = some ⟨some 237, Op.nilCheck (Operand.tmp 236), _, _, _, none⟩ := rfl
      obtain rfl := oI ho hl
      have x236 := hI.val 0 236 (.pointer (some ⟨b, 0, none⟩)) (mG (i := 0) rfl) (dK ho hdep (by kernel_rfl : waitsB oFl14I 1 0 = true))
      exact hI.rd hE hsz 1 237 (.pointer (some ⟨b, 0, none⟩)) ho rfl rfl hdep (by decide) (vals_at hn1 hn2 1 rfl) (by simp [go_sem, execOp, Act.eval, x236])
    · have hl : oFl14I[2]? = some ⟨some 238, Op.fieldAddr _ (Operand.tmp 237) 0, _, _, _, none⟩ := rfl
      obtain rfl := oI ho hl
      have x237 := hI.val 1 237 (.pointer (some ⟨b, 0, none⟩)) (mG (i := 1) rfl) (dK ho hdep (by kernel_rfl : waitsB oFl14I 2 1 = true))
      exact hI.rd hE hsz 2 238 (.pointer (some ⟨b, 0, none⟩)) ho rfl rfl hdep (by decide) (vals_at hn1 hn2 2 rfl) (by simp [go_sem, execOp, Act.eval, x237])
    · have hl : oFl14I[3]? = some ⟨some 239, Op.load _ (Operand.tmp 238), _, _, _, none⟩ := rfl
      obtain rfl := oI ho hl
      have x238 := hI.val 2 238 (.pointer (some ⟨b, 0, none⟩)) (mG (i := 2) rfl) (dK ho hdep (by kernel_rfl : waitsB oFl14I 3 2 = true))
      have hS1 := hI.eff
      have e23 : L 23 = false := hI.no hL (by kernel_rfl : waitsB oFl14I 23 3 = true)
      have e25 : L 25 = false := hI.no hL (by kernel_rfl : waitsB oFl14I 25 3 = true)
      simp only [e23, e25, pick_false] at hS1
      obtain ⟨_, hp⟩ := hS1.has 0 rfl
      have hcell := (blk_get hp).1 0
      have hlt := (blk_get hp).2.2
      simp only [List.getElem?_toArray, List.getElem?_cons_zero] at hcell
      exact hI.rd hE hsz 3 239 (.slice (some ⟨gx, 0, none⟩) nx cx) ho rfl rfl hdep (by decide) (vals_at hn1 hn2 3 rfl) (by simp [go_sem, execOp, Act.eval, x238, hcell])
    · have hl : oFl14I[4]? = some ⟨some 240, Op.move (Operand.tmp 2), _, _, _, none⟩ := rfl
      obtain rfl := oI ho hl
      have x2 := hI.old 2 (.int .i64 j) (by decide) h2
      exact hI.rd hE hsz 4 240 (.int .i64 j) ho rfl rfl hdep (by decide) (vals_at hn1 hn2 4 rfl) (by simp [go_sem, execOp, Act.eval, x2])
    · have hl : oFl14I[5]? = some ⟨some 241, Op.move (Operand.tmp 1), _, _, _, none⟩ := rfl
      obtain rfl := oI ho hl
      have x1 := hI.old 1 (.pointer (some ⟨b, 0, none⟩)) (by decide) h1
      exact hI.rd hE hsz 5 241 (.pointer (some ⟨b, 0, none⟩)) ho rfl rfl hdep (by decide) (vals_at hn1 hn2 5 rfl) (by simp [go_sem, execOp, Act.eval, x1])
    · have hl : oFl14I[6]? = some ⟨some 242, Op.nilCheck (Operand.tmp 241), _, _, _, none⟩ := rfl
      obtain rfl := oI ho hl
      have x241 := hI.val 5 241 (.pointer (some ⟨b, 0, none⟩)) (mG (i := 5) rfl) (dK ho hdep (by kernel_rfl : waitsB oFl14I 6 5 = true))
      exact hI.rd hE hsz 6 242 (.pointer (some ⟨b, 0, none⟩)) ho rfl rfl hdep (by decide) (vals_at hn1 hn2 6 rfl) (by simp [go_sem, execOp, Act.eval, x241])
    · have hl : oFl14I[7]? = some ⟨some 243, Op.fieldAddr _ (Operand.tmp 242) 1, _, _, _, none⟩ := rfl
      obtain rfl := oI ho hl
      have x242 := hI.val 6 242 (.pointer (some ⟨b, 0, none⟩)) (mG (i := 6) rfl) (dK ho hdep (by kernel_rfl : waitsB oFl14I 7 6 = true))
      exact hI.rd hE hsz 7 243 (.pointer (some ⟨b, 1, none⟩)) ho rfl rfl hdep (by decide) (vals_at hn1 hn2 7 rfl) (by simp [go_sem, execOp, Act.eval, x242])
    · have hl : oFl14I[8]? = some ⟨some 244, Op.load _ (Operand.tmp 243), _, _, _, none⟩ := rfl
      obtain rfl := oI ho hl
      have x243 := hI.val 7 243 (.pointer (some ⟨b, 1, none⟩)) (mG (i := 7) rfl) (dK ho hdep (by kernel_rfl : waitsB oFl14I 8 7 = true))
      have hS1 := hI.eff
      have e23 : L 23 = false := hI.no hL (by kernel_rfl : waitsB oFl14I 23 8 = true)
      have e25 : L 25 = false := hI.no hL (by kernel_rfl : waitsB oFl14I 25 8 = true)
      simp only [e23, e25, pick_false] at hS1
      obtain ⟨_, hp⟩ := hS1.has 0 rfl
      have hcell := (blk_get hp).1 1
      have hlt := (blk_get hp).2.2
      simp only [List.getElem?_toArray, List.getElem?_cons_zero, List.getElem?_cons_succ] at hcell
      exact hI.rd hE hsz 8 244 (.slice (some ⟨gy, 0, none⟩) ny cy) ho rfl rfl hdep (by decide) (vals_at hn1 hn2 8 rfl) (by simp [go_sem, execOp, Act.eval, x243, hcell])
    · have hl : oFl14I[9]? = some ⟨some 245, Op.move (Operand.tmp 2), _, _, _, none⟩ := rfl
      obtain rfl := oI ho hl
      have x2 := hI.old 2 (.int .i64 j) (by decide) h2
      exact hI.rd hE hsz 9 245 (.int .i64 j) ho rfl rfl hdep (by decide) (vals_at hn1 hn2 9 rfl) (by simp [go_sem, execOp, Act.eval, x2])
    · have hl : oFl14I[10]? = some ⟨some 246, Op.move (Operand.tmp 9), _, _, _, none⟩ := rfl
      obtain rfl := oI ho hl
      have x9 := hI.old 9 (.pointer (some ⟨lb, 0, none⟩)) (by decide) h9
      exact hI.rd hE hsz 10 246 (.pointer (some ⟨lb, 0, none⟩)) ho rfl rfl hdep (by decide) (vals_at hn1 hn2 10 rfl) (by simp [go_sem, execOp, Act.eval, x9])
    · have hl : oFl14I[11]? = some ⟨some 247, Op.nilCheck (Operand.tmp 246), _, _, _, none⟩ := rfl
      obtain rfl := oI ho hl
      have x246 := hI.val 10 246 (.pointer (some ⟨lb, 0, none⟩)) (mG (i := 10) rfl) (dK ho hdep (by kernel_rfl : waitsB oFl14I 11 10 = true))
      exact hI.rd hE hsz 11 247 (.pointer (some ⟨lb, 0, none⟩)) ho rfl rfl hdep (by decide) (vals_at hn1 hn2 11 rfl) (by simp [go_sem, execOp, Act.eval, x246])
    · have hl : oFl14I[12]? = some ⟨some 248, Op.fieldAddr _ (Operand.tmp 247) 0, _, _, _, none⟩ := rfl
      obtain rfl := oI ho hl
      have x247 := hI.val 11 247 (.pointer (some ⟨lb, 0, none⟩)) (mG (i := 11) rfl) (dK ho hdep (by kernel_rfl : waitsB oFl14I 12 11 = true))
      exact hI.rd hE hsz 12 248 (.pointer (some ⟨lb, 0, none⟩)) ho rfl rfl hdep (by decide) (vals_at hn1 hn2 12 rfl) (by simp [go_sem, execOp, Act.eval, x247])
    · have hl : oFl14I[13]? = some ⟨some 249, Op.load _ (Operand.tmp 248), _, _, _, none⟩ := rfl
      obtain rfl := oI ho hl
      have x248 := hI.val 12 248 (.pointer (some ⟨lb, 0, none⟩)) (mG (i := 12) rfl) (dK ho hdep (by kernel_rfl : waitsB oFl14I 13 12 = true))
      have hS1 := hI.eff
      have e23 : L 23 = false := hI.no hL (by kernel_rfl : waitsB oFl14I 23 13 = true)
      have e25 : L 25 = false := hI.no hL (by kernel_rfl : waitsB oFl14I 25 13 = true)
      simp only [e23, e25, pick_false] at hS1
      obtain ⟨_, hp⟩ := hS1.has 3 rfl
      have hcell := (blk_get hp).1 0
      have hlt := (blk_get hp).2.2
      simp only [List.getElem?_toArray, List.getElem?_cons_zero] at hcell
      exact hI.rd hE hsz 13 249 (.slice (some ⟨hx, 0, none⟩) mx dx) ho rfl rfl hdep (by decide) (vals_at hn1 hn2 13 rfl) (by simp [go_sem, execOp, Act.eval, x248, hcell])
    · have hl : oFl14I[14]? = some ⟨some 250, Op.indexAddr _ (Operand.tmp 249) (Operand.const (Value.int IntKind.i64 0)), _, _, _, none⟩ := rfl
      obtain rfl := oI ho hl
      have x249 := hI.val 13 249 (.slice (some ⟨hx, 0, none⟩) mx dx) (mG (i := 13) rfl) (dK ho hdep (by kernel_rfl : waitsB oFl14I 14 13 = true))
      exact hI.rd hE hsz 14 250 (.pointer (some ⟨hx, 0, none⟩)) ho rfl rfl hdep (by decide) (vals_at hn1 hn2 14 rfl) (by simp [go_sem, execOp, Act.eval, x249, hmk])
    · have hl : oFl14I[15]? = some ⟨some 251, Op.load _ (Operand.tmp 250), _, _, _, none⟩ := rfl
      obtain rfl := oI ho hl
      have x250 := hI.val 14 250 (.pointer (some ⟨hx, 0, none⟩)) (mG (i := 14) rfl) (dK ho hdep (by kernel_rfl : waitsB oFl14I 15 14 = true))
      have hS1 := hI.eff
      have e23 : L 23 = false := hI.no hL (by kernel_rfl : waitsB oFl14I 23 15 = true)
      have e25 : L 25 = false := hI.no hL (by kernel_rfl : waitsB oFl14I 25 15 = true)
      simp only [e23, e25, pick_false] at hS1
      obtain ⟨_, hp⟩ := hS1.has 4 rfl
      obtain ⟨hcell, _, hlt, _⟩ := sl_elem hp (0) (by rw [keysI_length]; omega)
      rw [hyk] at hcell
      exact hI.rd hE hsz 15 251 (encI y.1) ho rfl rfl hdep (by decide) (vals_at hn1 hn2 15 rfl) (by simp [go_sem, execOp, Act.eval, x250, hcell])
    · have hl : oFl14I[16]? = some ⟨some 252, Op.move (Operand.tmp 9), _, _, _, none⟩ := rfl
      obtain rfl := oI ho hl
      have x9 := hI.old 9 (.pointer (some ⟨lb, 0, none⟩)) (by decide) h9
      exact hI.rd hE hsz 16 252 (.pointer (some ⟨lb, 0, none⟩)) ho rfl rfl hdep (by decide) (vals_at hn1 hn2 16 rfl) (by simp [go_sem, execOp, Act.eval, x9])
    · have hl : oFl14I[17]? = some ⟨some 253, Op.nilCheck (Operand.tmp 252), _, _, _, none⟩ := rfl
      obtain rfl := oI ho hl
      have x252 := hI.val 16 252 (.pointer (some ⟨lb, 0, none⟩)) (mG (i := 16) rfl) (dK ho hdep (by kernel_rfl : waitsB oFl14I 17 16 = true))
      exact hI.rd hE hsz 17 253 (.pointer (some ⟨lb, 0, none⟩)) ho rfl rfl hdep (by decide) (vals_at hn1 hn2 17 rfl) (by simp [go_sem, execOp, Act.eval, x252])
    · have hl : oFl14I[18]? = some ⟨some 254, Op.fieldAddr _ (Operand.tmp 253) 1, _, _, _, none⟩ := rfl
      obtain rfl := oI ho hl
      have x253 := hI.val 17 253 (.pointer (some ⟨lb, 0, none⟩)) (mG (i := 17) rfl) (dK ho hdep (by kernel_rfl : waitsB oFl14I 18 17 = true))
      exact hI.rd hE hsz 18 254 (.pointer (some ⟨lb, 1, none⟩)) ho rfl rfl hdep (by decide) (vals_at hn1 hn2 18 rfl) (by simp [go_sem, execOp, Act.eval, x253])
    · have hl : oFl14I[19]? = some ⟨some 255, Op.load _ (Operand.tmp 254), _, _, _, none⟩ := rfl
      obtain rfl := oI ho hl
      have x254 := hI.val 18 254 (.pointer (some ⟨lb, 1, none⟩)) (mG (i := 18) rfl) (dK ho hdep (by kernel_rfl : waitsB oFl14I 19 18 = true))
      have hS1 := hI.eff
      have e23 : L 23 = false := hI.no hL (by kernel_rfl : waitsB oFl14I 23 19 = true)
      have e25 : L 25 = false := hI.no hL (by kernel_rfl : waitsB oFl14I 25 19 = true)
      simp only [e23, e25, pick_false] at hS1
      obtain ⟨_, hp⟩ := hS1.has 3 rfl
      have hcell := (blk_get hp).1 1
      have hlt := (blk_get hp).2.2
      simp only [List.getElem?_toArray, List.getElem?_cons_zero, List.getElem?_cons_succ] at hcell
      exact hI.rd hE hsz 19 255 (.slice (some ⟨hy, 0, none⟩) my dy) ho rfl rfl hdep (by decide) (vals_at hn1 hn2 19 rfl) (by simp [go_sem, execOp, Act.eval, x254, hcell])
    · have hl : oFl14I[20]? = some ⟨some 256, Op.indexAddr _ (Operand.tmp 255) (Operand.const (Value.int IntKind.i64 0)), _, _, _, none⟩ := rfl
      obtain rfl := oI ho hl
      have x255 := hI.val 19 255 (.slice (some ⟨hy, 0, none⟩) my dy) (mG (i := 19) rfl) (dK ho hdep (by kernel_rfl : waitsB oFl14I 20 19 = true))
      exact hI.rd hE hsz 20 256 (.pointer (some ⟨hy, 0, none⟩)) ho rfl rfl hdep (by decide) (vals_at hn1 hn2 20 rfl) (by simp [go_sem, execOp, Act.eval, x255, hmv])
    · have hl : oFl14I[21]? = some ⟨some 257, Op.load _ (Operand.tmp 256), _, _, _, none⟩ := rfl
      obtain rfl := oI ho hl
      have x256 := hI.val 20 256 (.pointer (some ⟨hy, 0, none⟩)) (mG (i := 20) rfl) (dK ho hdep (by kernel_rfl : waitsB oFl14I 21 20 = true))
      have hS1 := hI.eff
      have e23 : L 23 = false := hI.no hL (by kernel_rfl : waitsB oFl14I 23 21 = true)
      have e25 : L 25 = false := hI.no hL (by kernel_rfl : waitsB oFl14I 25 21 = true)
      simp only [e23, e25, pick_false] at hS1
      obtain ⟨_, hp⟩ := hS1.has 5 rfl
      obtain ⟨hcell, _, hlt, _⟩ := sl_elem hp (0) (by rw [valsI_length]; omega)
      rw [hyv] at hcell
      exact hI.rd hE hsz 21 257 (valI y.2) ho rfl rfl hdep (by decide) (vals_at hn1 hn2 21 rfl) (by simp [go_sem, execOp, Act.eval, x256, hcell])
    · have hl : oFl14I[22]? = some ⟨some 258, Op.indexAddr _ (Operand.tmp 239) (Operand.tmp 240), _, _, _, none⟩ := rfl
      obtain rfl := oI ho hl
      have x239 := hI.val 3 239 (.slice (some ⟨gx, 0, none⟩) nx cx) (mG (i := 3) rfl) (dK ho hdep (by kernel_rfl : waitsB oFl14I 22 3 = true))
      have x240 := hI.val 4 240 (.int .i64 j) (mG (i := 4) rfl) (dK ho hdep (by kernel_rfl : waitsB oFl14I 22 4 = true))
      exact hI.rd hE hsz 22 258 (.pointer (some ⟨gx, j, none⟩)) ho rfl rfl hdep (by decide) (vals_at hn1 hn2 22 rfl) (by simp [go_sem, execOp, Act.eval, x239, x240, hik])
    · have hl : oFl14I[23]? = some ⟨none, Op.store _ (Operand.tmp 258) (Operand.tmp 251), _, _, _, none⟩ := rfl
      obtain rfl := oI ho hl
      have x258 := hI.val 22 258 (.pointer (some ⟨gx, j, none⟩)) (mG (i := 22) rfl) (dK ho hdep (by kernel_rfl : waitsB oFl14I 23 22 = true))
      have x251 := hI.val 15 251 (encI y.1) (mG (i := 15) rfl) (dK ho hdep (by kernel_rfl : waitsB oFl14I 23 15 = true))
      have hS1 := hI.eff
      have e23 : L 23 = false := hL
      have e25 : L 25 = false := hI.no hL (by kernel_rfl : waitsB oFl14I 25 23 = true)
      simp only [e23, e25, pick_false] at hS1
      obtain ⟨f, hp, hset⟩ := hS1.get 1 rfl
      obtain ⟨hcell, hfz, hlt, _⟩ := sl_elem hp (j) (by rw [keysI_length]; omega)
      refine inv_stored ho rfl rfl (by simp [go_sem, execOp, Act.eval, x258, x251, hcell, hfz, encI]; rfl) (hI.step 23 ho hdep (by intro t ht; exact vals_ne1 rfl (by decide : 23 ∉ [0, 1, 2, 3, 4, 5, 6, 7, 8, 9, 10, 11, 12, 13, 14, 15, 16, 17, 18, 19, 20, 21, 22, 24]) ht) ?_)
      obtain ⟨hb2, ht2⟩ := sl_set hp (j) (encI y.1)
      have hS2 := hset _ _ _ hb2 ht2
      simp only [e23, e25, Bool.or_false, Bool.or_true, Nat.reduceEqDiff, decide_true, decide_false, pick_true, pick_false]
      exact hS2
    · have hl : oFl14I[24]? = some ⟨some 259, Op.indexAddr _ (Operand.tmp 244) (Operand.tmp 245), _, _, _, none⟩ := rfl
      obtain rfl := oI ho hl
      have x244 := hI.val 8 244 (.slice (some ⟨gy, 0, none⟩) ny cy) (mG (i := 8) rfl) (dK ho hdep (by kernel_rfl : waitsB oFl14I 24 8 = true))
      have x245 := hI.val 9 245 (.int .i64 j) (mG (i := 9) rfl) (dK ho hdep (by kernel_rfl : waitsB oFl14I 24 9 = true))
      exact hI.rd hE hsz 24 259 (.pointer (some ⟨gy, j, none⟩)) ho rfl rfl hdep (by decide) (vals_at hn1 hn2 23 rfl) (by simp [go_sem, execOp, Act.eval, x244, x245, hiv])
    · have hl : oFl14I[25]? = some ⟨none, Op.store _ (Operand.tmp 259) (Operand.tmp 257), _, _, _, none⟩ := rfl
      obtain rfl := oI ho hl
      have x259 := hI.val 24 259 (.pointer (some ⟨gy, j, none⟩)) (mG (i := 23) rfl) (dK ho hdep (by kernel_rfl : waitsB oFl14I 25 24 = true))
      have x257 := hI.val 21 257 (valI y.2) (mG (i := 21) rfl) (dK ho hdep (by kernel_rfl : waitsB oFl14I 25 21 = true))
      have hS1 := hI.eff
      have e23 : L 23 = true := dK ho hdep (by kernel_rfl : waitsB oFl14I 25 23 = true)
      have e25 : L 25 = false := hL
      simp only [e23, e25, pick_true, pick_false] at hS1
      obtain ⟨f, hp, hset⟩ := hS1.get 2 rfl
      obtain ⟨hcell, hfz, hlt, _⟩ := sl_elem hp (j) (by rw [valsI_length]; omega)
      refine inv_stored ho rfl rfl (by simp [go_sem, execOp, Act.eval, x259, x257, hcell, hfz, valI]; rfl) (hI.step 25 ho hdep (by intro t ht; exact vals_ne1 rfl (by decide : 25 ∉ [0, 1, 2, 3, 4, 5, 6, 7, 8, 9, 10, 11, 12, 13, 14, 15, 16, 17, 18, 19, 20, 21, 22, 24]) ht) ?_)
      obtain ⟨hb2, ht2⟩ := sl_set hp (j) (valI y.2)
      have hS2 := hset _ _ _ hb2 ht2
      simp only [e23, e25, Bool.or_false, Bool.or_true, Nat.reduceEqDiff, decide_true, decide_false, pick_true]
      exact hS2
  · intro L a1 w1 hL hI
    have hS1 := hI.eff
    simp only [hL 23 (by rw [hsize]; decide), hL 25 (by rw [hsize]; decide), pick_true] at hS1
    have := hQ (fun d => a1.eval (.tmp d)) w1  hS1
    have e := hI.frame.eq
    rw [e]
    exact this
noncomputable def oFl15I : Array Oper := ((Try.f75.body).bind fun c => opsOf c 15).getD #[]
set_option maxHeartbeats 4000000 in
set_option maxRecDepth 100000 in
theorem rFl15I {Q : Exit → Act → World → Prop} {a : Act} {w w0 : World} {fp0 : List Nat} (b : Nat) (xk xv xp : Value) (xe : M Int Int) (hi : 0 < xe.length) (hlen : xe.length < 1099511627776) (R : List Asn) (ops : Array Oper) (hops : ops = oFl15I) (hsz : a.tmps.size = 310) (h9 : a.eval (.tmp 9) = .pointer (some ⟨b, 0, none⟩))
    (hS : St w0 fp0 ([blkA b 70 #[vpick false (a.eval (.tmp 266)) xk, vpick false (a.eval (.tmp 271)) xv, xp], pick false (slA 3 (a.eval (.tmp 266)) ((keysI xe).eraseIdx 0)) (slA 3 xk (keysI xe)), pick false (slA 3 (a.eval (.tmp 271)) ((valsI xe).eraseIdx 0)) (slA 3 xv (valsI xe))] ++ R) w)
    (hQ : ∀ (u : Nat → Value) w1, St w0 fp0 ([blkA b 70 #[vpick true (u 266) xk, vpick true (u 271) xv, xp], pick true (slA 3 (u 266) ((keysI xe).eraseIdx 0)) (slA 3 xk (keysI xe)), pick true (slA 3 (u 271) ((valsI xe).eraseIdx 0)) (slA 3 xv (valsI xe))] ++ R) w1 → Q .normal (putL a ((List.range' 260 16).map fun d => (d, u d))) w1) : (Code.region 15 ops true).wp Try.prog Q a w := by
  subst hops
  have hsize : oFl15I.size = 18 := by kernel_rfl
  have hE : Looks (fun L g w => St w0 fp0 ([blkA b 70 #[vpick (L 14) (g 266) xk, vpick (L 17) (g 271) xv, xp], pick (L 6) (slA 3 (g 266) ((keysI xe).eraseIdx 0)) (slA 3 xk (keysI xe)), pick (L 11) (slA 3 (g 271) ((valsI xe).eraseIdx 0)) (slA 3 xv (valsI xe))] ++ R) w) [6, 11, 14, 17] [266, 271] := by
    intro L L' g g' w hL hg h
    simpa only [← hL 6 (by decide), ← hL 11 (by decide), ← hL 14 (by decide), ← hL 17 (by decide), ← hg 266 (by decide), ← hg 271 (by decide)] using h
  have hn1 : (([(0, 260, .pointer (some ⟨b, 0, none⟩)), (1, 261, .pointer (some ⟨b, 0, none⟩)), (2, 262, .pointer (some ⟨b, 0, none⟩)), (3, 263, .pointer (some ⟨b, 0, none⟩)), (4, 264, .pointer (some ⟨b, 0, none⟩)), (5, 265, xk), (7, 267, .pointer (some ⟨b, 0, none⟩)), (8, 268, .pointer (some ⟨b, 0, none⟩)), (9, 269, .pointer (some ⟨b, 1, none⟩)), (10, 270, xv), (12, 272, .pointer (some ⟨b, 0, none⟩)), (13, 273, .pointer (some ⟨b, 0, none⟩)), (15, 274, .pointer (some ⟨b, 0, none⟩)), (16, 275, .pointer (some ⟨b, 1, none⟩))] : List (Nat × Nat × Value)).map (·.1)).Nodup := by
    show List.Nodup [0, 1, 2, 3, 4, 5, 7, 8, 9, 10, 12, 13, 15, 16]
    decide
  have hn2 : (([(0, 260, .pointer (some ⟨b, 0, none⟩)), (1, 261, .pointer (some ⟨b, 0, none⟩)), (2, 262, .pointer (some ⟨b, 0, none⟩)), (3, 263, .pointer (some ⟨b, 0, none⟩)), (4, 264, .pointer (some ⟨b, 0, none⟩)), (5, 265, xk), (7, 267, .pointer (some ⟨b, 0, none⟩)), (8, 268, .pointer (some ⟨b, 0, none⟩)), (9, 269, .pointer (some ⟨b, 1, none⟩)), (10, 270, xv), (12, 272, .pointer (some ⟨b, 0, none⟩)), (13, 273, .pointer (some ⟨b, 0, none⟩)), (15, 274, .pointer (some ⟨b, 0, none⟩)), (16, 275, .pointer (some ⟨b, 1, none⟩))] : List (Nat × Nat × Value)).map (·.2.1)).Nodup := by
    show List.Nodup [260, 261, 262, 263, 264, 265, 267, 268, 269, 270, 272, 273, 274, 275]
    decide
  refine wp_region_vals (ops' := oFl15I) [260, 261, 262, 263, 264, 265, 266, 267, 268, 269, 270, 271, 272, 273, 274, 275] [(0, 260, .pointer (some ⟨b, 0, none⟩)), (1, 261, .pointer (some ⟨b, 0, none⟩)), (2, 262, .pointer (some ⟨b, 0, none⟩)), (3, 263, .pointer (some ⟨b, 0, none⟩)), (4, 264, .pointer (some ⟨b, 0, none⟩)), (5, 265, xk), (7, 267, .pointer (some ⟨b, 0, none⟩)), (8, 268, .pointer (some ⟨b, 0, none⟩)), (9, 269, .pointer (some ⟨b, 1, none⟩)), (10, 270, xv), (12, 272, .pointer (some ⟨b, 0, none⟩)), (13, 273, .pointer (some ⟨b, 0, none⟩)), (15, 274, .pointer (some ⟨b, 0, none⟩)), (16, 275, .pointer (some ⟨b, 1, none⟩))] (fun L g w => St w0 fp0 ([blkA b 70 #[vpick (L 14) (g 266) xk, vpick (L 17) (g 271) xv, xp], pick (L 6) (slA 3 (g 266) ((keysI xe).eraseIdx 0)) (slA 3 xk (keysI xe)), pick (L 11) (slA 3 (g 271) ((valsI xe).eraseIdx 0)) (slA 3 xv (valsI xe))] ++ R) w) rfl (by kernel_rfl) (by kernel_rfl) (hS.mono (below_drew w)) ?_ ?_
  · intro oi o L a1 w1 ho hL hdep hI
    have hoi : oi < 18 := by have := (Array.getElem?_eq_some_iff.1 ho).1; omega
    have h1sz : a1.tmps.size = 310 := hI.frame.size.trans hsz
    rcases (by omega : oi = 0 ∨ oi = 1 ∨ oi = 2 ∨ oi = 3 ∨ oi = 4 ∨ oi = 5 ∨ oi = 6 ∨ oi = 7 ∨ oi = 8 ∨ oi = 9 ∨ oi = 10 ∨ oi = 11 ∨ oi = 12 ∨ oi = 13 ∨ oi = 14 ∨ oi = 15 ∨ oi = 16 ∨ oi = 17) with rfl | rfl | rfl | rfl | rfl | rfl | rfl | rfl | rfl | rfl | rfl | rfl | rfl | rfl | rfl | rfl | rfl | rfl
    · have hl : oFl15I[0]? = some ⟨some 260, Op.move (Operand.tmp 9), _, _, _, none⟩ := rfl
      obtain rfl := oI ho hl
      have x9 := hI.old 9 (.pointer (some ⟨b, 0, none⟩)) (by decide) h9
      exact hI.rd hE hsz 0 260 (.pointer (some ⟨b, 0, none⟩)) ho rfl rfl hdep (by decide) (vals_at hn1 hn2 0 rfl) (by simp [go_sem, execOp, Act.eval, x9])
    · have hl : oFl15I[1]? = some ⟨some 261, Op.move (Operand.tmp 9), _, _, _, none⟩ := rfl
      obtain rfl := oI ho hl
      have x9 := hI.old 9 (.pointer (some ⟨b, 0, none⟩)) (by decide) h9
      exact hI.rd hE hsz 1 261 (.pointer (some ⟨b, 0, none⟩)) ho rfl rfl hdep (by decide) (vals_at hn1 hn2 1 rfl) (by simp [go_sem, execOp, Act.eval, x9])
    · have hl : oFl15I[2]? = some ⟨some 262, Op.move (Operand.tmp 9), _, _, _, none⟩ := rfl
      obtain rfl := oI ho hl
      have x9 := hI.old 9 (.pointer (some ⟨b, 0, none⟩)) (by decide) h9
      exact hI.rd hE hsz 2 262 (.pointer (some ⟨b, 0, none⟩)) ho rfl rfl hdep (by decide) (vals_at hn1 hn2 2 rfl) (by simp [go_sem, execOp, Act.eval, x9])
    · have hl : oFl15I[3]? = some ⟨some 263, Op.nilCheck (Operand.tmp 262), _, _, _, none⟩ := rfl
      obtain rfl := oI ho hl
      have x262 := hI.val 2 262 (.pointer (some ⟨b, 0, none⟩)) (mG (i := 2) rfl) (dK ho hdep (by kernel_rfl : waitsB oFl15I 3 2 = true))
      exact hI.rd hE hsz 3 263 (.pointer (some ⟨b, 0, none⟩)) ho rfl rfl hdep (by decide) (vals_at hn1 hn2 3 rfl) (by simp [go_sem, execOp, Act.eval, x262])
    · have hl : oFl15I[4]? = some ⟨some 264, Op.fieldAddr _ (Operand.tmp 263) 0, _, _, _, none⟩ := rfl
      obtain rfl := oI ho hl
      have x263 := hI.val 3 263 (.pointer (some ⟨b, 0, none⟩)) (mG (i := 3) rfl) (dK ho hdep (by kernel_rfl : waitsB oFl15I 4 3 = true))
      exact hI.rd hE hsz 4 264 (.pointer (some ⟨b, 0, none⟩)) ho rfl rfl hdep (by decide) (vals_at hn1 hn2 4 rfl) (by simp [go_sem, execOp, Act.eval, x263])
    · have hl : oFl15I[5]? = some ⟨some 265, Op.load _ (Operand.tmp 264), _, _, _, none⟩ := rfl
      obtain rfl := oI ho hl
      have x264 := hI.val 4 264 (.pointer (some ⟨b, 0, none⟩)) (mG (i := 4) rfl) (dK ho hdep (by kernel_rfl : waitsB oFl15I 5 4 = true))
      have hS1 := hI.eff
      have e6 : L 6 = false := hI.no hL (by kernel_rfl : waitsB oFl15I 6 5 = true)
      have e11 : L 11 = false := hI.no (hI.no hL (by kernel_rfl : waitsB oFl15I 6 5 = true)) (by kernel_rfl : waitsB oFl15I 11 6 = true)
      have e14 : L 14 = false := hI.no hL (by kernel_rfl : waitsB oFl15I 14 5 = true)
      have e17 : L 17 = false := hI.no hL (by kernel_rfl : waitsB oFl15I 17 5 = true)
      simp only [e6, e11, e14, e17, pick_false, vpick_false] at hS1
      obtain ⟨_, hp⟩ := hS1.has 0 rfl
      have hcell := (blk_get hp).1 0
      have hlt := (blk_get hp).2.2
      simp only [List.getElem?_toArray, List.getElem?_cons_zero] at hcell
      exact hI.rd hE hsz 5 265 (xk) ho rfl rfl hdep (by decide) (vals_at hn1 hn2 5 rfl) (by simp [go_sem, execOp, Act.eval, x264, hcell])
    · have hl : oFl15I[6]? = some ⟨some 266, Op.call ⟨Callee.value (Operand.func _), #[Operand.tmp 265, Operand.const (Value.int IntKind.i64 0), Operand.const (Value.int IntKind.i64 1)], _⟩, _, _, _, none⟩ := rfl
      obtain rfl := oI ho hl
      have x265 := hI.val 5 265 (xk) (mG (i := 5) rfl) (dK ho hdep (by kernel_rfl : waitsB oFl15I 6 5 = true))
      have hS1 := hI.eff
      have e6 : L 6 = false := hL
      have e11 : L 11 = false := hI.no hL (by kernel_rfl : waitsB oFl15I 11 6 = true)
      have e14 : L 14 = false := hI.no hL (by kernel_rfl : waitsB oFl15I 14 6 = true)
      have e17 : L 17 = false := hI.no hL (by kernel_rfl : waitsB oFl15I 17 6 = true)
      simp only [e6, e11, e14, e17, pick_false, vpick_false] at hS1
      obtain ⟨f, hsl, hset⟩ := hS1.get 1 rfl
      refine inv_call ho rfl (f := 73) (by simp [go_sem, Act.eval, x265]) (delI_calls _ _ (0) _ hsl (by rw [keysI_length]; exact hi) (by rw [keysI_length]; exact hlen) (keysI_one xe)) ?_
      rintro e w2 ⟨an, nn, cn, f', rfl, hsl', htr⟩
      refine ⟨_, rfl, hI.put 6 266 _ ho hdep (by decide) (by intro t ht; exact vals_ne2 rfl rfl (by decide : 6 ∉ [0, 1, 2, 3, 4, 5, 7, 8, 9, 10, 12, 13, 15, 16]) (by decide : 266 ∉ [260, 261, 262, 263, 264, 265, 267, 268, 269, 270, 272, 273, 274, 275]) ht) ?_⟩
      have hS2 := hset _ _ _ hsl' htr
      simp only [e6, e11, e14, e17, Bool.or_false, Bool.or_true, Nat.reduceEqDiff, decide_true, decide_false, pick_true, pick_false, vpick_false, eval_put_same (by rw [h1sz]; decide : 266 < a1.tmps.size), eval_put_ne (by decide : 266 ≠ 271)]
      exact hS2
    · have hl : oFl15I[7]? = some ⟨some 267, Op.move (Operand.tmp 9), _, _, _, none⟩ := rfl
      obtain rfl := oI ho hl
      have x9 := hI.old 9 (.pointer (some ⟨b, 0, none⟩)) (by decide) h9
      exact hI.rd hE hsz 7 267 (.pointer (some ⟨b, 0, none⟩)) ho rfl rfl hdep (by decide) (vals_at hn1 hn2 6 rfl) (by simp [go_sem, execOp, Act.eval, x9])
    · have hl : oFl15I[8]? = some ⟨some 268, Op.nilCheck (Operand.tmp 267), _, _, _, none⟩ := rfl
      obtain rfl := oI ho hl
      have x267 := hI.val 7 267 (.pointer (some ⟨b, 0, none⟩)) (mG (i := 6) rfl) (dK ho hdep (by kernel_rfl : waitsB oFl15I 8 7 = true))
      exact hI.rd hE hsz 8 268 (.pointer (some ⟨b, 0, none⟩)) ho rfl rfl hdep (by decide) (vals_at hn1 hn2 7 rfl) (by simp [go_sem, execOp, Act.eval, x267])
    · have hl : oFl15I[9]? = some ⟨some 269, Op.fieldAddr _ (Operand.tmp 268) 1, _, _, _, none⟩ := rfl
      obtain rfl := oI ho hl
      have x268 := hI.val 8 268 (.pointer (some ⟨b, 0, none⟩)) (mG (i := 7) rfl) (dK ho hdep (by kernel_rfl : waitsB oFl15I 9 8 = true))
      exact hI.rd hE hsz 9 269 (.pointer (some ⟨b, 1, none⟩)) ho rfl rfl hdep (by decide) (vals_at hn1 hn2 8 rfl) (by simp [go_sem, execOp, Act.eval, x268])
    · have hl : oFl15I[10]? = some ⟨some 270, Op.load _ (Operand.tmp 269), _, _, _, none⟩ := rfl
      obtain rfl := oI ho hl
      have x269 := hI.val 9 269 (.pointer (some ⟨b, 1, none⟩)) (mG (i := 8) rfl) (dK ho hdep (by kernel_rfl : waitsB oFl15I 10 9 = true))
      have hS1 := hI.eff
      have e11 : L 11 = false := hI.no hL (by kernel_rfl : waitsB oFl15I 11 10 = true)
      have e14 : L 14 = false := hI.no hL (by kernel_rfl : waitsB oFl15I 14 10 = true)
      have e17 : L 17 = false := hI.no hL (by kernel_rfl : waitsB oFl15I 17 10 = true)
      simp only [e11, e14, e17, pick_false, vpick_false] at hS1
      obtain ⟨_, hp⟩ := hS1.has 0 rfl
      have hcell := (blk_get hp).1 1
      have hlt := (blk_get hp).2.2
      simp only [List.getElem?_toArray, List.getElem?_cons_zero, List.getElem?_cons_succ] at hcell
      exact hI.rd hE hsz 10 270 (xv) ho rfl rfl hdep (by decide) (vals_at hn1 hn2 9 rfl) (by simp [go_sem, execOp, Act.eval, x269, hcell])
    · have hl : oFl15I[11]? = some ⟨some 271, Op.call ⟨Callee.value (Operand.func _), #[Operand.tmp 270, Operand.const (Value.int IntKind.i64 0), Operand.const (Value.int IntKind.i64 1)], _⟩, _, _, _, none⟩ := rfl
      obtain rfl := oI ho hl
      have x270 := hI.val 10 270 (xv) (mG (i := 9) rfl) (dK ho hdep (by kernel_rfl : waitsB oFl15I 11 10 = true))
      have hS1 := hI.eff
      have e6 : L 6 = true := dK ho hdep (by kernel_rfl : waitsB oFl15I 11 6 = true)
      have e11 : L 11 = false := hL
      have e14 : L 14 = false := hI.no hL (by kernel_rfl : waitsB oFl15I 14 11 = true)
      have e17 : L 17 = false := hI.no hL (by kernel_rfl : waitsB oFl15I 17 11 = true)
      simp only [e6, e11, e14, e17, pick_true, pick_false, vpick_false] at hS1
      obtain ⟨f, hsl, hset⟩ := hS1.get 2 rfl
      refine inv_call ho rfl (f := 73) (by simp [go_sem, Act.eval, x270]) (delI_calls _ _ (0) _ hsl (by rw [valsI_length]; exact hi) (by rw [valsI_length]; exact hlen) (valsI_one xe)) ?_
      rintro e w2 ⟨an, nn, cn, f', rfl, hsl', htr⟩
      refine ⟨_, rfl, hI.put 11 271 _ ho hdep (by decide) (by intro t ht; exact vals_ne2 rfl rfl (by decide : 11 ∉ [0, 1, 2, 3, 4, 5, 7, 8, 9, 10, 12, 13, 15, 16]) (by decide : 271 ∉ [260, 261, 262, 263, 264, 265, 267, 268, 269, 270, 272, 273, 274, 275]) ht) ?_⟩
      have hS2 := hset _ _ _ hsl' htr
      simp only [e6, e11, e14, e17, Bool.or_false, Bool.or_true, Nat.reduceEqDiff, decide_true, decide_false, pick_true, vpick_false, eval_put_same (by rw [h1sz]; decide : 271 < a1.tmps.size), eval_put_ne (by decide : 271 ≠ 266)]
      exact hS2
    · have hl : oFl15I[12]? = some ⟨some 272, Op.nilCheck (Operand.tmp 260), _, _, _, none⟩ := rfl
      obtain rfl := oI ho hl
      have x260 := hI.val 0 260 (.pointer (some ⟨b, 0, none⟩)) (mG (i := 0) rfl) (dK ho hdep (by kernel_rfl : waitsB oFl15I 12 0 = true))
      exact hI.rd hE hsz 12 272 (.pointer (some ⟨b, 0, none⟩)) ho rfl rfl hdep (by decide) (vals_at hn1 hn2 10 rfl) (by simp [go_sem, execOp, Act.eval, x260])
    · have hl : oFl15I[13]? = some ⟨some 273, Op.fieldAddr _ (Operand.tmp 272) 0, _, _, _, none⟩ := rfl
      obtain rfl := oI ho hl
      have x272 := hI.val 12 272 (.pointer (some ⟨b, 0, none⟩)) (mG (i := 10) rfl) (dK ho hdep (by kernel_rfl : waitsB oFl15I 13 12 = true))
      exact hI.rd hE hsz 13 273 (.pointer (some ⟨b, 0, none⟩)) ho rfl rfl hdep (by decide) (vals_at hn1 hn2 11 rfl) (by simp [go_sem, execOp, Act.eval, x272])
    · have hl : oFl15I[14]? = some ⟨none, Op.store _ (Operand.tmp 273) (Operand.tmp 266), _, _, _, none⟩ := rfl
      obtain rfl := oI ho hl
      have x273 := hI.val 13 273 (.pointer (some ⟨b, 0, none⟩)) (mG (i := 11) rfl) (dK ho hdep (by kernel_rfl : waitsB oFl15I 14 13 = true))
      have hS1 := hI.eff
      have e6 : L 6 = true := dK ho hdep (by kernel_rfl : waitsB oFl15I 14 6 = true)
      have e11 : L 11 = true := dK ho hdep (by kernel_rfl : waitsB oFl15I 14 11 = true)
      have e14 : L 14 = false := hL
      have e17 : L 17 = false := hI.no hL (by kernel_rfl : waitsB oFl15I 17 14 = true)
      simp only [e6, e11, e14, e17, pick_true, vpick_false] at hS1
      obtain ⟨_, hpv⟩ := hS1.has 1 rfl
      obtain ⟨av, nv, cv, hv⟩ := sl_shape hpv
      have xv := eval_spell hv
      obtain ⟨f, hp, hset⟩ := hS1.get 0 rfl
      have hcell := (blk_get hp).1 0
      have hfz := (blk_get hp).2.1 0
      have hlt := (blk_get hp).2.2
      simp only [List.getElem?_toArray, List.getElem?_cons_zero] at hcell
      refine inv_stored ho rfl rfl (by simp [go_sem, execOp, Act.eval, x273, xv, hcell, hfz]; rfl) (hI.step 14 ho hdep (by intro t ht; exact vals_ne1 rfl (by decide : 14 ∉ [0, 1, 2, 3, 4, 5, 7, 8, 9, 10, 12, 13, 15, 16]) ht) ?_)
      obtain ⟨hb2, ht2⟩ := blk_set hp 0 (a1.eval (.tmp 266))
      have hS2 := hset _ _ _ hb2 ht2
      simp only [e6, e11, e14, e17, Bool.or_false, Bool.or_true, Nat.reduceEqDiff, decide_true, decide_false, pick_true, vpick_true, vpick_false]
      rw [hv] at hS2
      rw [hv]
      exact hS2
    · have hl : oFl15I[15]? = some ⟨some 274, Op.nilCheck (Operand.tmp 261), _, _, _, none⟩ := rfl
      obtain rfl := oI ho hl
      have x261 := hI.val 1 261 (.pointer (some ⟨b, 0, none⟩)) (mG (i := 1) rfl) (dK ho hdep (by kernel_rfl : waitsB oFl15I 15 1 = true))
      exact hI.rd hE hsz 15 274 (.pointer (some ⟨b, 0, none⟩)) ho rfl rfl hdep (by decide) (vals_at hn1 hn2 12 rfl) (by simp [go_sem, execOp, Act.eval, x261])
    · have hl : oFl15I[16]? = some ⟨some 275, Op.fieldAddr _ (Operand.tmp 274) 1, _, _, _, none⟩ := rfl
      obtain rfl := oI ho hl
      have x274 := hI.val 15 274 (.pointer (some ⟨b, 0, none⟩)) (mG (i := 12) rfl) (dK ho hdep (by kernel_rfl : waitsB oFl15I 16 15 = true))
      exact hI.rd hE hsz 16 275 (.pointer (some ⟨b, 1, none⟩)) ho rfl rfl hdep (by decide) (vals_at hn1 hn2 13 rfl) (by simp [go_sem, execOp, Act.eval, x274])
    · have hl : oFl15I[17]? = some ⟨none, Op.store _ (Operand.tmp 275) (Operand.tmp 271), _, _, _, none⟩ := rfl
      obtain rfl := oI ho hl
      have x275 := hI.val 16 275 (.pointer (some ⟨b, 1, none⟩)) (mG (i := 13) rfl) (dK ho hdep (by kernel_rfl : waitsB oFl15I 17 16 = true))
      have hS1 := hI.eff
      have e6 : L 6 = true := dK ho hdep (by kernel_rfl : waitsB oFl15I 17 6 = true)
      have e11 : L 11 = true := dK ho hdep (by kernel_rfl : waitsB oFl15I 17 11 = true)
      have e14 : L 14 = true := dK ho hdep (by kernel_rfl : waitsB oFl15I 17 14 = true)
      have e17 : L 17 = false := hL
      simp only [e6, e11, e14, e17, pick_true, vpick_true, vpick_false] at hS1
      obtain ⟨_, hpv⟩ := hS1.has 2 rfl
      obtain ⟨av, nv, cv, hv⟩ := sl_shape hpv
      have xv := eval_spell hv
      obtain ⟨f, hp, hset⟩ := hS1.get 0 rfl
      have hcell := (blk_get hp).1 1
      have hfz := (blk_get hp).2.1 1
      have hlt := (blk_get hp).2.2
      simp only [List.getElem?_toArray, List.getElem?_cons_zero, List.getElem?_cons_succ] at hcell
      refine inv_stored ho rfl rfl (by simp [go_sem, execOp, Act.eval, x275, xv, hcell, hfz]; rfl) (hI.step 17 ho hdep (by intro t ht; exact vals_ne1 rfl (by decide : 17 ∉ [0, 1, 2, 3, 4, 5, 7, 8, 9, 10, 12, 13, 15, 16]) ht) ?_)
      obtain ⟨hb2, ht2⟩ := blk_set hp 1 (a1.eval (.tmp 271))
      have hS2 := hset _ _ _ hb2 ht2
      simp only [e6, e11, e14, e17, Bool.or_false, Bool.or_true, Nat.reduceEqDiff, decide_true, decide_false, pick_true, vpick_true]
      rw [hv] at hS2
      rw [hv]
      exact hS2
  · intro L a1 w1 hL hI
    have hS1 := hI.eff
    simp only [hL 6 (by rw [hsize]; decide), hL 11 (by rw [hsize]; decide), hL 14 (by rw [hsize]; decide), hL 17 (by rw [hsize]; decide), pick_true, vpick_true] at hS1
    have := hQ (fun d => a1.eval (.tmp d)) w1  hS1
    have e := hI.frame.eq
    rw [e]
    exact this
noncomputable def oFl16I : Array Oper := ((Try.f75.body).bind fun c => opsOf c 16).getD #[]
set_option maxHeartbeats 4000000 in
set_option maxRecDepth 100000 in
theorem rFl16I {Q : Exit → Act → World → Prop} {a : Act} {w w0 : World} {fp0 : List Nat} (lb lz lcap : Nat) (la : Option Addr) (lk lv : Value) (R : List Asn) (ops : Array Oper) (hops : ops = oFl16I) (hsz : a.tmps.size = 310) (h9 : a.eval (.tmp 9) = .pointer (some ⟨lb, 0, none⟩))
    (hS : St w0 fp0 ([pick false (pureA ((a.eval (.tmp 277)) = .bool (lz == 0))) emp, blkA lb 70 #[lk, lv, .slice la lz lcap]] ++ R) w)
    (hQ : ∀ (u : Nat → Value) w1, (u 278 = .bool (!(lz == 0))) → St w0 fp0 ([pick true (pureA ((u 277) = .bool (lz == 0))) emp, blkA lb 70 #[lk, lv, .slice la lz lcap]] ++ R) w1 → Q .normal (putL a ((List.range' 276 3).map fun d => (d, u d))) w1) : (Code.region 16 ops false).wp Try.prog Q a w := by
  subst hops
  have hsize : oFl16I.size = 3 := by kernel_rfl
  have hE : Looks (fun L g w => St w0 fp0 ([pick (L 1) (pureA ((g 277) = .bool (lz == 0))) emp, blkA lb 70 #[lk, lv, .slice la lz lcap]] ++ R) w) [1] [277] := by
    intro L L' g g' w hL hg h
    simpa only [← hL 1 (by decide), ← hg 277 (by decide)] using h
  have hn1 : (([(0, 276, .pointer (some ⟨lb, 0, none⟩)), (2, 278, .bool (!(lz == 0)))] : List (Nat × Nat × Value)).map (·.1)).Nodup := by
    show List.Nodup [0, 2]
    decide
  have hn2 : (([(0, 276, .pointer (some ⟨lb, 0, none⟩)), (2, 278, .bool (!(lz == 0)))] : List (Nat × Nat × Value)).map (·.2.1)).Nodup := by
    show List.Nodup [276, 278]
    decide
  refine wp_region_vals0 (ops' := oFl16I) [276, 277, 278] [(0, 276, .pointer (some ⟨lb, 0, none⟩)), (2, 278, .bool (!(lz == 0)))] (fun L g w => St w0 fp0 ([pick (L 1) (pureA ((g 277) = .bool (lz == 0))) emp, blkA lb 70 #[lk, lv, .slice la lz lcap]] ++ R) w) rfl (by kernel_rfl) hS ?_ ?_
  · intro oi o L a1 w1 ho hL hdep hI
    have hoi : oi < 3 := by have := (Array.getElem?_eq_some_iff.1 ho).1; omega
    have h1sz : a1.tmps.size = 310 := hI.frame.size.trans hsz
    rcases (by omega : oi = 0 ∨ oi = 1 ∨ oi = 2) with rfl | rfl | rfl
    · have hl : oFl16I[0]? = some ⟨some 276, Op.move (Operand.tmp 9), _, _, _, none⟩ := rfl
      obtain rfl := oI ho hl
      have x9 := hI.old 9 (.pointer (some ⟨lb, 0, none⟩)) (by decide) h9
      exact hI.rd hE hsz 0 276 (.pointer (some ⟨lb, 0, none⟩)) ho rfl rfl hdep (by decide) (vals_at hn1 hn2 0 rfl) (by simp [go_sem, execOp, Act.eval, x9])
    · have hl : oFl16I[1]? = some ⟨some 277, Op.call ⟨Callee.value (Operand.func _), #[Operand.tmp 276], _⟩, _, _, _, none⟩ := rfl
      obtain rfl := oI ho hl
      have x276 := hI.val 0 276 (.pointer (some ⟨lb, 0, none⟩)) (mG (i := 0) rfl) (dK ho hdep (by kernel_rfl : waitsB oFl16I 1 0 = true))
      have hS1 := hI.eff
      have e1 : L 1 = false := hL
      simp only [e1, pick_false] at hS1
      obtain ⟨_, hp⟩ := hS1.has 1 rfl
      refine inv_call ho rfl (f := 53) (by simp [go_sem, Act.eval, x276, ptrI]) (leafI_calls lb _ _ la lz lcap w1 hp) ?_
      rintro e w2 ⟨rfl, rfl⟩
      refine ⟨_, rfl, hI.put 1 277 _ ho hdep (by decide) (by intro t ht; exact vals_ne2 rfl rfl (by decide : 1 ∉ [0, 2]) (by decide : 277 ∉ [276, 278]) ht) ?_⟩
      have hS2 := hS1.setP 0 rfl True trivial
      simp only [e1, Bool.or_true, decide_true, pick_true, eval_put_same (by rw [h1sz]; decide : 277 < a1.tmps.size)]
      exact hS2
    · have hl : oFl16I[2]? = some ⟨some 278, Op.unOp UnOp.not _ (Operand.tmp 277), _, _, _, none⟩ := rfl
      obtain rfl := oI ho hl
      have hS1 := hI.eff
      have e1 : L 1 = true := dK ho hdep (by kernel_rfl : waitsB oFl16I 2 1 = true)
      simp only [e1, pick_true] at hS1
      obtain ⟨_, hP, _⟩ := hS1.has 0 rfl
      have hcell := eval_spell hP
      exact hI.rd hE hsz 2 278 (.bool (!(lz == 0))) ho rfl rfl hdep (by decide) (vals_at hn1 hn2 1 rfl) (by simp [go_sem, execOp, Act.eval, hcell])
  · intro L a1 w1 hL hI
    have hS1 := hI.eff
    simp only [hL 1 (by rw [hsize]; decide), pick_true] at hS1
    have := hQ (fun d => a1.eval (.tmp d)) w1 (hI.vals (2, 278, .bool (!(lz == 0))) (mG (i := 1) rfl) (hL 2 (by rw [hsize]; decide))) hS1
    have e := hI.frame.eq
    rw [e]
    exact this
noncomputable def oFl17I : Array Oper := ((Try.f75.body).bind fun c => opsOf c 17).getD #[]
set_option maxHeartbeats 4000000 in
set_option maxRecDepth 100000 in
theorem rFl17I {Q : Exit → Act → World → Prop} {a : Act} {w w0 : World} {fp0 : List Nat} (cb lb gp np cp : Nat) (ck cv cpp lk lv : Value) (bs lbs : List Nat) (q : Nat) (hq : lbs[0]? = some q) (hmk : 0 < np) (hek : np = lbs.length) (hlx : bs.length + 1 < 1099511627776) (R : List Asn) (ops : Array Oper) (hops : ops = oFl17I) (hsz : a.tmps.size = 310) (h6 : a.eval (.tmp 6) = .pointer (some ⟨cb, 0, none⟩)) (h9 : a.eval (.tmp 9) = .pointer (some ⟨lb, 0, none⟩))
    (hS : St w0 fp0 ([pick false (boxA 67 (a.eval (.tmp 290)) (.pointer (some ⟨q, 0, none⟩))) emp, blkA cb 70 #[ck, cv, vpick false (a.eval (.tmp 291)) cpp], pick false (slA 67 (a.eval (.tmp 291)) (bs.map ptrI ++ [.pointer (some ⟨q, 0, none⟩)])) (slA 67 cpp (bs.map ptrI)), blkA lb 70 #[lk, lv, .slice (some ⟨gp, 0, none⟩) np cp], slA 67 (.slice (some ⟨gp, 0, none⟩) np cp) (lbs.map ptrI)] ++ R) w)
    (hQ : ∀ (u : Nat → Value) w1, St w0 fp0 ([pick true (boxA 67 (u 290) (.pointer (some ⟨q, 0, none⟩))) emp, blkA cb 70 #[ck, cv, vpick true (u 291) cpp], pick true (slA 67 (u 291) (bs.map ptrI ++ [.pointer (some ⟨q, 0, none⟩)])) (slA 67 cpp (bs.map ptrI)), blkA lb 70 #[lk, lv, .slice (some ⟨gp, 0, none⟩) np cp], slA 67 (.slice (some ⟨gp, 0, none⟩) np cp) (lbs.map ptrI)] ++ R) w1 → Q .normal (putL a ((List.range' 279 15).map fun d => (d, u d))) w1) : (Code.region 17 ops true).wp Try.prog Q a w := by
  subst hops
  have hyq : ∀ h, (lbs.map ptrI)[0]'h = .pointer (some ⟨q, 0, none⟩) := by intro h; simp only [List.getElem_map]; rw [(List.getElem?_eq_some_iff.1 hq).2]; rfl
  have hsize : oFl17I.size = 16 := by kernel_rfl
  have hE : Looks (fun L g w => St w0 fp0 ([pick (L 11) (boxA 67 (g 290) (.pointer (some ⟨q, 0, none⟩))) emp, blkA cb 70 #[ck, cv, vpick (L 15) (g 291) cpp], pick (L 12) (slA 67 (g 291) (bs.map ptrI ++ [.pointer (some ⟨q, 0, none⟩)])) (slA 67 cpp (bs.map ptrI)), blkA lb 70 #[lk, lv, .slice (some ⟨gp, 0, none⟩) np cp], slA 67 (.slice (some ⟨gp, 0, none⟩) np cp) (lbs.map ptrI)] ++ R) w) [11, 12, 15] [290, 291] := by
    intro L L' g g' w hL hg h
    simpa only [← hL 11 (by decide), ← hL 12 (by decide), ← hL 15 (by decide), ← hg 290 (by decide), ← hg 291 (by decide)] using h
  have hn1 : (([(0, 279, .pointer (some ⟨cb, 0, none⟩)), (1, 280, .pointer (some ⟨cb, 0, none⟩)), (2, 281, .pointer (some ⟨cb, 0, none⟩)), (3, 282, .pointer (some ⟨cb, 2, none⟩)), (4, 283, cpp), (5, 284, .pointer (some ⟨lb, 0, none⟩)), (6, 285, .pointer (some ⟨lb, 0, none⟩)), (7, 286, .pointer (some ⟨lb, 2, none⟩)), (8, 287, .slice (some ⟨gp, 0, none⟩) np cp), (9, 288, .pointer (some ⟨gp, 0, none⟩)), (10, 289, .pointer (some ⟨q, 0, none⟩)), (13, 292, .pointer (some ⟨cb, 0, none⟩)), (14, 293, .pointer (some ⟨cb, 2, none⟩))] : List (Nat × Nat × Value)).map (·.1)).Nodup := by
    show List.Nodup [0, 1, 2, 3, 4, 5, 6, 7, 8, 9, 10, 13, 14]
    decide
  have hn2 : (([(0, 279, .pointer (some ⟨cb, 0, none⟩)), (1, 280, .pointer (some ⟨cb, 0, none⟩)), (2, 281, .pointer (some ⟨cb, 0, none⟩)), (3, 282, .pointer (some ⟨cb, 2, none⟩)), (4, 283, cpp), (5, 284, .pointer (some ⟨lb, 0, none⟩)), (6, 285, .pointer (some ⟨lb, 0, none⟩)), (7, 286, .pointer (some ⟨lb, 2, none⟩)), (8, 287, .slice (some ⟨gp, 0, none⟩) np cp), (9, 288, .pointer (some ⟨gp, 0, none⟩)), (10, 289, .pointer (some ⟨q, 0, none⟩)), (13, 292, .pointer (some ⟨cb, 0, none⟩)), (14, 293, .pointer (some ⟨cb, 2, none⟩))] : List (Nat × Nat × Value)).map (·.2.1)).Nodup := by
    show List.Nodup [279, 280, 281, 282, 283, 284, 285, 286, 287, 288, 289, 292, 293]
    decide
  refine wp_region_vals (ops' := oFl17I) [279, 280, 281, 282, 283, 284, 285, 286, 287, 288, 289, 290, 291, 292, 293] [(0, 279, .pointer (some ⟨cb, 0, none⟩)), (1, 280, .pointer (some ⟨cb, 0, none⟩)), (2, 281, .pointer (some ⟨cb, 0, none⟩)), (3, 282, .pointer (some ⟨cb, 2, none⟩)), (4, 283, cpp), (5, 284, .pointer (some ⟨lb, 0, none⟩)), (6, 285, .pointer (some ⟨lb, 0, none⟩)), (7, 286, .pointer (some ⟨lb, 2, none⟩)), (8, 287, .slice (some ⟨gp, 0, none⟩) np cp), (9, 288, .pointer (some ⟨gp, 0, none⟩)), (10, 289, .pointer (some ⟨q, 0, none⟩)), (13, 292, .pointer (some ⟨cb, 0, none⟩)), (14, 293, .pointer (some ⟨cb, 2, none⟩))] (fun L g w => St w0 fp0 ([pick (L 11) (boxA 67 (g 290) (.pointer (some ⟨q, 0, none⟩))) emp, blkA cb 70 #[ck, cv, vpick (L 15) (g 291) cpp], pick (L 12) (slA 67 (g 291) (bs.map ptrI ++ [.pointer (some ⟨q, 0, none⟩)])) (slA 67 cpp (bs.map ptrI)), blkA lb 70 #[lk, lv, .slice (some ⟨gp, 0, none⟩) np cp], slA 67 (.slice (some ⟨gp, 0, none⟩) np cp) (lbs.map ptrI)] ++ R) w) rfl (by kernel_rfl) (by kernel_rfl) (hS.mono (below_drew w)) ?_ ?_
  · intro oi o L a1 w1 ho hL hdep hI
    have hoi : oi < 16 := by have := (Array.getElem?_eq_some_iff.1 ho).1; omega
    have h1sz : a1.tmps.size = 310 := hI.frame.size.trans hsz
    rcases (by omega : oi = 0 ∨ oi = 1 ∨ oi = 2 ∨ oi = 3 ∨ oi = 4 ∨ oi = 5 ∨ oi = 6 ∨ oi = 7 ∨ oi = 8 ∨ oi = 9 ∨ oi = 10 ∨ oi = 11 ∨ oi = 12 ∨ oi = 13 ∨ oi = 14 ∨ oi = 15) with rfl | rfl | rfl | rfl | rfl | rfl | rfl | rfl | rfl | rfl | rfl | rfl | rfl | rfl | rfl | rfl
    · have hl : oFl17I[0]? = some ⟨some 279, Op.move (Operand.tmp 6), _, _, _, none⟩ := rfl
      obtain rfl := oI ho hl
      have x6 := hI.old 6 (.pointer (some ⟨cb, 0, none⟩)) (by decide) h6
      exact hI.rd hE hsz 0 279 (.pointer (some ⟨cb, 0, none⟩)) ho rfl rfl hdep (by decide) (vals_at hn1 hn2 0 rfl) (by simp [go_sem, execOp, Act.eval, x6])
    · have hl : oFl17I[1]? = some ⟨some 280, Op.move (Operand.tmp 6), _, _, _, none⟩ := rfl
      obtain rfl := oI ho hl
      have x6 := hI.old 6 (.pointer (some ⟨cb, 0, none⟩)) (by decide) h6
      exact hI.rd hE hsz 1 280 (.pointer (some ⟨cb, 0, none⟩)) ho rfl rfl hdep (by decide) (vals_at hn1 hn2 1 rfl) (by simp [go_sem, execOp, Act.eval, x6])
    · have hl : oFl17I[2]? = some ⟨some 281, Op.nilCheck (Operand.tmp 280), _, _, _, none⟩ := rfl
      obtain rfl := oI ho hl
      have x280 := hI.val 1 280 (.pointer (some ⟨cb, 0, none⟩)) (mG (i := 1) rfl) (dK ho hdep (by kernel_rfl : waitsB oFl17I 2 1 = true))
      exact hI.rd hE hsz 2 281 (.pointer (some ⟨cb, 0, none⟩)) ho rfl rfl hdep (by decide) (vals_at hn1 hn2 2 rfl) (by simp [go_sem, execOp, Act.eval, x280])
    · have hl : oFl17I[3]? = some ⟨some 282, Op.fieldAddr _ (Operand.tmp 281) 2, _, _, _, none⟩ := rfl
      obtain rfl := oI ho hl
      have x281 := hI.val 2 281 (.pointer (some ⟨cb, 0, none⟩)) (mG (i := 2) rfl) (dK ho hdep (by kernel_rfl : waitsB oFl17I 3 2 = true))
      exact hI.rd hE hsz 3 282 (.pointer (some ⟨cb, 2, none⟩)) ho rfl rfl hdep (by decide) (vals_at hn1 hn2 3 rfl) (by simp [go_sem, execOp, Act.eval, x281])
    · have hl : oFl17I[4]? = some ⟨some 283, Op.load _ (Operand.tmp 282), _, _, _, none⟩ := rfl
      obtain rfl := oI ho hl
      have x282 := hI.val 3 282 (.pointer (some ⟨cb, 2, none⟩)) (mG (i := 3) rfl) (dK ho hdep (by kernel_rfl : waitsB oFl17I 4 3 = true))
      have hS1 := hI.eff
      have e12 : L 12 = false := hI.no hL (by kernel_rfl : waitsB oFl17I 12 4 = true)
      have e15 : L 15 = false := hI.no hL (by kernel_rfl : waitsB oFl17I 15 4 = true)
      simp only [e12, e15, pick_false, vpick_false] at hS1
      obtain ⟨_, hp⟩ := hS1.has 1 rfl
      have hcell := (blk_get hp).1 2
      have hlt := (blk_get hp).2.2
      simp only [List.getElem?_toArray, List.getElem?_cons_zero, List.getElem?_cons_succ] at hcell
      exact hI.rd hE hsz 4 283 (cpp) ho rfl rfl hdep (by decide) (vals_at hn1 hn2 4 rfl) (by simp [go_sem, execOp, Act.eval, x282, hcell])
    · have hl : oFl17I[5]? = some ⟨some 284, Op.move (Operand.tmp 9), _, _, _, none⟩ := rfl
      obtain rfl := oI ho hl
      have x9 := hI.old 9 (.pointer (some ⟨lb, 0, none⟩)) (by decide) h9
      exact hI.rd hE hsz 5 284 (.pointer (some ⟨lb, 0, none⟩)) ho rfl rfl hdep (by decide) (vals_at hn1 hn2 5 rfl) (by simp [go_sem, execOp, Act.eval, x9])
    · have hl : oFl17I[6]? = some ⟨some 285, Op.nilCheck (Operand.tmp 284), _, _, _, none⟩ := rfl
      obtain rfl := oI ho hl
      have x284 := hI.val 5 284 (.pointer (some ⟨lb, 0, none⟩)) (mG (i := 5) rfl) (dK ho hdep (by kernel_rfl : waitsB oFl17I 6 5 = true))
      exact hI.rd hE hsz 6 285 (.pointer (some ⟨lb, 0, none⟩)) ho rfl rfl hdep (by decide) (vals_at hn1 hn2 6 rfl) (by simp [go_sem, execOp, Act.eval, x284])
    · have hl : oFl17I[7]? = some ⟨some 286, Op.fieldAddr _ (Operand.tmp 285) 2, _, _, _, none⟩ := rfl
      obtain rfl := oI ho hl
      have x285 := hI.val 6 285 (.pointer (some ⟨lb, 0, none⟩)) (mG (i := 6) rfl) (dK ho hdep (by kernel_rfl : waitsB oFl17I 7 6 = true))
      exact hI.rd hE hsz 7 286 (.pointer (some ⟨lb, 2, none⟩)) ho rfl rfl hdep (by decide) (vals_at hn1 hn2 7 rfl) (by simp [go_sem, execOp, Act.eval, x285])
    · have hl : oFl17I[8]? = some ⟨some 287, Op.load _ (Operand.tmp 286), _, _, _, none⟩ := rfl
      obtain rfl := oI ho hl
      have x286 := hI.val 7 286 (.pointer (some ⟨lb, 2, none⟩)) (mG (i := 7) rfl) (dK ho hdep (by kernel_rfl : waitsB oFl17I 8 7 = true))
      have hS1 := hI.eff
      have e15 : L 15 = false := hI.no hL (by kernel_rfl : waitsB oFl17I 15 8 = true)
      simp only [e15, vpick_false] at hS1
      obtain ⟨_, hp⟩ := hS1.has 3 rfl
      have hcell := (blk_get hp).1 2
      have hlt := (blk_get hp).2.2
      simp only [List.getElem?_toArray, List.getElem?_cons_zero, List.getElem?_cons_succ] at hcell
      exact hI.rd hE hsz 8 287 (.slice (some ⟨gp, 0, none⟩) np cp) ho rfl rfl hdep (by decide) (vals_at hn1 hn2 8 rfl) (by simp [go_sem, execOp, Act.eval, x286, hcell])
    · have hl : oFl17I[9]? = some ⟨some 288, Op.indexAddr _ (Operand.tmp 287) (Operand.const (Value.int IntKind.i64 0)), _, _, _, none⟩ := rfl
      obtain rfl := oI ho hl
      have x287 := hI.val 8 287 (.slice (some ⟨gp, 0, none⟩) np cp) (mG (i := 8) rfl) (dK ho hdep (by kernel_rfl : waitsB oFl17I 9 8 = true))
      exact hI.rd hE hsz 9 288 (.pointer (some ⟨gp, 0, none⟩)) ho rfl rfl hdep (by decide) (vals_at hn1 hn2 9 rfl) (by simp [go_sem, execOp, Act.eval, x287, hmk])
    · have hl : oFl17I[10]? = some ⟨some 289, Op.load _ (Operand.tmp 288), _, _, _, none⟩ := rfl
      obtain rfl := oI ho hl
      have x288 := hI.val 9 288 (.pointer (some ⟨gp, 0, none⟩)) (mG (i := 9) rfl) (dK ho hdep (by kernel_rfl : waitsB oFl17I 10 9 = true))
      have hS1 := hI.eff
      have e11 : L 11 = false := hI.no hL (by kernel_rfl : waitsB oFl17I 11 10 = true)
      have e12 : L 12 = false := hI.no (hI.no hL (by kernel_rfl : waitsB oFl17I 11 10 = true)) (by kernel_rfl : waitsB oFl17I 12 11 = true)
      have e15 : L 15 = false := hI.no hL (by kernel_rfl : waitsB oFl17I 15 10 = true)
      simp only [e11, e12, e15, pick_false, vpick_false] at hS1
      obtain ⟨_, hp⟩ := hS1.has 4 rfl
      obtain ⟨hcell, _, hlt, _⟩ := sl_elem hp (0) (by rw [List.length_map]; omega)
      rw [hyq] at hcell
      exact hI.rd hE hsz 10 289 (.pointer (some ⟨q, 0, none⟩)) ho rfl rfl hdep (by decide) (vals_at hn1 hn2 10 rfl) (by simp [go_sem, execOp, Act.eval, x288, hcell])
    · have hl : oFl17I[11]? = some ⟨some 290, Op.buildSlice _ 1 #[(0, Operand.tmp 289)], _, _, _, none⟩ := rfl
      obtain rfl := oI ho hl
      have x289 := hI.val 10 289 (.pointer (some ⟨q, 0, none⟩)) (mG (i := 10) rfl) (dK ho hdep (by kernel_rfl : waitsB oFl17I 11 10 = true))
      have hS1 := hI.eff
      have e11 : L 11 = false := hL
      have e12 : L 12 = false := hI.no hL (by kernel_rfl : waitsB oFl17I 12 11 = true)
      have e15 : L 15 = false := hI.no hL (by kernel_rfl : waitsB oFl17I 15 11 = true)
      simp only [e11, e12, e15, pick_false, vpick_false] at hS1
      refine inv_value ho rfl (v := .slice (some ⟨w1.heap.size, 0, none⟩) 1 1) (w' := w1.alloc (.cells #[.pointer (some ⟨q, 0, none⟩)] 67)) (by simp [go_sem, execOp, Act.eval, x289]) (hI.put 11 290 _ ho hdep (by decide) (by intro t ht; exact vals_ne2 rfl rfl (by decide : 11 ∉ [0, 1, 2, 3, 4, 5, 6, 7, 8, 9, 10, 13, 14]) (by decide : 290 ∉ [279, 280, 281, 282, 283, 284, 285, 286, 287, 288, 289, 292, 293]) ht) ?_)
      have hS2 := St.box hS1 0 rfl 67 (.pointer (some ⟨q, 0, none⟩))
      simp only [e11, e12, e15, Bool.or_false, Bool.or_true, Nat.reduceEqDiff, decide_true, decide_false, pick_true, pick_false, vpick_false, eval_put_same (by rw [h1sz]; decide : 290 < a1.tmps.size), eval_put_ne (by decide : 290 ≠ 291)]
      exact hS2
    · have hl : oFl17I[12]? = some ⟨some 291, Op.call ⟨Callee.builtin Builtin.append, #[Operand.tmp 283, Operand.tmp 290], _⟩, _, _, _, none⟩ := rfl
      obtain rfl := oI ho hl
      have x283 := hI.val 4 283 (cpp) (mG (i := 4) rfl) (dK ho hdep (by kernel_rfl : waitsB oFl17I 12 4 = true))
      have hS1 := hI.eff
      have e11 : L 11 = true := dK ho hdep (by kernel_rfl : waitsB oFl17I 12 11 = true)
      have e12 : L 12 = false := hL
      have e15 : L 15 = false := hI.no hL (by kernel_rfl : waitsB oFl17I 15 12 = true)
      simp only [e11, e12, e15, pick_true, pick_false, vpick_false] at hS1
      obtain ⟨f, g, hbx, hrw, _, _, hset⟩ := hS1.two 0 2 (by decide) rfl rfl
      obtain ⟨vb, hgb, hvb, rfl⟩ := hbx
      obtain ⟨v2, w2, f2, hr2, ho2, ht2⟩ := appbP w1 _ hrw vb _ _ hvb rfl (by rw [List.length_map]; omega)
      refine inv_value ho rfl (v := v2) (w' := w2) (run_append_op (s := .tmp 283) (x := .tmp 290) (t := 68) rfl (spell_eval x283) hgb hr2) (hI.put 12 291 _ ho hdep (by decide) (by intro t ht; exact vals_ne2 rfl rfl (by decide : 12 ∉ [0, 1, 2, 3, 4, 5, 6, 7, 8, 9, 10, 13, 14]) (by decide : 291 ∉ [279, 280, 281, 282, 283, 284, 285, 286, 287, 288, 289, 292, 293]) ht) ?_)
      have hS2 := hset _ _ _ ho2 ht2
      simp only [e11, e12, e15, Bool.or_false, Bool.or_true, Nat.reduceEqDiff, decide_true, decide_false, pick_true, vpick_false, eval_put_same (by rw [h1sz]; decide : 291 < a1.tmps.size), eval_put_ne (by decide : 291 ≠ 290)]
      exact hS2
    · have hl : oFl17I[13]? = some ⟨some 292, Op.nilCheck (Operand.tmp 279), _, _, _, none⟩ := rfl
      obtain rfl := oI ho hl
      have x279 := hI.val 0 279 (.pointer (some ⟨cb, 0, none⟩)) (mG (i := 0) rfl) (dK ho hdep (by kernel_rfl : waitsB oFl17I 13 0 = true))
      exact hI.rd hE hsz 13 292 (.pointer (some ⟨cb, 0, none⟩)) ho rfl rfl hdep (by decide) (vals_at hn1 hn2 11 rfl) (by simp [go_sem, execOp, Act.eval, x279])
    · have hl : oFl17I[14]? = some ⟨some 293, Op.fieldAddr _ (Operand.tmp 292) 2, _, _, _, none⟩ := rfl
      obtain rfl := oI ho hl
      have x292 := hI.val 13 292 (.pointer (some ⟨cb, 0, none⟩)) (mG (i := 11) rfl) (dK ho hdep (by kernel_rfl : waitsB oFl17I 14 13 = true))
      exact hI.rd hE hsz 14 293 (.pointer (some ⟨cb, 2, none⟩)) ho rfl rfl hdep (by decide) (vals_at hn1 hn2 12 rfl) (by simp [go_sem, execOp, Act.eval, x292])
    · have hl : oFl17I[15]? = some ⟨none, Op.store _ (Operand.tmp 293) (Operand.tmp 291), _, _, _, none⟩ := rfl
      obtain rfl := oI ho hl
      have x293 := hI.val 14 293 (.pointer (some ⟨cb, 2, none⟩)) (mG (i := 12) rfl) (dK ho hdep (by kernel_rfl : waitsB oFl17I 15 14 = true))
      have hS1 := hI.eff
      have e11 : L 11 = true := dK ho hdep (by kernel_rfl : waitsB oFl17I 15 11 = true)
      have e12 : L 12 = true := dK ho hdep (by kernel_rfl : waitsB oFl17I 15 12 = true)
      have e15 : L 15 = false := hL
      simp only [e11, e12, e15, pick_true, vpick_false] at hS1
      obtain ⟨_, hpv⟩ := hS1.has 2 rfl
      obtain ⟨av, nv, cv, hv⟩ := sl_shape hpv
      have xv := eval_spell hv
      obtain ⟨f, hp, hset⟩ := hS1.get 1 rfl
      have hcell := (blk_get hp).1 2
      have hfz := (blk_get hp).2.1 2
      have hlt := (blk_get hp).2.2
      simp only [List.getElem?_toArray, List.getElem?_cons_zero, List.getElem?_cons_succ] at hcell
      refine inv_stored ho rfl rfl (by simp [go_sem, execOp, Act.eval, x293, xv, hcell, hfz]; rfl) (hI.step 15 ho hdep (by intro t ht; exact vals_ne1 rfl (by decide : 15 ∉ [0, 1, 2, 3, 4, 5, 6, 7, 8, 9, 10, 13, 14]) ht) ?_)
      obtain ⟨hb2, ht2⟩ := blk_set hp 2 (a1.eval (.tmp 291))
      have hS2 := hset _ _ _ hb2 ht2
      simp only [e11, e12, e15, Bool.or_false, Bool.or_true, Nat.reduceEqDiff, decide_true, decide_false, pick_true, vpick_true]
      rw [hv] at hS2
      rw [hv]
      exact hS2
  · intro L a1 w1 hL hI
    have hS1 := hI.eff
    simp only [hL 11 (by rw [hsize]; decide), hL 12 (by rw [hsize]; decide), hL 15 (by rw [hsize]; decide), pick_true, vpick_true] at hS1
    have := hQ (fun d => a1.eval (.tmp d)) w1  hS1
    have e := hI.frame.eq
    rw [e]
    exact this
noncomputable def oFl18I : Array Oper := ((Try.f75.body).bind fun c => opsOf c 18).getD #[]
set_option maxHeartbeats 4000000 in
set_option maxRecDepth 100000 in
theorem rFl18I {Q : Exit → Act → World → Prop} {a : Act} {w w0 : World} {fp0 : List Nat} (b : Nat) (xk xv xp : Value) (bs : List Nat) (hi : 0 < bs.length) (hlen : bs.length < 1099511627776) (R : List Asn) (ops : Array Oper) (hops : ops = oFl18I) (hsz : a.tmps.size = 310) (h9 : a.eval (.tmp 9) = .pointer (some ⟨b, 0, none⟩))
    (hS : St w0 fp0 ([blkA b 70 #[xk, xv, vpick false (a.eval (.tmp 299)) xp], pick false (slA 67 (a.eval (.tmp 299)) ((bs.map ptrI).eraseIdx 0)) (slA 67 xp (bs.map ptrI))] ++ R) w)
    (hQ : ∀ (u : Nat → Value) w1, St w0 fp0 ([blkA b 70 #[xk, xv, vpick true (u 299) xp], pick true (slA 67 (u 299) ((bs.map ptrI).eraseIdx 0)) (slA 67 xp (bs.map ptrI))] ++ R) w1 → Q .normal (putL a ((List.range' 294 8).map fun d => (d, u d))) w1) : (Code.region 18 ops false).wp Try.prog Q a w := by
  subst hops
  have hsize : oFl18I.size = 9 := by kernel_rfl
  have hE : Looks (fun L g w => St w0 fp0 ([blkA b 70 #[xk, xv, vpick (L 8) (g 299) xp], pick (L 5) (slA 67 (g 299) ((bs.map ptrI).eraseIdx 0)) (slA 67 xp (bs.map ptrI))] ++ R) w) [5, 8] [299] := by
    intro L L' g g' w hL hg h
    simpa only [← hL 5 (by decide), ← hL 8 (by decide), ← hg 299 (by decide)] using h
  have hn1 : (([(0, 294, .pointer (some ⟨b, 0, none⟩)), (1, 295, .pointer (some ⟨b, 0, none⟩)), (2, 296, .pointer (some ⟨b, 0, none⟩)), (3, 297, .pointer (some ⟨b, 2, none⟩)), (4, 298, xp), (6, 300, .pointer (some ⟨b, 0, none⟩)), (7, 301, .pointer (some ⟨b, 2, none⟩))] : List (Nat × Nat × Value)).map (·.1)).Nodup := by
    show List.Nodup [0, 1, 2, 3, 4, 6, 7]
    decide
  have hn2 : (([(0, 294, .pointer (some ⟨b, 0, none⟩)), (1, 295, .pointer (some ⟨b, 0, none⟩)), (2, 296, .pointer (some ⟨b, 0, none⟩)), (3, 297, .pointer (some ⟨b, 2, none⟩)), (4, 298, xp), (6, 300, .pointer (some ⟨b, 0, none⟩)), (7, 301, .pointer (some ⟨b, 2, none⟩))] : List (Nat × Nat × Value)).map (·.2.1)).Nodup := by
    show List.Nodup [294, 295, 296, 297, 298, 300, 301]
    decide
  refine wp_region_vals0 (ops' := oFl18I) [294, 295, 296, 297, 298, 299, 300, 301] [(0, 294, .pointer (some ⟨b, 0, none⟩)), (1, 295, .pointer (some ⟨b, 0, none⟩)), (2, 296, .pointer (some ⟨b, 0, none⟩)), (3, 297, .pointer (some ⟨b, 2, none⟩)), (4, 298, xp), (6, 300, .pointer (some ⟨b, 0, none⟩)), (7, 301, .pointer (some ⟨b, 2, none⟩))] (fun L g w => St w0 fp0 ([blkA b 70 #[xk, xv, vpick (L 8) (g 299) xp], pick (L 5) (slA 67 (g 299) ((bs.map ptrI).eraseIdx 0)) (slA 67 xp (bs.map ptrI))] ++ R) w) rfl (by kernel_rfl) hS ?_ ?_
  · intro oi o L a1 w1 ho hL hdep hI
    have hoi : oi < 9 := by have := (Array.getElem?_eq_some_iff.1 ho).1; omega
    have h1sz : a1.tmps.size = 310 := hI.frame.size.trans hsz
    rcases (by omega : oi = 0 ∨ oi = 1 ∨ oi = 2 ∨ oi = 3 ∨ oi = 4 ∨ oi = 5 ∨ oi = 6 ∨ oi = 7 ∨ oi = 8) with rfl | rfl | rfl | rfl | rfl | rfl | rfl | rfl | rfl
    · have hl : oFl18I[0]? = some ⟨some 294, Op.move (Operand.tmp 9), _, _, _, none⟩ := rfl
      obtain rfl := oI ho hl
      have x9 := hI.old 9 (.pointer (some ⟨b, 0, none⟩)) (by decide) h9
      exact hI.rd hE hsz 0 294 (.pointer (some ⟨b, 0, none⟩)) ho rfl rfl hdep (by decide) (vals_at hn1 hn2 0 rfl) (by simp [go_sem, execOp, Act.eval, x9])
    · have hl : oFl18I[1]? = some ⟨some 295, Op.move (Operand.tmp 9), _, _, _, none⟩ := rfl
      obtain rfl := oI ho hl
      have x9 := hI.old 9 (.pointer (some ⟨b, 0, none⟩)) (by decide) h9
      exact hI.rd hE hsz 1 295 (.pointer (some ⟨b, 0, none⟩)) ho rfl rfl hdep (by decide) (vals_at hn1 hn2 1 rfl) (by simp [go_sem, execOp, Act.eval, x9])
    · have hl : oFl18I[2]? = some ⟨some 296, Op.nilCheck (Operand.tmp 295), _, _, _, none⟩ := rfl
      obtain rfl := oI ho hl
      have x295 := hI.val 1 295 (.pointer (some ⟨b, 0, none⟩)) (mG (i := 1) rfl) (dK ho hdep (by kernel_rfl : waitsB oFl18I 2 1 = true))
      exact hI.rd hE hsz 2 296 (.pointer (some ⟨b, 0, none⟩)) ho rfl rfl hdep (by decide) (vals_at hn1 hn2 2 rfl) (by simp [go_sem, execOp, Act.eval, x295])
    · have hl : oFl18I[3]? = some ⟨some 297, Op.fieldAddr _ (Operand.tmp 296) 2, _, _, _, none⟩ := rfl
      obtain rfl := oI ho hl
      have x296 := hI.val 2 296 (.pointer (some ⟨b, 0, none⟩)) (mG (i := 2) rfl) (dK ho hdep (by kernel_rfl : waitsB oFl18I 3 2 = true))
      exact hI.rd hE hsz 3 297 (.pointer (some ⟨b, 2, none⟩)) ho rfl rfl hdep (by decide) (vals_at hn1 hn2 3 rfl) (by simp [go_sem, execOp, Act.eval, x296])
    · have hl : oFl18I[4]? = some ⟨some 298, Op.load _ (Operand.tmp 297), _, _, _, none⟩ := rfl
      obtain rfl := oI ho hl
      have x297 := hI.val 3 297 (.pointer (some ⟨b, 2, none⟩)) (mG (i := 3) rfl) (dK ho hdep (by kernel_rfl : waitsB oFl18I 4 3 = true))
      have hS1 := hI.eff
      have e5 : L 5 = false := hI.no hL (by kernel_rfl : waitsB oFl18I 5 4 = true)
      have e8 : L 8 = false := hI.no hL (by kernel_rfl : waitsB oFl18I 8 4 = true)
      simp only [e5, e8, pick_false, vpick_false] at hS1
      obtain ⟨_, hp⟩ := hS1.has 0 rfl
      have hcell := (blk_get hp).1 2
      have hlt := (blk_get hp).2.2
      simp only [List.getElem?_toArray, List.getElem?_cons_zero, List.getElem?_cons_succ] at hcell
      exact hI.rd hE hsz 4 298 (xp) ho rfl rfl hdep (by decide) (vals_at hn1 hn2 4 rfl) (by simp [go_sem, execOp, Act.eval, x297, hcell])
    · have hl : oFl18I[5]? = some ⟨some 299, Op.call ⟨Callee.value (Operand.func _), #[Operand.tmp 298, Operand.const (Value.int IntKind.i64 0), Operand.const (Value.int IntKind.i64 1)], _⟩, _, _, _, none⟩ := rfl
      obtain rfl := oI ho hl
      have x298 := hI.val 4 298 (xp) (mG (i := 4) rfl) (dK ho hdep (by kernel_rfl : waitsB oFl18I 5 4 = true))
      have hS1 := hI.eff
      have e5 : L 5 = false := hL
      have e8 : L 8 = false := hI.no hL (by kernel_rfl : waitsB oFl18I 8 5 = true)
      simp only [e5, e8, pick_false, vpick_false] at hS1
      obtain ⟨f, hsl, hset⟩ := hS1.get 1 rfl
      refine inv_call ho rfl (f := 85) (by simp [go_sem, Act.eval, x298]) (delP_calls _ _ (0) _ hsl (by rw [List.length_map]; exact hi) (by rw [List.length_map]; exact hlen) (ptrI_one bs)) ?_
      rintro e w2 ⟨an, nn, cn, f', rfl, hsl', htr⟩
      refine ⟨_, rfl, hI.put 5 299 _ ho hdep (by decide) (by intro t ht; exact vals_ne2 rfl rfl (by decide : 5 ∉ [0, 1, 2, 3, 4, 6, 7]) (by decide : 299 ∉ [294, 295, 296, 297, 298, 300, 301]) ht) ?_⟩
      have hS2 := hset _ _ _ hsl' htr
      simp only [e5, e8, Bool.or_false, Bool.or_true, Nat.reduceEqDiff, decide_true, decide_false, pick_true, vpick_false, eval_put_same (by rw [h1sz]; decide : 299 < a1.tmps.size)]
      exact hS2
    · have hl : oFl18I[6]? = some ⟨some 300, Op.nilCheck (Operand.tmp 294), _, _, _, none⟩ := rfl
      obtain rfl := oI ho hl
      have x294 := hI.val 0 294 (.pointer (some ⟨b, 0, none⟩)) (mG (i := 0) rfl) (dK ho hdep (by kernel_rfl : waitsB oFl18I 6 0 = true))
      exact hI.rd hE hsz 6 300 (.pointer (some ⟨b, 0, none⟩)) ho rfl rfl hdep (by decide) (vals_at hn1 hn2 5 rfl) (by simp [go_sem, execOp, Act.eval, x294])
    · have hl : oFl18I[7]? = some ⟨some 301, Op.fieldAddr _ (Operand.tmp 300) 2, _, _, _, none⟩ := rfl
      obtain rfl := oI ho hl
      have x300 := hI.val 6 300 (.pointer (some ⟨b, 0, none⟩)) (mG (i := 5) rfl) (dK ho hdep (by kernel_rfl : waitsB oFl18I 7 6 = true))
      exact hI.rd hE hsz 7 301 (.pointer (some ⟨b, 2, none⟩)) ho rfl rfl hdep (by decide) (vals_at hn1 hn2 6 rfl) (by simp [go_sem, execOp, Act.eval, x300])
    · have hl : oFl18I[8]? = some ⟨none, Op.store _ (Operand.tmp 301) (Operand.tmp 299), _, _, _, none⟩ := rfl
      obtain rfl := oI ho hl
      have x301 := hI.val 7 301 (.pointer (some ⟨b, 2, none⟩)) (mG (i := 6) rfl) (dK ho hdep (by kernel_rfl : waitsB oFl18I 8 7 = true))
      have hS1 := hI.eff
      have e5 : L 5 = true := dK ho hdep (by kernel_rfl : waitsB oFl18I 8 5 = true)
      have e8 : L 8 = false := hL
      simp only [e5, e8, pick_true, vpick_false] at hS1
      obtain ⟨_, hpv⟩ := hS1.has 1 rfl
      obtain ⟨av, nv, cv, hv⟩ := sl_shape hpv
      have xv := eval_spell hv
      obtain ⟨f, hp, hset⟩ := hS1.get 0 rfl
      have hcell := (blk_get hp).1 2
      have hfz := (blk_get hp).2.1 2
      have hlt := (blk_get hp).2.2
      simp only [List.getElem?_toArray, List.getElem?_cons_zero, List.getElem?_cons_succ] at hcell
      refine inv_stored ho rfl rfl (by simp [go_sem, execOp, Act.eval, x301, xv, hcell, hfz]; rfl) (hI.step 8 ho hdep (by intro t ht; exact vals_ne1 rfl (by decide : 8 ∉ [0, 1, 2, 3, 4, 6, 7]) ht) ?_)
      obtain ⟨hb2, ht2⟩ := blk_set hp 2 (a1.eval (.tmp 299))
      have hS2 := hset _ _ _ hb2 ht2
      simp only [e5, e8, Bool.or_false, Bool.or_true, Nat.reduceEqDiff, decide_true, decide_false, pick_true, vpick_true]
      rw [hv] at hS2
      rw [hv]
      exact hS2
  · intro L a1 w1 hL hI
    have hS1 := hI.eff
    simp only [hL 5 (by rw [hsize]; decide), hL 8 (by rw [hsize]; decide), pick_true, vpick_true] at hS1
    have := hQ (fun d => a1.eval (.tmp d)) w1  hS1
    have e := hI.frame.eq
    rw [e]
    exact this
end Go.Proofs.Ytldofiankhimjaa
