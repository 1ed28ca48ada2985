/- Part 7 of the proof: SpRI, SpI, PtI, PpRI -/
import Derived.Test.YtldofiankhimjaaY00
import Derived.Test.YtldofiankhimjaaY04
import Derived.Test.YtldofiankhimjaaY01
import Derived.Test.YtldofiankhimjaaY06
import Derived.Deep.DeepCutAuto
/- split: its regions (I). -/
namespace Go.Proofs.Ytldofiankhimjaa
open Go Go.RowKit
noncomputable def oSp1I : Array Oper := ((Try.f38.body).bind fun c => opsOf c 1).getD #[]
set_option maxHeartbeats 4000000 in
set_option maxRecDepth 100000 in
theorem rSp1I {Q : Exit → Act → World → Prop} {a : Act} {w w0 : World} {fp0 : List Nat} (tb o mid : Nat) (r nn : Value) (hmid : o / 2 = mid) (ho : o ≤ 1024) (R : List Asn) (ops : Array Oper) (hops : ops = oSp1I) (hsz : a.tmps.size = 130) (h0 : a.eval (.tmp 0) = .pointer (some ⟨tb, 0, none⟩))
    (hS : St w0 fp0 ([blkA tb 72 #[r, .int .i64 o, nn]] ++ R) w)
    (hQ : ∀ (u : Nat → Value) w1, (u 7 = .int .i64 mid) → St w0 fp0 ([blkA tb 72 #[r, .int .i64 o, nn]] ++ R) w1 → Q .normal (putL a (([16, 17, 18, 19, 20, 7] : List Nat).map fun d => (d, u d))) w1) : (Code.region 1 ops false).wp Try.prog Q a w := by
  subst hops
  have hq : (o : Int).tdiv 2 = mid := by rw [Int.tdiv_eq_ediv_of_nonneg (by omega)]; omega
  have hw : IntKind.i64.wrap (mid : Int) = mid := by rw [IntKind.wrap_i64]; omega
  have hsize : oSp1I.size = 6 := by kernel_rfl
  have hE : Looks (fun L g w => St w0 fp0 ([blkA tb 72 #[r, .int .i64 o, nn]] ++ R) w) [] [] := by
    intro L L' g g' w hL hg h
    exact h
  have hn1 : (([(0, 16, .pointer (some ⟨tb, 0, none⟩)), (1, 17, .pointer (some ⟨tb, 0, none⟩)), (2, 18, .pointer (some ⟨tb, 1, none⟩)), (3, 19, .int .i64 o), (4, 20, .int .i64 mid), (5, 7, .int .i64 mid)] : List (Nat × Nat × Value)).map (·.1)).Nodup := by
    show List.Nodup [0, 1, 2, 3, 4, 5]
    decide
  have hn2 : (([(0, 16, .pointer (some ⟨tb, 0, none⟩)), (1, 17, .pointer (some ⟨tb, 0, none⟩)), (2, 18, .pointer (some ⟨tb, 1, none⟩)), (3, 19, .int .i64 o), (4, 20, .int .i64 mid), (5, 7, .int .i64 mid)] : List (Nat × Nat × Value)).map (·.2.1)).Nodup := by
    show List.Nodup [16, 17, 18, 19, 20, 7]
    decide
  refine wp_region_vals0 (ops' := oSp1I) [16, 17, 18, 19, 20, 7] [(0, 16, .pointer (some ⟨tb, 0, none⟩)), (1, 17, .pointer (some ⟨tb, 0, none⟩)), (2, 18, .pointer (some ⟨tb, 1, none⟩)), (3, 19, .int .i64 o), (4, 20, .int .i64 mid), (5, 7, .int .i64 mid)] (fun L g w => St w0 fp0 ([blkA tb 72 #[r, .int .i64 o, nn]] ++ R) w) rfl (by kernel_rfl) hS ?_ ?_
  · intro oi o L a1 w1 ho hL hdep hI
    have hoi : oi < 6 := by have := (Array.getElem?_eq_some_iff.1 ho).1; omega
    have h1sz : a1.tmps.size = 130 := hI.frame.size.trans hsz
    rcases (by omega : oi = 0 ∨ oi = 1 ∨ oi = 2 ∨ oi = 3 ∨ oi = 4 ∨ oi = 5) with rfl | rfl | rfl | rfl | rfl | rfl
    · have hl : oSp1I[0]? = some ⟨some 16, Op.move (Operand.tmp 0), _, _, _, none⟩ := rfl
      obtain rfl := oI ho hl
      have x0 := hI.old 0 (.pointer (some ⟨tb, 0, none⟩)) (by decide) h0
      exact hI.rd hE hsz 0 16 (.pointer (some ⟨tb, 0, none⟩)) ho rfl rfl hdep (by decide) (vals_at hn1 hn2 0 rfl) (by simp [go_sem, execOp, Act.eval, x0])
    · have hl : oSp1I[1]? = some ⟨some 17, Op.nilCheck (Operand.tmp 16), _, _, _, none⟩ := rfl
      obtain rfl := oI ho hl
      have x16 := hI.val 0 16 (.pointer (some ⟨tb, 0, none⟩)) (mG (i := 0) rfl) (dK ho hdep (by kernel_rfl : waitsB oSp1I 1 0 = true))
      exact hI.rd hE hsz 1 17 (.pointer (some ⟨tb, 0, none⟩)) ho rfl rfl hdep (by decide) (vals_at hn1 hn2 1 rfl) (by simp [go_sem, execOp, Act.eval, x16])
    · have hl : oSp1I[2]? = some ⟨some 18, Op.fieldAddr _ (Operand.tmp 17) 1, _, _, _, none⟩ := rfl
      obtain rfl := oI ho hl
      have x17 := hI.val 1 17 (.pointer (some ⟨tb, 0, none⟩)) (mG (i := 1) rfl) (dK ho hdep (by kernel_rfl : waitsB oSp1I 2 1 = true))
      exact hI.rd hE hsz 2 18 (.pointer (some ⟨tb, 1, none⟩)) ho rfl rfl hdep (by decide) (vals_at hn1 hn2 2 rfl) (by simp [go_sem, execOp, Act.eval, x17])
    · have hl : oSp1I[3]? = some ⟨some 19, Op.load _ (Operand.tmp 18), _, _, _, none⟩ := rfl
      obtain rfl := oI ho hl
      have x18 := hI.val 2 18 (.pointer (some ⟨tb, 1, none⟩)) (mG (i := 2) rfl) (dK ho hdep (by kernel_rfl : waitsB oSp1I 3 2 = true))
      have hS1 := hI.eff
      obtain ⟨_, hp⟩ := hS1.has 0 rfl
      have hcell := (blk_get hp).1 1
      have hlt := (blk_get hp).2.2
      simp only [List.getElem?_toArray, List.getElem?_cons_zero, List.getElem?_cons_succ] at hcell
      exact hI.rd hE hsz 3 19 (.int .i64 o) ho rfl rfl hdep (by decide) (vals_at hn1 hn2 3 rfl) (by simp [go_sem, execOp, Act.eval, x18, hcell])
    · have hl : oSp1I[4]? = some ⟨some 20, Op.binOp BinOp.quo _ (Operand.tmp 19) (Operand.const (Value.int IntKind.i64 2)) _, _, _, _, none⟩ := rfl
      obtain rfl := oI ho hl
      have x19 := hI.val 3 19 (.int .i64 o) (mG (i := 3) rfl) (dK ho hdep (by kernel_rfl : waitsB oSp1I 4 3 = true))
      exact hI.rd hE hsz 4 20 (.int .i64 mid) ho rfl rfl hdep (by decide) (vals_at hn1 hn2 4 rfl) (by simp [go_sem, execOp, Act.eval, x19, hq, hw])
    · have hl : oSp1I[5]? = some ⟨some 7, Op.assign (Operand.tmp 20), _, _, _, none⟩ := rfl
      obtain rfl := oI ho hl
      have x20 := hI.val 4 20 (.int .i64 mid) (mG (i := 4) rfl) (dK ho hdep (by kernel_rfl : waitsB oSp1I 5 4 = true))
      exact hI.rd hE hsz 5 7 (.int .i64 mid) ho rfl rfl hdep (by decide) (vals_at hn1 hn2 5 rfl) (by simp [go_sem, execOp, Act.eval, x20])
  · intro L a1 w1 hL hI
    have hS1 := hI.eff
    have := hQ (fun d => a1.eval (.tmp d)) w1 (hI.vals (5, 7, .int .i64 mid) (mG (i := 5) rfl) (hL 5 (by rw [hsize]; decide))) hS1
    have e := hI.frame.eq
    rw [e]
    exact this
noncomputable def oSp2I : Array Oper := ((Try.f38.body).bind fun c => opsOf c 2).getD #[]
set_option maxHeartbeats 4000000 in
set_option maxRecDepth 100000 in
theorem rSp2I {Q : Exit → Act → World → Prop} {a : Act} {w w0 : World} {fp0 : List Nat} (cb gk nk ck gv nv cv mid : Nat) (cps : Value) (es : M Int Int) (_hmk : mid + 1 < nk) (hmv : mid + 1 < nv) (hmc : nk ≤ ck) (hvc : nv ≤ cv) (hek : nk = es.length) (hev : nv = es.length) (hlen : es.length < 1099511627776) (R : List Asn) (ops : Array Oper) (hops : ops = oSp2I) (hsz : a.tmps.size = 130) (h6 : a.eval (.tmp 6) = .pointer (some ⟨cb, 0, none⟩)) (h7 : a.eval (.tmp 7) = .int .i64 mid)
    (hS : St w0 fp0 ([pick false (pureA ((a.eval (.tmp 37)) = .agg #[(a.eval (.tmp 28)), (a.eval (.tmp 36)), .slice none 0 0])) emp, pick false (atA 70 (a.eval (.tmp 38)) #[(a.eval (.tmp 28)), (a.eval (.tmp 36)), .slice none 0 0]) emp, pick false (pureA ((a.eval (.tmp 8)) = (a.eval (.tmp 38)))) emp, pick false (slA 3 (a.eval (.tmp 28)) ((keysI es).drop (mid + 1))) emp, pick false (slA 3 (a.eval (.tmp 36)) ((valsI es).drop (mid + 1))) emp, blkA cb 70 #[.slice (some ⟨gk, 0, none⟩) nk ck, .slice (some ⟨gv, 0, none⟩) nv cv, cps], slA 3 (.slice (some ⟨gk, 0, none⟩) nk ck) (keysI es), slA 3 (.slice (some ⟨gv, 0, none⟩) nv cv) (valsI es)] ++ R) w)
    (hQ : ∀ (u : Nat → Value) w1, St w0 fp0 ([pick true (pureA ((u 37) = .agg #[(u 28), (u 36), .slice none 0 0])) emp, pick true (atA 70 (u 38) #[(u 28), (u 36), .slice none 0 0]) emp, pick true (pureA ((u 8) = (u 38))) emp, pick true (slA 3 (u 28) ((keysI es).drop (mid + 1))) emp, pick true (slA 3 (u 36) ((valsI es).drop (mid + 1))) emp, blkA cb 70 #[.slice (some ⟨gk, 0, none⟩) nk ck, .slice (some ⟨gv, 0, none⟩) nv cv, cps], slA 3 (.slice (some ⟨gk, 0, none⟩) nk ck) (keysI es), slA 3 (.slice (some ⟨gv, 0, none⟩) nv cv) (valsI es)] ++ R) w1 → Q .normal (putL a (([21, 22, 23, 24, 25, 26, 27, 28, 29, 30, 31, 32, 33, 34, 35, 36, 37, 38, 8] : List Nat).map fun d => (d, u d))) w1) : (Code.region 2 ops true).wp Try.prog Q a w := by
  subst hops
  have hw : IntKind.i64.wrap ((mid : Int) + (1 : Int)) = (mid : Int) + (1 : Int) := by rw [IntKind.wrap_i64]; omega
  have htn : ((mid : Int) + (1 : Int)).toNat = mid + 1 := by omega
  have hm0 : (0 : Int) ≤ (mid : Int) + (1 : Int) := by omega
  have hm1 : (mid : Int) + (1 : Int) ≤ nk := by omega
  have hm2 : (mid : Int) + (1 : Int) ≤ nv := by omega
  have hnc : ¬ (ck = mid + 1) := by omega
  have hnv : ¬ (cv = mid + 1) := by omega
  have hsize : oSp2I.size = 19 := by kernel_rfl
  have hE : Looks (fun L g w => St w0 fp0 ([pick (L 16) (pureA ((g 37) = .agg #[(g 28), (g 36), .slice none 0 0])) emp, pick (L 17) (atA 70 (g 38) #[(g 28), (g 36), .slice none 0 0]) emp, pick (L 18) (pureA ((g 8) = (g 38))) emp, pick (L 7) (slA 3 (g 28) ((keysI es).drop (mid + 1))) emp, pick (L 15) (slA 3 (g 36) ((valsI es).drop (mid + 1))) emp, blkA cb 70 #[.slice (some ⟨gk, 0, none⟩) nk ck, .slice (some ⟨gv, 0, none⟩) nv cv, cps], slA 3 (.slice (some ⟨gk, 0, none⟩) nk ck) (keysI es), slA 3 (.slice (some ⟨gv, 0, none⟩) nv cv) (valsI es)] ++ R) w) [7, 15, 16, 17, 18] [28, 36, 37, 38, 8] := by
    intro L L' g g' w hL hg h
    simpa only [← hL 7 (by decide), ← hL 15 (by decide), ← hL 16 (by decide), ← hL 17 (by decide), ← hL 18 (by decide), ← hg 28 (by decide), ← hg 36 (by decide), ← hg 37 (by decide), ← hg 38 (by decide), ← hg 8 (by decide)] using h
  have hn1 : (([(0, 21, .pointer (some ⟨cb, 0, none⟩)), (1, 22, .pointer (some ⟨cb, 0, none⟩)), (2, 23, .pointer (some ⟨cb, 0, none⟩)), (3, 24, .slice (some ⟨gk, 0, none⟩) nk ck), (4, 25, .int .i64 mid), (5, 26, .int .i64 ((mid : Int) + 1)), (6, 27, .slice (some ⟨gk, mid + 1, none⟩) (nk - (mid + 1)) (ck - (mid + 1))), (8, 29, .pointer (some ⟨cb, 0, none⟩)), (9, 30, .pointer (some ⟨cb, 0, none⟩)), (10, 31, .pointer (some ⟨cb, 1, none⟩)), (11, 32, .slice (some ⟨gv, 0, none⟩) nv cv), (12, 33, .int .i64 mid), (13, 34, .int .i64 ((mid : Int) + 1)), (14, 35, .slice (some ⟨gv, mid + 1, none⟩) (nv - (mid + 1)) (cv - (mid + 1)))] : List (Nat × Nat × Value)).map (·.1)).Nodup := by
    show List.Nodup [0, 1, 2, 3, 4, 5, 6, 8, 9, 10, 11, 12, 13, 14]
    decide
  have hn2 : (([(0, 21, .pointer (some ⟨cb, 0, none⟩)), (1, 22, .pointer (some ⟨cb, 0, none⟩)), (2, 23, .pointer (some ⟨cb, 0, none⟩)), (3, 24, .slice (some ⟨gk, 0, none⟩) nk ck), (4, 25, .int .i64 mid), (5, 26, .int .i64 ((mid : Int) + 1)), (6, 27, .slice (some ⟨gk, mid + 1, none⟩) (nk - (mid + 1)) (ck - (mid + 1))), (8, 29, .pointer (some ⟨cb, 0, none⟩)), (9, 30, .pointer (some ⟨cb, 0, none⟩)), (10, 31, .pointer (some ⟨cb, 1, none⟩)), (11, 32, .slice (some ⟨gv, 0, none⟩) nv cv), (12, 33, .int .i64 mid), (13, 34, .int .i64 ((mid : Int) + 1)), (14, 35, .slice (some ⟨gv, mid + 1, none⟩) (nv - (mid + 1)) (cv - (mid + 1)))] : List (Nat × Nat × Value)).map (·.2.1)).Nodup := by
    show List.Nodup [21, 22, 23, 24, 25, 26, 27, 29, 30, 31, 32, 33, 34, 35]
    decide
  refine wp_region_vals (ops' := oSp2I) [21, 22, 23, 24, 25, 26, 27, 28, 29, 30, 31, 32, 33, 34, 35, 36, 37, 38, 8] [(0, 21, .pointer (some ⟨cb, 0, none⟩)), (1, 22, .pointer (some ⟨cb, 0, none⟩)), (2, 23, .pointer (some ⟨cb, 0, none⟩)), (3, 24, .slice (some ⟨gk, 0, none⟩) nk ck), (4, 25, .int .i64 mid), (5, 26, .int .i64 ((mid : Int) + 1)), (6, 27, .slice (some ⟨gk, mid + 1, none⟩) (nk - (mid + 1)) (ck - (mid + 1))), (8, 29, .pointer (some ⟨cb, 0, none⟩)), (9, 30, .pointer (some ⟨cb, 0, none⟩)), (10, 31, .pointer (some ⟨cb, 1, none⟩)), (11, 32, .slice (some ⟨gv, 0, none⟩) nv cv), (12, 33, .int .i64 mid), (13, 34, .int .i64 ((mid : Int) + 1)), (14, 35, .slice (some ⟨gv, mid + 1, none⟩) (nv - (mid + 1)) (cv - (mid + 1)))] (fun L g w => St w0 fp0 ([pick (L 16) (pureA ((g 37) = .agg #[(g 28), (g 36), .slice none 0 0])) emp, pick (L 17) (atA 70 (g 38) #[(g 28), (g 36), .slice none 0 0]) emp, pick (L 18) (pureA ((g 8) = (g 38))) emp, pick (L 7) (slA 3 (g 28) ((keysI es).drop (mid + 1))) emp, pick (L 15) (slA 3 (g 36) ((valsI es).drop (mid + 1))) emp, blkA cb 70 #[.slice (some ⟨gk, 0, none⟩) nk ck, .slice (some ⟨gv, 0, none⟩) nv cv, cps], slA 3 (.slice (some ⟨gk, 0, none⟩) nk ck) (keysI es), slA 3 (.slice (some ⟨gv, 0, none⟩) nv cv) (valsI es)] ++ R) w) rfl (by kernel_rfl) (by kernel_rfl) (hS.mono (below_drew w)) ?_ ?_
  · intro oi o L a1 w1 ho hL hdep hI
    have hoi : oi < 19 := by have := (Array.getElem?_eq_some_iff.1 ho).1; omega
    have h1sz : a1.tmps.size = 130 := hI.frame.size.trans hsz
    rcases (by omega : oi = 0 ∨ oi = 1 ∨ oi = 2 ∨ oi = 3 ∨ oi = 4 ∨ oi = 5 ∨ oi = 6 ∨ oi = 7 ∨ oi = 8 ∨ oi = 9 ∨ oi = 10 ∨ oi = 11 ∨ oi = 12 ∨ oi = 13 ∨ oi = 14 ∨ oi = 15 ∨ oi = 16 ∨ oi = 17 ∨ oi = 18) with rfl | rfl | rfl | rfl | rfl | rfl | rfl | rfl | rfl | rfl | rfl | rfl | rfl | rfl | rfl | rfl | rfl | rfl | rfl
    · have hl : oSp2I[0]? = some ⟨some 21, Op.move (Operand.tmp 6), _, _, _, none⟩ := rfl
      obtain rfl := oI ho hl
      have x6 := hI.old 6 (.pointer (some ⟨cb, 0, none⟩)) (by decide) h6
      exact hI.rd hE hsz 0 21 (.pointer (some ⟨cb, 0, none⟩)) ho rfl rfl hdep (by decide) (vals_at hn1 hn2 0 rfl) (by simp [go_sem, execOp, Act.eval, x6])
    · have hl : oSp2I[1]? = some ⟨some 22, Op.nilCheck (Operand.tmp 21), _, _, _, none⟩ := rfl
      obtain rfl := oI ho hl
      have x21 := hI.val 0 21 (.pointer (some ⟨cb, 0, none⟩)) (mG (i := 0) rfl) (dK ho hdep (by kernel_rfl : waitsB oSp2I 1 0 = true))
      exact hI.rd hE hsz 1 22 (.pointer (some ⟨cb, 0, none⟩)) ho rfl rfl hdep (by decide) (vals_at hn1 hn2 1 rfl) (by simp [go_sem, execOp, Act.eval, x21])
    · have hl : oSp2I[2]? = some ⟨some 23, Op.fieldAddr _ (Operand.tmp 22) 0, _, _, _, none⟩ := rfl
      obtain rfl := oI ho hl
      have x22 := hI.val 1 22 (.pointer (some ⟨cb, 0, none⟩)) (mG (i := 1) rfl) (dK ho hdep (by kernel_rfl : waitsB oSp2I 2 1 = true))
      exact hI.rd hE hsz 2 23 (.pointer (some ⟨cb, 0, none⟩)) ho rfl rfl hdep (by decide) (vals_at hn1 hn2 2 rfl) (by simp [go_sem, execOp, Act.eval, x22])
    · have hl : oSp2I[3]? = some ⟨some 24, Op.load _ (Operand.tmp 23), _, _, _, none⟩ := rfl
      obtain rfl := oI ho hl
      have x23 := hI.val 2 23 (.pointer (some ⟨cb, 0, none⟩)) (mG (i := 2) rfl) (dK ho hdep (by kernel_rfl : waitsB oSp2I 3 2 = true))
      have hS1 := hI.eff
      have e18 : L 18 = false := hI.no hL (by kernel_rfl : waitsB oSp2I 18 3 = true)
      simp only [e18, pick_false] at hS1
      obtain ⟨_, hp⟩ := hS1.has 5 rfl
      have hcell := (blk_get hp).1 0
      have hlt := (blk_get hp).2.2
      simp only [List.getElem?_toArray, List.getElem?_cons_zero] at hcell
      exact hI.rd hE hsz 3 24 (.slice (some ⟨gk, 0, none⟩) nk ck) ho rfl rfl hdep (by decide) (vals_at hn1 hn2 3 rfl) (by simp [go_sem, execOp, Act.eval, x23, hcell])
    · have hl : oSp2I[4]? = some ⟨some 25, Op.move (Operand.tmp 7), _, _, _, none⟩ := rfl
      obtain rfl := oI ho hl
      have x7 := hI.old 7 (.int .i64 mid) (by decide) h7
      exact hI.rd hE hsz 4 25 (.int .i64 mid) ho rfl rfl hdep (by decide) (vals_at hn1 hn2 4 rfl) (by simp [go_sem, execOp, Act.eval, x7])
    · have hl : oSp2I[5]? = some ⟨some 26, Op.binOp BinOp.add _ (Operand.tmp 25) (Operand.const (Value.int IntKind.i64 1)) _, _, _, _, none⟩ := rfl
      obtain rfl := oI ho hl
      have x25 := hI.val 4 25 (.int .i64 mid) (mG (i := 4) rfl) (dK ho hdep (by kernel_rfl : waitsB oSp2I 5 4 = true))
      exact hI.rd hE hsz 5 26 (.int .i64 ((mid : Int) + 1)) ho rfl rfl hdep (by decide) (vals_at hn1 hn2 5 rfl) (by simp [go_sem, execOp, Act.eval, x25, hw])
    · have hl : oSp2I[6]? = some ⟨some 27, Op.slice _ (Operand.tmp 24) (some (Operand.tmp 26)) none none, _, _, _, none⟩ := rfl
      obtain rfl := oI ho hl
      have x24 := hI.val 3 24 (.slice (some ⟨gk, 0, none⟩) nk ck) (mG (i := 3) rfl) (dK ho hdep (by kernel_rfl : waitsB oSp2I 6 3 = true))
      have x26 := hI.val 5 26 (.int .i64 ((mid : Int) + 1)) (mG (i := 5) rfl) (dK ho hdep (by kernel_rfl : waitsB oSp2I 6 5 = true))
      exact hI.rd hE hsz 6 27 (.slice (some ⟨gk, mid + 1, none⟩) (nk - (mid + 1)) (ck - (mid + 1))) ho rfl rfl hdep (by decide) (vals_at hn1 hn2 6 rfl) (by simp [go_sem, execOp, Act.eval, x24, x26, htn, hm0, hm1, hnc])
    · have hl : oSp2I[7]? = some ⟨some 28, Op.call ⟨Callee.value (Operand.func _), #[Operand.tmp 27], _⟩, _, _, _, none⟩ := rfl
      obtain rfl := oI ho hl
      have x27 := hI.val 6 27 (.slice (some ⟨gk, mid + 1, none⟩) (nk - (mid + 1)) (ck - (mid + 1))) (mG (i := 6) rfl) (dK ho hdep (by kernel_rfl : waitsB oSp2I 7 6 = true))
      have hS1 := hI.eff
      have e7 : L 7 = false := hL
      have e15 : L 15 = false := hI.no hL (by kernel_rfl : waitsB oSp2I 15 7 = true)
      have e16 : L 16 = false := hI.no hL (by kernel_rfl : waitsB oSp2I 16 7 = true)
      have e17 : L 17 = false := hI.no (hI.no hL (by kernel_rfl : waitsB oSp2I 16 7 = true)) (by kernel_rfl : waitsB oSp2I 17 16 = true)
      have e18 : L 18 = false := hI.no hL (by kernel_rfl : waitsB oSp2I 18 7 = true)
      simp only [e7, e15, e16, e17, e18, pick_false] at hS1
      obtain ⟨_, hps⟩ := hS1.has 6 rfl
      refine inv_call ho rfl (f := 59) (by simp [go_sem, Act.eval, x27]) (cloneI_calls ((keysI es).drop (mid + 1)) _ w1 (srcdropI hps _ (by rw [keysI_length]; omega)) (by intro u hu; exact keysI_one es u (List.mem_of_mem_drop hu)) (by rw [List.length_drop, keysI_length]; omega)) ?_
      rintro e w2 ⟨v2, f2, rfl, hp2, hb2, hf2⟩
      refine ⟨_, rfl, hI.put 7 28 _ ho hdep (by decide) (by intro t ht; exact vals_ne2 rfl rfl (by decide : 7 ∉ [0, 1, 2, 3, 4, 5, 6, 8, 9, 10, 11, 12, 13, 14]) (by decide : 28 ∉ [21, 22, 23, 24, 25, 26, 27, 29, 30, 31, 32, 33, 34, 35]) ht) ?_⟩
      have hS2 := hS1.newA 3 rfl hp2 hb2 hf2
      simp only [e7, e15, e16, e17, e18, Bool.or_false, Bool.or_true, Nat.reduceEqDiff, decide_true, decide_false, pick_true, pick_false, eval_put_same (by rw [h1sz]; decide : 28 < a1.tmps.size), eval_put_ne (by decide : 28 ≠ 36), eval_put_ne (by decide : 28 ≠ 37), eval_put_ne (by decide : 28 ≠ 38), eval_put_ne (by decide : 28 ≠ 8)]
      exact hS2
    · have hl : oSp2I[8]? = some ⟨some 29, Op.move (Operand.tmp 6), _, _, _, none⟩ := rfl
      obtain rfl := oI ho hl
      have x6 := hI.old 6 (.pointer (some ⟨cb, 0, none⟩)) (by decide) h6
      exact hI.rd hE hsz 8 29 (.pointer (some ⟨cb, 0, none⟩)) ho rfl rfl hdep (by decide) (vals_at hn1 hn2 7 rfl) (by simp [go_sem, execOp, Act.eval, x6])
    · have hl : oSp2I[9]? = some ⟨some 30, Op.nilCheck (Operand.tmp 29), _, _, _, none⟩ := rfl
      obtain rfl := oI ho hl
      have x29 := hI.val 8 29 (.pointer (some ⟨cb, 0, none⟩)) (mG (i := 7) rfl) (dK ho hdep (by kernel_rfl : waitsB oSp2I 9 8 = true))
      exact hI.rd hE hsz 9 30 (.pointer (some ⟨cb, 0, none⟩)) ho rfl rfl hdep (by decide) (vals_at hn1 hn2 8 rfl) (by simp [go_sem, execOp, Act.eval, x29])
    · have hl : oSp2I[10]? = some ⟨some 31, Op.fieldAddr _ (Operand.tmp 30) 1, _, _, _, none⟩ := rfl
      obtain rfl := oI ho hl
      have x30 := hI.val 9 30 (.pointer (some ⟨cb, 0, none⟩)) (mG (i := 8) rfl) (dK ho hdep (by kernel_rfl : waitsB oSp2I 10 9 = true))
      exact hI.rd hE hsz 10 31 (.pointer (some ⟨cb, 1, none⟩)) ho rfl rfl hdep (by decide) (vals_at hn1 hn2 9 rfl) (by simp [go_sem, execOp, Act.eval, x30])
    · have hl : oSp2I[11]? = some ⟨some 32, Op.load _ (Operand.tmp 31), _, _, _, none⟩ := rfl
      obtain rfl := oI ho hl
      have x31 := hI.val 10 31 (.pointer (some ⟨cb, 1, none⟩)) (mG (i := 9) rfl) (dK ho hdep (by kernel_rfl : waitsB oSp2I 11 10 = true))
      have hS1 := hI.eff
      have e18 : L 18 = false := hI.no hL (by kernel_rfl : waitsB oSp2I 18 11 = true)
      simp only [e18, pick_false] at hS1
      obtain ⟨_, hp⟩ := hS1.has 5 rfl
      have hcell := (blk_get hp).1 1
      have hlt := (blk_get hp).2.2
      simp only [List.getElem?_toArray, List.getElem?_cons_zero, List.getElem?_cons_succ] at hcell
      exact hI.rd hE hsz 11 32 (.slice (some ⟨gv, 0, none⟩) nv cv) ho rfl rfl hdep (by decide) (vals_at hn1 hn2 10 rfl) (by simp [go_sem, execOp, Act.eval, x31, hcell])
    · have hl : oSp2I[12]? = some ⟨some 33, Op.move (Operand.tmp 7), _, _, _, none⟩ := rfl
      obtain rfl := oI ho hl
      have x7 := hI.old 7 (.int .i64 mid) (by decide) h7
      exact hI.rd hE hsz 12 33 (.int .i64 mid) ho rfl rfl hdep (by decide) (vals_at hn1 hn2 11 rfl) (by simp [go_sem, execOp, Act.eval, x7])
    · have hl : oSp2I[13]? = some ⟨some 34, Op.binOp BinOp.add _ (Operand.tmp 33) (Operand.const (Value.int IntKind.i64 1)) _, _, _, _, none⟩ := rfl
      obtain rfl := oI ho hl
      have x33 := hI.val 12 33 (.int .i64 mid) (mG (i := 11) rfl) (dK ho hdep (by kernel_rfl : waitsB oSp2I 13 12 = true))
      exact hI.rd hE hsz 13 34 (.int .i64 ((mid : Int) + 1)) ho rfl rfl hdep (by decide) (vals_at hn1 hn2 12 rfl) (by simp [go_sem, execOp, Act.eval, x33, hw])
    · have hl : oSp2I[14]? = some ⟨some 35, Op.slice _ (Operand.tmp 32) (some (Operand.tmp 34)) none none, _, _, _, none⟩ := rfl
      obtain rfl := oI ho hl
      have x32 := hI.val 11 32 (.slice (some ⟨gv, 0, none⟩) nv cv) (mG (i := 10) rfl) (dK ho hdep (by kernel_rfl : waitsB oSp2I 14 11 = true))
      have x34 := hI.val 13 34 (.int .i64 ((mid : Int) + 1)) (mG (i := 12) rfl) (dK ho hdep (by kernel_rfl : waitsB oSp2I 14 13 = true))
      exact hI.rd hE hsz 14 35 (.slice (some ⟨gv, mid + 1, none⟩) (nv - (mid + 1)) (cv - (mid + 1))) ho rfl rfl hdep (by decide) (vals_at hn1 hn2 13 rfl) (by simp [go_sem, execOp, Act.eval, x32, x34, htn, hm0, hm2, hnv])
    · have hl : oSp2I[15]? = some ⟨some 36, Op.call ⟨Callee.value (Operand.func _), #[Operand.tmp 35], _⟩, _, _, _, none⟩ := rfl
      obtain rfl := oI ho hl
      have x35 := hI.val 14 35 (.slice (some ⟨gv, mid + 1, none⟩) (nv - (mid + 1)) (cv - (mid + 1))) (mG (i := 13) rfl) (dK ho hdep (by kernel_rfl : waitsB oSp2I 15 14 = true))
      have hS1 := hI.eff
      have e7 : L 7 = true := dK ho hdep (by kernel_rfl : waitsB oSp2I 15 7 = true)
      have e15 : L 15 = false := hL
      have e16 : L 16 = false := hI.no hL (by kernel_rfl : waitsB oSp2I 16 15 = true)
      have e17 : L 17 = false := hI.no (hI.no hL (by kernel_rfl : waitsB oSp2I 16 15 = true)) (by kernel_rfl : waitsB oSp2I 17 16 = true)
      have e18 : L 18 = false := hI.no hL (by kernel_rfl : waitsB oSp2I 18 15 = true)
      simp only [e7, e15, e16, e17, e18, pick_true, pick_false] at hS1
      obtain ⟨_, hps⟩ := hS1.has 7 rfl
      refine inv_call ho rfl (f := 59) (by simp [go_sem, Act.eval, x35]) (cloneI_calls ((valsI es).drop (mid + 1)) _ w1 (srcdropI hps _ (by rw [valsI_length]; omega)) (by intro u hu; exact valsI_one es u (List.mem_of_mem_drop hu)) (by rw [List.length_drop, valsI_length]; omega)) ?_
      rintro e w2 ⟨v2, f2, rfl, hp2, hb2, hf2⟩
      refine ⟨_, rfl, hI.put 15 36 _ ho hdep (by decide) (by intro t ht; exact vals_ne2 rfl rfl (by decide : 15 ∉ [0, 1, 2, 3, 4, 5, 6, 8, 9, 10, 11, 12, 13, 14]) (by decide : 36 ∉ [21, 22, 23, 24, 25, 26, 27, 29, 30, 31, 32, 33, 34, 35]) ht) ?_⟩
      have hS2 := hS1.newA 4 rfl hp2 hb2 hf2
      simp only [e7, e15, e16, e17, e18, Bool.or_false, Bool.or_true, Nat.reduceEqDiff, decide_true, decide_false, pick_true, pick_false, eval_put_same (by rw [h1sz]; decide : 36 < a1.tmps.size), eval_put_ne (by decide : 36 ≠ 28), eval_put_ne (by decide : 36 ≠ 37), eval_put_ne (by decide : 36 ≠ 38), eval_put_ne (by decide : 36 ≠ 8)]
      exact hS2
    · have hl : oSp2I[16]? = some ⟨some 37, Op.build _ #[(0, Operand.tmp 28), (1, Operand.tmp 36)], _, _, _, none⟩ := rfl
      obtain rfl := oI ho hl
      have hS1 := hI.eff
      have e7 : L 7 = true := dK ho hdep (by kernel_rfl : waitsB oSp2I 16 7 = true)
      have e15 : L 15 = true := dK ho hdep (by kernel_rfl : waitsB oSp2I 16 15 = true)
      have e16 : L 16 = false := hL
      have e17 : L 17 = false := hI.no hL (by kernel_rfl : waitsB oSp2I 17 16 = true)
      have e18 : L 18 = false := hI.no hL (by kernel_rfl : waitsB oSp2I 18 16 = true)
      simp only [e7, e15, e16, e17, e18, pick_true, pick_false] at hS1
      obtain ⟨_, hp1⟩ := hS1.has 3 rfl
      obtain ⟨_, hp2⟩ := hS1.has 4 rfl
      obtain ⟨a3, n3, c3, h3⟩ := sl_shape hp1
      obtain ⟨a4, n4, c4, h4⟩ := sl_shape hp2
      have x3 := eval_spell h3
      have x4 := eval_spell h4
      refine inv_value ho rfl (v := .agg #[.slice a3 n3 c3, .slice a4 n4 c4, .slice none 0 0]) (w' := w1) (by simp [go_sem, execOp, Act.eval, x3, x4]) (hI.put 16 37 _ ho hdep (by decide) (by intro t ht; exact vals_ne2 rfl rfl (by decide : 16 ∉ [0, 1, 2, 3, 4, 5, 6, 8, 9, 10, 11, 12, 13, 14]) (by decide : 37 ∉ [21, 22, 23, 24, 25, 26, 27, 29, 30, 31, 32, 33, 34, 35]) ht) ?_)
      have hS2 := hS1.setP 0 rfl (Value.agg #[.slice a3 n3 c3, .slice a4 n4 c4, .slice none 0 0] = .agg #[a1.eval (.tmp 28), a1.eval (.tmp 36), .slice none 0 0]) (by rw [h3, h4])
      simp only [e7, e15, e16, e17, e18, Bool.or_false, Bool.or_true, Nat.reduceEqDiff, decide_true, decide_false, pick_true, pick_false, eval_put_same (by rw [h1sz]; decide : 37 < a1.tmps.size), eval_put_ne (by decide : 37 ≠ 28), eval_put_ne (by decide : 37 ≠ 36), eval_put_ne (by decide : 37 ≠ 38), eval_put_ne (by decide : 37 ≠ 8)]
      exact hS2
    · have hl : oSp2I[17]? = some ⟨some 38, Op.box _ (Operand.tmp 37), _, _, _, none⟩ := rfl
      obtain rfl := oI ho hl
      have hS1 := hI.eff
      have e7 : L 7 = true := hI.yes (dK ho hdep (by kernel_rfl : waitsB oSp2I 17 16 = true)) (by kernel_rfl : waitsB oSp2I 16 7 = true)
      have e15 : L 15 = true := hI.yes (dK ho hdep (by kernel_rfl : waitsB oSp2I 17 16 = true)) (by kernel_rfl : waitsB oSp2I 16 15 = true)
      have e16 : L 16 = true := dK ho hdep (by kernel_rfl : waitsB oSp2I 17 16 = true)
      have e17 : L 17 = false := hL
      have e18 : L 18 = false := hI.no hL (by kernel_rfl : waitsB oSp2I 18 17 = true)
      simp only [e7, e15, e16, e17, e18, pick_true, pick_false] at hS1
      obtain ⟨_, hP, _⟩ := hS1.has 0 rfl
      have x3 := eval_spell hP
      refine inv_value ho rfl (v := .pointer (some ⟨w1.heap.size, 0, none⟩)) (w' := w1.alloc (.cells #[a1.eval (.tmp 28), a1.eval (.tmp 36), .slice none 0 0] 70)) (by simp [go_sem, execOp, Act.eval, x3]) (hI.put 17 38 _ ho hdep (by decide) (by intro t ht; exact vals_ne2 rfl rfl (by decide : 17 ∉ [0, 1, 2, 3, 4, 5, 6, 8, 9, 10, 11, 12, 13, 14]) (by decide : 38 ∉ [21, 22, 23, 24, 25, 26, 27, 29, 30, 31, 32, 33, 34, 35]) ht) ?_)
      have hS2 := hS1.atN 1 rfl 70 #[a1.eval (.tmp 28), a1.eval (.tmp 36), .slice none 0 0]
      simp only [e7, e15, e16, e17, e18, Bool.or_false, Bool.or_true, Nat.reduceEqDiff, decide_true, decide_false, pick_true, pick_false, eval_put_same (by rw [h1sz]; decide : 38 < a1.tmps.size), eval_put_ne (by decide : 38 ≠ 28), eval_put_ne (by decide : 38 ≠ 36), eval_put_ne (by decide : 38 ≠ 37), eval_put_ne (by decide : 38 ≠ 8)]
      exact hS2
    · have hl : oSp2I[18]? = some ⟨some 8, Op.assign (Operand.tmp 38), _, _, _, none⟩ := rfl
      obtain rfl := oI ho hl
      have hS1 := hI.eff
      have e7 : L 7 = true := dK ho hdep (by kernel_rfl : waitsB oSp2I 18 7 = true)
      have e15 : L 15 = true := dK ho hdep (by kernel_rfl : waitsB oSp2I 18 15 = true)
      have e16 : L 16 = true := dK ho hdep (by kernel_rfl : waitsB oSp2I 18 16 = true)
      have e17 : L 17 = true := dK ho hdep (by kernel_rfl : waitsB oSp2I 18 17 = true)
      have e18 : L 18 = false := hL
      simp only [e7, e15, e16, e17, e18, pick_true, pick_false] at hS1
      refine inv_value ho rfl (v := a1.eval (.tmp 38)) (w' := w1) (by simp [go_sem, execOp, Act.eval]) (hI.put 18 8 _ ho hdep (by decide) (by intro t ht; exact vals_ne2 rfl rfl (by decide : 18 ∉ [0, 1, 2, 3, 4, 5, 6, 8, 9, 10, 11, 12, 13, 14]) (by decide : 8 ∉ [21, 22, 23, 24, 25, 26, 27, 29, 30, 31, 32, 33, 34, 35]) ht) ?_)
      have hS2 := hS1.setP 2 rfl True trivial
      simp only [e7, e15, e16, e17, e18, Bool.or_false, Bool.or_true, Nat.reduceEqDiff, decide_true, decide_false, pick_true, eval_put_same (by rw [h1sz]; decide : 8 < a1.tmps.size), eval_put_ne (by decide : 8 ≠ 28), eval_put_ne (by decide : 8 ≠ 36), eval_put_ne (by decide : 8 ≠ 37), eval_put_ne (by decide : 8 ≠ 38)]
      exact hS2
  · intro L a1 w1 hL hI
    have hS1 := hI.eff
    simp only [hL 7 (by rw [hsize]; decide), hL 15 (by rw [hsize]; decide), hL 16 (by rw [hsize]; decide), hL 17 (by rw [hsize]; decide), hL 18 (by rw [hsize]; decide), pick_true] at hS1
    have := hQ (fun d => a1.eval (.tmp d)) w1  hS1
    have e := hI.frame.eq
    rw [e]
    exact this
noncomputable def oSp4I : Array Oper := ((Try.f38.body).bind fun c => opsOf c 4).getD #[]
set_option maxHeartbeats 4000000 in
set_option maxRecDepth 100000 in
theorem rSp4I {Q : Exit → Act → World → Prop} {a : Act} {w w0 : World} {fp0 : List Nat} (cb rb gp np cp mid : Nat) (ck cv rk rv rp : Value) (bs : List Nat) (hmk : mid + 1 < np) (hmc : np ≤ cp) (hek : np = bs.length) (hlen : bs.length < 1099511627776) (R : List Asn) (ops : Array Oper) (hops : ops = oSp4I) (hsz : a.tmps.size = 130) (h6 : a.eval (.tmp 6) = .pointer (some ⟨cb, 0, none⟩)) (h7 : a.eval (.tmp 7) = .int .i64 mid) (h8 : a.eval (.tmp 8) = .pointer (some ⟨rb, 0, none⟩))
    (hS : St w0 fp0 ([blkA rb 70 #[rk, rv, vpick false (a.eval (.tmp 50)) rp], pick false (slA 67 (a.eval (.tmp 50)) ((bs.map ptrI).drop (mid + 1))) emp, blkA cb 70 #[ck, cv, .slice (some ⟨gp, 0, none⟩) np cp], slA 67 (.slice (some ⟨gp, 0, none⟩) np cp) (bs.map ptrI)] ++ R) w)
    (hQ : ∀ (u : Nat → Value) w1, St w0 fp0 ([blkA rb 70 #[rk, rv, vpick true (u 50) rp], pick true (slA 67 (u 50) ((bs.map ptrI).drop (mid + 1))) emp, blkA cb 70 #[ck, cv, .slice (some ⟨gp, 0, none⟩) np cp], slA 67 (.slice (some ⟨gp, 0, none⟩) np cp) (bs.map ptrI)] ++ R) w1 → Q .normal (putL a (([42, 43, 44, 45, 46, 47, 48, 49, 50, 51, 52] : List Nat).map fun d => (d, u d))) w1) : (Code.region 4 ops false).wp Try.prog Q a w := by
  subst hops
  have hw : IntKind.i64.wrap ((mid : Int) + (1 : Int)) = (mid : Int) + (1 : Int) := by rw [IntKind.wrap_i64]; omega
  have htn : ((mid : Int) + (1 : Int)).toNat = mid + 1 := by omega
  have hm0 : (0 : Int) ≤ (mid : Int) + (1 : Int) := by omega
  have hm1 : (mid : Int) + (1 : Int) ≤ np := by omega
  have hm2 : (mid : Int) + (1 : Int) ≤ cp := by omega
  have hnc : ¬ (cp = mid + 1) := by omega
  have hsize : oSp4I.size = 12 := by kernel_rfl
  have hE : Looks (fun L g w => St w0 fp0 ([blkA rb 70 #[rk, rv, vpick (L 11) (g 50) rp], pick (L 8) (slA 67 (g 50) ((bs.map ptrI).drop (mid + 1))) emp, blkA cb 70 #[ck, cv, .slice (some ⟨gp, 0, none⟩) np cp], slA 67 (.slice (some ⟨gp, 0, none⟩) np cp) (bs.map ptrI)] ++ R) w) [8, 11] [50] := by
    intro L L' g g' w hL hg h
    simpa only [← hL 8 (by decide), ← hL 11 (by decide), ← hg 50 (by decide)] using h
  have hn1 : (([(0, 42, .pointer (some ⟨rb, 0, none⟩)), (1, 43, .pointer (some ⟨cb, 0, none⟩)), (2, 44, .pointer (some ⟨cb, 0, none⟩)), (3, 45, .pointer (some ⟨cb, 2, none⟩)), (4, 46, .slice (some ⟨gp, 0, none⟩) np cp), (5, 47, .int .i64 mid), (6, 48, .int .i64 ((mid : Int) + 1)), (7, 49, .slice (some ⟨gp, mid + 1, none⟩) (np - (mid + 1)) (cp - (mid + 1))), (9, 51, .pointer (some ⟨rb, 0, none⟩)), (10, 52, .pointer (some ⟨rb, 2, none⟩))] : List (Nat × Nat × Value)).map (·.1)).Nodup := by
    show List.Nodup [0, 1, 2, 3, 4, 5, 6, 7, 9, 10]
    decide
  have hn2 : (([(0, 42, .pointer (some ⟨rb, 0, none⟩)), (1, 43, .pointer (some ⟨cb, 0, none⟩)), (2, 44, .pointer (some ⟨cb, 0, none⟩)), (3, 45, .pointer (some ⟨cb, 2, none⟩)), (4, 46, .slice (some ⟨gp, 0, none⟩) np cp), (5, 47, .int .i64 mid), (6, 48, .int .i64 ((mid : Int) + 1)), (7, 49, .slice (some ⟨gp, mid + 1, none⟩) (np - (mid + 1)) (cp - (mid + 1))), (9, 51, .pointer (some ⟨rb, 0, none⟩)), (10, 52, .pointer (some ⟨rb, 2, none⟩))] : List (Nat × Nat × Value)).map (·.2.1)).Nodup := by
    show List.Nodup [42, 43, 44, 45, 46, 47, 48, 49, 51, 52]
    decide
  refine wp_region_vals0 (ops' := oSp4I) [42, 43, 44, 45, 46, 47, 48, 49, 50, 51, 52] [(0, 42, .pointer (some ⟨rb, 0, none⟩)), (1, 43, .pointer (some ⟨cb, 0, none⟩)), (2, 44, .pointer (some ⟨cb, 0, none⟩)), (3, 45, .pointer (some ⟨cb, 2, none⟩)), (4, 46, .slice (some ⟨gp, 0, none⟩) np cp), (5, 47, .int .i64 mid), (6, 48, .int .i64 ((mid : Int) + 1)), (7, 49, .slice (some ⟨gp, mid + 1, none⟩) (np - (mid + 1)) (cp - (mid + 1))), (9, 51, .pointer (some ⟨rb, 0, none⟩)), (10, 52, .pointer (some ⟨rb, 2, none⟩))] (fun L g w => St w0 fp0 ([blkA rb 70 #[rk, rv, vpick (L 11) (g 50) rp], pick (L 8) (slA 67 (g 50) ((bs.map ptrI).drop (mid + 1))) emp, blkA cb 70 #[ck, cv, .slice (some ⟨gp, 0, none⟩) np cp], slA 67 (.slice (some ⟨gp, 0, none⟩) np cp) (bs.map ptrI)] ++ R) w) rfl (by kernel_rfl) hS ?_ ?_
  · intro oi o L a1 w1 ho hL hdep hI
    have hoi : oi < 12 := by have := (Array.getElem?_eq_some_iff.1 ho).1; omega
    have h1sz : a1.tmps.size = 130 := hI.frame.size.trans hsz
    rcases (by omega : oi = 0 ∨ oi = 1 ∨ oi = 2 ∨ oi = 3 ∨ oi = 4 ∨ oi = 5 ∨ oi = 6 ∨ oi = 7 ∨ oi = 8 ∨ oi = 9 ∨ oi = 10 ∨ oi = 11) with rfl | rfl | rfl | rfl | rfl | rfl | rfl | rfl | rfl | rfl | rfl | rfl
    · have hl : oSp4I[0]? = some ⟨some 42, Op.move (Operand.tmp 8), _, _, _, none⟩ := rfl
      obtain rfl := oI ho hl
      have x8 := hI.old 8 (.pointer (some ⟨rb, 0, none⟩)) (by decide) h8
      exact hI.rd hE hsz 0 42 (.pointer (some ⟨rb, 0, none⟩)) ho rfl rfl hdep (by decide) (vals_at hn1 hn2 0 rfl) (by simp [go_sem, execOp, Act.eval, x8])
    · have hl : oSp4I[1]? = some ⟨some 43, Op.move (Operand.tmp 6), _, _, _, none⟩ := rfl
      obtain rfl := oI ho hl
      have x6 := hI.old 6 (.pointer (some ⟨cb, 0, none⟩)) (by decide) h6
      exact hI.rd hE hsz 1 43 (.pointer (some ⟨cb, 0, none⟩)) ho rfl rfl hdep (by decide) (vals_at hn1 hn2 1 rfl) (by simp [go_sem, execOp, Act.eval, x6])
    · have hl : oSp4I[2]? = some ⟨some 44, Op.nilCheck (Operand.tmp 43), _, _, _, none⟩ := rfl
      obtain rfl := oI ho hl
      have x43 := hI.val 1 43 (.pointer (some ⟨cb, 0, none⟩)) (mG (i := 1) rfl) (dK ho hdep (by kernel_rfl : waitsB oSp4I 2 1 = true))
      exact hI.rd hE hsz 2 44 (.pointer (some ⟨cb, 0, none⟩)) ho rfl rfl hdep (by decide) (vals_at hn1 hn2 2 rfl) (by simp [go_sem, execOp, Act.eval, x43])
    · have hl : oSp4I[3]? = some ⟨some 45, Op.fieldAddr _ (Operand.tmp 44) 2, _, _, _, none⟩ := rfl
      obtain rfl := oI ho hl
      have x44 := hI.val 2 44 (.pointer (some ⟨cb, 0, none⟩)) (mG (i := 2) rfl) (dK ho hdep (by kernel_rfl : waitsB oSp4I 3 2 = true))
      exact hI.rd hE hsz 3 45 (.pointer (some ⟨cb, 2, none⟩)) ho rfl rfl hdep (by decide) (vals_at hn1 hn2 3 rfl) (by simp [go_sem, execOp, Act.eval, x44])
    · have hl : oSp4I[4]? = some ⟨some 46, Op.load _ (Operand.tmp 45), _, _, _, none⟩ := rfl
      obtain rfl := oI ho hl
      have x45 := hI.val 3 45 (.pointer (some ⟨cb, 2, none⟩)) (mG (i := 3) rfl) (dK ho hdep (by kernel_rfl : waitsB oSp4I 4 3 = true))
      have hS1 := hI.eff
      have e11 : L 11 = false := hI.no hL (by kernel_rfl : waitsB oSp4I 11 4 = true)
      simp only [e11, vpick_false] at hS1
      obtain ⟨_, hp⟩ := hS1.has 2 rfl
      have hcell := (blk_get hp).1 2
      have hlt := (blk_get hp).2.2
      simp only [List.getElem?_toArray, List.getElem?_cons_zero, List.getElem?_cons_succ] at hcell
      exact hI.rd hE hsz 4 46 (.slice (some ⟨gp, 0, none⟩) np cp) ho rfl rfl hdep (by decide) (vals_at hn1 hn2 4 rfl) (by simp [go_sem, execOp, Act.eval, x45, hcell])
    · have hl : oSp4I[5]? = some ⟨some 47, Op.move (Operand.tmp 7), _, _, _, none⟩ := rfl
      obtain rfl := oI ho hl
      have x7 := hI.old 7 (.int .i64 mid) (by decide) h7
      exact hI.rd hE hsz 5 47 (.int .i64 mid) ho rfl rfl hdep (by decide) (vals_at hn1 hn2 5 rfl) (by simp [go_sem, execOp, Act.eval, x7])
    · have hl : oSp4I[6]? = some ⟨some 48, Op.binOp BinOp.add _ (Operand.tmp 47) (Operand.const (Value.int IntKind.i64 1)) _, _, _, _, none⟩ := rfl
      obtain rfl := oI ho hl
      have x47 := hI.val 5 47 (.int .i64 mid) (mG (i := 5) rfl) (dK ho hdep (by kernel_rfl : waitsB oSp4I 6 5 = true))
      exact hI.rd hE hsz 6 48 (.int .i64 ((mid : Int) + 1)) ho rfl rfl hdep (by decide) (vals_at hn1 hn2 6 rfl) (by simp [go_sem, execOp, Act.eval, x47, hw])
    · have hl : oSp4I[7]? = some ⟨some 49, Op.slice _ (Operand.tmp 46) (some (Operand.tmp 48)) none none, _, _, _, none⟩ := rfl
      obtain rfl := oI ho hl
      have x46 := hI.val 4 46 (.slice (some ⟨gp, 0, none⟩) np cp) (mG (i := 4) rfl) (dK ho hdep (by kernel_rfl : waitsB oSp4I 7 4 = true))
      have x48 := hI.val 6 48 (.int .i64 ((mid : Int) + 1)) (mG (i := 6) rfl) (dK ho hdep (by kernel_rfl : waitsB oSp4I 7 6 = true))
      exact hI.rd hE hsz 7 49 (.slice (some ⟨gp, mid + 1, none⟩) (np - (mid + 1)) (cp - (mid + 1))) ho rfl rfl hdep (by decide) (vals_at hn1 hn2 7 rfl) (by simp [go_sem, execOp, Act.eval, x46, x48, htn, hm0, hm1, hnc])
    · have hl : oSp4I[8]? = some ⟨some 50, Op.call ⟨Callee.value (Operand.func _), #[Operand.tmp 49], _⟩, _, _, _, none⟩ := rfl
      obtain rfl := oI ho hl
      have x49 := hI.val 7 49 (.slice (some ⟨gp, mid + 1, none⟩) (np - (mid + 1)) (cp - (mid + 1))) (mG (i := 7) rfl) (dK ho hdep (by kernel_rfl : waitsB oSp4I 8 7 = true))
      have hS1 := hI.eff
      have e8 : L 8 = false := hL
      have e11 : L 11 = false := hI.no hL (by kernel_rfl : waitsB oSp4I 11 8 = true)
      simp only [e8, e11, pick_false, vpick_false] at hS1
      obtain ⟨_, hps⟩ := hS1.has 3 rfl
      refine inv_call ho rfl (f := 60) (by simp [go_sem, Act.eval, x49]) (cloneP_calls ((bs.map ptrI).drop (mid + 1)) _ w1 (srcdropP hps _ (by rw [List.length_map]; omega)) (by intro u hu; exact ptrI_one bs u (List.mem_of_mem_drop hu)) (by rw [List.length_drop, List.length_map]; omega)) ?_
      rintro e w2 ⟨v2, f2, rfl, hp2, hb2, hf2⟩
      refine ⟨_, rfl, hI.put 8 50 _ ho hdep (by decide) (by intro t ht; exact vals_ne2 rfl rfl (by decide : 8 ∉ [0, 1, 2, 3, 4, 5, 6, 7, 9, 10]) (by decide : 50 ∉ [42, 43, 44, 45, 46, 47, 48, 49, 51, 52]) ht) ?_⟩
      have hS2 := hS1.newA 1 rfl hp2 hb2 hf2
      simp only [e8, e11, Bool.or_false, Bool.or_true, Nat.reduceEqDiff, decide_true, decide_false, pick_true, vpick_false, eval_put_same (by rw [h1sz]; decide : 50 < a1.tmps.size)]
      exact hS2
    · have hl : oSp4I[9]? = some ⟨some 51, Op.nilCheck (Operand.tmp 42), _, _, _, none⟩ := rfl
      obtain rfl := oI ho hl
      have x42 := hI.val 0 42 (.pointer (some ⟨rb, 0, none⟩)) (mG (i := 0) rfl) (dK ho hdep (by kernel_rfl : waitsB oSp4I 9 0 = true))
      exact hI.rd hE hsz 9 51 (.pointer (some ⟨rb, 0, none⟩)) ho rfl rfl hdep (by decide) (vals_at hn1 hn2 8 rfl) (by simp [go_sem, execOp, Act.eval, x42])
    · have hl : oSp4I[10]? = some ⟨some 52, Op.fieldAddr _ (Operand.tmp 51) 2, _, _, _, none⟩ := rfl
      obtain rfl := oI ho hl
      have x51 := hI.val 9 51 (.pointer (some ⟨rb, 0, none⟩)) (mG (i := 8) rfl) (dK ho hdep (by kernel_rfl : waitsB oSp4I 10 9 = true))
      exact hI.rd hE hsz 10 52 (.pointer (some ⟨rb, 2, none⟩)) ho rfl rfl hdep (by decide) (vals_at hn1 hn2 9 rfl) (by simp [go_sem, execOp, Act.eval, x51])
    · have hl : oSp4I[11]? = some ⟨none, Op.store _ (Operand.tmp 52) (Operand.tmp 50), _, _, _, none⟩ := rfl
      obtain rfl := oI ho hl
      have x52 := hI.val 10 52 (.pointer (some ⟨rb, 2, none⟩)) (mG (i := 9) rfl) (dK ho hdep (by kernel_rfl : waitsB oSp4I 11 10 = true))
      have hS1 := hI.eff
      have e8 : L 8 = true := dK ho hdep (by kernel_rfl : waitsB oSp4I 11 8 = true)
      have e11 : L 11 = false := hL
      simp only [e8, e11, pick_true, vpick_false] at hS1
      obtain ⟨_, hpv⟩ := hS1.has 1 rfl
      obtain ⟨av, nv, cv, hv⟩ := sl_shape hpv
      have xv := eval_spell hv
      obtain ⟨f, hp, hset⟩ := hS1.get 0 rfl
      have hcell := (blk_get hp).1 2
      have hfz := (blk_get hp).2.1 2
      have hlt := (blk_get hp).2.2
      simp only [List.getElem?_toArray, List.getElem?_cons_zero, List.getElem?_cons_succ] at hcell
      refine inv_stored ho rfl rfl (by simp [go_sem, execOp, Act.eval, x52, xv, hcell, hfz]; rfl) (hI.step 11 ho hdep (by intro t ht; exact vals_ne1 rfl (by decide : 11 ∉ [0, 1, 2, 3, 4, 5, 6, 7, 9, 10]) ht) ?_)
      obtain ⟨hb2, ht2⟩ := blk_set hp 2 (a1.eval (.tmp 50))
      have hS2 := hset _ _ _ hb2 ht2
      simp only [e8, e11, Bool.or_false, Bool.or_true, Nat.reduceEqDiff, decide_true, decide_false, pick_true, vpick_true]
      rw [hv] at hS2
      rw [hv]
      exact hS2
  · intro L a1 w1 hL hI
    have hS1 := hI.eff
    simp only [hL 8 (by rw [hsize]; decide), hL 11 (by rw [hsize]; decide), pick_true, vpick_true] at hS1
    have := hQ (fun d => a1.eval (.tmp d)) w1  hS1
    have e := hI.frame.eq
    rw [e]
    exact this
noncomputable def oSp5I : Array Oper := ((Try.f38.body).bind fun c => opsOf c 5).getD #[]
set_option maxHeartbeats 4000000 in
set_option maxRecDepth 100000 in
theorem rSp5I {Q : Exit → Act → World → Prop} {a : Act} {w w0 : World} {fp0 : List Nat} (cb gp np cp mid : Nat) (ck cv : Value) (bs : List Nat) (hmk : mid + 1 < np) (hmc : np ≤ cp) (hek : np = bs.length) (hlen : bs.length < 1099511627776) (R : List Asn) (ops : Array Oper) (hops : ops = oSp5I) (hsz : a.tmps.size = 130) (h6 : a.eval (.tmp 6) = .pointer (some ⟨cb, 0, none⟩)) (h7 : a.eval (.tmp 7) = .int .i64 mid)
    (hS : St w0 fp0 ([blkA cb 70 #[ck, cv, vpick false (a.eval (.tmp 61)) (.slice (some ⟨gp, 0, none⟩) np cp)], pick false (slA 67 (a.eval (.tmp 61)) ((bs.map ptrI).take (mid + 1))) emp, slA 67 (.slice (some ⟨gp, 0, none⟩) np cp) (bs.map ptrI)] ++ R) w)
    (hQ : ∀ (u : Nat → Value) w1, St w0 fp0 ([blkA cb 70 #[ck, cv, vpick true (u 61) (.slice (some ⟨gp, 0, none⟩) np cp)], pick true (slA 67 (u 61) ((bs.map ptrI).take (mid + 1))) emp, slA 67 (.slice (some ⟨gp, 0, none⟩) np cp) (bs.map ptrI)] ++ R) w1 → Q .normal (putL a (([53, 54, 55, 56, 57, 58, 59, 60, 61, 62, 63] : List Nat).map fun d => (d, u d))) w1) : (Code.region 5 ops false).wp Try.prog Q a w := by
  subst hops
  have hw : IntKind.i64.wrap ((mid : Int) + (1 : Int)) = (mid : Int) + (1 : Int) := by rw [IntKind.wrap_i64]; omega
  have htn : ((mid : Int) + (1 : Int)).toNat = mid + 1 := by omega
  have hm0 : (0 : Int) ≤ (mid : Int) + (1 : Int) := by omega
  have hm1 : (mid : Int) + (1 : Int) ≤ np := by omega
  have hm2 : (mid : Int) + (1 : Int) ≤ cp := by omega
  have hnc : ¬ (cp = mid + 1) := by omega
  have hsize : oSp5I.size = 12 := by kernel_rfl
  have hE : Looks (fun L g w => St w0 fp0 ([blkA cb 70 #[ck, cv, vpick (L 11) (g 61) (.slice (some ⟨gp, 0, none⟩) np cp)], pick (L 8) (slA 67 (g 61) ((bs.map ptrI).take (mid + 1))) emp, slA 67 (.slice (some ⟨gp, 0, none⟩) np cp) (bs.map ptrI)] ++ R) w) [8, 11] [61] := by
    intro L L' g g' w hL hg h
    simpa only [← hL 8 (by decide), ← hL 11 (by decide), ← hg 61 (by decide)] using h
  have hn1 : (([(0, 53, .pointer (some ⟨cb, 0, none⟩)), (1, 54, .pointer (some ⟨cb, 0, none⟩)), (2, 55, .pointer (some ⟨cb, 0, none⟩)), (3, 56, .pointer (some ⟨cb, 2, none⟩)), (4, 57, .slice (some ⟨gp, 0, none⟩) np cp), (5, 58, .int .i64 mid), (6, 59, .int .i64 ((mid : Int) + 1)), (7, 60, .slice (some ⟨gp, 0, none⟩) (mid + 1) cp), (9, 62, .pointer (some ⟨cb, 0, none⟩)), (10, 63, .pointer (some ⟨cb, 2, none⟩))] : List (Nat × Nat × Value)).map (·.1)).Nodup := by
    show List.Nodup [0, 1, 2, 3, 4, 5, 6, 7, 9, 10]
    decide
  have hn2 : (([(0, 53, .pointer (some ⟨cb, 0, none⟩)), (1, 54, .pointer (some ⟨cb, 0, none⟩)), (2, 55, .pointer (some ⟨cb, 0, none⟩)), (3, 56, .pointer (some ⟨cb, 2, none⟩)), (4, 57, .slice (some ⟨gp, 0, none⟩) np cp), (5, 58, .int .i64 mid), (6, 59, .int .i64 ((mid : Int) + 1)), (7, 60, .slice (some ⟨gp, 0, none⟩) (mid + 1) cp), (9, 62, .pointer (some ⟨cb, 0, none⟩)), (10, 63, .pointer (some ⟨cb, 2, none⟩))] : List (Nat × Nat × Value)).map (·.2.1)).Nodup := by
    show List.Nodup [53, 54, 55, 56, 57, 58, 59, 60, 62, 63]
    decide
  refine wp_region_vals0 (ops' := oSp5I) [53, 54, 55, 56, 57, 58, 59, 60, 61, 62, 63] [(0, 53, .pointer (some ⟨cb, 0, none⟩)), (1, 54, .pointer (some ⟨cb, 0, none⟩)), (2, 55, .pointer (some ⟨cb, 0, none⟩)), (3, 56, .pointer (some ⟨cb, 2, none⟩)), (4, 57, .slice (some ⟨gp, 0, none⟩) np cp), (5, 58, .int .i64 mid), (6, 59, .int .i64 ((mid : Int) + 1)), (7, 60, .slice (some ⟨gp, 0, none⟩) (mid + 1) cp), (9, 62, .pointer (some ⟨cb, 0, none⟩)), (10, 63, .pointer (some ⟨cb, 2, none⟩))] (fun L g w => St w0 fp0 ([blkA cb 70 #[ck, cv, vpick (L 11) (g 61) (.slice (some ⟨gp, 0, none⟩) np cp)], pick (L 8) (slA 67 (g 61) ((bs.map ptrI).take (mid + 1))) emp, slA 67 (.slice (some ⟨gp, 0, none⟩) np cp) (bs.map ptrI)] ++ R) w) rfl (by kernel_rfl) hS ?_ ?_
  · intro oi o L a1 w1 ho hL hdep hI
    have hoi : oi < 12 := by have := (Array.getElem?_eq_some_iff.1 ho).1; omega
    have h1sz : a1.tmps.size = 130 := hI.frame.size.trans hsz
    rcases (by omega : oi = 0 ∨ oi = 1 ∨ oi = 2 ∨ oi = 3 ∨ oi = 4 ∨ oi = 5 ∨ oi = 6 ∨ oi = 7 ∨ oi = 8 ∨ oi = 9 ∨ oi = 10 ∨ oi = 11) with rfl | rfl | rfl | rfl | rfl | rfl | rfl | rfl | rfl | rfl | rfl | rfl
    · have hl : oSp5I[0]? = some ⟨some 53, Op.move (Operand.tmp 6), _, _, _, none⟩ := rfl
      obtain rfl := oI ho hl
      have x6 := hI.old 6 (.pointer (some ⟨cb, 0, none⟩)) (by decide) h6
      exact hI.rd hE hsz 0 53 (.pointer (some ⟨cb, 0, none⟩)) ho rfl rfl hdep (by decide) (vals_at hn1 hn2 0 rfl) (by simp [go_sem, execOp, Act.eval, x6])
    · have hl : oSp5I[1]? = some ⟨some 54, Op.move (Operand.tmp 6), _, _, _, none⟩ := rfl
      obtain rfl := oI ho hl
      have x6 := hI.old 6 (.pointer (some ⟨cb, 0, none⟩)) (by decide) h6
      exact hI.rd hE hsz 1 54 (.pointer (some ⟨cb, 0, none⟩)) ho rfl rfl hdep (by decide) (vals_at hn1 hn2 1 rfl) (by simp [go_sem, execOp, Act.eval, x6])
    · have hl : oSp5I[2]? = some ⟨some 55, Op.nilCheck (Operand.tmp 54), _, _, _, none⟩ := rfl
      obtain rfl := oI ho hl
      have x54 := hI.val 1 54 (.pointer (some ⟨cb, 0, none⟩)) (mG (i := 1) rfl) (dK ho hdep (by kernel_rfl : waitsB oSp5I 2 1 = true))
      exact hI.rd hE hsz 2 55 (.pointer (some ⟨cb, 0, none⟩)) ho rfl rfl hdep (by decide) (vals_at hn1 hn2 2 rfl) (by simp [go_sem, execOp, Act.eval, x54])
    · have hl : oSp5I[3]? = some ⟨some 56, Op.fieldAddr _ (Operand.tmp 55) 2, _, _, _, none⟩ := rfl
      obtain rfl := oI ho hl
      have x55 := hI.val 2 55 (.pointer (some ⟨cb, 0, none⟩)) (mG (i := 2) rfl) (dK ho hdep (by kernel_rfl : waitsB oSp5I 3 2 = true))
      exact hI.rd hE hsz 3 56 (.pointer (some ⟨cb, 2, none⟩)) ho rfl rfl hdep (by decide) (vals_at hn1 hn2 3 rfl) (by simp [go_sem, execOp, Act.eval, x55])
    · have hl : oSp5I[4]? = some ⟨some 57, Op.load _ (Operand.tmp 56), _, _, _, none⟩ := rfl
      obtain rfl := oI ho hl
      have x56 := hI.val 3 56 (.pointer (some ⟨cb, 2, none⟩)) (mG (i := 3) rfl) (dK ho hdep (by kernel_rfl : waitsB oSp5I 4 3 = true))
      have hS1 := hI.eff
      have e11 : L 11 = false := hI.no hL (by kernel_rfl : waitsB oSp5I 11 4 = true)
      simp only [e11, vpick_false] at hS1
      obtain ⟨_, hp⟩ := hS1.has 0 rfl
      have hcell := (blk_get hp).1 2
      have hlt := (blk_get hp).2.2
      simp only [List.getElem?_toArray, List.getElem?_cons_zero, List.getElem?_cons_succ] at hcell
      exact hI.rd hE hsz 4 57 (.slice (some ⟨gp, 0, none⟩) np cp) ho rfl rfl hdep (by decide) (vals_at hn1 hn2 4 rfl) (by simp [go_sem, execOp, Act.eval, x56, hcell])
    · have hl : oSp5I[5]? = some ⟨some 58, Op.move (Operand.tmp 7), _, _, _, none⟩ := rfl
      obtain rfl := oI ho hl
      have x7 := hI.old 7 (.int .i64 mid) (by decide) h7
      exact hI.rd hE hsz 5 58 (.int .i64 mid) ho rfl rfl hdep (by decide) (vals_at hn1 hn2 5 rfl) (by simp [go_sem, execOp, Act.eval, x7])
    · have hl : oSp5I[6]? = some ⟨some 59, Op.binOp BinOp.add _ (Operand.tmp 58) (Operand.const (Value.int IntKind.i64 1)) _, _, _, _, none⟩ := rfl
      obtain rfl := oI ho hl
      have x58 := hI.val 5 58 (.int .i64 mid) (mG (i := 5) rfl) (dK ho hdep (by kernel_rfl : waitsB oSp5I 6 5 = true))
      exact hI.rd hE hsz 6 59 (.int .i64 ((mid : Int) + 1)) ho rfl rfl hdep (by decide) (vals_at hn1 hn2 6 rfl) (by simp [go_sem, execOp, Act.eval, x58, hw])
    · have hl : oSp5I[7]? = some ⟨some 60, Op.slice _ (Operand.tmp 57) none (some (Operand.tmp 59)) none, _, _, _, none⟩ := rfl
      obtain rfl := oI ho hl
      have x57 := hI.val 4 57 (.slice (some ⟨gp, 0, none⟩) np cp) (mG (i := 4) rfl) (dK ho hdep (by kernel_rfl : waitsB oSp5I 7 4 = true))
      have x59 := hI.val 6 59 (.int .i64 ((mid : Int) + 1)) (mG (i := 6) rfl) (dK ho hdep (by kernel_rfl : waitsB oSp5I 7 6 = true))
      exact hI.rd hE hsz 7 60 (.slice (some ⟨gp, 0, none⟩) (mid + 1) cp) ho rfl rfl hdep (by decide) (vals_at hn1 hn2 7 rfl) (by simp [go_sem, execOp, Act.eval, x57, x59, htn, hm0, hm2])
    · have hl : oSp5I[8]? = some ⟨some 61, Op.call ⟨Callee.value (Operand.func _), #[Operand.tmp 60], _⟩, _, _, _, none⟩ := rfl
      obtain rfl := oI ho hl
      have x60 := hI.val 7 60 (.slice (some ⟨gp, 0, none⟩) (mid + 1) cp) (mG (i := 7) rfl) (dK ho hdep (by kernel_rfl : waitsB oSp5I 8 7 = true))
      have hS1 := hI.eff
      have e8 : L 8 = false := hL
      have e11 : L 11 = false := hI.no hL (by kernel_rfl : waitsB oSp5I 11 8 = true)
      simp only [e8, e11, pick_false, vpick_false] at hS1
      obtain ⟨_, hps⟩ := hS1.has 2 rfl
      refine inv_call ho rfl (f := 60) (by simp [go_sem, Act.eval, x60]) (cloneP_calls ((bs.map ptrI).take (mid + 1)) _ w1 (srctakeP hps _ (by rw [List.length_map]; omega)) (by intro u hu; exact ptrI_one bs u (List.mem_of_mem_take hu)) (by rw [List.length_take, List.length_map]; omega)) ?_
      rintro e w2 ⟨v2, f2, rfl, hp2, hb2, hf2⟩
      refine ⟨_, rfl, hI.put 8 61 _ ho hdep (by decide) (by intro t ht; exact vals_ne2 rfl rfl (by decide : 8 ∉ [0, 1, 2, 3, 4, 5, 6, 7, 9, 10]) (by decide : 61 ∉ [53, 54, 55, 56, 57, 58, 59, 60, 62, 63]) ht) ?_⟩
      have hS2 := hS1.newA 1 rfl hp2 hb2 hf2
      simp only [e8, e11, Bool.or_false, Bool.or_true, Nat.reduceEqDiff, decide_true, decide_false, pick_true, vpick_false, eval_put_same (by rw [h1sz]; decide : 61 < a1.tmps.size)]
      exact hS2
    · have hl : oSp5I[9]? = some ⟨some 62, Op.nilCheck (Operand.tmp 53), _, _, _, none⟩ := rfl
      obtain rfl := oI ho hl
      have x53 := hI.val 0 53 (.pointer (some ⟨cb, 0, none⟩)) (mG (i := 0) rfl) (dK ho hdep (by kernel_rfl : waitsB oSp5I 9 0 = true))
      exact hI.rd hE hsz 9 62 (.pointer (some ⟨cb, 0, none⟩)) ho rfl rfl hdep (by decide) (vals_at hn1 hn2 8 rfl) (by simp [go_sem, execOp, Act.eval, x53])
    · have hl : oSp5I[10]? = some ⟨some 63, Op.fieldAddr _ (Operand.tmp 62) 2, _, _, _, none⟩ := rfl
      obtain rfl := oI ho hl
      have x62 := hI.val 9 62 (.pointer (some ⟨cb, 0, none⟩)) (mG (i := 8) rfl) (dK ho hdep (by kernel_rfl : waitsB oSp5I 10 9 = true))
      exact hI.rd hE hsz 10 63 (.pointer (some ⟨cb, 2, none⟩)) ho rfl rfl hdep (by decide) (vals_at hn1 hn2 9 rfl) (by simp [go_sem, execOp, Act.eval, x62])
    · have hl : oSp5I[11]? = some ⟨none, Op.store _ (Operand.tmp 63) (Operand.tmp 61), _, _, _, none⟩ := rfl
      obtain rfl := oI ho hl
      have x63 := hI.val 10 63 (.pointer (some ⟨cb, 2, none⟩)) (mG (i := 9) rfl) (dK ho hdep (by kernel_rfl : waitsB oSp5I 11 10 = true))
      have hS1 := hI.eff
      have e8 : L 8 = true := dK ho hdep (by kernel_rfl : waitsB oSp5I 11 8 = true)
      have e11 : L 11 = false := hL
      simp only [e8, e11, pick_true, vpick_false] at hS1
      obtain ⟨_, hpv⟩ := hS1.has 1 rfl
      obtain ⟨av, nv, cv, hv⟩ := sl_shape hpv
      have xv := eval_spell hv
      obtain ⟨f, hp, hset⟩ := hS1.get 0 rfl
      have hcell := (blk_get hp).1 2
      have hfz := (blk_get hp).2.1 2
      have hlt := (blk_get hp).2.2
      simp only [List.getElem?_toArray, List.getElem?_cons_zero, List.getElem?_cons_succ] at hcell
      refine inv_stored ho rfl rfl (by simp [go_sem, execOp, Act.eval, x63, xv, hcell, hfz]; rfl) (hI.step 11 ho hdep (by intro t ht; exact vals_ne1 rfl (by decide : 11 ∉ [0, 1, 2, 3, 4, 5, 6, 7, 9, 10]) ht) ?_)
      obtain ⟨hb2, ht2⟩ := blk_set hp 2 (a1.eval (.tmp 61))
      have hS2 := hset _ _ _ hb2 ht2
      simp only [e8, e11, Bool.or_false, Bool.or_true, Nat.reduceEqDiff, decide_true, decide_false, pick_true, vpick_true]
      rw [hv] at hS2
      rw [hv]
      exact hS2
  · intro L a1 w1 hL hI
    have hS1 := hI.eff
    simp only [hL 8 (by rw [hsize]; decide), hL 11 (by rw [hsize]; decide), pick_true, vpick_true] at hS1
    have := hQ (fun d => a1.eval (.tmp d)) w1  hS1
    have e := hI.frame.eq
    rw [e]
    exact this
noncomputable def oSp6I : Array Oper := ((Try.f38.body).bind fun c => opsOf c 6).getD #[]
set_option maxHeartbeats 4000000 in
set_option maxRecDepth 100000 in
theorem rSp6I {Q : Exit → Act → World → Prop} {a : Act} {w w0 : World} {fp0 : List Nat} (b cb gk nk ck gv nv cv mid i : Nat) (ks vs ps cps : Value) (ex es : M Int Int) (y : Int × Int) (hi : i ≤ ex.length) (hlx : ex.length < 1099511627776) (hmk : mid < nk) (hmv : mid < nv) (_hek : nk = es.length) (hev : nv = es.length) (hy : es[mid]? = some y) (R : List Asn) (ops : Array Oper) (hops : ops = oSp6I) (hsz : a.tmps.size = 130) (h1 : a.eval (.tmp 1) = .pointer (some ⟨b, 0, none⟩)) (h2 : a.eval (.tmp 2) = .int .i64 i) (h6 : a.eval (.tmp 6) = .pointer (some ⟨cb, 0, none⟩)) (h7 : a.eval (.tmp 7) = .int .i64 mid)
    (hS : St w0 fp0 ([pick false (boxA 3 (a.eval (.tmp 78)) (encI y.1)) emp, pick false (boxA 3 (a.eval (.tmp 92)) (valI y.2)) emp, blkA b 70 #[vpick false (a.eval (.tmp 79)) ks, vpick false (a.eval (.tmp 93)) vs, ps], pick false (slA 3 (a.eval (.tmp 79)) ((keysI ex).take i ++ encI y.1 :: (keysI ex).drop i)) (slA 3 ks (keysI ex)), pick false (slA 3 (a.eval (.tmp 93)) ((valsI ex).take i ++ valI y.2 :: (valsI ex).drop i)) (slA 3 vs (valsI ex)), blkA cb 70 #[.slice (some ⟨gk, 0, none⟩) nk ck, .slice (some ⟨gv, 0, none⟩) nv cv, cps], slA 3 (.slice (some ⟨gk, 0, none⟩) nk ck) (keysI es), slA 3 (.slice (some ⟨gv, 0, none⟩) nv cv) (valsI es)] ++ R) w)
    (hQ : ∀ (u : Nat → Value) w1, St w0 fp0 ([pick true (boxA 3 (u 78) (encI y.1)) emp, pick true (boxA 3 (u 92) (valI y.2)) emp, blkA b 70 #[vpick true (u 79) ks, vpick true (u 93) vs, ps], pick true (slA 3 (u 79) ((keysI ex).take i ++ encI y.1 :: (keysI ex).drop i)) (slA 3 ks (keysI ex)), pick true (slA 3 (u 93) ((valsI ex).take i ++ valI y.2 :: (valsI ex).drop i)) (slA 3 vs (valsI ex)), blkA cb 70 #[.slice (some ⟨gk, 0, none⟩) nk ck, .slice (some ⟨gv, 0, none⟩) nv cv, cps], slA 3 (.slice (some ⟨gk, 0, none⟩) nk ck) (keysI es), slA 3 (.slice (some ⟨gv, 0, none⟩) nv cv) (valsI es)] ++ R) w1 → Q .normal (putL a (([64, 65, 66, 67, 68, 69, 70, 71, 72, 73, 74, 75, 76, 77, 78, 79, 80, 81, 82, 83, 84, 85, 86, 87, 88, 89, 90, 91, 92, 93, 94, 95, 96, 97] : List Nat).map fun d => (d, u d))) w1) : (Code.region 6 ops true).wp Try.prog Q a w := by
  subst hops
  have hyk : ∀ h, (keysI es)[mid]'h = encI y.1 := by intro h; simp only [keysI, List.getElem_map]; rw [(List.getElem?_eq_some_iff.1 hy).2]
  have hyv : ∀ h, (valsI es)[mid]'h = valI y.2 := by intro h; simp only [valsI, List.getElem_map]; rw [(List.getElem?_eq_some_iff.1 hy).2]
  have hsize : oSp6I.size = 36 := by kernel_rfl
  have hE : Looks (fun L g w => St w0 fp0 ([pick (L 14) (boxA 3 (g 78) (encI y.1)) emp, pick (L 28) (boxA 3 (g 92) (valI y.2)) emp, blkA b 70 #[vpick (L 32) (g 79) ks, vpick (L 35) (g 93) vs, ps], pick (L 15) (slA 3 (g 79) ((keysI ex).take i ++ encI y.1 :: (keysI ex).drop i)) (slA 3 ks (keysI ex)), pick (L 29) (slA 3 (g 93) ((valsI ex).take i ++ valI y.2 :: (valsI ex).drop i)) (slA 3 vs (valsI ex)), blkA cb 70 #[.slice (some ⟨gk, 0, none⟩) nk ck, .slice (some ⟨gv, 0, none⟩) nv cv, cps], slA 3 (.slice (some ⟨gk, 0, none⟩) nk ck) (keysI es), slA 3 (.slice (some ⟨gv, 0, none⟩) nv cv) (valsI es)] ++ R) w) [14, 15, 28, 29, 32, 35] [78, 79, 92, 93] := by
    intro L L' g g' w hL hg h
    simpa only [← hL 14 (by decide), ← hL 15 (by decide), ← hL 28 (by decide), ← hL 29 (by decide), ← hL 32 (by decide), ← hL 35 (by decide), ← hg 78 (by decide), ← hg 79 (by decide), ← hg 92 (by decide), ← hg 93 (by decide)] using h
  have hn1 : (([(0, 64, .pointer (some ⟨b, 0, none⟩)), (1, 65, .pointer (some ⟨b, 0, none⟩)), (2, 66, .pointer (some ⟨b, 0, none⟩)), (3, 67, .pointer (some ⟨b, 0, none⟩)), (4, 68, .pointer (some ⟨b, 0, none⟩)), (5, 69, ks), (6, 70, .int .i64 i), (7, 71, .pointer (some ⟨cb, 0, none⟩)), (8, 72, .pointer (some ⟨cb, 0, none⟩)), (9, 73, .pointer (some ⟨cb, 0, none⟩)), (10, 74, .slice (some ⟨gk, 0, none⟩) nk ck), (11, 75, .int .i64 mid), (12, 76, .pointer (some ⟨gk, mid, none⟩)), (13, 77, encI y.1), (16, 80, .pointer (some ⟨b, 0, none⟩)), (17, 81, .pointer (some ⟨b, 0, none⟩)), (18, 82, .pointer (some ⟨b, 1, none⟩)), (19, 83, vs), (20, 84, .int .i64 i), (21, 85, .pointer (some ⟨cb, 0, none⟩)), (22, 86, .pointer (some ⟨cb, 0, none⟩)), (23, 87, .pointer (some ⟨cb, 1, none⟩)), (24, 88, .slice (some ⟨gv, 0, none⟩) nv cv), (25, 89, .int .i64 mid), (26, 90, .pointer (some ⟨gv, mid, none⟩)), (27, 91, valI y.2), (30, 94, .pointer (some ⟨b, 0, none⟩)), (31, 95, .pointer (some ⟨b, 0, none⟩)), (33, 96, .pointer (some ⟨b, 0, none⟩)), (34, 97, .pointer (some ⟨b, 1, none⟩))] : List (Nat × Nat × Value)).map (·.1)).Nodup := by
    show List.Nodup [0, 1, 2, 3, 4, 5, 6, 7, 8, 9, 10, 11, 12, 13, 16, 17, 18, 19, 20, 21, 22, 23, 24, 25, 26, 27, 30, 31, 33, 34]
    decide
  have hn2 : (([(0, 64, .pointer (some ⟨b, 0, none⟩)), (1, 65, .pointer (some ⟨b, 0, none⟩)), (2, 66, .pointer (some ⟨b, 0, none⟩)), (3, 67, .pointer (some ⟨b, 0, none⟩)), (4, 68, .pointer (some ⟨b, 0, none⟩)), (5, 69, ks), (6, 70, .int .i64 i), (7, 71, .pointer (some ⟨cb, 0, none⟩)), (8, 72, .pointer (some ⟨cb, 0, none⟩)), (9, 73, .pointer (some ⟨cb, 0, none⟩)), (10, 74, .slice (some ⟨gk, 0, none⟩) nk ck), (11, 75, .int .i64 mid), (12, 76, .pointer (some ⟨gk, mid, none⟩)), (13, 77, encI y.1), (16, 80, .pointer (some ⟨b, 0, none⟩)), (17, 81, .pointer (some ⟨b, 0, none⟩)), (18, 82, .pointer (some ⟨b, 1, none⟩)), (19, 83, vs), (20, 84, .int .i64 i), (21, 85, .pointer (some ⟨cb, 0, none⟩)), (22, 86, .pointer (some ⟨cb, 0, none⟩)), (23, 87, .pointer (some ⟨cb, 1, none⟩)), (24, 88, .slice (some ⟨gv, 0, none⟩) nv cv), (25, 89, .int .i64 mid), (26, 90, .pointer (some ⟨gv, mid, none⟩)), (27, 91, valI y.2), (30, 94, .pointer (some ⟨b, 0, none⟩)), (31, 95, .pointer (some ⟨b, 0, none⟩)), (33, 96, .pointer (some ⟨b, 0, none⟩)), (34, 97, .pointer (some ⟨b, 1, none⟩))] : List (Nat × Nat × Value)).map (·.2.1)).Nodup := by
    show List.Nodup [64, 65, 66, 67, 68, 69, 70, 71, 72, 73, 74, 75, 76, 77, 80, 81, 82, 83, 84, 85, 86, 87, 88, 89, 90, 91, 94, 95, 96, 97]
    decide
  refine wp_region_vals (ops' := oSp6I) [64, 65, 66, 67, 68, 69, 70, 71, 72, 73, 74, 75, 76, 77, 78, 79, 80, 81, 82, 83, 84, 85, 86, 87, 88, 89, 90, 91, 92, 93, 94, 95, 96, 97] [(0, 64, .pointer (some ⟨b, 0, none⟩)), (1, 65, .pointer (some ⟨b, 0, none⟩)), (2, 66, .pointer (some ⟨b, 0, none⟩)), (3, 67, .pointer (some ⟨b, 0, none⟩)), (4, 68, .pointer (some ⟨b, 0, none⟩)), (5, 69, ks), (6, 70, .int .i64 i), (7, 71, .pointer (some ⟨cb, 0, none⟩)), (8, 72, .pointer (some ⟨cb, 0, none⟩)), (9, 73, .pointer (some ⟨cb, 0, none⟩)), (10, 74, .slice (some ⟨gk, 0, none⟩) nk ck), (11, 75, .int .i64 mid), (12, 76, .pointer (some ⟨gk, mid, none⟩)), (13, 77, encI y.1), (16, 80, .pointer (some ⟨b, 0, none⟩)), (17, 81, .pointer (some ⟨b, 0, none⟩)), (18, 82, .pointer (some ⟨b, 1, none⟩)), (19, 83, vs), (20, 84, .int .i64 i), (21, 85, .pointer (some ⟨cb, 0, none⟩)), (22, 86, .pointer (some ⟨cb, 0, none⟩)), (23, 87, .pointer (some ⟨cb, 1, none⟩)), (24, 88, .slice (some ⟨gv, 0, none⟩) nv cv), (25, 89, .int .i64 mid), (26, 90, .pointer (some ⟨gv, mid, none⟩)), (27, 91, valI y.2), (30, 94, .pointer (some ⟨b, 0, none⟩)), (31, 95, .pointer (some ⟨b, 0, none⟩)), (33, 96, .pointer (some ⟨b, 0, none⟩)), (34, 97, .pointer (some ⟨b, 1, none⟩))] (fun L g w => St w0 fp0 ([pick (L 14) (boxA 3 (g 78) (encI y.1)) emp, pick (L 28) (boxA 3 (g 92) (valI y.2)) emp, blkA b 70 #[vpick (L 32) (g 79) ks, vpick (L 35) (g 93) vs, ps], pick (L 15) (slA 3 (g 79) ((keysI ex).take i ++ encI y.1 :: (keysI ex).drop i)) (slA 3 ks (keysI ex)), pick (L 29) (slA 3 (g 93) ((valsI ex).take i ++ valI y.2 :: (valsI ex).drop i)) (slA 3 vs (valsI ex)), blkA cb 70 #[.slice (some ⟨gk, 0, none⟩) nk ck, .slice (some ⟨gv, 0, none⟩) nv cv, cps], slA 3 (.slice (some ⟨gk, 0, none⟩) nk ck) (keysI es), slA 3 (.slice (some ⟨gv, 0, none⟩) nv cv) (valsI es)] ++ R) w) rfl (by kernel_rfl) (by kernel_rfl) (hS.mono (below_drew w)) ?_ ?_
  · intro oi o L a1 w1 ho hL hdep hI
    have hoi : oi < 36 := by have := (Array.getElem?_eq_some_iff.1 ho).1; omega
    have h1sz : a1.tmps.size = 130 := hI.frame.size.trans hsz
    rcases (by omega : oi = 0 ∨ oi = 1 ∨ oi = 2 ∨ oi = 3 ∨ oi = 4 ∨ oi = 5 ∨ oi = 6 ∨ oi = 7 ∨ oi = 8 ∨ oi = 9 ∨ oi = 10 ∨ oi = 11 ∨ oi = 12 ∨ oi = 13 ∨ oi = 14 ∨ oi = 15 ∨ oi = 16 ∨ oi = 17 ∨ oi = 18 ∨ oi = 19 ∨ oi = 20 ∨ oi = 21 ∨ oi = 22 ∨ oi = 23 ∨ oi = 24 ∨ oi = 25 ∨ oi = 26 ∨ oi = 27 ∨ oi = 28 ∨ oi = 29 ∨ oi = 30 ∨ oi = 31 ∨ oi = 32 ∨ oi = 33 ∨ oi = 34 ∨ oi = 35) with rfl | rfl | rfl | rfl | rfl | rfl | rfl | rfl | rfl | rfl | rfl | rfl | rfl | rfl | rfl | rfl | rfl | rfl | rfl | rfl | rfl | rfl | rfl | rfl | rfl | rfl | rfl | rfl | rfl | rfl | rfl | rfl | rfl | rfl | rfl | rfl
    · have hl : oSp6I[0]? = some ⟨some 64, Op.move (Operand.tmp 1), _, _, _, none⟩ := rfl
      obtain rfl := oI ho hl
      have x1 := hI.old 1 (.pointer (some ⟨b, 0, none⟩)) (by decide) h1
      exact hI.rd hE hsz 0 64 (.pointer (some ⟨b, 0, none⟩)) ho rfl rfl hdep (by decide) (vals_at hn1 hn2 0 rfl) (by simp [go_sem, execOp, Act.eval, x1])
    · have hl : oSp6I[1]? = some ⟨some 65, Op.move (Operand.tmp 1), _, _, _, none⟩ := rfl
      obtain rfl := oI ho hl
      have x1 := hI.old 1 (.pointer (some ⟨b, 0, none⟩)) (by decide) h1
      exact hI.rd hE hsz 1 65 (.pointer (some ⟨b, 0, none⟩)) ho rfl rfl hdep (by decide) (vals_at hn1 hn2 1 rfl) (by simp [go_sem, execOp, Act.eval, x1])
    · have hl : oSp6I[2]? = some ⟨some 66, Op.move (Operand.tmp 1), _, _, _, none⟩ := rfl
      obtain rfl := oI ho hl
      have x1 := hI.old 1 (.pointer (some ⟨b, 0, none⟩)) (by decide) h1
      exact hI.rd hE hsz 2 66 (.pointer (some ⟨b, 0, none⟩)) ho rfl rfl hdep (by decide) (vals_at hn1 hn2 2 rfl) (by simp [go_sem, execOp, Act.eval, x1])
    · have hl : oSp6I[3]? = some ⟨some 67, Op.nilCheck (Operand.tmp 66), _, _, _, none⟩ := rfl
      obtain rfl := oI ho hl
      have x66 := hI.val 2 66 (.pointer (some ⟨b, 0, none⟩)) (mG (i := 2) rfl) (dK ho hdep (by kernel_rfl : waitsB oSp6I 3 2 = true))
      exact hI.rd hE hsz 3 67 (.pointer (some ⟨b, 0, none⟩)) ho rfl rfl hdep (by decide) (vals_at hn1 hn2 3 rfl) (by simp [go_sem, execOp, Act.eval, x66])
    · have hl : oSp6I[4]? = some ⟨some 68, Op.fieldAddr _ (Operand.tmp 67) 0, _, _, _, none⟩ := rfl
      obtain rfl := oI ho hl
      have x67 := hI.val 3 67 (.pointer (some ⟨b, 0, none⟩)) (mG (i := 3) rfl) (dK ho hdep (by kernel_rfl : waitsB oSp6I 4 3 = true))
      exact hI.rd hE hsz 4 68 (.pointer (some ⟨b, 0, none⟩)) ho rfl rfl hdep (by decide) (vals_at hn1 hn2 4 rfl) (by simp [go_sem, execOp, Act.eval, x67])
    · have hl : oSp6I[5]? = some ⟨some 69, Op.load _ (Operand.tmp 68), _, _, _, none⟩ := rfl
      obtain rfl := oI ho hl
      have x68 := hI.val 4 68 (.pointer (some ⟨b, 0, none⟩)) (mG (i := 4) rfl) (dK ho hdep (by kernel_rfl : waitsB oSp6I 5 4 = true))
      have hS1 := hI.eff
      have e15 : L 15 = false := hI.no hL (by kernel_rfl : waitsB oSp6I 15 5 = true)
      have e29 : L 29 = false := hI.no (hI.no hL (by kernel_rfl : waitsB oSp6I 15 5 = true)) (by kernel_rfl : waitsB oSp6I 29 15 = true)
      have e32 : L 32 = false := hI.no hL (by kernel_rfl : waitsB oSp6I 32 5 = true)
      have e35 : L 35 = false := hI.no hL (by kernel_rfl : waitsB oSp6I 35 5 = true)
      simp only [e15, e29, e32, e35, pick_false, vpick_false] at hS1
      obtain ⟨_, hp⟩ := hS1.has 2 rfl
      have hcell := (blk_get hp).1 0
      have hlt := (blk_get hp).2.2
      simp only [List.getElem?_toArray, List.getElem?_cons_zero] at hcell
      exact hI.rd hE hsz 5 69 (ks) ho rfl rfl hdep (by decide) (vals_at hn1 hn2 5 rfl) (by simp [go_sem, execOp, Act.eval, x68, hcell])
    · have hl : oSp6I[6]? = some ⟨some 70, Op.move (Operand.tmp 2), _, _, _, none⟩ := rfl
      obtain rfl := oI ho hl
      have x2 := hI.old 2 (.int .i64 i) (by decide) h2
      exact hI.rd hE hsz 6 70 (.int .i64 i) ho rfl rfl hdep (by decide) (vals_at hn1 hn2 6 rfl) (by simp [go_sem, execOp, Act.eval, x2])
    · have hl : oSp6I[7]? = some ⟨some 71, Op.move (Operand.tmp 6), _, _, _, none⟩ := rfl
      obtain rfl := oI ho hl
      have x6 := hI.old 6 (.pointer (some ⟨cb, 0, none⟩)) (by decide) h6
      exact hI.rd hE hsz 7 71 (.pointer (some ⟨cb, 0, none⟩)) ho rfl rfl hdep (by decide) (vals_at hn1 hn2 7 rfl) (by simp [go_sem, execOp, Act.eval, x6])
    · have hl : oSp6I[8]? = some ⟨some 72, Op.nilCheck (Operand.tmp 71), _, _, _, none⟩ := rfl
      obtain rfl := oI ho hl
      have x71 := hI.val 7 71 (.pointer (some ⟨cb, 0, none⟩)) (mG (i := 7) rfl) (dK ho hdep (by kernel_rfl : waitsB oSp6I 8 7 = true))
      exact hI.rd hE hsz 8 72 (.pointer (some ⟨cb, 0, none⟩)) ho rfl rfl hdep (by decide) (vals_at hn1 hn2 8 rfl) (by simp [go_sem, execOp, Act.eval, x71])
    · have hl : oSp6I[9]? = some ⟨some 73, Op.fieldAddr _ (Operand.tmp 72) 0, _, _, _, none⟩ := rfl
      obtain rfl := oI ho hl
      have x72 := hI.val 8 72 (.pointer (some ⟨cb, 0, none⟩)) (mG (i := 8) rfl) (dK ho hdep (by kernel_rfl : waitsB oSp6I 9 8 = true))
      exact hI.rd hE hsz 9 73 (.pointer (some ⟨cb, 0, none⟩)) ho rfl rfl hdep (by decide) (vals_at hn1 hn2 9 rfl) (by simp [go_sem, execOp, Act.eval, x72])
    · have hl : oSp6I[10]? = some ⟨some 74, Op.load _ (Operand.tmp 73), _, _, _, none⟩ := rfl
      obtain rfl := oI ho hl
      have x73 := hI.val 9 73 (.pointer (some ⟨cb, 0, none⟩)) (mG (i := 9) rfl) (dK ho hdep (by kernel_rfl : waitsB oSp6I 10 9 = true))
      have hS1 := hI.eff
      have e32 : L 32 = false := hI.no hL (by kernel_rfl : waitsB oSp6I 32 10 = true)
      have e35 : L 35 = false := hI.no hL (by kernel_rfl : waitsB oSp6I 35 10 = true)
      simp only [e32, e35, vpick_false] at hS1
      obtain ⟨_, hp⟩ := hS1.has 5 rfl
      have hcell := (blk_get hp).1 0
      have hlt := (blk_get hp).2.2
      simp only [List.getElem?_toArray, List.getElem?_cons_zero] at hcell
      exact hI.rd hE hsz 10 74 (.slice (some ⟨gk, 0, none⟩) nk ck) ho rfl rfl hdep (by decide) (vals_at hn1 hn2 10 rfl) (by simp [go_sem, execOp, Act.eval, x73, hcell])
    · have hl : oSp6I[11]? = some ⟨some 75, Op.move (Operand.tmp 7), _, _, _, none⟩ := rfl
      obtain rfl := oI ho hl
      have x7 := hI.old 7 (.int .i64 mid) (by decide) h7
      exact hI.rd hE hsz 11 75 (.int .i64 mid) ho rfl rfl hdep (by decide) (vals_at hn1 hn2 11 rfl) (by simp [go_sem, execOp, Act.eval, x7])
    · have hl : oSp6I[12]? = some ⟨some 76, Op.indexAddr _ (Operand.tmp 74) (Operand.tmp 75), _, _, _, none⟩ := rfl
      obtain rfl := oI ho hl
      have x74 := hI.val 10 74 (.slice (some ⟨gk, 0, none⟩) nk ck) (mG (i := 10) rfl) (dK ho hdep (by kernel_rfl : waitsB oSp6I 12 10 = true))
      have x75 := hI.val 11 75 (.int .i64 mid) (mG (i := 11) rfl) (dK ho hdep (by kernel_rfl : waitsB oSp6I 12 11 = true))
      exact hI.rd hE hsz 12 76 (.pointer (some ⟨gk, mid, none⟩)) ho rfl rfl hdep (by decide) (vals_at hn1 hn2 12 rfl) (by simp [go_sem, execOp, Act.eval, x74, x75, hmk])
    · have hl : oSp6I[13]? = some ⟨some 77, Op.load _ (Operand.tmp 76), _, _, _, none⟩ := rfl
      obtain rfl := oI ho hl
      have x76 := hI.val 12 76 (.pointer (some ⟨gk, mid, none⟩)) (mG (i := 12) rfl) (dK ho hdep (by kernel_rfl : waitsB oSp6I 13 12 = true))
      have hS1 := hI.eff
      have e14 : L 14 = false := hI.no hL (by kernel_rfl : waitsB oSp6I 14 13 = true)
      have e15 : L 15 = false := hI.no (hI.no hL (by kernel_rfl : waitsB oSp6I 14 13 = true)) (by kernel_rfl : waitsB oSp6I 15 14 = true)
      have e32 : L 32 = false := hI.no hL (by kernel_rfl : waitsB oSp6I 32 13 = true)
      have e35 : L 35 = false := hI.no hL (by kernel_rfl : waitsB oSp6I 35 13 = true)
      simp only [e14, e15, e32, e35, pick_false, vpick_false] at hS1
      obtain ⟨_, hp⟩ := hS1.has 6 rfl
      obtain ⟨hcell, _, hlt, _⟩ := sl_elem hp (mid) (by rw [keysI_length]; omega)
      rw [hyk] at hcell
      exact hI.rd hE hsz 13 77 (encI y.1) ho rfl rfl hdep (by decide) (vals_at hn1 hn2 13 rfl) (by simp [go_sem, execOp, Act.eval, x76, hcell])
    · have hl : oSp6I[14]? = some ⟨some 78, Op.buildSlice _ 1 #[(0, Operand.tmp 77)], _, _, _, none⟩ := rfl
      obtain rfl := oI ho hl
      have x77 := hI.val 13 77 (encI y.1) (mG (i := 13) rfl) (dK ho hdep (by kernel_rfl : waitsB oSp6I 14 13 = true))
      have hS1 := hI.eff
      have e14 : L 14 = false := hL
      have e15 : L 15 = false := hI.no hL (by kernel_rfl : waitsB oSp6I 15 14 = true)
      have e29 : L 29 = false := hI.no (hI.no hL (by kernel_rfl : waitsB oSp6I 15 14 = true)) (by kernel_rfl : waitsB oSp6I 29 15 = true)
      have e32 : L 32 = false := hI.no hL (by kernel_rfl : waitsB oSp6I 32 14 = true)
      have e35 : L 35 = false := hI.no hL (by kernel_rfl : waitsB oSp6I 35 14 = true)
      simp only [e14, e15, e29, e32, e35, pick_false, vpick_false] at hS1
      refine inv_value ho rfl (v := .slice (some ⟨w1.heap.size, 0, none⟩) 1 1) (w' := w1.alloc (.cells #[encI y.1] 3)) (by simp [go_sem, execOp, Act.eval, x77, encI]) (hI.put 14 78 _ ho hdep (by decide) (by intro t ht; exact vals_ne2 rfl rfl (by decide : 14 ∉ [0, 1, 2, 3, 4, 5, 6, 7, 8, 9, 10, 11, 12, 13, 16, 17, 18, 19, 20, 21, 22, 23, 24, 25, 26, 27, 30, 31, 33, 34]) (by decide : 78 ∉ [64, 65, 66, 67, 68, 69, 70, 71, 72, 73, 74, 75, 76, 77, 80, 81, 82, 83, 84, 85, 86, 87, 88, 89, 90, 91, 94, 95, 96, 97]) ht) ?_)
      have hS2 := St.box hS1 0 rfl 3 (encI y.1)
      simp only [e14, e15, e29, e32, e35, Bool.or_false, Bool.or_true, Nat.reduceEqDiff, decide_true, decide_false, pick_true, pick_false, vpick_false, eval_put_same (by rw [h1sz]; decide : 78 < a1.tmps.size), eval_put_ne (by decide : 78 ≠ 79), eval_put_ne (by decide : 78 ≠ 92), eval_put_ne (by decide : 78 ≠ 93)]
      exact hS2
    · have hl : oSp6I[15]? = some ⟨some 79, Op.call ⟨Callee.value (Operand.func _), #[Operand.tmp 69, Operand.tmp 70, Operand.tmp 78], _⟩, _, _, _, none⟩ := rfl
      obtain rfl := oI ho hl
      have x69 := hI.val 5 69 (ks) (mG (i := 5) rfl) (dK ho hdep (by kernel_rfl : waitsB oSp6I 15 5 = true))
      have x70 := hI.val 6 70 (.int .i64 i) (mG (i := 6) rfl) (dK ho hdep (by kernel_rfl : waitsB oSp6I 15 6 = true))
      have hS1 := hI.eff
      have e14 : L 14 = true := dK ho hdep (by kernel_rfl : waitsB oSp6I 15 14 = true)
      have e15 : L 15 = false := hL
      have e29 : L 29 = false := hI.no hL (by kernel_rfl : waitsB oSp6I 29 15 = true)
      have e32 : L 32 = false := hI.no hL (by kernel_rfl : waitsB oSp6I 32 15 = true)
      have e35 : L 35 = false := hI.no hL (by kernel_rfl : waitsB oSp6I 35 15 = true)
      simp only [e14, e15, e29, e32, e35, pick_true, pick_false, vpick_false] at hS1
      obtain ⟨f, g, hbx, hsl, hd, _, hset⟩ := hS1.two 0 3 (by decide) rfl rfl
      obtain ⟨vb, hgb, hvb, rfl⟩ := hbx
      have xb := eval_spell hgb
      refine inv_call ho rfl (f := 58) (by simp [go_sem, Act.eval, x69, x70, xb]; rfl) (insI_calls _ _ (_) _ _ _ hsl (by rw [keysI_length]; exact hi) (by rw [keysI_length]; exact hlx) (keysI_one ex) rfl hvb (fun hm => hd _ (by simp) hm)) ?_
      rintro e w2 ⟨an, nn, cn, f', rfl, hsl', htr⟩
      refine ⟨_, rfl, hI.put 15 79 _ ho hdep (by decide) (by intro t ht; exact vals_ne2 rfl rfl (by decide : 15 ∉ [0, 1, 2, 3, 4, 5, 6, 7, 8, 9, 10, 11, 12, 13, 16, 17, 18, 19, 20, 21, 22, 23, 24, 25, 26, 27, 30, 31, 33, 34]) (by decide : 79 ∉ [64, 65, 66, 67, 68, 69, 70, 71, 72, 73, 74, 75, 76, 77, 80, 81, 82, 83, 84, 85, 86, 87, 88, 89, 90, 91, 94, 95, 96, 97]) ht) ?_⟩
      have hS2 := hset _ _ _ hsl' htr
      simp only [e14, e15, e29, e32, e35, Bool.or_false, Bool.or_true, Nat.reduceEqDiff, decide_true, decide_false, pick_true, pick_false, vpick_false, eval_put_same (by rw [h1sz]; decide : 79 < a1.tmps.size), eval_put_ne (by decide : 79 ≠ 78), eval_put_ne (by decide : 79 ≠ 92), eval_put_ne (by decide : 79 ≠ 93)]
      exact hS2
    · have hl : oSp6I[16]? = some ⟨some 80, Op.move (Operand.tmp 1), _, _, _, none⟩ := rfl
      obtain rfl := oI ho hl
      have x1 := hI.old 1 (.pointer (some ⟨b, 0, none⟩)) (by decide) h1
      exact hI.rd hE hsz 16 80 (.pointer (some ⟨b, 0, none⟩)) ho rfl rfl hdep (by decide) (vals_at hn1 hn2 14 rfl) (by simp [go_sem, execOp, Act.eval, x1])
    · have hl : oSp6I[17]? = some ⟨some 81, Op.nilCheck (Operand.tmp 80), _, _, _, none⟩ := rfl
      obtain rfl := oI ho hl
      have x80 := hI.val 16 80 (.pointer (some ⟨b, 0, none⟩)) (mG (i := 14) rfl) (dK ho hdep (by kernel_rfl : waitsB oSp6I 17 16 = true))
      exact hI.rd hE hsz 17 81 (.pointer (some ⟨b, 0, none⟩)) ho rfl rfl hdep (by decide) (vals_at hn1 hn2 15 rfl) (by simp [go_sem, execOp, Act.eval, x80])
    · have hl : oSp6I[18]? = some ⟨some 82, Op.fieldAddr _ (Operand.tmp 81) 1, _, _, _, none⟩ := rfl
      obtain rfl := oI ho hl
      have x81 := hI.val 17 81 (.pointer (some ⟨b, 0, none⟩)) (mG (i := 15) rfl) (dK ho hdep (by kernel_rfl : waitsB oSp6I 18 17 = true))
      exact hI.rd hE hsz 18 82 (.pointer (some ⟨b, 1, none⟩)) ho rfl rfl hdep (by decide) (vals_at hn1 hn2 16 rfl) (by simp [go_sem, execOp, Act.eval, x81])
    · have hl : oSp6I[19]? = some ⟨some 83, Op.load _ (Operand.tmp 82), _, _, _, none⟩ := rfl
      obtain rfl := oI ho hl
      have x82 := hI.val 18 82 (.pointer (some ⟨b, 1, none⟩)) (mG (i := 16) rfl) (dK ho hdep (by kernel_rfl : waitsB oSp6I 19 18 = true))
      have hS1 := hI.eff
      have e29 : L 29 = false := hI.no hL (by kernel_rfl : waitsB oSp6I 29 19 = true)
      have e32 : L 32 = false := hI.no hL (by kernel_rfl : waitsB oSp6I 32 19 = true)
      have e35 : L 35 = false := hI.no hL (by kernel_rfl : waitsB oSp6I 35 19 = true)
      simp only [e29, e32, e35, pick_false, vpick_false] at hS1
      obtain ⟨_, hp⟩ := hS1.has 2 rfl
      have hcell := (blk_get hp).1 1
      have hlt := (blk_get hp).2.2
      simp only [List.getElem?_toArray, List.getElem?_cons_zero, List.getElem?_cons_succ] at hcell
      exact hI.rd hE hsz 19 83 (vs) ho rfl rfl hdep (by decide) (vals_at hn1 hn2 17 rfl) (by simp [go_sem, execOp, Act.eval, x82, hcell])
    · have hl : oSp6I[20]? = some ⟨some 84, Op.move (Operand.tmp 2), _, _, _, none⟩ := rfl
      obtain rfl := oI ho hl
      have x2 := hI.old 2 (.int .i64 i) (by decide) h2
      exact hI.rd hE hsz 20 84 (.int .i64 i) ho rfl rfl hdep (by decide) (vals_at hn1 hn2 18 rfl) (by simp [go_sem, execOp, Act.eval, x2])
    · have hl : oSp6I[21]? = some ⟨some 85, Op.move (Operand.tmp 6), _, _, _, none⟩ := rfl
      obtain rfl := oI ho hl
      have x6 := hI.old 6 (.pointer (some ⟨cb, 0, none⟩)) (by decide) h6
      exact hI.rd hE hsz 21 85 (.pointer (some ⟨cb, 0, none⟩)) ho rfl rfl hdep (by decide) (vals_at hn1 hn2 19 rfl) (by simp [go_sem, execOp, Act.eval, x6])
    · have hl : oSp6I[22]? = some ⟨some 86, Op.nilCheck (Operand.tmp 85), _, _, _, none⟩ := rfl
      obtain rfl := oI ho hl
      have x85 := hI.val 21 85 (.pointer (some ⟨cb, 0, none⟩)) (mG (i := 19) rfl) (dK ho hdep (by kernel_rfl : waitsB oSp6I 22 21 = true))
      exact hI.rd hE hsz 22 86 (.pointer (some ⟨cb, 0, none⟩)) ho rfl rfl hdep (by decide) (vals_at hn1 hn2 20 rfl) (by simp [go_sem, execOp, Act.eval, x85])
    · have hl : oSp6I[23]? = some ⟨some 87, Op.fieldAddr _ (Operand.tmp 86) 1, _, _, _, none⟩ := rfl
      obtain rfl := oI ho hl
      have x86 := hI.val 22 86 (.pointer (some ⟨cb, 0, none⟩)) (mG (i := 20) rfl) (dK ho hdep (by kernel_rfl : waitsB oSp6I 23 22 = true))
      exact hI.rd hE hsz 23 87 (.pointer (some ⟨cb, 1, none⟩)) ho rfl rfl hdep (by decide) (vals_at hn1 hn2 21 rfl) (by simp [go_sem, execOp, Act.eval, x86])
    · have hl : oSp6I[24]? = some ⟨some 88, Op.load _ (Operand.tmp 87), _, _, _, none⟩ := rfl
      obtain rfl := oI ho hl
      have x87 := hI.val 23 87 (.pointer (some ⟨cb, 1, none⟩)) (mG (i := 21) rfl) (dK ho hdep (by kernel_rfl : waitsB oSp6I 24 23 = true))
      have hS1 := hI.eff
      have e32 : L 32 = false := hI.no hL (by kernel_rfl : waitsB oSp6I 32 24 = true)
      have e35 : L 35 = false := hI.no hL (by kernel_rfl : waitsB oSp6I 35 24 = true)
      simp only [e32, e35, vpick_false] at hS1
      obtain ⟨_, hp⟩ := hS1.has 5 rfl
      have hcell := (blk_get hp).1 1
      have hlt := (blk_get hp).2.2
      simp only [List.getElem?_toArray, List.getElem?_cons_zero, List.getElem?_cons_succ] at hcell
      exact hI.rd hE hsz 24 88 (.slice (some ⟨gv, 0, none⟩) nv cv) ho rfl rfl hdep (by decide) (vals_at hn1 hn2 22 rfl) (by simp [go_sem, execOp, Act.eval, x87, hcell])
    · have hl : oSp6I[25]? = some ⟨some 89, Op.move (Operand.tmp 7), _, _, _, none⟩ := rfl
      obtain rfl := oI ho hl
      have x7 := hI.old 7 (.int .i64 mid) (by decide) h7
      exact hI.rd hE hsz 25 89 (.int .i64 mid) ho rfl rfl hdep (by decide) (vals_at hn1 hn2 23 rfl) (by simp [go_sem, execOp, Act.eval, x7])
    · have hl : oSp6I[26]? = some ⟨some 90, Op.indexAddr _ (Operand.tmp 88) (Operand.tmp 89), _, _, _, none⟩ := rfl
      obtain rfl := oI ho hl
      have x88 := hI.val 24 88 (.slice (some ⟨gv, 0, none⟩) nv cv) (mG (i := 22) rfl) (dK ho hdep (by kernel_rfl : waitsB oSp6I 26 24 = true))
      have x89 := hI.val 25 89 (.int .i64 mid) (mG (i := 23) rfl) (dK ho hdep (by kernel_rfl : waitsB oSp6I 26 25 = true))
      exact hI.rd hE hsz 26 90 (.pointer (some ⟨gv, mid, none⟩)) ho rfl rfl hdep (by decide) (vals_at hn1 hn2 24 rfl) (by simp [go_sem, execOp, Act.eval, x88, x89, hmv])
    · have hl : oSp6I[27]? = some ⟨some 91, Op.load _ (Operand.tmp 90), _, _, _, none⟩ := rfl
      obtain rfl := oI ho hl
      have x90 := hI.val 26 90 (.pointer (some ⟨gv, mid, none⟩)) (mG (i := 24) rfl) (dK ho hdep (by kernel_rfl : waitsB oSp6I 27 26 = true))
      have hS1 := hI.eff
      have e28 : L 28 = false := hI.no hL (by kernel_rfl : waitsB oSp6I 28 27 = true)
      have e29 : L 29 = false := hI.no (hI.no hL (by kernel_rfl : waitsB oSp6I 28 27 = true)) (by kernel_rfl : waitsB oSp6I 29 28 = true)
      have e32 : L 32 = false := hI.no hL (by kernel_rfl : waitsB oSp6I 32 27 = true)
      have e35 : L 35 = false := hI.no hL (by kernel_rfl : waitsB oSp6I 35 27 = true)
      simp only [e28, e29, e32, e35, pick_false, vpick_false] at hS1
      obtain ⟨_, hp⟩ := hS1.has 7 rfl
      obtain ⟨hcell, _, hlt, _⟩ := sl_elem hp (mid) (by rw [valsI_length]; omega)
      rw [hyv] at hcell
      exact hI.rd hE hsz 27 91 (valI y.2) ho rfl rfl hdep (by decide) (vals_at hn1 hn2 25 rfl) (by simp [go_sem, execOp, Act.eval, x90, hcell])
    · have hl : oSp6I[28]? = some ⟨some 92, Op.buildSlice _ 1 #[(0, Operand.tmp 91)], _, _, _, none⟩ := rfl
      obtain rfl := oI ho hl
      have x91 := hI.val 27 91 (valI y.2) (mG (i := 25) rfl) (dK ho hdep (by kernel_rfl : waitsB oSp6I 28 27 = true))
      have hS1 := hI.eff
      have e28 : L 28 = false := hL
      have e29 : L 29 = false := hI.no hL (by kernel_rfl : waitsB oSp6I 29 28 = true)
      have e32 : L 32 = false := hI.no (hI.no hL (by kernel_rfl : waitsB oSp6I 29 28 = true)) (by kernel_rfl : waitsB oSp6I 32 29 = true)
      have e35 : L 35 = false := hI.no hL (by kernel_rfl : waitsB oSp6I 35 28 = true)
      simp only [e28, e29, e32, e35, pick_false, vpick_false] at hS1
      refine inv_value ho rfl (v := .slice (some ⟨w1.heap.size, 0, none⟩) 1 1) (w' := w1.alloc (.cells #[valI y.2] 3)) (by simp [go_sem, execOp, Act.eval, x91, valI]) (hI.put 28 92 _ ho hdep (by decide) (by intro t ht; exact vals_ne2 rfl rfl (by decide : 28 ∉ [0, 1, 2, 3, 4, 5, 6, 7, 8, 9, 10, 11, 12, 13, 16, 17, 18, 19, 20, 21, 22, 23, 24, 25, 26, 27, 30, 31, 33, 34]) (by decide : 92 ∉ [64, 65, 66, 67, 68, 69, 70, 71, 72, 73, 74, 75, 76, 77, 80, 81, 82, 83, 84, 85, 86, 87, 88, 89, 90, 91, 94, 95, 96, 97]) ht) ?_)
      have hS2 := St.box hS1 1 rfl 3 (valI y.2)
      simp only [e28, e29, e32, e35, Bool.or_false, Bool.or_true, Nat.reduceEqDiff, decide_true, decide_false, pick_true, pick_false, vpick_false, eval_put_same (by rw [h1sz]; decide : 92 < a1.tmps.size), eval_put_ne (by decide : 92 ≠ 78), eval_put_ne (by decide : 92 ≠ 79), eval_put_ne (by decide : 92 ≠ 93)]
      exact hS2
    · have hl : oSp6I[29]? = some ⟨some 93, Op.call ⟨Callee.value (Operand.func _), #[Operand.tmp 83, Operand.tmp 84, Operand.tmp 92], _⟩, _, _, _, none⟩ := rfl
      obtain rfl := oI ho hl
      have x83 := hI.val 19 83 (vs) (mG (i := 17) rfl) (dK ho hdep (by kernel_rfl : waitsB oSp6I 29 19 = true))
      have x84 := hI.val 20 84 (.int .i64 i) (mG (i := 18) rfl) (dK ho hdep (by kernel_rfl : waitsB oSp6I 29 20 = true))
      have hS1 := hI.eff
      have e14 : L 14 = true := hI.yes (dK ho hdep (by kernel_rfl : waitsB oSp6I 29 15 = true)) (by kernel_rfl : waitsB oSp6I 15 14 = true)
      have e15 : L 15 = true := dK ho hdep (by kernel_rfl : waitsB oSp6I 29 15 = true)
      have e28 : L 28 = true := dK ho hdep (by kernel_rfl : waitsB oSp6I 29 28 = true)
      have e29 : L 29 = false := hL
      have e32 : L 32 = false := hI.no hL (by kernel_rfl : waitsB oSp6I 32 29 = true)
      have e35 : L 35 = false := hI.no hL (by kernel_rfl : waitsB oSp6I 35 29 = true)
      simp only [e14, e15, e28, e29, e32, e35, pick_true, pick_false, vpick_false] at hS1
      obtain ⟨f, g, hbx, hsl, hd, _, hset⟩ := hS1.two 1 4 (by decide) rfl rfl
      obtain ⟨vb, hgb, hvb, rfl⟩ := hbx
      have xb := eval_spell hgb
      refine inv_call ho rfl (f := 58) (by simp [go_sem, Act.eval, x83, x84, xb]; rfl) (insI_calls _ _ (_) _ _ _ hsl (by rw [valsI_length]; exact hi) (by rw [valsI_length]; exact hlx) (valsI_one ex) rfl hvb (fun hm => hd _ (by simp) hm)) ?_
      rintro e w2 ⟨an, nn, cn, f', rfl, hsl', htr⟩
      refine ⟨_, rfl, hI.put 29 93 _ ho hdep (by decide) (by intro t ht; exact vals_ne2 rfl rfl (by decide : 29 ∉ [0, 1, 2, 3, 4, 5, 6, 7, 8, 9, 10, 11, 12, 13, 16, 17, 18, 19, 20, 21, 22, 23, 24, 25, 26, 27, 30, 31, 33, 34]) (by decide : 93 ∉ [64, 65, 66, 67, 68, 69, 70, 71, 72, 73, 74, 75, 76, 77, 80, 81, 82, 83, 84, 85, 86, 87, 88, 89, 90, 91, 94, 95, 96, 97]) ht) ?_⟩
      have hS2 := hset _ _ _ hsl' htr
      simp only [e14, e15, e28, e29, e32, e35, Bool.or_false, Bool.or_true, Nat.reduceEqDiff, decide_true, decide_false, pick_true, vpick_false, eval_put_same (by rw [h1sz]; decide : 93 < a1.tmps.size), eval_put_ne (by decide : 93 ≠ 78), eval_put_ne (by decide : 93 ≠ 79), eval_put_ne (by decide : 93 ≠ 92)]
      exact hS2
    · have hl : oSp6I[30]? = some ⟨some 94, Op.nilCheck (Operand.tmp 64), _, _, _, none⟩ := rfl
      obtain rfl := oI ho hl
      have x64 := hI.val 0 64 (.pointer (some ⟨b, 0, none⟩)) (mG (i := 0) rfl) (dK ho hdep (by kernel_rfl : waitsB oSp6I 30 0 = true))
      exact hI.rd hE hsz 30 94 (.pointer (some ⟨b, 0, none⟩)) ho rfl rfl hdep (by decide) (vals_at hn1 hn2 26 rfl) (by simp [go_sem, execOp, Act.eval, x64])
    · have hl : oSp6I[31]? = some ⟨some 95, Op.fieldAddr _ (Operand.tmp 94) 0, _, _, _, none⟩ := rfl
      obtain rfl := oI ho hl
      have x94 := hI.val 30 94 (.pointer (some ⟨b, 0, none⟩)) (mG (i := 26) rfl) (dK ho hdep (by kernel_rfl : waitsB oSp6I 31 30 = true))
      exact hI.rd hE hsz 31 95 (.pointer (some ⟨b, 0, none⟩)) ho rfl rfl hdep (by decide) (vals_at hn1 hn2 27 rfl) (by simp [go_sem, execOp, Act.eval, x94])
    · have hl : oSp6I[32]? = some ⟨none, Op.store _ (Operand.tmp 95) (Operand.tmp 79), _, _, _, none⟩ := rfl
      obtain rfl := oI ho hl
      have x95 := hI.val 31 95 (.pointer (some ⟨b, 0, none⟩)) (mG (i := 27) rfl) (dK ho hdep (by kernel_rfl : waitsB oSp6I 32 31 = true))
      have hS1 := hI.eff
      have e14 : L 14 = true := dK ho hdep (by kernel_rfl : waitsB oSp6I 32 14 = true)
      have e15 : L 15 = true := dK ho hdep (by kernel_rfl : waitsB oSp6I 32 15 = true)
      have e28 : L 28 = true := hI.yes (dK ho hdep (by kernel_rfl : waitsB oSp6I 32 29 = true)) (by kernel_rfl : waitsB oSp6I 29 28 = true)
      have e29 : L 29 = true := dK ho hdep (by kernel_rfl : waitsB oSp6I 32 29 = true)
      have e32 : L 32 = false := hL
      have e35 : L 35 = false := hI.no hL (by kernel_rfl : waitsB oSp6I 35 32 = true)
      simp only [e14, e15, e28, e29, e32, e35, pick_true, vpick_false] at hS1
      obtain ⟨_, hpv⟩ := hS1.has 3 rfl
      obtain ⟨av, nv, cv, hv⟩ := sl_shape hpv
      have xv := eval_spell hv
      obtain ⟨f, hp, hset⟩ := hS1.get 2 rfl
      have hcell := (blk_get hp).1 0
      have hfz := (blk_get hp).2.1 0
      have hlt := (blk_get hp).2.2
      simp only [List.getElem?_toArray, List.getElem?_cons_zero] at hcell
      refine inv_stored ho rfl rfl (by simp [go_sem, execOp, Act.eval, x95, xv, hcell, hfz]; rfl) (hI.step 32 ho hdep (by intro t ht; exact vals_ne1 rfl (by decide : 32 ∉ [0, 1, 2, 3, 4, 5, 6, 7, 8, 9, 10, 11, 12, 13, 16, 17, 18, 19, 20, 21, 22, 23, 24, 25, 26, 27, 30, 31, 33, 34]) ht) ?_)
      obtain ⟨hb2, ht2⟩ := blk_set hp 0 (a1.eval (.tmp 79))
      have hS2 := hset _ _ _ hb2 ht2
      simp only [e14, e15, e28, e29, e32, e35, Bool.or_false, Bool.or_true, Nat.reduceEqDiff, decide_true, decide_false, pick_true, vpick_true, vpick_false]
      rw [hv] at hS2
      rw [hv]
      exact hS2
    · have hl : oSp6I[33]? = some ⟨some 96, Op.nilCheck (Operand.tmp 65), _, _, _, none⟩ := rfl
      obtain rfl := oI ho hl
      have x65 := hI.val 1 65 (.pointer (some ⟨b, 0, none⟩)) (mG (i := 1) rfl) (dK ho hdep (by kernel_rfl : waitsB oSp6I 33 1 = true))
      exact hI.rd hE hsz 33 96 (.pointer (some ⟨b, 0, none⟩)) ho rfl rfl hdep (by decide) (vals_at hn1 hn2 28 rfl) (by simp [go_sem, execOp, Act.eval, x65])
    · have hl : oSp6I[34]? = some ⟨some 97, Op.fieldAddr _ (Operand.tmp 96) 1, _, _, _, none⟩ := rfl
      obtain rfl := oI ho hl
      have x96 := hI.val 33 96 (.pointer (some ⟨b, 0, none⟩)) (mG (i := 28) rfl) (dK ho hdep (by kernel_rfl : waitsB oSp6I 34 33 = true))
      exact hI.rd hE hsz 34 97 (.pointer (some ⟨b, 1, none⟩)) ho rfl rfl hdep (by decide) (vals_at hn1 hn2 29 rfl) (by simp [go_sem, execOp, Act.eval, x96])
    · have hl : oSp6I[35]? = some ⟨none, Op.store _ (Operand.tmp 97) (Operand.tmp 93), _, _, _, none⟩ := rfl
      obtain rfl := oI ho hl
      have x97 := hI.val 34 97 (.pointer (some ⟨b, 1, none⟩)) (mG (i := 29) rfl) (dK ho hdep (by kernel_rfl : waitsB oSp6I 35 34 = true))
      have hS1 := hI.eff
      have e14 : L 14 = true := dK ho hdep (by kernel_rfl : waitsB oSp6I 35 14 = true)
      have e15 : L 15 = true := dK ho hdep (by kernel_rfl : waitsB oSp6I 35 15 = true)
      have e28 : L 28 = true := dK ho hdep (by kernel_rfl : waitsB oSp6I 35 28 = true)
      have e29 : L 29 = true := dK ho hdep (by kernel_rfl : waitsB oSp6I 35 29 = true)
      have e32 : L 32 = true := dK ho hdep (by kernel_rfl : waitsB oSp6I 35 32 = true)
      have e35 : L 35 = false := hL
      simp only [e14, e15, e28, e29, e32, e35, pick_true, vpick_true, vpick_false] at hS1
      obtain ⟨_, hpv⟩ := hS1.has 4 rfl
      obtain ⟨av, nv, cv, hv⟩ := sl_shape hpv
      have xv := eval_spell hv
      obtain ⟨f, hp, hset⟩ := hS1.get 2 rfl
      have hcell := (blk_get hp).1 1
      have hfz := (blk_get hp).2.1 1
      have hlt := (blk_get hp).2.2
      simp only [List.getElem?_toArray, List.getElem?_cons_zero, List.getElem?_cons_succ] at hcell
      refine inv_stored ho rfl rfl (by simp [go_sem, execOp, Act.eval, x97, xv, hcell, hfz]; rfl) (hI.step 35 ho hdep (by intro t ht; exact vals_ne1 rfl (by decide : 35 ∉ [0, 1, 2, 3, 4, 5, 6, 7, 8, 9, 10, 11, 12, 13, 16, 17, 18, 19, 20, 21, 22, 23, 24, 25, 26, 27, 30, 31, 33, 34]) ht) ?_)
      obtain ⟨hb2, ht2⟩ := blk_set hp 1 (a1.eval (.tmp 93))
      have hS2 := hset _ _ _ hb2 ht2
      simp only [e14, e15, e28, e29, e32, e35, Bool.or_false, Bool.or_true, Nat.reduceEqDiff, decide_true, decide_false, pick_true, vpick_true]
      rw [hv] at hS2
      rw [hv]
      exact hS2
  · intro L a1 w1 hL hI
    have hS1 := hI.eff
    simp only [hL 14 (by rw [hsize]; decide), hL 15 (by rw [hsize]; decide), hL 28 (by rw [hsize]; decide), hL 29 (by rw [hsize]; decide), hL 32 (by rw [hsize]; decide), hL 35 (by rw [hsize]; decide), pick_true, vpick_true] at hS1
    have := hQ (fun d => a1.eval (.tmp d)) w1  hS1
    have e := hI.frame.eq
    rw [e]
    exact this
noncomputable def oSp7I : Array Oper := ((Try.f38.body).bind fun c => opsOf c 7).getD #[]
set_option maxHeartbeats 4000000 in
set_option maxRecDepth 100000 in
theorem rSp7I {Q : Exit → Act → World → Prop} {a : Act} {w w0 : World} {fp0 : List Nat} (b rb i : Nat) (ks vs ps : Value) (bs : List Nat) (hi : i < bs.length) (hlx : bs.length < 1099511627776) (R : List Asn) (ops : Array Oper) (hops : ops = oSp7I) (hsz : a.tmps.size = 130) (h1 : a.eval (.tmp 1) = .pointer (some ⟨b, 0, none⟩)) (h2 : a.eval (.tmp 2) = .int .i64 i) (h8 : a.eval (.tmp 8) = .pointer (some ⟨rb, 0, none⟩))
    (hS : St w0 fp0 ([pick false (boxA 67 (a.eval (.tmp 106)) (.pointer (some ⟨rb, 0, none⟩))) emp, blkA b 70 #[ks, vs, vpick false (a.eval (.tmp 107)) ps], pick false (slA 67 (a.eval (.tmp 107)) ((bs.map ptrI).take (i + 1) ++ (.pointer (some ⟨rb, 0, none⟩)) :: (bs.map ptrI).drop (i + 1))) (slA 67 ps (bs.map ptrI))] ++ R) w)
    (hQ : ∀ (u : Nat → Value) w1, St w0 fp0 ([pick true (boxA 67 (u 106) (.pointer (some ⟨rb, 0, none⟩))) emp, blkA b 70 #[ks, vs, vpick true (u 107) ps], pick true (slA 67 (u 107) ((bs.map ptrI).take (i + 1) ++ (.pointer (some ⟨rb, 0, none⟩)) :: (bs.map ptrI).drop (i + 1))) (slA 67 ps (bs.map ptrI))] ++ R) w1 → Q .normal (putL a (([98, 99, 100, 101, 102, 103, 104, 105, 106, 107, 108, 109] : List Nat).map fun d => (d, u d))) w1) : (Code.region 7 ops false).wp Try.prog Q a w := by
  subst hops
  have hw : IntKind.i64.wrap ((i : Int) + (1 : Int)) = (i : Int) + (1 : Int) := by rw [IntKind.wrap_i64]; omega
  have hsize : oSp7I.size = 13 := by kernel_rfl
  have hE : Looks (fun L g w => St w0 fp0 ([pick (L 8) (boxA 67 (g 106) (.pointer (some ⟨rb, 0, none⟩))) emp, blkA b 70 #[ks, vs, vpick (L 12) (g 107) ps], pick (L 9) (slA 67 (g 107) ((bs.map ptrI).take (i + 1) ++ (.pointer (some ⟨rb, 0, none⟩)) :: (bs.map ptrI).drop (i + 1))) (slA 67 ps (bs.map ptrI))] ++ R) w) [8, 9, 12] [106, 107] := by
    intro L L' g g' w hL hg h
    simpa only [← hL 8 (by decide), ← hL 9 (by decide), ← hL 12 (by decide), ← hg 106 (by decide), ← hg 107 (by decide)] using h
  have hn1 : (([(0, 98, .pointer (some ⟨b, 0, none⟩)), (1, 99, .pointer (some ⟨b, 0, none⟩)), (2, 100, .pointer (some ⟨b, 0, none⟩)), (3, 101, .pointer (some ⟨b, 2, none⟩)), (4, 102, ps), (5, 103, .int .i64 i), (6, 104, .int .i64 ((i + 1 : Nat) : Int)), (7, 105, .pointer (some ⟨rb, 0, none⟩)), (10, 108, .pointer (some ⟨b, 0, none⟩)), (11, 109, .pointer (some ⟨b, 2, none⟩))] : List (Nat × Nat × Value)).map (·.1)).Nodup := by
    show List.Nodup [0, 1, 2, 3, 4, 5, 6, 7, 10, 11]
    decide
  have hn2 : (([(0, 98, .pointer (some ⟨b, 0, none⟩)), (1, 99, .pointer (some ⟨b, 0, none⟩)), (2, 100, .pointer (some ⟨b, 0, none⟩)), (3, 101, .pointer (some ⟨b, 2, none⟩)), (4, 102, ps), (5, 103, .int .i64 i), (6, 104, .int .i64 ((i + 1 : Nat) : Int)), (7, 105, .pointer (some ⟨rb, 0, none⟩)), (10, 108, .pointer (some ⟨b, 0, none⟩)), (11, 109, .pointer (some ⟨b, 2, none⟩))] : List (Nat × Nat × Value)).map (·.2.1)).Nodup := by
    show List.Nodup [98, 99, 100, 101, 102, 103, 104, 105, 108, 109]
    decide
  refine wp_region_vals0 (ops' := oSp7I) [98, 99, 100, 101, 102, 103, 104, 105, 106, 107, 108, 109] [(0, 98, .pointer (some ⟨b, 0, none⟩)), (1, 99, .pointer (some ⟨b, 0, none⟩)), (2, 100, .pointer (some ⟨b, 0, none⟩)), (3, 101, .pointer (some ⟨b, 2, none⟩)), (4, 102, ps), (5, 103, .int .i64 i), (6, 104, .int .i64 ((i + 1 : Nat) : Int)), (7, 105, .pointer (some ⟨rb, 0, none⟩)), (10, 108, .pointer (some ⟨b, 0, none⟩)), (11, 109, .pointer (some ⟨b, 2, none⟩))] (fun L g w => St w0 fp0 ([pick (L 8) (boxA 67 (g 106) (.pointer (some ⟨rb, 0, none⟩))) emp, blkA b 70 #[ks, vs, vpick (L 12) (g 107) ps], pick (L 9) (slA 67 (g 107) ((bs.map ptrI).take (i + 1) ++ (.pointer (some ⟨rb, 0, none⟩)) :: (bs.map ptrI).drop (i + 1))) (slA 67 ps (bs.map ptrI))] ++ R) w) rfl (by kernel_rfl) hS ?_ ?_
  · intro oi o L a1 w1 ho hL hdep hI
    have hoi : oi < 13 := by have := (Array.getElem?_eq_some_iff.1 ho).1; omega
    have h1sz : a1.tmps.size = 130 := hI.frame.size.trans hsz
    rcases (by omega : oi = 0 ∨ oi = 1 ∨ oi = 2 ∨ oi = 3 ∨ oi = 4 ∨ oi = 5 ∨ oi = 6 ∨ oi = 7 ∨ oi = 8 ∨ oi = 9 ∨ oi = 10 ∨ oi = 11 ∨ oi = 12) with rfl | rfl | rfl | rfl | rfl | rfl | rfl | rfl | rfl | rfl | rfl | rfl | rfl
    · have hl : oSp7I[0]? = some ⟨some 98, Op.move (Operand.tmp 1), _, _, _, none⟩ := rfl
      obtain rfl := oI ho hl
      have x1 := hI.old 1 (.pointer (some ⟨b, 0, none⟩)) (by decide) h1
      exact hI.rd hE hsz 0 98 (.pointer (some ⟨b, 0, none⟩)) ho rfl rfl hdep (by decide) (vals_at hn1 hn2 0 rfl) (by simp [go_sem, execOp, Act.eval, x1])
    · have hl : oSp7I[1]? = some ⟨some 99, Op.move (Operand.tmp 1), _, _, _, none⟩ := rfl
      obtain rfl := oI ho hl
      have x1 := hI.old 1 (.pointer (some ⟨b, 0, none⟩)) (by decide) h1
      exact hI.rd hE hsz 1 99 (.pointer (some ⟨b, 0, none⟩)) ho rfl rfl hdep (by decide) (vals_at hn1 hn2 1 rfl) (by simp [go_sem, execOp, Act.eval, x1])
    · have hl : oSp7I[2]? = some ⟨some 100, Op.nilCheck (Operand.tmp 99), _, _, _, none⟩ := rfl
      obtain rfl := oI ho hl
      have x99 := hI.val 1 99 (.pointer (some ⟨b, 0, none⟩)) (mG (i := 1) rfl) (dK ho hdep (by kernel_rfl : waitsB oSp7I 2 1 = true))
      exact hI.rd hE hsz 2 100 (.pointer (some ⟨b, 0, none⟩)) ho rfl rfl hdep (by decide) (vals_at hn1 hn2 2 rfl) (by simp [go_sem, execOp, Act.eval, x99])
    · have hl : oSp7I[3]? = some ⟨some 101, Op.fieldAddr _ (Operand.tmp 100) 2, _, _, _, none⟩ := rfl
      obtain rfl := oI ho hl
      have x100 := hI.val 2 100 (.pointer (some ⟨b, 0, none⟩)) (mG (i := 2) rfl) (dK ho hdep (by kernel_rfl : waitsB oSp7I 3 2 = true))
      exact hI.rd hE hsz 3 101 (.pointer (some ⟨b, 2, none⟩)) ho rfl rfl hdep (by decide) (vals_at hn1 hn2 3 rfl) (by simp [go_sem, execOp, Act.eval, x100])
    · have hl : oSp7I[4]? = some ⟨some 102, Op.load _ (Operand.tmp 101), _, _, _, none⟩ := rfl
      obtain rfl := oI ho hl
      have x101 := hI.val 3 101 (.pointer (some ⟨b, 2, none⟩)) (mG (i := 3) rfl) (dK ho hdep (by kernel_rfl : waitsB oSp7I 4 3 = true))
      have hS1 := hI.eff
      have e9 : L 9 = false := hI.no hL (by kernel_rfl : waitsB oSp7I 9 4 = true)
      have e12 : L 12 = false := hI.no hL (by kernel_rfl : waitsB oSp7I 12 4 = true)
      simp only [e9, e12, pick_false, vpick_false] at hS1
      obtain ⟨_, hp⟩ := hS1.has 1 rfl
      have hcell := (blk_get hp).1 2
      have hlt := (blk_get hp).2.2
      simp only [List.getElem?_toArray, List.getElem?_cons_zero, List.getElem?_cons_succ] at hcell
      exact hI.rd hE hsz 4 102 (ps) ho rfl rfl hdep (by decide) (vals_at hn1 hn2 4 rfl) (by simp [go_sem, execOp, Act.eval, x101, hcell])
    · have hl : oSp7I[5]? = some ⟨some 103, Op.move (Operand.tmp 2), _, _, _, none⟩ := rfl
      obtain rfl := oI ho hl
      have x2 := hI.old 2 (.int .i64 i) (by decide) h2
      exact hI.rd hE hsz 5 103 (.int .i64 i) ho rfl rfl hdep (by decide) (vals_at hn1 hn2 5 rfl) (by simp [go_sem, execOp, Act.eval, x2])
    · have hl : oSp7I[6]? = some ⟨some 104, Op.binOp BinOp.add _ (Operand.tmp 103) (Operand.const (Value.int IntKind.i64 1)) _, _, _, _, none⟩ := rfl
      obtain rfl := oI ho hl
      have x103 := hI.val 5 103 (.int .i64 i) (mG (i := 5) rfl) (dK ho hdep (by kernel_rfl : waitsB oSp7I 6 5 = true))
      exact hI.rd hE hsz 6 104 (.int .i64 ((i + 1 : Nat) : Int)) ho rfl rfl hdep (by decide) (vals_at hn1 hn2 6 rfl) (by simp [go_sem, execOp, Act.eval, x103, hw])
    · have hl : oSp7I[7]? = some ⟨some 105, Op.move (Operand.tmp 8), _, _, _, none⟩ := rfl
      obtain rfl := oI ho hl
      have x8 := hI.old 8 (.pointer (some ⟨rb, 0, none⟩)) (by decide) h8
      exact hI.rd hE hsz 7 105 (.pointer (some ⟨rb, 0, none⟩)) ho rfl rfl hdep (by decide) (vals_at hn1 hn2 7 rfl) (by simp [go_sem, execOp, Act.eval, x8])
    · have hl : oSp7I[8]? = some ⟨some 106, Op.buildSlice _ 1 #[(0, Operand.tmp 105)], _, _, _, none⟩ := rfl
      obtain rfl := oI ho hl
      have x105 := hI.val 7 105 (.pointer (some ⟨rb, 0, none⟩)) (mG (i := 7) rfl) (dK ho hdep (by kernel_rfl : waitsB oSp7I 8 7 = true))
      have hS1 := hI.eff
      have e8 : L 8 = false := hL
      have e9 : L 9 = false := hI.no hL (by kernel_rfl : waitsB oSp7I 9 8 = true)
      have e12 : L 12 = false := hI.no hL (by kernel_rfl : waitsB oSp7I 12 8 = true)
      simp only [e8, e9, e12, pick_false, vpick_false] at hS1
      refine inv_value ho rfl (v := .slice (some ⟨w1.heap.size, 0, none⟩) 1 1) (w' := w1.alloc (.cells #[.pointer (some ⟨rb, 0, none⟩)] 67)) (by simp [go_sem, execOp, Act.eval, x105]) (hI.put 8 106 _ ho hdep (by decide) (by intro t ht; exact vals_ne2 rfl rfl (by decide : 8 ∉ [0, 1, 2, 3, 4, 5, 6, 7, 10, 11]) (by decide : 106 ∉ [98, 99, 100, 101, 102, 103, 104, 105, 108, 109]) ht) ?_)
      have hS2 := St.box hS1 0 rfl 67 (.pointer (some ⟨rb, 0, none⟩))
      simp only [e8, e9, e12, Bool.or_false, Bool.or_true, Nat.reduceEqDiff, decide_true, decide_false, pick_true, pick_false, vpick_false, eval_put_same (by rw [h1sz]; decide : 106 < a1.tmps.size), eval_put_ne (by decide : 106 ≠ 107)]
      exact hS2
    · have hl : oSp7I[9]? = some ⟨some 107, Op.call ⟨Callee.value (Operand.func _), #[Operand.tmp 102, Operand.tmp 104, Operand.tmp 106], _⟩, _, _, _, none⟩ := rfl
      obtain rfl := oI ho hl
      have x102 := hI.val 4 102 (ps) (mG (i := 4) rfl) (dK ho hdep (by kernel_rfl : waitsB oSp7I 9 4 = true))
      have x104 := hI.val 6 104 (.int .i64 ((i + 1 : Nat) : Int)) (mG (i := 6) rfl) (dK ho hdep (by kernel_rfl : waitsB oSp7I 9 6 = true))
      have hS1 := hI.eff
      have e8 : L 8 = true := dK ho hdep (by kernel_rfl : waitsB oSp7I 9 8 = true)
      have e9 : L 9 = false := hL
      have e12 : L 12 = false := hI.no hL (by kernel_rfl : waitsB oSp7I 12 9 = true)
      simp only [e8, e9, e12, pick_true, pick_false, vpick_false] at hS1
      obtain ⟨f, g, hbx, hsl, hd, _, hset⟩ := hS1.two 0 2 (by decide) rfl rfl
      obtain ⟨vb, hgb, hvb, rfl⟩ := hbx
      have xb := eval_spell hgb
      refine inv_call ho rfl (f := 61) (by simp [go_sem, Act.eval, x102, x104, xb]) (insP_calls _ _ (i + 1) _ _ _ hsl (by rw [List.length_map]; omega) (by rw [List.length_map]; exact hlx) (ptrI_one bs) rfl hvb (fun hm => hd _ (by simp) hm)) ?_
      rintro e w2 ⟨an, nn, cn, f', rfl, hsl', htr⟩
      refine ⟨_, rfl, hI.put 9 107 _ ho hdep (by decide) (by intro t ht; exact vals_ne2 rfl rfl (by decide : 9 ∉ [0, 1, 2, 3, 4, 5, 6, 7, 10, 11]) (by decide : 107 ∉ [98, 99, 100, 101, 102, 103, 104, 105, 108, 109]) ht) ?_⟩
      have hS2 := hset _ _ _ hsl' htr
      simp only [e8, e9, e12, Bool.or_false, Bool.or_true, Nat.reduceEqDiff, decide_true, decide_false, pick_true, vpick_false, eval_put_same (by rw [h1sz]; decide : 107 < a1.tmps.size), eval_put_ne (by decide : 107 ≠ 106)]
      exact hS2
    · have hl : oSp7I[10]? = some ⟨some 108, Op.nilCheck (Operand.tmp 98), _, _, _, none⟩ := rfl
      obtain rfl := oI ho hl
      have x98 := hI.val 0 98 (.pointer (some ⟨b, 0, none⟩)) (mG (i := 0) rfl) (dK ho hdep (by kernel_rfl : waitsB oSp7I 10 0 = true))
      exact hI.rd hE hsz 10 108 (.pointer (some ⟨b, 0, none⟩)) ho rfl rfl hdep (by decide) (vals_at hn1 hn2 8 rfl) (by simp [go_sem, execOp, Act.eval, x98])
    · have hl : oSp7I[11]? = some ⟨some 109, Op.fieldAddr _ (Operand.tmp 108) 2, _, _, _, none⟩ := rfl
      obtain rfl := oI ho hl
      have x108 := hI.val 10 108 (.pointer (some ⟨b, 0, none⟩)) (mG (i := 8) rfl) (dK ho hdep (by kernel_rfl : waitsB oSp7I 11 10 = true))
      exact hI.rd hE hsz 11 109 (.pointer (some ⟨b, 2, none⟩)) ho rfl rfl hdep (by decide) (vals_at hn1 hn2 9 rfl) (by simp [go_sem, execOp, Act.eval, x108])
    · have hl : oSp7I[12]? = some ⟨none, Op.store _ (Operand.tmp 109) (Operand.tmp 107), _, _, _, none⟩ := rfl
      obtain rfl := oI ho hl
      have x109 := hI.val 11 109 (.pointer (some ⟨b, 2, none⟩)) (mG (i := 9) rfl) (dK ho hdep (by kernel_rfl : waitsB oSp7I 12 11 = true))
      have hS1 := hI.eff
      have e8 : L 8 = true := dK ho hdep (by kernel_rfl : waitsB oSp7I 12 8 = true)
      have e9 : L 9 = true := dK ho hdep (by kernel_rfl : waitsB oSp7I 12 9 = true)
      have e12 : L 12 = false := hL
      simp only [e8, e9, e12, pick_true, vpick_false] at hS1
      obtain ⟨_, hpv⟩ := hS1.has 2 rfl
      obtain ⟨av, nv, cv, hv⟩ := sl_shape hpv
      have xv := eval_spell hv
      obtain ⟨f, hp, hset⟩ := hS1.get 1 rfl
      have hcell := (blk_get hp).1 2
      have hfz := (blk_get hp).2.1 2
      have hlt := (blk_get hp).2.2
      simp only [List.getElem?_toArray, List.getElem?_cons_zero, List.getElem?_cons_succ] at hcell
      refine inv_stored ho rfl rfl (by simp [go_sem, execOp, Act.eval, x109, xv, hcell, hfz]; rfl) (hI.step 12 ho hdep (by intro t ht; exact vals_ne1 rfl (by decide : 12 ∉ [0, 1, 2, 3, 4, 5, 6, 7, 10, 11]) ht) ?_)
      obtain ⟨hb2, ht2⟩ := blk_set hp 2 (a1.eval (.tmp 107))
      have hS2 := hset _ _ _ hb2 ht2
      simp only [e8, e9, e12, Bool.or_false, Bool.or_true, Nat.reduceEqDiff, decide_true, decide_false, pick_true, vpick_true]
      rw [hv] at hS2
      rw [hv]
      exact hS2
  · intro L a1 w1 hL hI
    have hS1 := hI.eff
    simp only [hL 8 (by rw [hsize]; decide), hL 9 (by rw [hsize]; decide), hL 12 (by rw [hsize]; decide), pick_true, vpick_true] at hS1
    have := hQ (fun d => a1.eval (.tmp d)) w1  hS1
    have e := hI.frame.eq
    rw [e]
    exact this
noncomputable def oSp8I : Array Oper := ((Try.f38.body).bind fun c => opsOf c 8).getD #[]
set_option maxHeartbeats 4000000 in
set_option maxRecDepth 100000 in
theorem rSp8I {Q : Exit → Act → World → Prop} {a : Act} {w w0 : World} {fp0 : List Nat} (cb gk nk ck gv nv cv mid : Nat) (cps : Value) (es : M Int Int) (_hmk : mid < nk) (hmv : mid < nv) (hmc : nk ≤ ck) (hvc : nv ≤ cv) (hek : nk = es.length) (hev : nv = es.length) (hlen : es.length < 1099511627776) (R : List Asn) (ops : Array Oper) (hops : ops = oSp8I) (hsz : a.tmps.size = 130) (h6 : a.eval (.tmp 6) = .pointer (some ⟨cb, 0, none⟩)) (h7 : a.eval (.tmp 7) = .int .i64 mid)
    (hS : St w0 fp0 ([blkA cb 70 #[vpick false (a.eval (.tmp 118)) (.slice (some ⟨gk, 0, none⟩) nk ck), vpick false (a.eval (.tmp 125)) (.slice (some ⟨gv, 0, none⟩) nv cv), cps], pick false (slA 3 (a.eval (.tmp 118)) ((keysI es).take mid)) emp, pick false (slA 3 (a.eval (.tmp 125)) ((valsI es).take mid)) emp, slA 3 (.slice (some ⟨gk, 0, none⟩) nk ck) (keysI es), slA 3 (.slice (some ⟨gv, 0, none⟩) nv cv) (valsI es)] ++ R) w)
    (hQ : ∀ (u : Nat → Value) w1, St w0 fp0 ([blkA cb 70 #[vpick true (u 118) (.slice (some ⟨gk, 0, none⟩) nk ck), vpick true (u 125) (.slice (some ⟨gv, 0, none⟩) nv cv), cps], pick true (slA 3 (u 118) ((keysI es).take mid)) emp, pick true (slA 3 (u 125) ((valsI es).take mid)) emp, slA 3 (.slice (some ⟨gk, 0, none⟩) nk ck) (keysI es), slA 3 (.slice (some ⟨gv, 0, none⟩) nv cv) (valsI es)] ++ R) w1 → Q .normal (putL a (([110, 111, 112, 113, 114, 115, 116, 117, 118, 119, 120, 121, 122, 123, 124, 125, 126, 127, 128, 129] : List Nat).map fun d => (d, u d))) w1) : (Code.region 8 ops true).wp Try.prog Q a w := by
  subst hops
  have hm1 : mid ≤ ck := by omega
  have hm2 : mid ≤ cv := by omega
  have hsize : oSp8I.size = 22 := by kernel_rfl
  have hE : Looks (fun L g w => St w0 fp0 ([blkA cb 70 #[vpick (L 18) (g 118) (.slice (some ⟨gk, 0, none⟩) nk ck), vpick (L 21) (g 125) (.slice (some ⟨gv, 0, none⟩) nv cv), cps], pick (L 8) (slA 3 (g 118) ((keysI es).take mid)) emp, pick (L 15) (slA 3 (g 125) ((valsI es).take mid)) emp, slA 3 (.slice (some ⟨gk, 0, none⟩) nk ck) (keysI es), slA 3 (.slice (some ⟨gv, 0, none⟩) nv cv) (valsI es)] ++ R) w) [8, 15, 18, 21] [118, 125] := by
    intro L L' g g' w hL hg h
    simpa only [← hL 8 (by decide), ← hL 15 (by decide), ← hL 18 (by decide), ← hL 21 (by decide), ← hg 118 (by decide), ← hg 125 (by decide)] using h
  have hn1 : (([(0, 110, .pointer (some ⟨cb, 0, none⟩)), (1, 111, .pointer (some ⟨cb, 0, none⟩)), (2, 112, .pointer (some ⟨cb, 0, none⟩)), (3, 113, .pointer (some ⟨cb, 0, none⟩)), (4, 114, .pointer (some ⟨cb, 0, none⟩)), (5, 115, .slice (some ⟨gk, 0, none⟩) nk ck), (6, 116, .int .i64 mid), (7, 117, .slice (some ⟨gk, 0, none⟩) mid ck), (9, 119, .pointer (some ⟨cb, 0, none⟩)), (10, 120, .pointer (some ⟨cb, 0, none⟩)), (11, 121, .pointer (some ⟨cb, 1, none⟩)), (12, 122, .slice (some ⟨gv, 0, none⟩) nv cv), (13, 123, .int .i64 mid), (14, 124, .slice (some ⟨gv, 0, none⟩) mid cv), (16, 126, .pointer (some ⟨cb, 0, none⟩)), (17, 127, .pointer (some ⟨cb, 0, none⟩)), (19, 128, .pointer (some ⟨cb, 0, none⟩)), (20, 129, .pointer (some ⟨cb, 1, none⟩))] : List (Nat × Nat × Value)).map (·.1)).Nodup := by
    show List.Nodup [0, 1, 2, 3, 4, 5, 6, 7, 9, 10, 11, 12, 13, 14, 16, 17, 19, 20]
    decide
  have hn2 : (([(0, 110, .pointer (some ⟨cb, 0, none⟩)), (1, 111, .pointer (some ⟨cb, 0, none⟩)), (2, 112, .pointer (some ⟨cb, 0, none⟩)), (3, 113, .pointer (some ⟨cb, 0, none⟩)), (4, 114, .pointer (some ⟨cb, 0, none⟩)), (5, 115, .slice (some ⟨gk, 0, none⟩) nk ck), (6, 116, .int .i64 mid), (7, 117, .slice (some ⟨gk, 0, none⟩) mid ck), (9, 119, .pointer (some ⟨cb, 0, none⟩)), (10, 120, .pointer (some ⟨cb, 0, none⟩)), (11, 121, .pointer (some ⟨cb, 1, none⟩)), (12, 122, .slice (some ⟨gv, 0, none⟩) nv cv), (13, 123, .int .i64 mid), (14, 124, .slice (some ⟨gv, 0, none⟩) mid cv), (16, 126, .pointer (some ⟨cb, 0, none⟩)), (17, 127, .pointer (some ⟨cb, 0, none⟩)), (19, 128, .pointer (some ⟨cb, 0, none⟩)), (20, 129, .pointer (some ⟨cb, 1, none⟩))] : List (Nat × Nat × Value)).map (·.2.1)).Nodup := by
    show List.Nodup [110, 111, 112, 113, 114, 115, 116, 117, 119, 120, 121, 122, 123, 124, 126, 127, 128, 129]
    decide
  refine wp_region_vals (ops' := oSp8I) [110, 111, 112, 113, 114, 115, 116, 117, 118, 119, 120, 121, 122, 123, 124, 125, 126, 127, 128, 129] [(0, 110, .pointer (some ⟨cb, 0, none⟩)), (1, 111, .pointer (some ⟨cb, 0, none⟩)), (2, 112, .pointer (some ⟨cb, 0, none⟩)), (3, 113, .pointer (some ⟨cb, 0, none⟩)), (4, 114, .pointer (some ⟨cb, 0, none⟩)), (5, 115, .slice (some ⟨gk, 0, none⟩) nk ck), (6, 116, .int .i64 mid), (7, 117, .slice (some ⟨gk, 0, none⟩) mid ck), (9, 119, .pointer (some ⟨cb, 0, none⟩)), (10, 120, .pointer (some ⟨cb, 0, none⟩)), (11, 121, .pointer (some ⟨cb, 1, none⟩)), (12, 122, .slice (some ⟨gv, 0, none⟩) nv cv), (13, 123, .int .i64 mid), (14, 124, .slice (some ⟨gv, 0, none⟩) mid cv), (16, 126, .pointer (some ⟨cb, 0, none⟩)), (17, 127, .pointer (some ⟨cb, 0, none⟩)), (19, 128, .pointer (some ⟨cb, 0, none⟩)), (20, 129, .pointer (some ⟨cb, 1, none⟩))] (fun L g w => St w0 fp0 ([blkA cb 70 #[vpick (L 18) (g 118) (.slice (some ⟨gk, 0, none⟩) nk ck), vpick (L 21) (g 125) (.slice (some ⟨gv, 0, none⟩) nv cv), cps], pick (L 8) (slA 3 (g 118) ((keysI es).take mid)) emp, pick (L 15) (slA 3 (g 125) ((valsI es).take mid)) emp, slA 3 (.slice (some ⟨gk, 0, none⟩) nk ck) (keysI es), slA 3 (.slice (some ⟨gv, 0, none⟩) nv cv) (valsI es)] ++ R) w) rfl (by kernel_rfl) (by kernel_rfl) (hS.mono (below_drew w)) ?_ ?_
  · intro oi o L a1 w1 ho hL hdep hI
    have hoi : oi < 22 := by have := (Array.getElem?_eq_some_iff.1 ho).1; omega
    have h1sz : a1.tmps.size = 130 := hI.frame.size.trans hsz
    rcases (by omega : oi = 0 ∨ oi = 1 ∨ oi = 2 ∨ oi = 3 ∨ oi = 4 ∨ oi = 5 ∨ oi = 6 ∨ oi = 7 ∨ oi = 8 ∨ oi = 9 ∨ oi = 10 ∨ oi = 11 ∨ oi = 12 ∨ oi = 13 ∨ oi = 14 ∨ oi = 15 ∨ oi = 16 ∨ oi = 17 ∨ oi = 18 ∨ oi = 19 ∨ oi = 20 ∨ oi = 21) with rfl | rfl | rfl | rfl | rfl | rfl | rfl | rfl | rfl | rfl | rfl | rfl | rfl | rfl | rfl | rfl | rfl | rfl | rfl | rfl | rfl | rfl
    · have hl : oSp8I[0]? = some ⟨some 110, Op.move (Operand.tmp 6), _, _, _, none⟩ := rfl
      obtain rfl := oI ho hl
      have x6 := hI.old 6 (.pointer (some ⟨cb, 0, none⟩)) (by decide) h6
      exact hI.rd hE hsz 0 110 (.pointer (some ⟨cb, 0, none⟩)) ho rfl rfl hdep (by decide) (vals_at hn1 hn2 0 rfl) (by simp [go_sem, execOp, Act.eval, x6])
    · have hl : oSp8I[1]? = some ⟨some 111, Op.move (Operand.tmp 6), _, _, _, none⟩ := rfl
      obtain rfl := oI ho hl
      have x6 := hI.old 6 (.pointer (some ⟨cb, 0, none⟩)) (by decide) h6
      exact hI.rd hE hsz 1 111 (.pointer (some ⟨cb, 0, none⟩)) ho rfl rfl hdep (by decide) (vals_at hn1 hn2 1 rfl) (by simp [go_sem, execOp, Act.eval, x6])
    · have hl : oSp8I[2]? = some ⟨some 112, Op.move (Operand.tmp 6), _, _, _, none⟩ := rfl
      obtain rfl := oI ho hl
      have x6 := hI.old 6 (.pointer (some ⟨cb, 0, none⟩)) (by decide) h6
      exact hI.rd hE hsz 2 112 (.pointer (some ⟨cb, 0, none⟩)) ho rfl rfl hdep (by decide) (vals_at hn1 hn2 2 rfl) (by simp [go_sem, execOp, Act.eval, x6])
    · have hl : oSp8I[3]? = some ⟨some 113, Op.nilCheck (Operand.tmp 112), _, _, _, none⟩ := rfl
      obtain rfl := oI ho hl
      have x112 := hI.val 2 112 (.pointer (some ⟨cb, 0, none⟩)) (mG (i := 2) rfl) (dK ho hdep (by kernel_rfl : waitsB oSp8I 3 2 = true))
      exact hI.rd hE hsz 3 113 (.pointer (some ⟨cb, 0, none⟩)) ho rfl rfl hdep (by decide) (vals_at hn1 hn2 3 rfl) (by simp [go_sem, execOp, Act.eval, x112])
    · have hl : oSp8I[4]? = some ⟨some 114, Op.fieldAddr _ (Operand.tmp 113) 0, _, _, _, none⟩ := rfl
      obtain rfl := oI ho hl
      have x113 := hI.val 3 113 (.pointer (some ⟨cb, 0, none⟩)) (mG (i := 3) rfl) (dK ho hdep (by kernel_rfl : waitsB oSp8I 4 3 = true))
      exact hI.rd hE hsz 4 114 (.pointer (some ⟨cb, 0, none⟩)) ho rfl rfl hdep (by decide) (vals_at hn1 hn2 4 rfl) (by simp [go_sem, execOp, Act.eval, x113])
    · have hl : oSp8I[5]? = some ⟨some 115, Op.load _ (Operand.tmp 114), _, _, _, none⟩ := rfl
      obtain rfl := oI ho hl
      have x114 := hI.val 4 114 (.pointer (some ⟨cb, 0, none⟩)) (mG (i := 4) rfl) (dK ho hdep (by kernel_rfl : waitsB oSp8I 5 4 = true))
      have hS1 := hI.eff
      have e18 : L 18 = false := hI.no hL (by kernel_rfl : waitsB oSp8I 18 5 = true)
      have e21 : L 21 = false := hI.no hL (by kernel_rfl : waitsB oSp8I 21 5 = true)
      simp only [e18, e21, vpick_false] at hS1
      obtain ⟨_, hp⟩ := hS1.has 0 rfl
      have hcell := (blk_get hp).1 0
      have hlt := (blk_get hp).2.2
      simp only [List.getElem?_toArray, List.getElem?_cons_zero] at hcell
      exact hI.rd hE hsz 5 115 (.slice (some ⟨gk, 0, none⟩) nk ck) ho rfl rfl hdep (by decide) (vals_at hn1 hn2 5 rfl) (by simp [go_sem, execOp, Act.eval, x114, hcell])
    · have hl : oSp8I[6]? = some ⟨some 116, Op.move (Operand.tmp 7), _, _, _, none⟩ := rfl
      obtain rfl := oI ho hl
      have x7 := hI.old 7 (.int .i64 mid) (by decide) h7
      exact hI.rd hE hsz 6 116 (.int .i64 mid) ho rfl rfl hdep (by decide) (vals_at hn1 hn2 6 rfl) (by simp [go_sem, execOp, Act.eval, x7])
    · have hl : oSp8I[7]? = some ⟨some 117, Op.slice _ (Operand.tmp 115) none (some (Operand.tmp 116)) none, _, _, _, none⟩ := rfl
      obtain rfl := oI ho hl
      have x115 := hI.val 5 115 (.slice (some ⟨gk, 0, none⟩) nk ck) (mG (i := 5) rfl) (dK ho hdep (by kernel_rfl : waitsB oSp8I 7 5 = true))
      have x116 := hI.val 6 116 (.int .i64 mid) (mG (i := 6) rfl) (dK ho hdep (by kernel_rfl : waitsB oSp8I 7 6 = true))
      exact hI.rd hE hsz 7 117 (.slice (some ⟨gk, 0, none⟩) mid ck) ho rfl rfl hdep (by decide) (vals_at hn1 hn2 7 rfl) (by simp [go_sem, execOp, Act.eval, x115, x116, hm1])
    · have hl : oSp8I[8]? = some ⟨some 118, Op.call ⟨Callee.value (Operand.func _), #[Operand.tmp 117], _⟩, _, _, _, none⟩ := rfl
      obtain rfl := oI ho hl
      have x117 := hI.val 7 117 (.slice (some ⟨gk, 0, none⟩) mid ck) (mG (i := 7) rfl) (dK ho hdep (by kernel_rfl : waitsB oSp8I 8 7 = true))
      have hS1 := hI.eff
      have e8 : L 8 = false := hL
      have e15 : L 15 = false := hI.no hL (by kernel_rfl : waitsB oSp8I 15 8 = true)
      have e18 : L 18 = false := hI.no hL (by kernel_rfl : waitsB oSp8I 18 8 = true)
      have e21 : L 21 = false := hI.no hL (by kernel_rfl : waitsB oSp8I 21 8 = true)
      simp only [e8, e15, e18, e21, pick_false, vpick_false] at hS1
      obtain ⟨_, hps⟩ := hS1.has 3 rfl
      refine inv_call ho rfl (f := 59) (by simp [go_sem, Act.eval, x117]) (cloneI_calls ((keysI es).take mid) _ w1 (srctakeI hps _ (by rw [keysI_length]; omega)) (by intro u hu; exact keysI_one es u (List.mem_of_mem_take hu)) (by rw [List.length_take, keysI_length]; omega)) ?_
      rintro e w2 ⟨v2, f2, rfl, hp2, hb2, hf2⟩
      refine ⟨_, rfl, hI.put 8 118 _ ho hdep (by decide) (by intro t ht; exact vals_ne2 rfl rfl (by decide : 8 ∉ [0, 1, 2, 3, 4, 5, 6, 7, 9, 10, 11, 12, 13, 14, 16, 17, 19, 20]) (by decide : 118 ∉ [110, 111, 112, 113, 114, 115, 116, 117, 119, 120, 121, 122, 123, 124, 126, 127, 128, 129]) ht) ?_⟩
      have hS2 := hS1.newA 1 rfl hp2 hb2 hf2
      simp only [e8, e15, e18, e21, Bool.or_false, Bool.or_true, Nat.reduceEqDiff, decide_true, decide_false, pick_true, pick_false, vpick_false, eval_put_same (by rw [h1sz]; decide : 118 < a1.tmps.size), eval_put_ne (by decide : 118 ≠ 125)]
      exact hS2
    · have hl : oSp8I[9]? = some ⟨some 119, Op.move (Operand.tmp 6), _, _, _, none⟩ := rfl
      obtain rfl := oI ho hl
      have x6 := hI.old 6 (.pointer (some ⟨cb, 0, none⟩)) (by decide) h6
      exact hI.rd hE hsz 9 119 (.pointer (some ⟨cb, 0, none⟩)) ho rfl rfl hdep (by decide) (vals_at hn1 hn2 8 rfl) (by simp [go_sem, execOp, Act.eval, x6])
    · have hl : oSp8I[10]? = some ⟨some 120, Op.nilCheck (Operand.tmp 119), _, _, _, none⟩ := rfl
      obtain rfl := oI ho hl
      have x119 := hI.val 9 119 (.pointer (some ⟨cb, 0, none⟩)) (mG (i := 8) rfl) (dK ho hdep (by kernel_rfl : waitsB oSp8I 10 9 = true))
      exact hI.rd hE hsz 10 120 (.pointer (some ⟨cb, 0, none⟩)) ho rfl rfl hdep (by decide) (vals_at hn1 hn2 9 rfl) (by simp [go_sem, execOp, Act.eval, x119])
    · have hl : oSp8I[11]? = some ⟨some 121, Op.fieldAddr _ (Operand.tmp 120) 1, _, _, _, none⟩ := rfl
      obtain rfl := oI ho hl
      have x120 := hI.val 10 120 (.pointer (some ⟨cb, 0, none⟩)) (mG (i := 9) rfl) (dK ho hdep (by kernel_rfl : waitsB oSp8I 11 10 = true))
      exact hI.rd hE hsz 11 121 (.pointer (some ⟨cb, 1, none⟩)) ho rfl rfl hdep (by decide) (vals_at hn1 hn2 10 rfl) (by simp [go_sem, execOp, Act.eval, x120])
    · have hl : oSp8I[12]? = some ⟨some 122, Op.load _ (Operand.tmp 121), _, _, _, none⟩ := rfl
      obtain rfl := oI ho hl
      have x121 := hI.val 11 121 (.pointer (some ⟨cb, 1, none⟩)) (mG (i := 10) rfl) (dK ho hdep (by kernel_rfl : waitsB oSp8I 12 11 = true))
      have hS1 := hI.eff
      have e18 : L 18 = false := hI.no hL (by kernel_rfl : waitsB oSp8I 18 12 = true)
      have e21 : L 21 = false := hI.no hL (by kernel_rfl : waitsB oSp8I 21 12 = true)
      simp only [e18, e21, vpick_false] at hS1
      obtain ⟨_, hp⟩ := hS1.has 0 rfl
      have hcell := (blk_get hp).1 1
      have hlt := (blk_get hp).2.2
      simp only [List.getElem?_toArray, List.getElem?_cons_zero, List.getElem?_cons_succ] at hcell
      exact hI.rd hE hsz 12 122 (.slice (some ⟨gv, 0, none⟩) nv cv) ho rfl rfl hdep (by decide) (vals_at hn1 hn2 11 rfl) (by simp [go_sem, execOp, Act.eval, x121, hcell])
    · have hl : oSp8I[13]? = some ⟨some 123, Op.move (Operand.tmp 7), _, _, _, none⟩ := rfl
      obtain rfl := oI ho hl
      have x7 := hI.old 7 (.int .i64 mid) (by decide) h7
      exact hI.rd hE hsz 13 123 (.int .i64 mid) ho rfl rfl hdep (by decide) (vals_at hn1 hn2 12 rfl) (by simp [go_sem, execOp, Act.eval, x7])
    · have hl : oSp8I[14]? = some ⟨some 124, Op.slice _ (Operand.tmp 122) none (some (Operand.tmp 123)) none, _, _, _, none⟩ := rfl
      obtain rfl := oI ho hl
      have x122 := hI.val 12 122 (.slice (some ⟨gv, 0, none⟩) nv cv) (mG (i := 11) rfl) (dK ho hdep (by kernel_rfl : waitsB oSp8I 14 12 = true))
      have x123 := hI.val 13 123 (.int .i64 mid) (mG (i := 12) rfl) (dK ho hdep (by kernel_rfl : waitsB oSp8I 14 13 = true))
      exact hI.rd hE hsz 14 124 (.slice (some ⟨gv, 0, none⟩) mid cv) ho rfl rfl hdep (by decide) (vals_at hn1 hn2 13 rfl) (by simp [go_sem, execOp, Act.eval, x122, x123, hm2])
    · have hl : oSp8I[15]? = some ⟨some 125, Op.call ⟨Callee.value (Operand.func _), #[Operand.tmp 124], _⟩, _, _, _, none⟩ := rfl
      obtain rfl := oI ho hl
      have x124 := hI.val 14 124 (.slice (some ⟨gv, 0, none⟩) mid cv) (mG (i := 13) rfl) (dK ho hdep (by kernel_rfl : waitsB oSp8I 15 14 = true))
      have hS1 := hI.eff
      have e8 : L 8 = true := dK ho hdep (by kernel_rfl : waitsB oSp8I 15 8 = true)
      have e15 : L 15 = false := hL
      have e18 : L 18 = false := hI.no hL (by kernel_rfl : waitsB oSp8I 18 15 = true)
      have e21 : L 21 = false := hI.no hL (by kernel_rfl : waitsB oSp8I 21 15 = true)
      simp only [e8, e15, e18, e21, pick_true, pick_false, vpick_false] at hS1
      obtain ⟨_, hps⟩ := hS1.has 4 rfl
      refine inv_call ho rfl (f := 59) (by simp [go_sem, Act.eval, x124]) (cloneI_calls ((valsI es).take mid) _ w1 (srctakeI hps _ (by rw [valsI_length]; omega)) (by intro u hu; exact valsI_one es u (List.mem_of_mem_take hu)) (by rw [List.length_take, valsI_length]; omega)) ?_
      rintro e w2 ⟨v2, f2, rfl, hp2, hb2, hf2⟩
      refine ⟨_, rfl, hI.put 15 125 _ ho hdep (by decide) (by intro t ht; exact vals_ne2 rfl rfl (by decide : 15 ∉ [0, 1, 2, 3, 4, 5, 6, 7, 9, 10, 11, 12, 13, 14, 16, 17, 19, 20]) (by decide : 125 ∉ [110, 111, 112, 113, 114, 115, 116, 117, 119, 120, 121, 122, 123, 124, 126, 127, 128, 129]) ht) ?_⟩
      have hS2 := hS1.newA 2 rfl hp2 hb2 hf2
      simp only [e8, e15, e18, e21, Bool.or_false, Bool.or_true, Nat.reduceEqDiff, decide_true, decide_false, pick_true, vpick_false, eval_put_same (by rw [h1sz]; decide : 125 < a1.tmps.size), eval_put_ne (by decide : 125 ≠ 118)]
      exact hS2
    · have hl : oSp8I[16]? = some ⟨some 126, Op.nilCheck (Operand.tmp 110), _, _, _, none⟩ := rfl
      obtain rfl := oI ho hl
      have x110 := hI.val 0 110 (.pointer (some ⟨cb, 0, none⟩)) (mG (i := 0) rfl) (dK ho hdep (by kernel_rfl : waitsB oSp8I 16 0 = true))
      exact hI.rd hE hsz 16 126 (.pointer (some ⟨cb, 0, none⟩)) ho rfl rfl hdep (by decide) (vals_at hn1 hn2 14 rfl) (by simp [go_sem, execOp, Act.eval, x110])
    · have hl : oSp8I[17]? = some ⟨some 127, Op.fieldAddr _ (Operand.tmp 126) 0, _, _, _, none⟩ := rfl
      obtain rfl := oI ho hl
      have x126 := hI.val 16 126 (.pointer (some ⟨cb, 0, none⟩)) (mG (i := 14) rfl) (dK ho hdep (by kernel_rfl : waitsB oSp8I 17 16 = true))
      exact hI.rd hE hsz 17 127 (.pointer (some ⟨cb, 0, none⟩)) ho rfl rfl hdep (by decide) (vals_at hn1 hn2 15 rfl) (by simp [go_sem, execOp, Act.eval, x126])
    · have hl : oSp8I[18]? = some ⟨none, Op.store _ (Operand.tmp 127) (Operand.tmp 118), _, _, _, none⟩ := rfl
      obtain rfl := oI ho hl
      have x127 := hI.val 17 127 (.pointer (some ⟨cb, 0, none⟩)) (mG (i := 15) rfl) (dK ho hdep (by kernel_rfl : waitsB oSp8I 18 17 = true))
      have hS1 := hI.eff
      have e8 : L 8 = true := dK ho hdep (by kernel_rfl : waitsB oSp8I 18 8 = true)
      have e15 : L 15 = true := dK ho hdep (by kernel_rfl : waitsB oSp8I 18 15 = true)
      have e18 : L 18 = false := hL
      have e21 : L 21 = false := hI.no hL (by kernel_rfl : waitsB oSp8I 21 18 = true)
      simp only [e8, e15, e18, e21, pick_true, vpick_false] at hS1
      obtain ⟨_, hpv⟩ := hS1.has 1 rfl
      obtain ⟨av, nv, cv, hv⟩ := sl_shape hpv
      have xv := eval_spell hv
      obtain ⟨f, hp, hset⟩ := hS1.get 0 rfl
      have hcell := (blk_get hp).1 0
      have hfz := (blk_get hp).2.1 0
      have hlt := (blk_get hp).2.2
      simp only [List.getElem?_toArray, List.getElem?_cons_zero] at hcell
      refine inv_stored ho rfl rfl (by simp [go_sem, execOp, Act.eval, x127, xv, hcell, hfz]; rfl) (hI.step 18 ho hdep (by intro t ht; exact vals_ne1 rfl (by decide : 18 ∉ [0, 1, 2, 3, 4, 5, 6, 7, 9, 10, 11, 12, 13, 14, 16, 17, 19, 20]) ht) ?_)
      obtain ⟨hb2, ht2⟩ := blk_set hp 0 (a1.eval (.tmp 118))
      have hS2 := hset _ _ _ hb2 ht2
      simp only [e8, e15, e18, e21, Bool.or_false, Bool.or_true, Nat.reduceEqDiff, decide_true, decide_false, pick_true, vpick_true, vpick_false]
      rw [hv] at hS2
      rw [hv]
      exact hS2
    · have hl : oSp8I[19]? = some ⟨some 128, Op.nilCheck (Operand.tmp 111), _, _, _, none⟩ := rfl
      obtain rfl := oI ho hl
      have x111 := hI.val 1 111 (.pointer (some ⟨cb, 0, none⟩)) (mG (i := 1) rfl) (dK ho hdep (by kernel_rfl : waitsB oSp8I 19 1 = true))
      exact hI.rd hE hsz 19 128 (.pointer (some ⟨cb, 0, none⟩)) ho rfl rfl hdep (by decide) (vals_at hn1 hn2 16 rfl) (by simp [go_sem, execOp, Act.eval, x111])
    · have hl : oSp8I[20]? = some ⟨some 129, Op.fieldAddr _ (Operand.tmp 128) 1, _, _, _, none⟩ := rfl
      obtain rfl := oI ho hl
      have x128 := hI.val 19 128 (.pointer (some ⟨cb, 0, none⟩)) (mG (i := 16) rfl) (dK ho hdep (by kernel_rfl : waitsB oSp8I 20 19 = true))
      exact hI.rd hE hsz 20 129 (.pointer (some ⟨cb, 1, none⟩)) ho rfl rfl hdep (by decide) (vals_at hn1 hn2 17 rfl) (by simp [go_sem, execOp, Act.eval, x128])
    · have hl : oSp8I[21]? = some ⟨none, Op.store _ (Operand.tmp 129) (Operand.tmp 125), _, _, _, none⟩ := rfl
      obtain rfl := oI ho hl
      have x129 := hI.val 20 129 (.pointer (some ⟨cb, 1, none⟩)) (mG (i := 17) rfl) (dK ho hdep (by kernel_rfl : waitsB oSp8I 21 20 = true))
      have hS1 := hI.eff
      have e8 : L 8 = true := dK ho hdep (by kernel_rfl : waitsB oSp8I 21 8 = true)
      have e15 : L 15 = true := dK ho hdep (by kernel_rfl : waitsB oSp8I 21 15 = true)
      have e18 : L 18 = true := dK ho hdep (by kernel_rfl : waitsB oSp8I 21 18 = true)
      have e21 : L 21 = false := hL
      simp only [e8, e15, e18, e21, pick_true, vpick_true, vpick_false] at hS1
      obtain ⟨_, hpv⟩ := hS1.has 2 rfl
      obtain ⟨av, nv, cv, hv⟩ := sl_shape hpv
      have xv := eval_spell hv
      obtain ⟨f, hp, hset⟩ := hS1.get 0 rfl
      have hcell := (blk_get hp).1 1
      have hfz := (blk_get hp).2.1 1
      have hlt := (blk_get hp).2.2
      simp only [List.getElem?_toArray, List.getElem?_cons_zero, List.getElem?_cons_succ] at hcell
      refine inv_stored ho rfl rfl (by simp [go_sem, execOp, Act.eval, x129, xv, hcell, hfz]; rfl) (hI.step 21 ho hdep (by intro t ht; exact vals_ne1 rfl (by decide : 21 ∉ [0, 1, 2, 3, 4, 5, 6, 7, 9, 10, 11, 12, 13, 14, 16, 17, 19, 20]) ht) ?_)
      obtain ⟨hb2, ht2⟩ := blk_set hp 1 (a1.eval (.tmp 125))
      have hS2 := hset _ _ _ hb2 ht2
      simp only [e8, e15, e18, e21, Bool.or_false, Bool.or_true, Nat.reduceEqDiff, decide_true, decide_false, pick_true, vpick_true]
      rw [hv] at hS2
      rw [hv]
      exact hS2
  · intro L a1 w1 hL hI
    have hS1 := hI.eff
    simp only [hL 8 (by rw [hsize]; decide), hL 15 (by rw [hsize]; decide), hL 18 (by rw [hsize]; decide), hL 21 (by rw [hsize]; decide), pick_true, vpick_true] at hS1
    have := hQ (fun d => a1.eval (.tmp d)) w1  hS1
    have e := hI.frame.eq
    rw [e]
    exact this
end Go.Proofs.Ytldofiankhimjaa
/- split (I). -/
namespace Go.Proofs.Ytldofiankhimjaa
open Go.RowKit
set_option maxHeartbeats 8000000 in
set_option maxRecDepth 100000 in
theorem splitI_calls {h o : Nat} (ho : 3 ≤ o) (ho' : o ≤ 1024) (tb : Nat) (r nn : Value) (x : TI) (i : Nat) (c : TI) (b : Nat) (w0 w : World) (fp0 : List Nat) (R : List Asn)
    (hc : x.cs[i]? = some c) (hlen : x.cs.length = x.es.length + 1) (hx : x.es.length ≤ o) (hcl : c.es.length = o) (hck : c.cs = [] ∨ c.cs.length = o + 1)
    (hS : St w0 fp0 (treeI (h + 1) x b :: blkA tb 72 #[r, .int .i64 o, nn] :: R) w) :
    Calls Try.prog 38 #[ptrI tb, ptrI b, .int .i64 i] w fun e w' => e = .returned (.tuple #[]) ∧ St w0 fp0 (treeI (h + 1) (splitT o i x) b :: blkA tb 72 #[r, .int .i64 o, nn] :: R) w' := by
  obtain ⟨mid, hmid⟩ : ∃ mid, o / 2 = mid := ⟨_, rfl⟩
  obtain ⟨ks, vs, ps, bs, cb, hl, hbi, hS1⟩ := hS.viewI i hc
  have hS2 : St w0 fp0 (treeI h c cb :: blkA b 70 #[ks, vs, ps] :: slA 3 ks (keysI x.es) :: slA 3 vs (valsI x.es) :: slA 67 ps (bs.map ptrI) :: restI h i (i + 1) x.cs bs :: blkA tb 72 #[r, .int .i64 o, nn] :: R) w := by
    refine hS1.perm ?_
    classical
    refine List.perm_iff_count.2 fun a => ?_
    simp only [List.count_cons]
    omega
  obtain ⟨ck, cv, cp, bs2, hl2, hS3⟩ := hS2.openNI
  have hS4 : St w0 fp0 (starA (List.zipWith (kidI h) (c.cs.take (mid + 1)) (bs2.take (mid + 1))) :: starA (List.zipWith (kidI h) (c.cs.drop (mid + 1)) (bs2.drop (mid + 1))) :: blkA cb 70 #[ck, cv, cp] :: slA 3 ck (keysI c.es) :: slA 3 cv (valsI c.es) :: slA 67 cp (bs2.map ptrI) ::
      blkA b 70 #[ks, vs, ps] :: slA 3 ks (keysI x.es) :: slA 3 vs (valsI x.es) :: slA 67 ps (bs.map ptrI) :: restI h i (i + 1) x.cs bs :: blkA tb 72 #[r, .int .i64 o, nn] :: R) w := by
    refine St.cutkidsI (mid + 1) hl2 (hS3.perm ?_)
    classical
    refine List.perm_iff_count.2 fun a => ?_
    simp only [List.count_cons]
    omega
  clear hS hS1 hS2 hS3
  have hi : i < x.cs.length := (List.getElem?_eq_some_iff.1 hc).1
  have hib : i < bs.length := by omega
  obtain ⟨_, q3⟩ := hS4.has 3 rfl
  obtain ⟨_, q4⟩ := hS4.has 4 rfl
  obtain ⟨_, q5⟩ := hS4.has 5 rfl
  obtain ⟨_, q9⟩ := hS4.has 9 rfl
  obtain ⟨gk, ck', e3, hk1, -⟩ := sl_some q3 (by rw [keysI_length]; omega)
  obtain ⟨gv, cv', e4, hv1, -⟩ := sl_some q4 (by rw [valsI_length]; omega)
  obtain ⟨pa, pn, pc, e5⟩ := sl_shape q5
  obtain ⟨gp, pc9, e9, -, -⟩ := sl_some q9 (by rw [List.length_map]; omega)
  rw [keysI_length] at e3 hk1
  rw [valsI_length] at e4 hv1
  rw [List.length_map] at e9
  rw [hcl] at e3 hk1 e4 hv1
  -- walk
  obtain ⟨n, hn⟩ : ∃ n, bs.length = n := ⟨_, rfl⟩
  rw [hn] at e9
  obtain ⟨n2, hn2⟩ : ∃ n2, bs2.length = n2 := ⟨_, rfl⟩
  have e5n : pn = n2 := by
    rw [e5] at q5
    have := q5.1.1
    rcases q5.1.2 with ⟨e, h0⟩ | ⟨_, _, _, e, _⟩
    · injection e with _ e _
      rw [e, ← hn2]
      simpa using h0.symm
    · injection e with _ e _
      rw [e, List.length_map, hn2]
  subst e5n e3 e4 e5 e9
  obtain ⟨_, q6⟩ := hS4.has 6 rfl
  obtain ⟨_, q11⟩ := hS4.has 11 rfl
  obtain ⟨c9, -, c9l, -⟩ := sl_elem q9 i (by rw [List.length_map]; exact hib)
  have c6 := (blk_get q6).1 2
  have c6l := (blk_get q6).2.2
  have c11 := (blk_get q11).1 1
  have c11l := (blk_get q11).2.2
  simp only [List.getElem?_toArray, List.getElem?_cons_zero, List.getElem?_cons_succ] at c6 c11
  simp only [List.getElem_map] at c9
  rw [(List.getElem?_eq_some_iff.1 hbi).2] at c9
  have HS4 := Lib.hid hS4
  have Hbi := Lib.hid hbi
  have Hl := Lib.hid hl
  have Hl2 := Lib.hid hl2
  have Hn := Lib.hid hn
  have Hn2 := Lib.hid hn2
  have Hc := Lib.hid hc
  have Hck := Lib.hid hck
  have Hcl := Lib.hid hcl
  have Hx := Lib.hid (show x.es.length ≤ o from hx)
  have Hlen := Lib.hid hlen
  have i1 : (i : Int) < n := by omega
  have Hmid := Lib.hid hmid
  have i2 : i < n := by omega
  have m1 : mid + 1 < o := by omega
  have m2 : mid < o := by omega
  have hio : i ≤ o := by omega
  clear q3 q4 q5 q6 q9 q11 hS4 hbi hl hl2 hn hn2 hc hck hcl hx hi hib hlen hmid
  unfold ptrI at c9 ⊢
  go_enter Try.func38, Try.ntmps38
  go_upto_region 1 with (fail)
  clear c6 c9 c6l c9l
  go_cut [7] (fun z wx => z = .int .i64 mid ∧ RowKit.Hid (St w0 fp0 (starA (List.zipWith (kidI h) (c.cs.take (mid + 1)) (bs2.take (mid + 1))) :: starA (List.zipWith (kidI h) (c.cs.drop (mid + 1)) (bs2.drop (mid + 1))) :: blkA cb 70 #[.slice (some ⟨gk, 0, none⟩) o ck', .slice (some ⟨gv, 0, none⟩) o cv', .slice pa pn pc] :: slA 3 (.slice (some ⟨gk, 0, none⟩) o ck') (keysI c.es) :: slA 3 (.slice (some ⟨gv, 0, none⟩) o cv') (valsI c.es) :: slA 67 (.slice pa pn pc) (bs2.map ptrI) :: blkA b 70 #[ks, vs, (.slice (some ⟨gp, 0, none⟩) n pc9)] :: slA 3 ks (keysI x.es) :: slA 3 vs (valsI x.es) :: slA 67 (.slice (some ⟨gp, 0, none⟩) n pc9) (bs.map ptrI) :: restI h i (i + 1) x.cs bs :: blkA tb 72 #[r, .int .i64 o, nn] :: R) wx))
  case first =>
    refine rSp1I (w0 := w0) (fp0 := fp0) tb o mid r nn Hmid.out ho' (starA (List.zipWith (kidI h) (c.cs.take (mid + 1)) (bs2.take (mid + 1))) :: starA (List.zipWith (kidI h) (c.cs.drop (mid + 1)) (bs2.drop (mid + 1))) :: blkA cb 70 #[.slice (some ⟨gk, 0, none⟩) o ck', .slice (some ⟨gv, 0, none⟩) o cv', .slice pa pn pc] :: slA 3 (.slice (some ⟨gk, 0, none⟩) o ck') (keysI c.es) :: slA 3 (.slice (some ⟨gv, 0, none⟩) o cv') (valsI c.es) :: slA 67 (.slice pa pn pc) (bs2.map ptrI) :: blkA b 70 #[ks, vs, (.slice (some ⟨gp, 0, none⟩) n pc9)] :: slA 3 ks (keysI x.es) :: slA 3 vs (valsI x.es) :: slA 67 (.slice (some ⟨gp, 0, none⟩) n pc9) (bs.map ptrI) :: restI h i (i + 1) x.cs bs :: R) _ (by kernel_rfl) rfl rfl ?_ ?_
    · refine HS4.out.perm ?_
      exact (by classical exact List.perm_iff_count.2 fun a => by simp only [List.cons_append, List.nil_append, List.count_cons] <;> omega)
    intro u w3 e7 h3
    have H7 : RowKit.Hid (St w0 fp0 (starA (List.zipWith (kidI h) (c.cs.take (mid + 1)) (bs2.take (mid + 1))) :: starA (List.zipWith (kidI h) (c.cs.drop (mid + 1)) (bs2.drop (mid + 1))) :: blkA cb 70 #[.slice (some ⟨gk, 0, none⟩) o ck', .slice (some ⟨gv, 0, none⟩) o cv', .slice pa pn pc] :: slA 3 (.slice (some ⟨gk, 0, none⟩) o ck') (keysI c.es) :: slA 3 (.slice (some ⟨gv, 0, none⟩) o cv') (valsI c.es) :: slA 67 (.slice pa pn pc) (bs2.map ptrI) :: blkA b 70 #[ks, vs, (.slice (some ⟨gp, 0, none⟩) n pc9)] :: slA 3 ks (keysI x.es) :: slA 3 vs (valsI x.es) :: slA 67 (.slice (some ⟨gp, 0, none⟩) n pc9) (bs.map ptrI) :: restI h i (i + 1) x.cs bs :: blkA tb 72 #[r, .int .i64 o, nn] :: R) w3) := by
      refine h3.perm ?_
      exact (by classical exact List.perm_iff_count.2 fun a => by simp only [List.cons_append, List.nil_append, List.count_cons] <;> omega)
    clear h3
    simp only [putL, List.map, List.foldl, Act.put, List.setIfInBounds_toArray, List.set_cons_succ, List.set_cons_zero]
    go_step
    go_step
    go_meet
    exact ⟨e7, H7⟩
  obtain ⟨rfl, HS4b⟩ := hcut
  clear c11 c11l HS4
  go_upto_region 2 with (fail)
  go_cut [8] (fun z wx => ∃ rb rk rv, z = .pointer (some ⟨rb, 0, none⟩) ∧ RowKit.Hid (St w0 fp0 (blkA rb 70 #[rk, rv, .slice none 0 0] :: slA 3 rk ((keysI c.es).drop (mid + 1)) :: slA 3 rv ((valsI c.es).drop (mid + 1)) :: blkA cb 70 #[.slice (some ⟨gk, 0, none⟩) o ck', .slice (some ⟨gv, 0, none⟩) o cv', .slice pa pn pc] :: slA 3 (.slice (some ⟨gk, 0, none⟩) o ck') (keysI c.es) :: slA 3 (.slice (some ⟨gv, 0, none⟩) o cv') (valsI c.es) :: starA (List.zipWith (kidI h) (c.cs.take (mid + 1)) (bs2.take (mid + 1))) :: starA (List.zipWith (kidI h) (c.cs.drop (mid + 1)) (bs2.drop (mid + 1))) :: slA 67 (.slice pa pn pc) (bs2.map ptrI) :: blkA b 70 #[ks, vs, (.slice (some ⟨gp, 0, none⟩) n pc9)] :: slA 3 ks (keysI x.es) :: slA 3 vs (valsI x.es) :: slA 67 (.slice (some ⟨gp, 0, none⟩) n pc9) (bs.map ptrI) :: restI h i (i + 1) x.cs bs :: blkA tb 72 #[r, .int .i64 o, nn] :: R) wx))
  case first =>
    refine rSp2I (w0 := w0) (fp0 := fp0) cb gk o ck' gv o cv' mid (.slice pa pn pc) c.es m1 m1 hk1 hv1 Hcl.out.symm Hcl.out.symm (by rw [Hcl.out]; omega) (starA (List.zipWith (kidI h) (c.cs.take (mid + 1)) (bs2.take (mid + 1))) :: starA (List.zipWith (kidI h) (c.cs.drop (mid + 1)) (bs2.drop (mid + 1))) :: slA 67 (.slice pa pn pc) (bs2.map ptrI) :: blkA b 70 #[ks, vs, (.slice (some ⟨gp, 0, none⟩) n pc9)] :: slA 3 ks (keysI x.es) :: slA 3 vs (valsI x.es) :: slA 67 (.slice (some ⟨gp, 0, none⟩) n pc9) (bs.map ptrI) :: restI h i (i + 1) x.cs bs :: blkA tb 72 #[r, .int .i64 o, nn] :: R) _ (by kernel_rfl) rfl rfl rfl ?_ ?_
    · refine St.emp.2 (St.emp.2 (St.emp.2 (St.emp.2 (St.emp.2 (HS4b.out.perm ?_)))))
      exact (by classical exact List.perm_iff_count.2 fun a => by simp only [List.append_eq, List.cons_append, List.nil_append, List.count_cons] <;> omega)
    intro u w3 h3
    obtain ⟨_, h4⟩ := St.pure.1 h3
    obtain ⟨rb, e38, h5⟩ := St.at_open h4
    obtain ⟨e8, h6⟩ := St.pure.1 (h5.perm (List.Perm.swap _ _ _))
    have H7 := Lib.hid h6
    have e9 : u 8 = .pointer (some ⟨rb, 0, none⟩) := e8.trans e38
    clear h3 h4 h5 h6 e8
    simp only [putL, List.map, List.foldl, Act.put, List.setIfInBounds_toArray, List.set_cons_succ, List.set_cons_zero]
    go_step
    go_step
    go_meet
    exact ⟨rb, u 28, u 36, e9, H7⟩
  obtain ⟨rb, rk, rv, rfl, HS5⟩ := hcut
  clear HS4b
  obtain ⟨_, q5⟩ := HS5.out.has 3 rfl
  have HL := Lib.hid (leafI_calls cb _ _ _ _ _ wc q5)
  unfold ptrI at HL
  obtain ⟨q, hq⟩ : ∃ q, (pn == 0) = q := ⟨_, rfl⟩
  rw [hq] at HL
  have Hq := Lib.hid hq
  clear q5 hq
  go_wp2_with fail
  (with_reducible refine HL.out.mono ?_)
  rintro e w2 ⟨rfl, rfl⟩
  clear HL
  go_upto_if 41 with (fail)
  go_cut [] (fun wx => ∃ rp cp2, RowKit.Hid (St w0 fp0 (blkA rb 70 #[rk, rv, rp] :: slA 3 rk ((keysI c.es).drop (mid + 1)) :: slA 3 rv ((valsI c.es).drop (mid + 1)) :: slA 67 rp ((bs2.drop (mid + 1)).map ptrI) :: blkA cb 70 #[.slice (some ⟨gk, 0, none⟩) o ck', .slice (some ⟨gv, 0, none⟩) o cv', cp2] :: slA 3 (.slice (some ⟨gk, 0, none⟩) o ck') (keysI c.es) :: slA 3 (.slice (some ⟨gv, 0, none⟩) o cv') (valsI c.es) :: slA 67 cp2 ((bs2.take (mid + 1)).map ptrI) :: starA (List.zipWith (kidI h) (c.cs.take (mid + 1)) (bs2.take (mid + 1))) :: starA (List.zipWith (kidI h) (c.cs.drop (mid + 1)) (bs2.drop (mid + 1))) :: blkA b 70 #[ks, vs, (.slice (some ⟨gp, 0, none⟩) n pc9)] :: slA 3 ks (keysI x.es) :: slA 3 vs (valsI x.es) :: slA 67 (.slice (some ⟨gp, 0, none⟩) n pc9) (bs.map ptrI) :: restI h i (i + 1) x.cs bs :: blkA tb 72 #[r, .int .i64 o, nn] :: R) wx))
  case first =>
    rcases Hck.out with h0 | h1
    · have hz : bs2 = [] := List.length_eq_zero_iff.1 (by rw [Hl2.out, h0]; rfl)
      have hz2 : pn = 0 := by rw [← Hn2.out, hz]; rfl
      have H8 : RowKit.Hid (St w0 fp0 (blkA rb 70 #[rk, rv, (.slice none 0 0)] :: slA 3 rk ((keysI c.es).drop (mid + 1)) :: slA 3 rv ((valsI c.es).drop (mid + 1)) :: slA 67 (.slice none 0 0) ((bs2.drop (mid + 1)).map ptrI) :: blkA cb 70 #[.slice (some ⟨gk, 0, none⟩) o ck', .slice (some ⟨gv, 0, none⟩) o cv', (.slice pa pn pc)] :: slA 3 (.slice (some ⟨gk, 0, none⟩) o ck') (keysI c.es) :: slA 3 (.slice (some ⟨gv, 0, none⟩) o cv') (valsI c.es) :: slA 67 (.slice pa pn pc) ((bs2.take (mid + 1)).map ptrI) :: starA (List.zipWith (kidI h) (c.cs.take (mid + 1)) (bs2.take (mid + 1))) :: starA (List.zipWith (kidI h) (c.cs.drop (mid + 1)) (bs2.drop (mid + 1))) :: blkA b 70 #[ks, vs, (.slice (some ⟨gp, 0, none⟩) n pc9)] :: slA 3 ks (keysI x.es) :: slA 3 vs (valsI x.es) :: slA 67 (.slice (some ⟨gp, 0, none⟩) n pc9) (bs.map ptrI) :: restI h i (i + 1) x.cs bs :: blkA tb 72 #[r, .int .i64 o, nn] :: R) wc) := by
        have h9 := HS5.out.nilA 67
        subst hz
        simp only [List.take_nil, List.drop_nil, List.map_nil] at h9 ⊢
        refine h9.perm ?_
        exact (by classical exact List.perm_iff_count.2 fun a => by simp only [List.count_cons] <;> omega)
      clear HS5 h0 hz
      obtain rfl : q = true := by rw [← Hq.out, hz2]; rfl
      subst hz2
      go_wp2
      go_meet
      exact ⟨_, _, H8⟩
    · have hz2 : pn = o + 1 := by rw [← Hn2.out, Hl2.out, h1]
      obtain ⟨_, q5⟩ := HS5.out.has 8 rfl
      obtain ⟨g2, pc2, e5, hp1, -⟩ := sl_some q5 (by rw [List.length_map, Hn2.out]; omega)
      rw [List.length_map, Hn2.out] at e5 hp1
      injection e5 with e51 e52 e53
      subst e51 e53
      obtain rfl : q = false := by rw [← Hq.out]; simp; omega
      have m3 : mid + 1 < pn := by omega
      have hpl : bs2.length < 1099511627776 := by rw [Hn2.out]; omega
      clear q5
      go_upto_region 4 with (fail)
      refine rSp4I (w0 := w0) (fp0 := fp0) cb rb g2 pn pc mid (.slice (some ⟨gk, 0, none⟩) o ck') (.slice (some ⟨gv, 0, none⟩) o cv') rk rv (.slice none 0 0) bs2 m3 hp1 Hn2.out.symm hpl (slA 3 rk ((keysI c.es).drop (mid + 1)) :: slA 3 rv ((valsI c.es).drop (mid + 1)) :: slA 3 (.slice (some ⟨gk, 0, none⟩) o ck') (keysI c.es) :: slA 3 (.slice (some ⟨gv, 0, none⟩) o cv') (valsI c.es) :: starA (List.zipWith (kidI h) (c.cs.take (mid + 1)) (bs2.take (mid + 1))) :: starA (List.zipWith (kidI h) (c.cs.drop (mid + 1)) (bs2.drop (mid + 1))) :: blkA b 70 #[ks, vs, (.slice (some ⟨gp, 0, none⟩) n pc9)] :: slA 3 ks (keysI x.es) :: slA 3 vs (valsI x.es) :: slA 67 (.slice (some ⟨gp, 0, none⟩) n pc9) (bs.map ptrI) :: restI h i (i + 1) x.cs bs :: blkA tb 72 #[r, .int .i64 o, nn] :: R) _ (by kernel_rfl) rfl rfl rfl rfl ?_ ?_
      · refine (St.emp.2 HS5.out).perm ?_
        exact (by classical exact List.perm_iff_count.2 fun a => by simp only [pick_false, vpick_false, List.cons_append, List.nil_append, List.count_cons] <;> omega)
      intro u w3 h3
      have H6 := Lib.hid h3
      clear h3 HS5
      simp only [putL, List.map, List.foldl, Act.put, List.setIfInBounds_toArray, List.set_cons_succ, List.set_cons_zero]
      go_upto_region 5 with (fail)
      refine rSp5I (w0 := w0) (fp0 := fp0) cb g2 pn pc mid (.slice (some ⟨gk, 0, none⟩) o ck') (.slice (some ⟨gv, 0, none⟩) o cv') bs2 m3 hp1 Hn2.out.symm hpl (blkA rb 70 #[rk, rv, u 50] :: slA 67 (u 50) ((bs2.map ptrI).drop (mid + 1)) :: slA 3 rk ((keysI c.es).drop (mid + 1)) :: slA 3 rv ((valsI c.es).drop (mid + 1)) :: slA 3 (.slice (some ⟨gk, 0, none⟩) o ck') (keysI c.es) :: slA 3 (.slice (some ⟨gv, 0, none⟩) o cv') (valsI c.es) :: starA (List.zipWith (kidI h) (c.cs.take (mid + 1)) (bs2.take (mid + 1))) :: starA (List.zipWith (kidI h) (c.cs.drop (mid + 1)) (bs2.drop (mid + 1))) :: blkA b 70 #[ks, vs, (.slice (some ⟨gp, 0, none⟩) n pc9)] :: slA 3 ks (keysI x.es) :: slA 3 vs (valsI x.es) :: slA 67 (.slice (some ⟨gp, 0, none⟩) n pc9) (bs.map ptrI) :: restI h i (i + 1) x.cs bs :: blkA tb 72 #[r, .int .i64 o, nn] :: R) _ (by kernel_rfl) rfl rfl rfl ?_ ?_
      · refine (St.emp.2 H6.out).perm ?_
        exact (by classical exact List.perm_iff_count.2 fun a => by simp only [pick_true, pick_false, vpick_true, vpick_false, List.cons_append, List.nil_append, List.count_cons] <;> omega)
      intro u2 w4 h4
      have H8 : RowKit.Hid (St w0 fp0 (blkA rb 70 #[rk, rv, u 50] :: slA 3 rk ((keysI c.es).drop (mid + 1)) :: slA 3 rv ((valsI c.es).drop (mid + 1)) :: slA 67 (u 50) ((bs2.drop (mid + 1)).map ptrI) :: blkA cb 70 #[.slice (some ⟨gk, 0, none⟩) o ck', .slice (some ⟨gv, 0, none⟩) o cv', (u2 61)] :: slA 3 (.slice (some ⟨gk, 0, none⟩) o ck') (keysI c.es) :: slA 3 (.slice (some ⟨gv, 0, none⟩) o cv') (valsI c.es) :: slA 67 (u2 61) ((bs2.take (mid + 1)).map ptrI) :: starA (List.zipWith (kidI h) (c.cs.take (mid + 1)) (bs2.take (mid + 1))) :: starA (List.zipWith (kidI h) (c.cs.drop (mid + 1)) (bs2.drop (mid + 1))) :: blkA b 70 #[ks, vs, (.slice (some ⟨gp, 0, none⟩) n pc9)] :: slA 3 ks (keysI x.es) :: slA 3 vs (valsI x.es) :: slA 67 (.slice (some ⟨gp, 0, none⟩) n pc9) (bs.map ptrI) :: restI h i (i + 1) x.cs bs :: blkA tb 72 #[r, .int .i64 o, nn] :: R) w4) := by
        have h5 : St w0 fp0 (slA 67 (.slice (some ⟨g2, 0, none⟩) pn pc) (bs2.map ptrI) :: blkA rb 70 #[rk, rv, u 50] :: slA 3 rk ((keysI c.es).drop (mid + 1)) :: slA 3 rv ((valsI c.es).drop (mid + 1)) :: slA 67 (u 50) ((bs2.drop (mid + 1)).map ptrI) :: blkA cb 70 #[.slice (some ⟨gk, 0, none⟩) o ck', .slice (some ⟨gv, 0, none⟩) o cv', (u2 61)] :: slA 3 (.slice (some ⟨gk, 0, none⟩) o ck') (keysI c.es) :: slA 3 (.slice (some ⟨gv, 0, none⟩) o cv') (valsI c.es) :: slA 67 (u2 61) ((bs2.take (mid + 1)).map ptrI) :: starA (List.zipWith (kidI h) (c.cs.take (mid + 1)) (bs2.take (mid + 1))) :: starA (List.zipWith (kidI h) (c.cs.drop (mid + 1)) (bs2.drop (mid + 1))) :: blkA b 70 #[ks, vs, (.slice (some ⟨gp, 0, none⟩) n pc9)] :: slA 3 ks (keysI x.es) :: slA 3 vs (valsI x.es) :: slA 67 (.slice (some ⟨gp, 0, none⟩) n pc9) (bs.map ptrI) :: restI h i (i + 1) x.cs bs :: blkA tb 72 #[r, .int .i64 o, nn] :: R) w4 := by
          rw [List.map_drop, List.map_take]
          refine h4.perm ?_
          exact (by classical exact List.perm_iff_count.2 fun a => by simp only [pick_true, vpick_true, List.cons_append, List.nil_append, List.count_cons] <;> omega)
        exact h5.drop
      clear h4 H6
      simp only [putL, List.map, List.foldl, Act.put, List.setIfInBounds_toArray, List.set_cons_succ, List.set_cons_zero]
      go_step
      go_step
      go_meet
      exact ⟨_, _, H8⟩
  obtain ⟨rp, cp2, HS6⟩ := hcut
  clear HS5
  obtain ⟨y, hy⟩ : ∃ y, c.es[mid]? = some y := ⟨_, List.getElem?_eq_getElem (by rw [Hcl.out]; exact m2)⟩
  have Hy := Lib.hid hy
  clear hy
  have hix : i ≤ x.es.length := by have := Hlen.out; have := Hl.out; have := Hn.out; omega
  have hxl : x.es.length < 1099511627776 := by have := Hx.out; omega
  have Hix := Lib.hid hix
  have Hxl := Lib.hid hxl
  clear hix hxl
  go_upto_region 6 with (fail)
  go_cut [] (fun wx => ∃ ks2 vs2, RowKit.Hid (St w0 fp0 (blkA b 70 #[ks2, vs2, (.slice (some ⟨gp, 0, none⟩) n pc9)] :: slA 3 ks2 (keysI (x.es.take i ++ y :: x.es.drop i)) :: slA 3 vs2 (valsI (x.es.take i ++ y :: x.es.drop i)) :: blkA cb 70 #[.slice (some ⟨gk, 0, none⟩) o ck', .slice (some ⟨gv, 0, none⟩) o cv', cp2] :: slA 3 (.slice (some ⟨gk, 0, none⟩) o ck') (keysI c.es) :: slA 3 (.slice (some ⟨gv, 0, none⟩) o cv') (valsI c.es) :: blkA rb 70 #[rk, rv, rp] :: slA 3 rk ((keysI c.es).drop (mid + 1)) :: slA 3 rv ((valsI c.es).drop (mid + 1)) :: slA 67 rp ((bs2.drop (mid + 1)).map ptrI) :: slA 67 cp2 ((bs2.take (mid + 1)).map ptrI) :: starA (List.zipWith (kidI h) (c.cs.take (mid + 1)) (bs2.take (mid + 1))) :: starA (List.zipWith (kidI h) (c.cs.drop (mid + 1)) (bs2.drop (mid + 1))) :: slA 67 (.slice (some ⟨gp, 0, none⟩) n pc9) (bs.map ptrI) :: restI h i (i + 1) x.cs bs :: blkA tb 72 #[r, .int .i64 o, nn] :: R) wx))
  case first =>
    refine rSp6I (w0 := w0) (fp0 := fp0) b cb gk o ck' gv o cv' mid i ks vs (.slice (some ⟨gp, 0, none⟩) n pc9) cp2 x.es c.es y Hix.out Hxl.out m2 m2 Hcl.out.symm Hcl.out.symm Hy.out (blkA rb 70 #[rk, rv, rp] :: slA 3 rk ((keysI c.es).drop (mid + 1)) :: slA 3 rv ((valsI c.es).drop (mid + 1)) :: slA 67 rp ((bs2.drop (mid + 1)).map ptrI) :: slA 67 cp2 ((bs2.take (mid + 1)).map ptrI) :: starA (List.zipWith (kidI h) (c.cs.take (mid + 1)) (bs2.take (mid + 1))) :: starA (List.zipWith (kidI h) (c.cs.drop (mid + 1)) (bs2.drop (mid + 1))) :: slA 67 (.slice (some ⟨gp, 0, none⟩) n pc9) (bs.map ptrI) :: restI h i (i + 1) x.cs bs :: blkA tb 72 #[r, .int .i64 o, nn] :: R) _ (by kernel_rfl) rfl rfl rfl rfl rfl ?_ ?_
    · refine (St.emp.2 (St.emp.2 HS6.out)).perm ?_
      exact (by classical exact List.perm_iff_count.2 fun a => by simp only [pick_false, vpick_false, List.cons_append, List.nil_append, List.count_cons] <;> omega)
    intro u w3 h3
    have H7 : RowKit.Hid (St w0 fp0 (blkA b 70 #[u 79, u 93, (.slice (some ⟨gp, 0, none⟩) n pc9)] :: slA 3 (u 79) (keysI (x.es.take i ++ y :: x.es.drop i)) :: slA 3 (u 93) (valsI (x.es.take i ++ y :: x.es.drop i)) :: blkA cb 70 #[.slice (some ⟨gk, 0, none⟩) o ck', .slice (some ⟨gv, 0, none⟩) o cv', cp2] :: slA 3 (.slice (some ⟨gk, 0, none⟩) o ck') (keysI c.es) :: slA 3 (.slice (some ⟨gv, 0, none⟩) o cv') (valsI c.es) :: blkA rb 70 #[rk, rv, rp] :: slA 3 rk ((keysI c.es).drop (mid + 1)) :: slA 3 rv ((valsI c.es).drop (mid + 1)) :: slA 67 rp ((bs2.drop (mid + 1)).map ptrI) :: slA 67 cp2 ((bs2.take (mid + 1)).map ptrI) :: starA (List.zipWith (kidI h) (c.cs.take (mid + 1)) (bs2.take (mid + 1))) :: starA (List.zipWith (kidI h) (c.cs.drop (mid + 1)) (bs2.drop (mid + 1))) :: slA 67 (.slice (some ⟨gp, 0, none⟩) n pc9) (bs.map ptrI) :: restI h i (i + 1) x.cs bs :: blkA tb 72 #[r, .int .i64 o, nn] :: R) w3) := by
      refine h3.drop.drop.perm ?_
      simp only [keysI, valsI, List.map_append, List.map_take, List.map_drop, List.map_cons, pick_true, vpick_true]
      exact (by classical exact List.perm_iff_count.2 fun a => by simp only [List.append_eq, List.cons_append, List.nil_append, List.count_cons] <;> omega)
    clear h3
    simp only [putL, List.map, List.foldl, Act.put, List.setIfInBounds_toArray, List.set_cons_succ, List.set_cons_zero]
    go_step
    go_step
    go_meet
    exact ⟨_, _, H7⟩
  obtain ⟨ks2, vs2, HS7⟩ := hcut
  clear HS6
  have hbl : bs.length < 1099511627776 := by rw [Hn.out]; have := Hlen.out; have := Hl.out; have := Hn.out; have := Hx.out; omega
  have Hbl := Lib.hid hbl
  clear hbl
  go_upto_region 7 with (fail)
  go_cut [] (fun wx => ∃ ps2, RowKit.Hid (St w0 fp0 (blkA b 70 #[ks2, vs2, ps2] :: slA 3 ks2 (keysI (x.es.take i ++ y :: x.es.drop i)) :: slA 3 vs2 (valsI (x.es.take i ++ y :: x.es.drop i)) :: slA 67 ps2 ((bs.take i ++ ([cb, rb] ++ bs.drop (i + 1))).map ptrI) :: blkA cb 70 #[.slice (some ⟨gk, 0, none⟩) o ck', .slice (some ⟨gv, 0, none⟩) o cv', cp2] :: slA 3 (.slice (some ⟨gk, 0, none⟩) o ck') (keysI c.es) :: slA 3 (.slice (some ⟨gv, 0, none⟩) o cv') (valsI c.es) :: blkA rb 70 #[rk, rv, rp] :: slA 3 rk ((keysI c.es).drop (mid + 1)) :: slA 3 rv ((valsI c.es).drop (mid + 1)) :: slA 67 rp ((bs2.drop (mid + 1)).map ptrI) :: slA 67 cp2 ((bs2.take (mid + 1)).map ptrI) :: starA (List.zipWith (kidI h) (c.cs.take (mid + 1)) (bs2.take (mid + 1))) :: starA (List.zipWith (kidI h) (c.cs.drop (mid + 1)) (bs2.drop (mid + 1))) :: restI h i (i + 1) x.cs bs :: blkA tb 72 #[r, .int .i64 o, nn] :: R) wx))
  case first =>
    refine rSp7I (w0 := w0) (fp0 := fp0) b rb i ks2 vs2 (.slice (some ⟨gp, 0, none⟩) n pc9) bs (by rw [Hn.out]; exact i2) Hbl.out (slA 3 ks2 (keysI (x.es.take i ++ y :: x.es.drop i)) :: slA 3 vs2 (valsI (x.es.take i ++ y :: x.es.drop i)) :: blkA cb 70 #[.slice (some ⟨gk, 0, none⟩) o ck', .slice (some ⟨gv, 0, none⟩) o cv', cp2] :: slA 3 (.slice (some ⟨gk, 0, none⟩) o ck') (keysI c.es) :: slA 3 (.slice (some ⟨gv, 0, none⟩) o cv') (valsI c.es) :: blkA rb 70 #[rk, rv, rp] :: slA 3 rk ((keysI c.es).drop (mid + 1)) :: slA 3 rv ((valsI c.es).drop (mid + 1)) :: slA 67 rp ((bs2.drop (mid + 1)).map ptrI) :: slA 67 cp2 ((bs2.take (mid + 1)).map ptrI) :: starA (List.zipWith (kidI h) (c.cs.take (mid + 1)) (bs2.take (mid + 1))) :: starA (List.zipWith (kidI h) (c.cs.drop (mid + 1)) (bs2.drop (mid + 1))) :: restI h i (i + 1) x.cs bs :: blkA tb 72 #[r, .int .i64 o, nn] :: R) _ (by kernel_rfl) rfl rfl rfl rfl ?_ ?_
    · refine (St.emp.2 HS7.out).perm ?_
      exact (by classical exact List.perm_iff_count.2 fun a => by simp only [pick_false, vpick_false, List.cons_append, List.nil_append, List.count_cons] <;> omega)
    intro u w3 h3
    have H7 : RowKit.Hid (St w0 fp0 (blkA b 70 #[ks2, vs2, u 107] :: slA 3 ks2 (keysI (x.es.take i ++ y :: x.es.drop i)) :: slA 3 vs2 (valsI (x.es.take i ++ y :: x.es.drop i)) :: slA 67 (u 107) ((bs.take i ++ ([cb, rb] ++ bs.drop (i + 1))).map ptrI) :: blkA cb 70 #[.slice (some ⟨gk, 0, none⟩) o ck', .slice (some ⟨gv, 0, none⟩) o cv', cp2] :: slA 3 (.slice (some ⟨gk, 0, none⟩) o ck') (keysI c.es) :: slA 3 (.slice (some ⟨gv, 0, none⟩) o cv') (valsI c.es) :: blkA rb 70 #[rk, rv, rp] :: slA 3 rk ((keysI c.es).drop (mid + 1)) :: slA 3 rv ((valsI c.es).drop (mid + 1)) :: slA 67 rp ((bs2.drop (mid + 1)).map ptrI) :: slA 67 cp2 ((bs2.take (mid + 1)).map ptrI) :: starA (List.zipWith (kidI h) (c.cs.take (mid + 1)) (bs2.take (mid + 1))) :: starA (List.zipWith (kidI h) (c.cs.drop (mid + 1)) (bs2.drop (mid + 1))) :: restI h i (i + 1) x.cs bs :: blkA tb 72 #[r, .int .i64 o, nn] :: R) w3) := by
      have e : (bs.take i ++ ([cb, rb] ++ bs.drop (i + 1))).map ptrI = (bs.map ptrI).take (i + 1) ++ .pointer (some ⟨rb, 0, none⟩) :: (bs.map ptrI).drop (i + 1) := by
        rw [← List.map_take, ← List.map_drop, List.take_add_one, Hbi.out]
        simp [ptrI]
      rw [e]
      refine h3.drop.perm ?_
      exact (by classical exact List.perm_iff_count.2 fun a => by simp only [pick_true, vpick_true, List.append_eq, List.cons_append, List.nil_append, List.count_cons] <;> omega)
    clear h3
    simp only [putL, List.map, List.foldl, Act.put, List.setIfInBounds_toArray, List.set_cons_succ, List.set_cons_zero]
    go_step
    go_step
    go_meet
    exact ⟨_, H7⟩
  obtain ⟨ps2, HS8⟩ := hcut
  clear HS7
  have hol : c.es.length < 1099511627776 := by rw [Hcl.out]; omega
  go_upto_region 8 with (fail)
  refine rSp8I (w0 := w0) (fp0 := fp0) cb gk o ck' gv o cv' mid cp2 c.es m2 m2 hk1 hv1 Hcl.out.symm Hcl.out.symm hol (blkA b 70 #[ks2, vs2, ps2] :: slA 3 ks2 (keysI (x.es.take i ++ y :: x.es.drop i)) :: slA 3 vs2 (valsI (x.es.take i ++ y :: x.es.drop i)) :: slA 67 ps2 ((bs.take i ++ ([cb, rb] ++ bs.drop (i + 1))).map ptrI) :: blkA rb 70 #[rk, rv, rp] :: slA 3 rk ((keysI c.es).drop (mid + 1)) :: slA 3 rv ((valsI c.es).drop (mid + 1)) :: slA 67 rp ((bs2.drop (mid + 1)).map ptrI) :: slA 67 cp2 ((bs2.take (mid + 1)).map ptrI) :: starA (List.zipWith (kidI h) (c.cs.take (mid + 1)) (bs2.take (mid + 1))) :: starA (List.zipWith (kidI h) (c.cs.drop (mid + 1)) (bs2.drop (mid + 1))) :: restI h i (i + 1) x.cs bs :: blkA tb 72 #[r, .int .i64 o, nn] :: R) _ (by kernel_rfl) rfl rfl rfl ?_ ?_
  · refine (St.emp.2 (St.emp.2 HS8.out)).perm ?_
    exact (by classical exact List.perm_iff_count.2 fun a => by simp only [pick_false, vpick_false, List.cons_append, List.nil_append, List.count_cons] <;> omega)
  intro u w3 h3
  have Hfin : RowKit.Hid (St w0 fp0 (treeI (h + 1) (splitT o i x) b :: blkA tb 72 #[r, .int .i64 o, nn] :: R) w3) := by
    have h4 : St w0 fp0 (slA 3 (.slice (some ⟨gk, 0, none⟩) o ck') (keysI c.es) :: slA 3 (.slice (some ⟨gv, 0, none⟩) o cv') (valsI c.es) :: blkA cb 70 #[u 118, u 125, cp2] :: slA 3 (u 118) (keysI (c.es.take mid)) :: slA 3 (u 125) (valsI (c.es.take mid)) :: slA 67 cp2 ((bs2.take (mid + 1)).map ptrI) :: starA (List.zipWith (kidI h) (c.cs.take (mid + 1)) (bs2.take (mid + 1))) ::
        blkA rb 70 #[rk, rv, rp] :: slA 3 rk (keysI (c.es.drop (mid + 1))) :: slA 3 rv (valsI (c.es.drop (mid + 1))) :: slA 67 rp ((bs2.drop (mid + 1)).map ptrI) :: starA (List.zipWith (kidI h) (c.cs.drop (mid + 1)) (bs2.drop (mid + 1))) ::
        blkA b 70 #[ks2, vs2, ps2] :: slA 3 ks2 (keysI (x.es.take i ++ y :: x.es.drop i)) :: slA 3 vs2 (valsI (x.es.take i ++ y :: x.es.drop i)) :: slA 67 ps2 ((bs.take i ++ ([cb, rb] ++ bs.drop (i + 1))).map ptrI) :: restI h i (i + 1) x.cs bs :: blkA tb 72 #[r, .int .i64 o, nn] :: R) w3 := by
      refine h3.perm ?_
      simp only [keysI, valsI, List.map_append, List.map_take, List.map_drop, List.map_cons, pick_true, vpick_true]
      exact (by classical exact List.perm_iff_count.2 fun a => by simp only [List.cons_append, List.nil_append, List.count_cons] <;> omega)
    have h5 := St.shutNI (h := h) (es := c.es.take mid) (cs := c.cs.take (mid + 1)) (bs := bs2.take (mid + 1)) (by rw [List.length_take, List.length_take, Hl2.out]) h4.drop.drop
    have h6 : St w0 fp0 (blkA rb 70 #[rk, rv, rp] :: slA 3 rk (keysI (c.es.drop (mid + 1))) :: slA 3 rv (valsI (c.es.drop (mid + 1))) :: slA 67 rp ((bs2.drop (mid + 1)).map ptrI) :: starA (List.zipWith (kidI h) (c.cs.drop (mid + 1)) (bs2.drop (mid + 1))) :: treeI h (.node (c.es.take mid) (c.cs.take (mid + 1))) cb ::
        blkA b 70 #[ks2, vs2, ps2] :: slA 3 ks2 (keysI (x.es.take i ++ y :: x.es.drop i)) :: slA 3 vs2 (valsI (x.es.take i ++ y :: x.es.drop i)) :: slA 67 ps2 ((bs.take i ++ ([cb, rb] ++ bs.drop (i + 1))).map ptrI) :: restI h i (i + 1) x.cs bs :: blkA tb 72 #[r, .int .i64 o, nn] :: R) w3 := by
      refine h5.perm ?_
      exact (by classical exact List.perm_iff_count.2 fun a => by simp only [List.cons_append, List.nil_append, List.count_cons] <;> omega)
    have h7 := St.shutNI (h := h) (es := c.es.drop (mid + 1)) (cs := c.cs.drop (mid + 1)) (bs := bs2.drop (mid + 1)) (by rw [List.length_drop, List.length_drop, Hl2.out]) h6
    have h8 : St w0 fp0 (blkA b 70 #[ks2, vs2, ps2] :: slA 3 ks2 (keysI (x.es.take i ++ y :: x.es.drop i)) :: slA 3 vs2 (valsI (x.es.take i ++ y :: x.es.drop i)) :: slA 67 ps2 ((bs.take i ++ ([cb, rb] ++ bs.drop (i + 1))).map ptrI) :: restI h i (i + 1) x.cs bs ::
        (List.zipWith (treeI h) [.node (c.es.take mid) (c.cs.take (mid + 1)), .node (c.es.drop (mid + 1)) (c.cs.drop (mid + 1))] [cb, rb] ++ (blkA tb 72 #[r, .int .i64 o, nn] :: R))) w3 := by
      refine h7.perm ?_
      simp only [List.zipWith]
      exact (by classical exact List.perm_iff_count.2 fun a => by simp only [List.cons_append, List.nil_append, List.count_cons] <;> omega)
    have h9 := St.joinI (mid := [.node (c.es.take mid) (c.cs.take (mid + 1)), .node (c.es.drop (mid + 1)) (c.cs.drop (mid + 1))]) (mb := [cb, rb]) i (i + 1) Hl.out rfl h8
    have e : splitT o i x = .node (x.es.take i ++ y :: x.es.drop i) (x.cs.take i ++ ([.node (c.es.take mid) (c.cs.take (mid + 1)), .node (c.es.drop (mid + 1)) (c.cs.drop (mid + 1))] ++ x.cs.drop (i + 1))) := by
      unfold splitT
      rw [Hc.out]
      simp only [Hmid.out, Hy.out]
      rfl
    rw [e]
    exact h9
  clear h3 HS8
  simp only [putL, List.map, List.foldl, Act.put, List.setIfInBounds_toArray, List.set_cons_succ, List.set_cons_zero]
  go_wp2
  refine bodyPost_end (results_none rfl _ _ _) rfl ?_
  exact ⟨rfl, Hfin.out⟩
end Go.Proofs.Ytldofiankhimjaa
/- put (I). -/
namespace Go.Proofs.Ytldofiankhimjaa
open Go.RowKit
theorem asc_kidI {h : Nat} {x : TI} {i : Nat} {c : TI} (hl : x.cs.length = x.es.length + 1) (hc : x.cs[i]? = some c) (ha : AscM (toL (h + 1) x)) : AscM (toL h c) := by
  have hi := (List.getElem?_eq_some_iff.1 hc).1
  have hl1 : (x.es.take i).length = (x.cs.take i).length := by simp; omega
  have hxe : toL (h + 1) x = pre (toL h) (x.es.take i) (x.cs.take i) ++ toL h c ++ post (toL h) (x.es.drop i) (x.cs.drop (i + 1)) := by
    rw [← toL_split h _ _ _ _ _ hl1, List.take_append_drop, ← split_at hc, T.eta]
  rw [hxe] at ha
  obtain ⟨a1, _, _⟩ := AscM.append.1 ha
  exact (AscM.append.1 a1).2.1
theorem putI_calls {o : Nat} (ho : 3 ≤ o) (ho' : o ≤ 1024) (tb : Nat) (r nn : Value) (k : Int) (v : Int) : ∀ (h lo : Nat) (x : TI) (nb : Nat) (w0 w : World) (fp0 : List Nat) (R : List Asn), Body o h lo (o - 1) x → AscM (toL h x) →
    St w0 fp0 (treeI h x nb :: blkA tb 72 #[r, .int .i64 o, nn] :: R) w →
    Calls Try.prog 37 #[ptrI tb, ptrI nb, encI k, valI v] w fun e w' => e = .returned (.tuple #[valI ((getT h x k).getD 0), .bool (getT h x k).isSome]) ∧ St w0 fp0 (treeI h (putT o h x k v) nb :: blkA tb 72 #[r, .int .i64 o, nn] :: R) w'
  | h, lo, x, nb, w0, w, fp0, R, hb, ha, hS => by
    have hlen : x.es.length < 1099511627776 := by have := hb.hi; omega
    have hae : AscM x.es := asc_es ha
    cases hh : hasK x.es k with
    | true =>
      obtain ⟨ks, vs, ps, bs, hl, h1⟩ := hS.openNI
      refine (putfoundI (ptrI tb) nb ks vs ps x.es k v w0 w fp0 _ hae hlen hh h1).mono ?_
      rintro e w' ⟨y, hy, rfl, hs⟩
      have hg : getT h x k = some y.2 := by cases h <;> simp [getT, hh, hy]
      have hp : putT o h x k v = .node (x.es.set (posK x.es k) (k, v)) x.cs := by cases h <;> simp [putT, hh]
      rw [hg, hp]
      exact ⟨rfl, St.shutNI hl hs⟩
    | false =>
      cases h with
      | zero =>
        obtain ⟨ks, vs, ps, bs, hl, h1⟩ := hS.openNI
        have hcs : x.cs = [] := hb.2.2
        have hbs : bs = [] := List.length_eq_zero_iff.1 (by rw [hl, hcs]; rfl)
        subst hbs
        obtain ⟨_, q⟩ := h1.has 3 rfl
        obtain ⟨pa, pc, e, _⟩ := sl_get q
        obtain rfl : ps = .slice pa 0 pc := e
        refine (putleafI (ptrI tb) nb ks vs pa pc x.es k v w0 w fp0 _ hae hlen hh h1).mono ?_
        rintro e w' ⟨rfl, ks', vs', hs⟩
        have hg : getT 0 x k = none := by simp [getT, hh]
        have hp : putT o 0 x k v = .node (x.es.take (posK x.es k) ++ (k, v) :: x.es.drop (posK x.es k)) x.cs := by simp [putT, hh]
        rw [hg, hp]
        exact ⟨rfl, St.shutNI hl hs⟩
      | succ h =>
        obtain ⟨b1, b2, b3, b4⟩ := hb
        have hp := posK_le x.es k
        obtain ⟨c, hc⟩ : ∃ c, x.cs[posK x.es k]? = some c := ⟨_, List.getElem?_eq_getElem (by omega)⟩
        have hcb := b4 c (List.mem_of_getElem? hc)
        have hac := asc_kidI b3 hc ha
        obtain ⟨ks, vs, ps, bs, cb, hl, hbi, h1⟩ := hS.viewI _ hc
        have hg : getT (h + 1) x k = getT h c k := by simp [getT, hh, hc]
        have hq : putT o (h + 1) x k v = if o ≤ (putT o h c k v).es.length then splitT o (posK x.es k) (.node x.es (x.cs.set (posK x.es k) (putT o h c k v))) else .node x.es (x.cs.set (posK x.es k) (putT o h c k v)) := by simp [putT, hh, hc]
        rw [hg, hq]
        obtain ⟨p1, _⟩ := putT_spec ho k v h (least o) c hcb hac
        refine putinnerI ho' tb r nn x.es x.cs c (putT o h c k v) nb ks vs ps bs cb k v _ _ w0 w fp0 R hae hlen hh b3 hl hbi ?_ ?_ h1
        · intro w1 hs1
          exact putI_calls ho ho' tb r nn k v h (least o) c cb w0 w1 fp0 _ hcb hac hs1
        · intro w1 hge hs1
          have hce : (putT o h c k v).es.length = o := by have := p1.hi; omega
          refine splitI_calls ho ho' tb r nn _ _ (putT o h c k v) nb w0 w1 fp0 R ?_ ?_ ?_ hce ?_ hs1
          · rw [cs_node, List.getElem?_set_self (by omega)]
          · rw [cs_node, es_node, List.length_set, b3]
          · rw [es_node]; omega
          · rcases p1.kids with ⟨_, e⟩ | ⟨_, _, e, _⟩
            · exact .inl e
            · exact .inr (by rw [e, hce])
end Go.Proofs.Ytldofiankhimjaa
/- Put: its regions (I). -/
namespace Go.Proofs.Ytldofiankhimjaa
open Go Go.RowKit
noncomputable def oPp3I : Array Oper := ((Try.f12.body).bind fun c => opsOf c 3).getD #[]
set_option maxHeartbeats 4000000 in
set_option maxRecDepth 100000 in
theorem rPp3I {Q : Exit → Act → World → Prop} {a : Act} {w w0 : World} {fp0 : List Nat} (tb rb o : Nat) (nn : Value) (R : List Asn) (ops : Array Oper) (hops : ops = oPp3I) (hsz : a.tmps.size = 61) (h0 : a.eval (.tmp 0) = .pointer (some ⟨tb, 0, none⟩))
    (hS : St w0 fp0 ([pick false (boxA 67 (a.eval (.tmp 39)) (.pointer (some ⟨rb, 0, none⟩))) emp, pick false (pureA ((a.eval (.tmp 40)) = .agg #[.slice none 0 0, .slice none 0 0, (a.eval (.tmp 39))])) emp, pick false (atA 70 (a.eval (.tmp 41)) #[.slice none 0 0, .slice none 0 0, (a.eval (.tmp 39))]) emp, blkA tb 72 #[vpick false (a.eval (.tmp 41)) (.pointer (some ⟨rb, 0, none⟩)), .int .i64 o, nn]] ++ R) w)
    (hQ : ∀ (u : Nat → Value) w1, St w0 fp0 ([pick true (boxA 67 (u 39) (.pointer (some ⟨rb, 0, none⟩))) emp, pick true (pureA ((u 40) = .agg #[.slice none 0 0, .slice none 0 0, (u 39)])) emp, pick true (atA 70 (u 41) #[.slice none 0 0, .slice none 0 0, (u 39)]) emp, blkA tb 72 #[vpick true (u 41) (.pointer (some ⟨rb, 0, none⟩)), .int .i64 o, nn]] ++ R) w1 → Q .normal (putL a (([34, 35, 36, 37, 38, 39, 40, 41, 42, 43] : List Nat).map fun d => (d, u d))) w1) : (Code.region 3 ops false).wp Try.prog Q a w := by
  subst hops
  have hsize : oPp3I.size = 11 := by kernel_rfl
  have hE : Looks (fun L g w => St w0 fp0 ([pick (L 5) (boxA 67 (g 39) (.pointer (some ⟨rb, 0, none⟩))) emp, pick (L 6) (pureA ((g 40) = .agg #[.slice none 0 0, .slice none 0 0, (g 39)])) emp, pick (L 7) (atA 70 (g 41) #[.slice none 0 0, .slice none 0 0, (g 39)]) emp, blkA tb 72 #[vpick (L 10) (g 41) (.pointer (some ⟨rb, 0, none⟩)), .int .i64 o, nn]] ++ R) w) [5, 6, 7, 10] [39, 40, 41] := by
    intro L L' g g' w hL hg h
    simpa only [← hL 5 (by decide), ← hL 6 (by decide), ← hL 7 (by decide), ← hL 10 (by decide), ← hg 39 (by decide), ← hg 40 (by decide), ← hg 41 (by decide)] using h
  have hn1 : (([(0, 34, .pointer (some ⟨tb, 0, none⟩)), (1, 35, .pointer (some ⟨tb, 0, none⟩)), (2, 36, .pointer (some ⟨tb, 0, none⟩)), (3, 37, .pointer (some ⟨tb, 0, none⟩)), (4, 38, .pointer (some ⟨rb, 0, none⟩)), (8, 42, .pointer (some ⟨tb, 0, none⟩)), (9, 43, .pointer (some ⟨tb, 0, none⟩))] : List (Nat × Nat × Value)).map (·.1)).Nodup := by
    show List.Nodup [0, 1, 2, 3, 4, 8, 9]
    decide
  have hn2 : (([(0, 34, .pointer (some ⟨tb, 0, none⟩)), (1, 35, .pointer (some ⟨tb, 0, none⟩)), (2, 36, .pointer (some ⟨tb, 0, none⟩)), (3, 37, .pointer (some ⟨tb, 0, none⟩)), (4, 38, .pointer (some ⟨rb, 0, none⟩)), (8, 42, .pointer (some ⟨tb, 0, none⟩)), (9, 43, .pointer (some ⟨tb, 0, none⟩))] : List (Nat × Nat × Value)).map (·.2.1)).Nodup := by
    show List.Nodup [34, 35, 36, 37, 38, 42, 43]
    decide
  refine wp_region_vals0 (ops' := oPp3I) [34, 35, 36, 37, 38, 39, 40, 41, 42, 43] [(0, 34, .pointer (some ⟨tb, 0, none⟩)), (1, 35, .pointer (some ⟨tb, 0, none⟩)), (2, 36, .pointer (some ⟨tb, 0, none⟩)), (3, 37, .pointer (some ⟨tb, 0, none⟩)), (4, 38, .pointer (some ⟨rb, 0, none⟩)), (8, 42, .pointer (some ⟨tb, 0, none⟩)), (9, 43, .pointer (some ⟨tb, 0, none⟩))] (fun L g w => St w0 fp0 ([pick (L 5) (boxA 67 (g 39) (.pointer (some ⟨rb, 0, none⟩))) emp, pick (L 6) (pureA ((g 40) = .agg #[.slice none 0 0, .slice none 0 0, (g 39)])) emp, pick (L 7) (atA 70 (g 41) #[.slice none 0 0, .slice none 0 0, (g 39)]) emp, blkA tb 72 #[vpick (L 10) (g 41) (.pointer (some ⟨rb, 0, none⟩)), .int .i64 o, nn]] ++ R) w) rfl (by kernel_rfl) hS ?_ ?_
  · intro oi o L a1 w1 ho hL hdep hI
    have hoi : oi < 11 := by have := (Array.getElem?_eq_some_iff.1 ho).1; omega
    have h1sz : a1.tmps.size = 61 := hI.frame.size.trans hsz
    rcases (by omega : oi = 0 ∨ oi = 1 ∨ oi = 2 ∨ oi = 3 ∨ oi = 4 ∨ oi = 5 ∨ oi = 6 ∨ oi = 7 ∨ oi = 8 ∨ oi = 9 ∨ oi = 10) with rfl | rfl | rfl | rfl | rfl | rfl | rfl | rfl | rfl | rfl | rfl
    · have hl : oPp3I[0]? = some ⟨some 34, Op.move (Operand.tmp 0), _, _, _, none⟩ := rfl
      obtain rfl := oI ho hl
      have x0 := hI.old 0 (.pointer (some ⟨tb, 0, none⟩)) (by decide) h0
      exact hI.rd hE hsz 0 34 (.pointer (some ⟨tb, 0, none⟩)) ho rfl rfl hdep (by decide) (vals_at hn1 hn2 0 rfl) (by simp [go_sem, execOp, Act.eval, x0])
    · have hl : oPp3I[1]? = some ⟨some 35, Op.move (Operand.tmp 0), _, _, _, none⟩ := rfl
      obtain rfl := oI ho hl
      have x0 := hI.old 0 (.pointer (some ⟨tb, 0, none⟩)) (by decide) h0
      exact hI.rd hE hsz 1 35 (.pointer (some ⟨tb, 0, none⟩)) ho rfl rfl hdep (by decide) (vals_at hn1 hn2 1 rfl) (by simp [go_sem, execOp, Act.eval, x0])
    · have hl : oPp3I[2]? = some ⟨some 36, Op.nilCheck (Operand.tmp 35), _, _, _, none⟩ := rfl
      obtain rfl := oI ho hl
      have x35 := hI.val 1 35 (.pointer (some ⟨tb, 0, none⟩)) (mG (i := 1) rfl) (dK ho hdep (by kernel_rfl : waitsB oPp3I 2 1 = true))
      exact hI.rd hE hsz 2 36 (.pointer (some ⟨tb, 0, none⟩)) ho rfl rfl hdep (by decide) (vals_at hn1 hn2 2 rfl) (by simp [go_sem, execOp, Act.eval, x35])
    · have hl : oPp3I[3]? = some ⟨some 37, Op.fieldAddr _ (Operand.tmp 36) 0, _, _, _, none⟩ := rfl
      obtain rfl := oI ho hl
      have x36 := hI.val 2 36 (.pointer (some ⟨tb, 0, none⟩)) (mG (i := 2) rfl) (dK ho hdep (by kernel_rfl : waitsB oPp3I 3 2 = true))
      exact hI.rd hE hsz 3 37 (.pointer (some ⟨tb, 0, none⟩)) ho rfl rfl hdep (by decide) (vals_at hn1 hn2 3 rfl) (by simp [go_sem, execOp, Act.eval, x36])
    · have hl : oPp3I[4]? = some ⟨some 38, Op.load _ (Operand.tmp 37), _, _, _, none⟩ := rfl
      obtain rfl := oI ho hl
      have x37 := hI.val 3 37 (.pointer (some ⟨tb, 0, none⟩)) (mG (i := 3) rfl) (dK ho hdep (by kernel_rfl : waitsB oPp3I 4 3 = true))
      have hS1 := hI.eff
      have e5 : L 5 = false := hI.no hL (by kernel_rfl : waitsB oPp3I 5 4 = true)
      have e6 : L 6 = false := hI.no (hI.no hL (by kernel_rfl : waitsB oPp3I 5 4 = true)) (by kernel_rfl : waitsB oPp3I 6 5 = true)
      have e10 : L 10 = false := hI.no hL (by kernel_rfl : waitsB oPp3I 10 4 = true)
      simp only [e5, e6, e10, pick_false, vpick_false] at hS1
      obtain ⟨_, hp⟩ := hS1.has 3 rfl
      have hcell := (blk_get hp).1 0
      have hlt := (blk_get hp).2.2
      simp only [List.getElem?_toArray, List.getElem?_cons_zero] at hcell
      exact hI.rd hE hsz 4 38 (.pointer (some ⟨rb, 0, none⟩)) ho rfl rfl hdep (by decide) (vals_at hn1 hn2 4 rfl) (by simp [go_sem, execOp, Act.eval, x37, hcell])
    · have hl : oPp3I[5]? = some ⟨some 39, Op.buildSlice _ 1 #[(0, Operand.tmp 38)], _, _, _, none⟩ := rfl
      obtain rfl := oI ho hl
      have x38 := hI.val 4 38 (.pointer (some ⟨rb, 0, none⟩)) (mG (i := 4) rfl) (dK ho hdep (by kernel_rfl : waitsB oPp3I 5 4 = true))
      have hS1 := hI.eff
      have e5 : L 5 = false := hL
      have e6 : L 6 = false := hI.no hL (by kernel_rfl : waitsB oPp3I 6 5 = true)
      have e7 : L 7 = false := hI.no (hI.no hL (by kernel_rfl : waitsB oPp3I 6 5 = true)) (by kernel_rfl : waitsB oPp3I 7 6 = true)
      have e10 : L 10 = false := hI.no hL (by kernel_rfl : waitsB oPp3I 10 5 = true)
      simp only [e5, e6, e7, e10, pick_false, vpick_false] at hS1
      refine inv_value ho rfl (v := .slice (some ⟨w1.heap.size, 0, none⟩) 1 1) (w' := w1.alloc (.cells #[.pointer (some ⟨rb, 0, none⟩)] 67)) (by simp [go_sem, execOp, Act.eval, x38]) (hI.put 5 39 _ ho hdep (by decide) (by intro t ht; exact vals_ne2 rfl rfl (by decide : 5 ∉ [0, 1, 2, 3, 4, 8, 9]) (by decide : 39 ∉ [34, 35, 36, 37, 38, 42, 43]) ht) ?_)
      have hS2 := St.box hS1 0 rfl 67 (.pointer (some ⟨rb, 0, none⟩))
      simp only [e5, e6, e7, e10, Bool.or_false, Bool.or_true, Nat.reduceEqDiff, decide_true, decide_false, pick_true, pick_false, vpick_false, eval_put_same (by rw [h1sz]; decide : 39 < a1.tmps.size), eval_put_ne (by decide : 39 ≠ 40), eval_put_ne (by decide : 39 ≠ 41)]
      exact hS2
    · have hl : oPp3I[6]? = some ⟨some 40, Op.build _ #[(2, Operand.tmp 39)], _, _, _, none⟩ := rfl
      obtain rfl := oI ho hl
      have hS1 := hI.eff
      have e5 : L 5 = true := dK ho hdep (by kernel_rfl : waitsB oPp3I 6 5 = true)
      have e6 : L 6 = false := hL
      have e7 : L 7 = false := hI.no hL (by kernel_rfl : waitsB oPp3I 7 6 = true)
      have e10 : L 10 = false := hI.no hL (by kernel_rfl : waitsB oPp3I 10 6 = true)
      simp only [e5, e6, e7, e10, pick_true, pick_false, vpick_false] at hS1
      obtain ⟨_, hp1⟩ := hS1.has 0 rfl
      obtain ⟨vb, h3, _⟩ := hp1
      have x3 := eval_spell h3
      refine inv_value ho rfl (v := .agg #[.slice none 0 0, .slice none 0 0, .slice (some ⟨vb, 0, none⟩) 1 1]) (w' := w1) (by simp [go_sem, execOp, Act.eval, x3]) (hI.put 6 40 _ ho hdep (by decide) (by intro t ht; exact vals_ne2 rfl rfl (by decide : 6 ∉ [0, 1, 2, 3, 4, 8, 9]) (by decide : 40 ∉ [34, 35, 36, 37, 38, 42, 43]) ht) ?_)
      have hS2 := hS1.setP 1 rfl (Value.agg #[.slice none 0 0, .slice none 0 0, .slice (some ⟨vb, 0, none⟩) 1 1] = .agg #[.slice none 0 0, .slice none 0 0, a1.eval (.tmp 39)]) (by rw [h3])
      simp only [e5, e6, e7, e10, Bool.or_false, Bool.or_true, Nat.reduceEqDiff, decide_true, decide_false, pick_true, pick_false, vpick_false, eval_put_same (by rw [h1sz]; decide : 40 < a1.tmps.size), eval_put_ne (by decide : 40 ≠ 39), eval_put_ne (by decide : 40 ≠ 41)]
      exact hS2
    · have hl : oPp3I[7]? = some ⟨some 41, Op.box _ (Operand.tmp 40), _, _, _, none⟩ := rfl
      obtain rfl := oI ho hl
      have hS1 := hI.eff
      have e5 : L 5 = true := hI.yes (dK ho hdep (by kernel_rfl : waitsB oPp3I 7 6 = true)) (by kernel_rfl : waitsB oPp3I 6 5 = true)
      have e6 : L 6 = true := dK ho hdep (by kernel_rfl : waitsB oPp3I 7 6 = true)
      have e7 : L 7 = false := hL
      have e10 : L 10 = false := hI.no hL (by kernel_rfl : waitsB oPp3I 10 7 = true)
      simp only [e5, e6, e7, e10, pick_true, pick_false, vpick_false] at hS1
      obtain ⟨_, hP, _⟩ := hS1.has 1 rfl
      have x3 := eval_spell hP
      refine inv_value ho rfl (v := .pointer (some ⟨w1.heap.size, 0, none⟩)) (w' := w1.alloc (.cells #[.slice none 0 0, .slice none 0 0, a1.eval (.tmp 39)] 70)) (by simp [go_sem, execOp, Act.eval, x3]) (hI.put 7 41 _ ho hdep (by decide) (by intro t ht; exact vals_ne2 rfl rfl (by decide : 7 ∉ [0, 1, 2, 3, 4, 8, 9]) (by decide : 41 ∉ [34, 35, 36, 37, 38, 42, 43]) ht) ?_)
      have hS2 := hS1.atN 2 rfl 70 #[.slice none 0 0, .slice none 0 0, a1.eval (.tmp 39)]
      simp only [e5, e6, e7, e10, Bool.or_false, Bool.or_true, Nat.reduceEqDiff, decide_true, decide_false, pick_true, vpick_false, eval_put_same (by rw [h1sz]; decide : 41 < a1.tmps.size), eval_put_ne (by decide : 41 ≠ 39), eval_put_ne (by decide : 41 ≠ 40)]
      exact hS2
    · have hl : oPp3I[8]? = some ⟨some 42, Op.nilCheck (Operand.tmp 34), _, _, _, none⟩ := rfl
      obtain rfl := oI ho hl
      have x34 := hI.val 0 34 (.pointer (some ⟨tb, 0, none⟩)) (mG (i := 0) rfl) (dK ho hdep (by kernel_rfl : waitsB oPp3I 8 0 = true))
      exact hI.rd hE hsz 8 42 (.pointer (some ⟨tb, 0, none⟩)) ho rfl rfl hdep (by decide) (vals_at hn1 hn2 5 rfl) (by simp [go_sem, execOp, Act.eval, x34])
    · have hl : oPp3I[9]? = some ⟨some 43, Op.fieldAddr _ (Operand.tmp 42) 0, _, _, _, none⟩ := rfl
      obtain rfl := oI ho hl
      have x42 := hI.val 8 42 (.pointer (some ⟨tb, 0, none⟩)) (mG (i := 5) rfl) (dK ho hdep (by kernel_rfl : waitsB oPp3I 9 8 = true))
      exact hI.rd hE hsz 9 43 (.pointer (some ⟨tb, 0, none⟩)) ho rfl rfl hdep (by decide) (vals_at hn1 hn2 6 rfl) (by simp [go_sem, execOp, Act.eval, x42])
    · have hl : oPp3I[10]? = some ⟨none, Op.store _ (Operand.tmp 43) (Operand.tmp 41), _, _, _, none⟩ := rfl
      obtain rfl := oI ho hl
      have x43 := hI.val 9 43 (.pointer (some ⟨tb, 0, none⟩)) (mG (i := 6) rfl) (dK ho hdep (by kernel_rfl : waitsB oPp3I 10 9 = true))
      have hS1 := hI.eff
      have e5 : L 5 = true := dK ho hdep (by kernel_rfl : waitsB oPp3I 10 5 = true)
      have e6 : L 6 = true := dK ho hdep (by kernel_rfl : waitsB oPp3I 10 6 = true)
      have e7 : L 7 = true := dK ho hdep (by kernel_rfl : waitsB oPp3I 10 7 = true)
      have e10 : L 10 = false := hL
      simp only [e5, e6, e7, e10, pick_true, vpick_false] at hS1
      obtain ⟨_, hpv⟩ := hS1.has 2 rfl
      obtain ⟨bv, hv, _⟩ := hpv
      have xv := eval_spell hv
      obtain ⟨f, hp, hset⟩ := hS1.get 3 rfl
      have hcell := (blk_get hp).1 0
      have hfz := (blk_get hp).2.1 0
      have hlt := (blk_get hp).2.2
      simp only [List.getElem?_toArray, List.getElem?_cons_zero] at hcell
      refine inv_stored ho rfl rfl (by simp [go_sem, execOp, Act.eval, x43, xv, hcell, hfz]; rfl) (hI.step 10 ho hdep (by intro t ht; exact vals_ne1 rfl (by decide : 10 ∉ [0, 1, 2, 3, 4, 8, 9]) ht) ?_)
      obtain ⟨hb2, ht2⟩ := blk_set hp 0 (a1.eval (.tmp 41))
      have hS2 := hset _ _ _ hb2 ht2
      simp only [e5, e6, e7, e10, Bool.or_false, Bool.or_true, Nat.reduceEqDiff, decide_true, decide_false, pick_true, vpick_true]
      rw [hv] at hS2
      rw [hv]
      exact hS2
  · intro L a1 w1 hL hI
    have hS1 := hI.eff
    simp only [hL 5 (by rw [hsize]; decide), hL 6 (by rw [hsize]; decide), hL 7 (by rw [hsize]; decide), hL 10 (by rw [hsize]; decide), pick_true, vpick_true] at hS1
    have := hQ (fun d => a1.eval (.tmp d)) w1  hS1
    have e := hI.frame.eq
    rw [e]
    exact this
noncomputable def oPp6I : Array Oper := ((Try.f12.body).bind fun c => opsOf c 6).getD #[]
set_option maxHeartbeats 4000000 in
set_option maxRecDepth 100000 in
theorem rPp6I {Q : Exit → Act → World → Prop} {a : Act} {w w0 : World} {fp0 : List Nat} (tb n : Nat) (root ov : Value) (hn : n < 1099511627776) (R : List Asn) (ops : Array Oper) (hops : ops = oPp6I) (hsz : a.tmps.size = 61) (h0 : a.eval (.tmp 0) = .pointer (some ⟨tb, 0, none⟩))
    (hS : St w0 fp0 ([blkA tb 72 #[root, ov, vpick false (.int .i64 ((n + 1 : Nat) : Int)) (.int .i64 n)]] ++ R) w)
    (hQ : ∀ (u : Nat → Value) w1, St w0 fp0 ([blkA tb 72 #[root, ov, vpick true (.int .i64 ((n + 1 : Nat) : Int)) (.int .i64 n)]] ++ R) w1 → Q .normal (putL a (([52, 53, 54, 55, 56, 57, 58] : List Nat).map fun d => (d, u d))) w1) : (Code.region 6 ops false).wp Try.prog Q a w := by
  subst hops
  have hw : IntKind.i64.wrap ((n : Int) + (1 : Int)) = (n : Int) + (1 : Int) := by rw [IntKind.wrap_i64]; omega
  have hsize : oPp6I.size = 8 := by kernel_rfl
  have hE : Looks (fun L g w => St w0 fp0 ([blkA tb 72 #[root, ov, vpick (L 7) (.int .i64 ((n + 1 : Nat) : Int)) (.int .i64 n)]] ++ R) w) [7] [] := by
    intro L L' g g' w hL hg h
    simpa only [← hL 7 (by decide)] using h
  have hn1 : (([(0, 52, .pointer (some ⟨tb, 0, none⟩)), (1, 53, .pointer (some ⟨tb, 0, none⟩)), (2, 54, .pointer (some ⟨tb, 2, none⟩)), (3, 55, .int .i64 n), (4, 56, .int .i64 ((n + 1 : Nat) : Int)), (5, 57, .pointer (some ⟨tb, 0, none⟩)), (6, 58, .pointer (some ⟨tb, 2, none⟩))] : List (Nat × Nat × Value)).map (·.1)).Nodup := by
    show List.Nodup [0, 1, 2, 3, 4, 5, 6]
    decide
  have hn2 : (([(0, 52, .pointer (some ⟨tb, 0, none⟩)), (1, 53, .pointer (some ⟨tb, 0, none⟩)), (2, 54, .pointer (some ⟨tb, 2, none⟩)), (3, 55, .int .i64 n), (4, 56, .int .i64 ((n + 1 : Nat) : Int)), (5, 57, .pointer (some ⟨tb, 0, none⟩)), (6, 58, .pointer (some ⟨tb, 2, none⟩))] : List (Nat × Nat × Value)).map (·.2.1)).Nodup := by
    show List.Nodup [52, 53, 54, 55, 56, 57, 58]
    decide
  refine wp_region_vals0 (ops' := oPp6I) [52, 53, 54, 55, 56, 57, 58] [(0, 52, .pointer (some ⟨tb, 0, none⟩)), (1, 53, .pointer (some ⟨tb, 0, none⟩)), (2, 54, .pointer (some ⟨tb, 2, none⟩)), (3, 55, .int .i64 n), (4, 56, .int .i64 ((n + 1 : Nat) : Int)), (5, 57, .pointer (some ⟨tb, 0, none⟩)), (6, 58, .pointer (some ⟨tb, 2, none⟩))] (fun L g w => St w0 fp0 ([blkA tb 72 #[root, ov, vpick (L 7) (.int .i64 ((n + 1 : Nat) : Int)) (.int .i64 n)]] ++ R) w) rfl (by kernel_rfl) hS ?_ ?_
  · intro oi o L a1 w1 ho hL hdep hI
    have hoi : oi < 8 := by have := (Array.getElem?_eq_some_iff.1 ho).1; omega
    have h1sz : a1.tmps.size = 61 := hI.frame.size.trans hsz
    rcases (by omega : oi = 0 ∨ oi = 1 ∨ oi = 2 ∨ oi = 3 ∨ oi = 4 ∨ oi = 5 ∨ oi = 6 ∨ oi = 7) with rfl | rfl | rfl | rfl | rfl | rfl | rfl | rfl
    · have hl : oPp6I[0]? = some ⟨some 52, Op.move (Operand.tmp 0), _, _, _, none⟩ := rfl
      obtain rfl := oI ho hl
      have x0 := hI.old 0 (.pointer (some ⟨tb, 0, none⟩)) (by decide) h0
      exact hI.rd hE hsz 0 52 (.pointer (some ⟨tb, 0, none⟩)) ho rfl rfl hdep (by decide) (vals_at hn1 hn2 0 rfl) (by simp [go_sem, execOp, Act.eval, x0])
    · have hl : oPp6I[1]? = some ⟨some 53, Op.nilCheck (Operand.tmp 52), _, _, _, none⟩ := rfl
      obtain rfl := oI ho hl
      have x52 := hI.val 0 52 (.pointer (some ⟨tb, 0, none⟩)) (mG (i := 0) rfl) (dK ho hdep (by kernel_rfl : waitsB oPp6I 1 0 = true))
      exact hI.rd hE hsz 1 53 (.pointer (some ⟨tb, 0, none⟩)) ho rfl rfl hdep (by decide) (vals_at hn1 hn2 1 rfl) (by simp [go_sem, execOp, Act.eval, x52])
    · have hl : oPp6I[2]? = some ⟨some 54, Op.fieldAddr _ (Operand.tmp 53) 2, _, _, _, none⟩ := rfl
      obtain rfl := oI ho hl
      have x53 := hI.val 1 53 (.pointer (some ⟨tb, 0, none⟩)) (mG (i := 1) rfl) (dK ho hdep (by kernel_rfl : waitsB oPp6I 2 1 = true))
      exact hI.rd hE hsz 2 54 (.pointer (some ⟨tb, 2, none⟩)) ho rfl rfl hdep (by decide) (vals_at hn1 hn2 2 rfl) (by simp [go_sem, execOp, Act.eval, x53])
    · have hl : oPp6I[3]? = some ⟨some 55, Op.load _ (Operand.tmp 54), _, _, _, none⟩ := rfl
      obtain rfl := oI ho hl
      have x54 := hI.val 2 54 (.pointer (some ⟨tb, 2, none⟩)) (mG (i := 2) rfl) (dK ho hdep (by kernel_rfl : waitsB oPp6I 3 2 = true))
      have hS1 := hI.eff
      have e7 : L 7 = false := hI.no hL (by kernel_rfl : waitsB oPp6I 7 3 = true)
      simp only [e7, vpick_false] at hS1
      obtain ⟨_, hp⟩ := hS1.has 0 rfl
      have hcell := (blk_get hp).1 2
      have hlt := (blk_get hp).2.2
      simp only [List.getElem?_toArray, List.getElem?_cons_zero, List.getElem?_cons_succ] at hcell
      exact hI.rd hE hsz 3 55 (.int .i64 n) ho rfl rfl hdep (by decide) (vals_at hn1 hn2 3 rfl) (by simp [go_sem, execOp, Act.eval, x54, hcell])
    · have hl : oPp6I[4]? = some ⟨some 56, Op.binOp BinOp.add _ (Operand.tmp 55) (Operand.const (Value.int IntKind.i64 1)) _, _, _, _, none⟩ := rfl
      obtain rfl := oI ho hl
      have x55 := hI.val 3 55 (.int .i64 n) (mG (i := 3) rfl) (dK ho hdep (by kernel_rfl : waitsB oPp6I 4 3 = true))
      exact hI.rd hE hsz 4 56 (.int .i64 ((n + 1 : Nat) : Int)) ho rfl rfl hdep (by decide) (vals_at hn1 hn2 4 rfl) (by simp [go_sem, execOp, Act.eval, x55, hw])
    · have hl : oPp6I[5]? = some ⟨some 57, Op.nilCheck (Operand.tmp 52), _, _, _, none⟩ := rfl
      obtain rfl := oI ho hl
      have x52 := hI.val 0 52 (.pointer (some ⟨tb, 0, none⟩)) (mG (i := 0) rfl) (dK ho hdep (by kernel_rfl : waitsB oPp6I 5 0 = true))
      exact hI.rd hE hsz 5 57 (.pointer (some ⟨tb, 0, none⟩)) ho rfl rfl hdep (by decide) (vals_at hn1 hn2 5 rfl) (by simp [go_sem, execOp, Act.eval, x52])
    · have hl : oPp6I[6]? = some ⟨some 58, Op.fieldAddr _ (Operand.tmp 57) 2, _, _, _, none⟩ := rfl
      obtain rfl := oI ho hl
      have x57 := hI.val 5 57 (.pointer (some ⟨tb, 0, none⟩)) (mG (i := 5) rfl) (dK ho hdep (by kernel_rfl : waitsB oPp6I 6 5 = true))
      exact hI.rd hE hsz 6 58 (.pointer (some ⟨tb, 2, none⟩)) ho rfl rfl hdep (by decide) (vals_at hn1 hn2 6 rfl) (by simp [go_sem, execOp, Act.eval, x57])
    · have hl : oPp6I[7]? = some ⟨none, Op.store _ (Operand.tmp 58) (Operand.tmp 56), _, _, _, none⟩ := rfl
      obtain rfl := oI ho hl
      have x58 := hI.val 6 58 (.pointer (some ⟨tb, 2, none⟩)) (mG (i := 6) rfl) (dK ho hdep (by kernel_rfl : waitsB oPp6I 7 6 = true))
      have x56 := hI.val 4 56 (.int .i64 ((n + 1 : Nat) : Int)) (mG (i := 4) rfl) (dK ho hdep (by kernel_rfl : waitsB oPp6I 7 4 = true))
      have hS1 := hI.eff
      have e7 : L 7 = false := hL
      simp only [e7, vpick_false] at hS1
      obtain ⟨f, hp, hset⟩ := hS1.get 0 rfl
      have hcell := (blk_get hp).1 2
      have hfz := (blk_get hp).2.1 2
      have hlt := (blk_get hp).2.2
      simp only [List.getElem?_toArray, List.getElem?_cons_zero, List.getElem?_cons_succ] at hcell
      refine inv_stored ho rfl rfl (by simp [go_sem, execOp, Act.eval, x58, x56, hcell, hfz]; rfl) (hI.step 7 ho hdep (by intro t ht; exact vals_ne1 rfl (by decide : 7 ∉ [0, 1, 2, 3, 4, 5, 6]) ht) ?_)
      obtain ⟨hb2, ht2⟩ := blk_set hp 2 (.int .i64 ((n + 1 : Nat) : Int))
      have hS2 := hset _ _ _ hb2 ht2
      simp only [e7, Bool.or_true, decide_true, vpick_true]
      exact hS2
  · intro L a1 w1 hL hI
    have hS1 := hI.eff
    simp only [hL 7 (by rw [hsize]; decide), vpick_true] at hS1
    have := hQ (fun d => a1.eval (.tmp d)) w1  hS1
    have e := hI.frame.eq
    rw [e]
    exact this
end Go.Proofs.Ytldofiankhimjaa
