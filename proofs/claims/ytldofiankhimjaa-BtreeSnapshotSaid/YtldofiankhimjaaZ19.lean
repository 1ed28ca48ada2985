/- Part 19 of the proof: Lh, Wg, Lj, LjR, Li -/
import Derived.Test.YtldofiankhimjaaZ14
import Derived.Test.YtldofiankhimjaaZ13
import Derived.Test.YtldofiankhimjaaZ00
import Derived.IntWalk
import Derived.Shelf.Abstract
import Derived.Shelf.RegionOpen
import Derived.LoopIn
import Derived.RangeFuncCalls
/- The law BtreeSnapshot: changing a map twice in the same way is changing it once. -/
namespace Go.Proofs.Ytldofiankhimjaa
open Go Go.RowKit
def opS (l : MI) (o : Int × Int × Int) : MI := if o.1 % 3 = 0 then putM l o.2.1 o.2.2 else delM l o.2.1
def runS (ops : List (Int × Int × Int)) (l : MI) : MI := ops.foldl opS l
def itS (ops : List (Int × Int × Int)) : Nat → MI → MI | 0, l => l | n + 1, l => runS ops (itS ops n l)
theorem getM_putM (l : MI) (k v : Int) (ha : AscM l) (j : Int) : getM (putM l k v) j = if j = k then some v else getM l j := by
  induction l with
  | nil =>
    show (if eqK k j then some v else none) = _
    by_cases h : j = k
    · subst h; rw [if_pos (eqK_self _), if_pos rfl]
    · rw [if_neg (by rw [eqK_iff]; exact fun e => h e.symm), if_neg h]; rfl
  | cons x l ih =>
    obtain ⟨h1, h2⟩ := AscM.cons.1 ha
    unfold putM
    split
    · rename_i hlt
      show (if eqK x.1 j then some x.2 else getM (putM l k v) j) = if j = k then some v else if eqK x.1 j then some x.2 else getM l j
      rw [ih h2]
      by_cases hj : eqK x.1 j = true
      · rw [if_pos hj, if_neg (fun e => ltK_ne hlt ((eqK_iff.1 hj).trans e)), if_pos hj]
      · rw [if_neg hj, if_neg hj]
    · split
      · rename_i he
        show (if eqK k j then some v else getM l j) = if j = k then some v else if eqK x.1 j then some x.2 else getM l j
        have hxk := eqK_iff.1 he
        by_cases hj : j = k
        · subst hj; rw [if_pos (eqK_self _), if_pos rfl]
        · rw [if_neg (by rw [eqK_iff]; exact fun e => hj e.symm), if_neg hj, if_neg (by rw [eqK_iff, hxk]; exact fun e => hj e.symm)]
      · show (if eqK k j then some v else getM (x :: l) j) = _
        by_cases hj : j = k
        · subst hj; rw [if_pos (eqK_self _), if_pos rfl]
        · rw [if_neg (by rw [eqK_iff]; exact fun e => hj e.symm), if_neg hj]
theorem getM_gtnone {l : MI} {k : Int} (h : AllGt k l) : getM l k = none := by
  have := getM_none (l := []) (m := l) (AllLt.nil k) h
  simpa using this
theorem getM_delM (l : MI) (k : Int) (ha : AscM l) (j : Int) : getM (delM l k) j = if j = k then none else getM l j := by
  induction l with
  | nil => show none = if j = k then none else none; split <;> rfl
  | cons x l ih =>
    obtain ⟨h1, h2⟩ := AscM.cons.1 ha
    unfold delM
    split
    · rename_i he
      have hxk := eqK_iff.1 he
      show getM l j = if j = k then none else if eqK x.1 j then some x.2 else getM l j
      by_cases hj : j = k
      · subst hj
        rw [if_pos rfl]
        exact getM_gtnone (by rw [← hxk]; exact h1)
      · rw [if_neg hj, if_neg (by rw [eqK_iff, hxk]; exact fun e => hj e.symm)]
    · rename_i he
      show (if eqK x.1 j then some x.2 else getM (delM l k) j) = if j = k then none else if eqK x.1 j then some x.2 else getM l j
      rw [ih h2]
      by_cases hj : eqK x.1 j = true
      · rw [if_pos hj, if_neg (fun e => he (eqK_iff.2 ((eqK_iff.1 hj).trans e))), if_pos hj]
      · rw [if_neg hj, if_neg hj]
theorem mem_getM {l : MI} (ha : AscM l) (y : Int × Int) : y ∈ l ↔ getM l y.1 = some y.2 := by
  constructor
  · intro h
    obtain ⟨i, hi⟩ := List.mem_iff_getElem?.1 h
    exact getM_at ha hi
  · intro h
    clear ha
    induction l with
    | nil => cases h
    | cons x l ih =>
      unfold getM at h
      split at h
      · rename_i he
        have e1 := eqK_iff.1 he
        have e2 : x.2 = y.2 := Option.some.inj h
        have : x = y := Prod.ext e1 e2
        rw [this]; simp
      · exact List.mem_cons_of_mem _ (ih h)
theorem asc_ext_get {l m : MI} (ha : AscM l) (hb : AscM m) (h : ∀ k, getM l k = getM m k) : l = m :=
  asc_ext ha hb fun y => by rw [mem_getM ha, mem_getM hb, h]
theorem opS_asc {l : MI} (ha : AscM l) (o : Int × Int × Int) : AscM (opS l o) := by
  unfold opS
  split
  · exact ascM_putM ha _ _
  · exact ascM_delM ha _
theorem runS_asc {l : MI} (ha : AscM l) (ops : List (Int × Int × Int)) : AscM (runS ops l) := by
  unfold runS
  induction ops generalizing l with
  | nil => exact ha
  | cons o ops ih => exact ih (opS_asc ha o)
/-- What the last operation on a key leaves there. -/
def touch (k : Int) : List (Int × Int × Int) → Option (Option Int) → Option (Option Int)
  | [], t => t
  | o :: ops, t => touch k ops (if k = o.2.1 then some (if o.1 % 3 = 0 then some o.2.2 else none) else t)
theorem touch_none (k : Int) (ops : List (Int × Int × Int)) (t : Option (Option Int)) : touch k ops t = (touch k ops none).or t := by
  induction ops generalizing t with
  | nil => simp [touch]
  | cons o ops ih =>
    unfold touch
    by_cases h : k = o.2.1
    · rw [if_pos h, if_pos h]
      rw [ih (some _)]
      cases touch k ops none <;> rfl
    · rw [if_neg h, if_neg h]
      exact ih t
theorem getM_runS {l : MI} (ha : AscM l) (ops : List (Int × Int × Int)) (k : Int) : getM (runS ops l) k = (touch k ops none).getD (getM l k) := by
  induction ops generalizing l with
  | nil => rfl
  | cons o ops ih =>
    show getM (runS ops (opS l o)) k = _
    rw [ih (opS_asc ha o)]
    have e : getM (opS l o) k = if k = o.2.1 then (if o.1 % 3 = 0 then some o.2.2 else none) else getM l k := by
      unfold opS
      by_cases hm : o.1 % 3 = 0
      · rw [if_pos hm, getM_putM _ _ _ ha, if_pos hm]
      · rw [if_neg hm, getM_delM _ _ ha, if_neg hm]
    have e2 : touch k (o :: ops) none = touch k ops (if k = o.2.1 then some (if o.1 % 3 = 0 then some o.2.2 else none) else none) := rfl
    rw [e, e2, touch_none k ops (if k = o.2.1 then _ else none)]
    generalize touch k ops none = t
    by_cases h : k = o.2.1
    · rw [if_pos h, if_pos h]
      cases t <;> rfl
    · rw [if_neg h, if_neg h]
      cases t <;> rfl
theorem runS_twice {l : MI} (ha : AscM l) (ops : List (Int × Int × Int)) : runS ops (runS ops l) = runS ops l := by
  have h1 := runS_asc ha ops
  refine asc_ext_get (runS_asc h1 ops) h1 fun k => ?_
  rw [getM_runS h1, getM_runS ha]
  cases touch k ops none <;> rfl
theorem itS_succ {l : MI} (ha : AscM l) (ops : List (Int × Int × Int)) : ∀ n, itS ops (n + 1) l = runS ops l
  | 0 => rfl
  | n + 1 => by
    show runS ops (itS ops (n + 1) l) = _
    rw [itS_succ ha ops n, runS_twice ha]
theorem opS_len (l : MI) (o : Int × Int × Int) : (opS l o).length ≤ l.length + 1 := by
  unfold opS
  split
  · exact putM_len _ _ _
  · have := delM_len l o.2.1; omega
theorem runS_len (ops : List (Int × Int × Int)) : ∀ l : MI, (runS ops l).length ≤ l.length + ops.length := by
  induction ops with
  | nil => intro l; exact Nat.le_refl _
  | cons o ops ih =>
    intro l
    have h1 := ih (opS l o)
    have h2 := opS_len l o
    show (runS ops (opS l o)).length ≤ _
    rw [List.length_cons]
    omega
theorem itS_len {l : MI} (ha : AscM l) (ops : List (Int × Int × Int)) (n : Nat) : (itS ops n l).length ≤ l.length + ops.length := by
  cases n with
  | zero => show l.length ≤ _; omega
  | succ n => rw [itS_succ ha]; exact runS_len ops l
theorem runS_snoc (ops : List (Int × Int × Int)) (o : Int × Int × Int) (l : MI) : runS (ops ++ [o]) l = opS (runS ops l) o := by unfold runS; rw [List.foldl_append]; rfl
end Go.Proofs.Ytldofiankhimjaa
/- A guard that is met. -/
namespace Go.Proofs.Ytldofiankhimjaa
open Go Go.RowKit
theorem want_g {ops : Array Oper} {o oj : Oper} {j d : Nat} {b : Bool} {tmps : Array Value} (hg : o.guard = some (j, b)) (hj : ops[j]? = some oj) (hd : oj.dst = some d) (hv : tmps[d]?.getD undef = .bool b) : Region.wanted o (yielded ops tmps) = true := by
  have h1 : tmps[d]? = some (.bool b) := by
    cases h : tmps[d]? with
    | none => rw [h] at hv; cases hv
    | some v => rw [h] at hv; exact congrArg some hv
  unfold Region.wanted yielded
  simp [hg, hj, hd, h1]
end Go.Proofs.Ytldofiankhimjaa
/- The law BtreeSnapshot: what its last region shares. -/
namespace Go.Proofs.Ytldofiankhimjaa
open Go Go.RowKit
theorem St.iter_in {w0 w : World} {fp0 : List Nat} {A : Asn} {I R : List Asn} (h : St w0 fp0 (starA I :: A :: R) w) : St w0 fp0 (A :: (I ++ R)) w := (St.star.1 h).itin
theorem St.iter_out {w0 w : World} {fp0 : List Nat} {A B : Asn} {I R : List Asn} (h : St w0 fp0 (A :: B :: (I ++ R)) w) : St w0 fp0 (starA I :: A :: B :: R) w := by
  refine St.star.2 (h.perm ?_)
  have e1 : (A :: (I ++ (B :: R))).Perm (I ++ (A :: B :: R)) := List.perm_middle.symm
  have e2 : (A :: B :: (I ++ R)).Perm (A :: (I ++ (B :: R))) := List.Perm.cons A List.perm_middle.symm
  exact e2.trans e1
end Go.Proofs.Ytldofiankhimjaa
/- BtreeSnapshot: its last region. -/
namespace Go.Proofs.Ytldofiankhimjaa
open Go Go.RowKit
noncomputable def oSn34I : Array Oper := ((Try.f5.body).bind fun c => opsOf c 34).getD #[]
set_option maxHeartbeats 4000000 in
set_option maxRecDepth 100000 in
theorem rSn34I {Q : Exit → Act → World → Prop} {a : Act} {w w0 : World} {fp0 : List Nat} (b6 b8 b11 tb bt bl bh O hh : Nat) (low : Int) (gv wv lv pl : Value) (xs ll : MI) (hO' : O ≤ 1024) (hasc : AscM ll) (hL : ll.length < 1000) (R : List Asn) (ops : Array Oper) (hops : ops = oSn34I) (hsz : a.tmps.size = 118) (h1 : a.eval (.tmp 1) = .int .i64 low) (h6 : a.eval (.tmp 6) = .pointer (some ⟨b6, 0, none⟩)) (h8 : a.eval (.tmp 8) = .pointer (some ⟨b8, 0, none⟩)) (h10 : a.eval (.tmp 10) = iterFI bt bl bh) (h11 : a.eval (.tmp 11) = .pointer (some ⟨b11, 0, none⟩)) (h16 : a.eval (.tmp 16) = wv)
    (hS : St w0 fp0 ([pick false (pureA ((a.eval (.tmp 106)) = .bool true)) emp, pick false (prA (a.eval (.tmp 112)) (selM (some low) none ll)) emp, pick false (prA (a.eval (.tmp 115)) (selM (some low) none ll)) emp, pick false (pureA ((a.eval (.tmp 116)) = .bool true)) emp, blkA b6 4 #[vpick false (.bool true) (.bool false)], blkA b11 31 #[gv], prA gv xs, prA wv xs, blkA b8 31 #[lv], prA lv ll, objI O hh ll tb, starA (iterLI tb bt bl bh pl (.pointer none) (some low) none)] ++ R) w)
    (hQ : ∀ (u : Nat → Value) w1, St w0 fp0 ([pick true (pureA ((u 106) = .bool true)) emp, pick true (prA (u 112) (selM (some low) none ll)) emp, pick true (prA (u 115) (selM (some low) none ll)) emp, pick true (pureA ((u 116) = .bool true)) emp, blkA b6 4 #[vpick true (.bool true) (.bool false)], blkA b11 31 #[gv], prA gv xs, prA wv xs, blkA b8 31 #[lv], prA lv ll, objI O hh ll tb, starA (iterLI tb bt bl bh pl (.pointer none) (some low) none)] ++ R) w1 → Q .normal (putL a (([104, 105, 106, 107, 108, 109, 110, 111, 112, 113, 114, 115, 116, 117] : List Nat).map fun d => (d, u d))) w1) : (Code.region 34 ops true).wp Try.prog Q a w := by
  subst hops
  have hw1 : IntKind.i64.wrap ((ll.length : Int) + 1) = (ll.length : Int) + 1 := IntWalk.i64_in _ (by omega)
  have hsize : oSn34I.size = 15 := by kernel_rfl
  have hE : Looks (fun L g w => St w0 fp0 ([pick (L 2) (pureA ((g 106) = .bool true)) emp, pick (L 8) (prA (g 112) (selM (some low) none ll)) emp, pick (L 11) (prA (g 115) (selM (some low) none ll)) emp, pick (L 12) (pureA ((g 116) = .bool true)) emp, blkA b6 4 #[vpick (L 14) (.bool true) (.bool false)], blkA b11 31 #[gv], prA gv xs, prA wv xs, blkA b8 31 #[lv], prA lv ll, objI O hh ll tb, starA (iterLI tb bt bl bh pl (.pointer none) (some low) none)] ++ R) w) [2, 8, 11, 12, 14] [106, 112, 115, 116] := by
    intro L L' g g' w hL hg h
    simpa only [← hL 2 (by decide), ← hL 8 (by decide), ← hL 11 (by decide), ← hL 12 (by decide), ← hL 14 (by decide), ← hg 106 (by decide), ← hg 112 (by decide), ← hg 115 (by decide), ← hg 116 (by decide)] using h
  have hn1 : (([(0, 104, gv), (1, 105, wv), (3, 107, .bool true), (4, 108, iterFI bt bl bh), (5, 109, lv), (6, 110, .int .i64 ll.length), (7, 111, .int .i64 ((ll.length : Int) + 1)), (9, 113, lv), (10, 114, .int .i64 low), (13, 117, .bool true)] : List (Nat × Nat × Value)).map (·.1)).Nodup := by
    show List.Nodup [0, 1, 3, 4, 5, 6, 7, 9, 10, 13]
    decide
  have hn2 : (([(0, 104, gv), (1, 105, wv), (3, 107, .bool true), (4, 108, iterFI bt bl bh), (5, 109, lv), (6, 110, .int .i64 ll.length), (7, 111, .int .i64 ((ll.length : Int) + 1)), (9, 113, lv), (10, 114, .int .i64 low), (13, 117, .bool true)] : List (Nat × Nat × Value)).map (·.2.1)).Nodup := by
    show List.Nodup [104, 105, 107, 108, 109, 110, 111, 113, 114, 117]
    decide
  refine wp_region_vals (ops' := oSn34I) [104, 105, 106, 107, 108, 109, 110, 111, 112, 113, 114, 115, 116, 117] [(0, 104, gv), (1, 105, wv), (3, 107, .bool true), (4, 108, iterFI bt bl bh), (5, 109, lv), (6, 110, .int .i64 ll.length), (7, 111, .int .i64 ((ll.length : Int) + 1)), (9, 113, lv), (10, 114, .int .i64 low), (13, 117, .bool true)] (fun L g w => St w0 fp0 ([pick (L 2) (pureA ((g 106) = .bool true)) emp, pick (L 8) (prA (g 112) (selM (some low) none ll)) emp, pick (L 11) (prA (g 115) (selM (some low) none ll)) emp, pick (L 12) (pureA ((g 116) = .bool true)) emp, blkA b6 4 #[vpick (L 14) (.bool true) (.bool false)], blkA b11 31 #[gv], prA gv xs, prA wv xs, blkA b8 31 #[lv], prA lv ll, objI O hh ll tb, starA (iterLI tb bt bl bh pl (.pointer none) (some low) none)] ++ R) w) rfl (by kernel_rfl) (by kernel_rfl) (hS.mono (below_drew w)) ?_ ?_
  · intro oi o L a1 w1 ho hL hdep hI
    have hoi : oi < 15 := by have := (Array.getElem?_eq_some_iff.1 ho).1; omega
    have h1sz : a1.tmps.size = 118 := hI.frame.size.trans hsz
    rcases (by omega : oi = 0 ∨ oi = 1 ∨ oi = 2 ∨ oi = 3 ∨ oi = 4 ∨ oi = 5 ∨ oi = 6 ∨ oi = 7 ∨ oi = 8 ∨ oi = 9 ∨ oi = 10 ∨ oi = 11 ∨ oi = 12 ∨ oi = 13 ∨ oi = 14) with rfl | rfl | rfl | rfl | rfl | rfl | rfl | rfl | rfl | rfl | rfl | rfl | rfl | rfl | rfl
    · have hl : oSn34I[0]? = some ⟨some 104, Op.load _ (Operand.tmp 11), _, _, _, none⟩ := rfl
      obtain rfl := oI ho hl
      have x11 := hI.old 11 (.pointer (some ⟨b11, 0, none⟩)) (by decide) h11
      have hS1 := hI.eff
      have e2 : L 2 = false := hI.no hL (by kernel_rfl : waitsB oSn34I 2 0 = true)
      have e14 : L 14 = false := hI.no hL (by kernel_rfl : waitsB oSn34I 14 0 = true)
      simp only [e2, e14, pick_false, vpick_false] at hS1
      obtain ⟨_, hp⟩ := hS1.has 5 rfl
      have hcell := (blk_get hp).1 0
      have hlt := (blk_get hp).2.2
      simp only [List.getElem?_toArray, List.getElem?_cons_zero] at hcell
      exact hI.rd hE hsz 0 104 (gv) ho rfl rfl hdep (by decide) (vals_at hn1 hn2 0 rfl) (by simp [go_sem, execOp, Act.eval, x11, hcell])
    · have hl : oSn34I[1]? = some ⟨some 105, Op.move (Operand.tmp 16), _, _, _, none⟩ := rfl
      obtain rfl := oI ho hl
      have x16 := hI.old 16 (wv) (by decide) h16
      exact hI.rd hE hsz 1 105 (wv) ho rfl rfl hdep (by decide) (vals_at hn1 hn2 1 rfl) (by simp [go_sem, execOp, Act.eval, x16])
    · have hl : oSn34I[2]? = some ⟨some 106, Op.call ⟨Callee.value (Operand.func _), #[Operand.tmp 104, Operand.tmp 105], _⟩, _, _, _, none⟩ := rfl
      obtain rfl := oI ho hl
      have x104 := hI.val 0 104 (gv) (mG (i := 0) rfl) (dK ho hdep (by kernel_rfl : waitsB oSn34I 2 0 = true))
      have x105 := hI.val 1 105 (wv) (mG (i := 1) rfl) (dK ho hdep (by kernel_rfl : waitsB oSn34I 2 1 = true))
      have hS1 := hI.eff
      have e2 : L 2 = false := hL
      have e8 : L 8 = false := hI.no (hI.no hL (by kernel_rfl : waitsB oSn34I 3 2 = true)) (by kernel_rfl : waitsB oSn34I 8 3 = true)
      have e11 : L 11 = false := hI.no (hI.no hL (by kernel_rfl : waitsB oSn34I 3 2 = true)) (by kernel_rfl : waitsB oSn34I 11 3 = true)
      have e12 : L 12 = false := hI.no (hI.no hL (by kernel_rfl : waitsB oSn34I 3 2 = true)) (by kernel_rfl : waitsB oSn34I 12 3 = true)
      have e14 : L 14 = false := hI.no hL (by kernel_rfl : waitsB oSn34I 14 2 = true)
      simp only [e2, e8, e11, e12, e14, pick_false, vpick_false] at hS1
      obtain ⟨_, hp1⟩ := hS1.has 6 rfl
      obtain ⟨_, hp2⟩ := hS1.has 7 rfl
      have hC := Same_calls xs xs gv wv w1 (prA_at hp1) (prA_at hp2)
      rw [show (decide (xs = xs) : Bool) = true by simp] at hC
      refine inv_call ho rfl (f := 15) (by simp [go_sem, Act.eval, x104, x105]) hC ?_
      rintro e w2 ⟨rfl, hb2⟩
      refine ⟨_, rfl, hI.put 2 106 _ ho hdep (by decide) (by intro t ht; exact vals_ne2 rfl rfl (by decide : 2 ∉ [0, 1, 3, 4, 5, 6, 7, 9, 10, 13]) (by decide : 106 ∉ [104, 105, 107, 108, 109, 110, 111, 113, 114, 117]) ht) ?_⟩
      have hS2 := (hS1.mono hb2).setP 0 rfl True trivial
      simp only [e2, e8, e11, e12, e14, Bool.or_false, Bool.or_true, Nat.reduceEqDiff, decide_true, decide_false, pick_true, pick_false, vpick_false, eval_put_same (by rw [h1sz]; decide : 106 < a1.tmps.size), eval_put_ne (by decide : 106 ≠ 112), eval_put_ne (by decide : 106 ≠ 115), eval_put_ne (by decide : 106 ≠ 116)]
      exact hS2
    · have hl : oSn34I[3]? = some ⟨some 107, Op.move (Operand.tmp 106), _, _, _, none⟩ := rfl
      obtain rfl := oI ho hl
      have hS1 := hI.eff
      have e2 : L 2 = true := dK ho hdep (by kernel_rfl : waitsB oSn34I 3 2 = true)
      have e8 : L 8 = false := hI.no hL (by kernel_rfl : waitsB oSn34I 8 3 = true)
      have e11 : L 11 = false := hI.no hL (by kernel_rfl : waitsB oSn34I 11 3 = true)
      have e12 : L 12 = false := hI.no hL (by kernel_rfl : waitsB oSn34I 12 3 = true)
      have e14 : L 14 = false := hI.no hL (by kernel_rfl : waitsB oSn34I 14 3 = true)
      simp only [e2, e8, e11, e12, e14, pick_true, pick_false, vpick_false] at hS1
      obtain ⟨_, hp⟩ := hS1.has 0 rfl
      have hcell := eval_spell hp.1
      exact hI.rd hE hsz 3 107 (.bool true) ho rfl rfl hdep (by decide) (vals_at hn1 hn2 2 rfl) (by simp [go_sem, execOp, Act.eval, hcell])
    · have hl : oSn34I[4]? = some ⟨some 108, Op.move (Operand.tmp 10), _, _, _, some (3, true)⟩ := rfl
      obtain rfl := oI ho hl
      have hgj : oSn34I[3]? = some ⟨some 107, Op.move (Operand.tmp 106), _, _, _, none⟩ := rfl
      have x10 := hI.old 10 (iterFI bt bl bh) (by decide) h10
      have x107 := hI.val 3 107 (.bool true) (mG (i := 2) rfl) (dK ho hdep (by kernel_rfl : waitsB oSn34I 4 3 = true))
      exact hI.rd hE hsz 4 108 (iterFI bt bl bh) ho rfl (want_g rfl hgj rfl x107) hdep (by decide) (vals_at hn1 hn2 3 rfl) (by simp [go_sem, execOp, Act.eval, x10])
    · have hl : oSn34I[5]? = some ⟨some 109, Op.load _ (Operand.tmp 8), _, _, _, some (3, true)⟩ := rfl
      obtain rfl := oI ho hl
      have hgj : oSn34I[3]? = some ⟨some 107, Op.move (Operand.tmp 106), _, _, _, none⟩ := rfl
      have x8 := hI.old 8 (.pointer (some ⟨b8, 0, none⟩)) (by decide) h8
      have x107 := hI.val 3 107 (.bool true) (mG (i := 2) rfl) (dK ho hdep (by kernel_rfl : waitsB oSn34I 5 3 = true))
      have hS1 := hI.eff
      have e2 : L 2 = true := hI.yes (dK ho hdep (by kernel_rfl : waitsB oSn34I 5 3 = true)) (by kernel_rfl : waitsB oSn34I 3 2 = true)
      have e14 : L 14 = false := hI.no hL (by kernel_rfl : waitsB oSn34I 14 5 = true)
      simp only [e2, e14, pick_true, vpick_false] at hS1
      obtain ⟨_, hp⟩ := hS1.has 8 rfl
      have hcell := (blk_get hp).1 0
      have hlt := (blk_get hp).2.2
      simp only [List.getElem?_toArray, List.getElem?_cons_zero] at hcell
      exact hI.rd hE hsz 5 109 (lv) ho rfl (want_g rfl hgj rfl x107) hdep (by decide) (vals_at hn1 hn2 4 rfl) (by simp [go_sem, execOp, Act.eval, x8, hcell])
    · have hl : oSn34I[6]? = some ⟨some 110, Op.call ⟨Callee.builtin Builtin.len, #[Operand.tmp 109], _⟩, _, _, _, some (3, true)⟩ := rfl
      obtain rfl := oI ho hl
      have hgj : oSn34I[3]? = some ⟨some 107, Op.move (Operand.tmp 106), _, _, _, none⟩ := rfl
      have x109 := hI.val 5 109 (lv) (mG (i := 4) rfl) (dK ho hdep (by kernel_rfl : waitsB oSn34I 6 5 = true))
      have x107 := hI.val 3 107 (.bool true) (mG (i := 2) rfl) (dK ho hdep (by kernel_rfl : waitsB oSn34I 6 3 = true))
      have hS1 := hI.eff
      have e2 : L 2 = true := hI.yes (dK ho hdep (by kernel_rfl : waitsB oSn34I 6 3 = true)) (by kernel_rfl : waitsB oSn34I 3 2 = true)
      have e8 : L 8 = false := hI.no (hI.no hL (by kernel_rfl : waitsB oSn34I 7 6 = true)) (by kernel_rfl : waitsB oSn34I 8 7 = true)
      have e14 : L 14 = false := hI.no hL (by kernel_rfl : waitsB oSn34I 14 6 = true)
      simp only [e2, e8, e14, pick_true, pick_false, vpick_false] at hS1
      obtain ⟨_, hp⟩ := hS1.has 9 rfl
      obtain ⟨a9, c9, hcell, -⟩ := row_shape hp
      exact hI.rd hE hsz 6 110 (.int .i64 ll.length) ho rfl (want_g rfl hgj rfl x107) hdep (by decide) (vals_at hn1 hn2 5 rfl) (by simp [go_sem, Act.eval, x109, hcell])
    · have hl : oSn34I[7]? = some ⟨some 111, Op.binOp BinOp.add _ (Operand.tmp 110) (Operand.const (Value.int IntKind.i64 1)) _, _, _, _, some (3, true)⟩ := rfl
      obtain rfl := oI ho hl
      have hgj : oSn34I[3]? = some ⟨some 107, Op.move (Operand.tmp 106), _, _, _, none⟩ := rfl
      have x110 := hI.val 6 110 (.int .i64 ll.length) (mG (i := 5) rfl) (dK ho hdep (by kernel_rfl : waitsB oSn34I 7 6 = true))
      have x107 := hI.val 3 107 (.bool true) (mG (i := 2) rfl) (dK ho hdep (by kernel_rfl : waitsB oSn34I 7 3 = true))
      exact hI.rd hE hsz 7 111 (.int .i64 ((ll.length : Int) + 1)) ho rfl (want_g rfl hgj rfl x107) hdep (by decide) (vals_at hn1 hn2 6 rfl) (by simp [go_sem, execOp, Act.eval, x110, hw1])
    · have hl : oSn34I[8]? = some ⟨some 112, Op.call ⟨Callee.value (Operand.func _), #[Operand.tmp 108, Operand.tmp 111], _⟩, _, _, _, some (3, true)⟩ := rfl
      obtain rfl := oI ho hl
      have hgj : oSn34I[3]? = some ⟨some 107, Op.move (Operand.tmp 106), _, _, _, none⟩ := rfl
      have x108 := hI.val 4 108 (iterFI bt bl bh) (mG (i := 3) rfl) (dK ho hdep (by kernel_rfl : waitsB oSn34I 8 4 = true))
      have x111 := hI.val 7 111 (.int .i64 ((ll.length : Int) + 1)) (mG (i := 6) rfl) (dK ho hdep (by kernel_rfl : waitsB oSn34I 8 7 = true))
      have x107 := hI.val 3 107 (.bool true) (mG (i := 2) rfl) (dK ho hdep (by kernel_rfl : waitsB oSn34I 8 3 = true))
      have hS1 := hI.eff
      have e2 : L 2 = true := hI.yes (dK ho hdep (by kernel_rfl : waitsB oSn34I 8 3 = true)) (by kernel_rfl : waitsB oSn34I 3 2 = true)
      have e8 : L 8 = false := hL
      have e11 : L 11 = false := hI.no hL (by kernel_rfl : waitsB oSn34I 11 8 = true)
      have e12 : L 12 = false := hI.no hL (by kernel_rfl : waitsB oSn34I 12 8 = true)
      have e14 : L 14 = false := hI.no hL (by kernel_rfl : waitsB oSn34I 14 8 = true)
      simp only [e2, e8, e11, e12, e14, pick_true, pick_false, vpick_false] at hS1
      have hS2 : St w0 fp0 (starA (iterLI tb bt bl bh pl (.pointer none) (some low) none) :: objI O hh ll tb :: ([pureA (a1.eval (.tmp 106) = .bool true), emp, emp, emp, blkA b6 4 #[.bool false], blkA b11 31 #[gv], prA gv xs, prA wv xs, blkA b8 31 #[lv], prA lv ll] ++ R)) w1 := hS1.perm (by classical exact List.perm_iff_count.2 fun a => by simp only [List.cons_append, List.nil_append, List.count_cons] <;> omega)
      refine inv_call ho (want_g rfl hgj rfl x107) (f := 16) (by simp [go_sem, Act.eval, x108, x111]) (taken_calls hO' (some low) none pl (.pointer none) ll tb bt bl bh (by omega) ((ll.length : Int) + 1) w0 w1 fp0 _ hS2.iter_in) ?_
      rintro e w2 ⟨v2, rfl, hs2⟩
      rw [takeM_all (by have : (selM (some low) none ll).length ≤ ll.length := List.length_filter_le _ _; omega)] at hs2
      refine ⟨_, rfl, hI.put 8 112 _ ho hdep (by decide) (by intro t ht; exact vals_ne2 rfl rfl (by decide : 8 ∉ [0, 1, 3, 4, 5, 6, 7, 9, 10, 13]) (by decide : 112 ∉ [104, 105, 107, 108, 109, 110, 111, 113, 114, 117]) ht) ?_⟩
      have hS3 : St w0 fp0 (emp :: ([pureA (a1.eval (.tmp 106) = .bool true), prA v2 (selM (some low) none ll), emp, emp, blkA b6 4 #[.bool false], blkA b11 31 #[gv], prA gv xs, prA wv xs, blkA b8 31 #[lv], prA lv ll, objI O hh ll tb, starA (iterLI tb bt bl bh pl (.pointer none) (some low) none)] ++ R)) w2 := (St.iter_out hs2).perm (by classical exact List.perm_iff_count.2 fun a => by simp only [List.cons_append, List.nil_append, List.count_cons] <;> omega)
      have hS4 := St.emp.1 hS3
      simp only [e2, e8, e11, e12, e14, Bool.or_false, Bool.or_true, Nat.reduceEqDiff, decide_true, decide_false, pick_true, pick_false, vpick_false, eval_put_same (by rw [h1sz]; decide : 112 < a1.tmps.size), eval_put_ne (by decide : 112 ≠ 106), eval_put_ne (by decide : 112 ≠ 115), eval_put_ne (by decide : 112 ≠ 116)]
      exact hS4
    · have hl : oSn34I[9]? = some ⟨some 113, Op.load _ (Operand.tmp 8), _, _, _, some (3, true)⟩ := rfl
      obtain rfl := oI ho hl
      have hgj : oSn34I[3]? = some ⟨some 107, Op.move (Operand.tmp 106), _, _, _, none⟩ := rfl
      have x8 := hI.old 8 (.pointer (some ⟨b8, 0, none⟩)) (by decide) h8
      have x107 := hI.val 3 107 (.bool true) (mG (i := 2) rfl) (dK ho hdep (by kernel_rfl : waitsB oSn34I 9 3 = true))
      have hS1 := hI.eff
      have e2 : L 2 = true := hI.yes (dK ho hdep (by kernel_rfl : waitsB oSn34I 9 3 = true)) (by kernel_rfl : waitsB oSn34I 3 2 = true)
      have e11 : L 11 = false := hI.no hL (by kernel_rfl : waitsB oSn34I 11 9 = true)
      have e12 : L 12 = false := hI.no (hI.no hL (by kernel_rfl : waitsB oSn34I 11 9 = true)) (by kernel_rfl : waitsB oSn34I 12 11 = true)
      have e14 : L 14 = false := hI.no hL (by kernel_rfl : waitsB oSn34I 14 9 = true)
      simp only [e2, e11, e12, e14, pick_true, pick_false, vpick_false] at hS1
      obtain ⟨_, hp⟩ := hS1.has 8 rfl
      have hcell := (blk_get hp).1 0
      have hlt := (blk_get hp).2.2
      simp only [List.getElem?_toArray, List.getElem?_cons_zero] at hcell
      exact hI.rd hE hsz 9 113 (lv) ho rfl (want_g rfl hgj rfl x107) hdep (by decide) (vals_at hn1 hn2 7 rfl) (by simp [go_sem, execOp, Act.eval, x8, hcell])
    · have hl : oSn34I[10]? = some ⟨some 114, Op.move (Operand.tmp 1), _, _, _, some (3, true)⟩ := rfl
      obtain rfl := oI ho hl
      have hgj : oSn34I[3]? = some ⟨some 107, Op.move (Operand.tmp 106), _, _, _, none⟩ := rfl
      have x1 := hI.old 1 (.int .i64 low) (by decide) h1
      have x107 := hI.val 3 107 (.bool true) (mG (i := 2) rfl) (dK ho hdep (by kernel_rfl : waitsB oSn34I 10 3 = true))
      exact hI.rd hE hsz 10 114 (.int .i64 low) ho rfl (want_g rfl hgj rfl x107) hdep (by decide) (vals_at hn1 hn2 8 rfl) (by simp [go_sem, execOp, Act.eval, x1])
    · have hl : oSn34I[11]? = some ⟨some 115, Op.call ⟨Callee.value (Operand.func _), #[Operand.tmp 113, Operand.tmp 114], _⟩, _, _, _, some (3, true)⟩ := rfl
      obtain rfl := oI ho hl
      have hgj : oSn34I[3]? = some ⟨some 107, Op.move (Operand.tmp 106), _, _, _, none⟩ := rfl
      have x113 := hI.val 9 113 (lv) (mG (i := 7) rfl) (dK ho hdep (by kernel_rfl : waitsB oSn34I 11 9 = true))
      have x114 := hI.val 10 114 (.int .i64 low) (mG (i := 8) rfl) (dK ho hdep (by kernel_rfl : waitsB oSn34I 11 10 = true))
      have x107 := hI.val 3 107 (.bool true) (mG (i := 2) rfl) (dK ho hdep (by kernel_rfl : waitsB oSn34I 11 3 = true))
      have hS1 := hI.eff
      have e2 : L 2 = true := hI.yes (dK ho hdep (by kernel_rfl : waitsB oSn34I 11 3 = true)) (by kernel_rfl : waitsB oSn34I 3 2 = true)
      have e8 : L 8 = true := dK ho hdep (by kernel_rfl : waitsB oSn34I 11 8 = true)
      have e11 : L 11 = false := hL
      have e12 : L 12 = false := hI.no hL (by kernel_rfl : waitsB oSn34I 12 11 = true)
      have e14 : L 14 = false := hI.no hL (by kernel_rfl : waitsB oSn34I 14 11 = true)
      simp only [e2, e8, e11, e12, e14, pick_true, pick_false, vpick_false] at hS1
      have hS2 : St w0 fp0 (prA lv ll :: ([pureA (a1.eval (.tmp 106) = .bool true), prA (a1.eval (.tmp 112)) (selM (some low) none ll), emp, emp, blkA b6 4 #[.bool false], blkA b11 31 #[gv], prA gv xs, prA wv xs, blkA b8 31 #[lv], objI O hh ll tb, starA (iterLI tb bt bl bh pl (.pointer none) (some low) none)] ++ R)) w1 := hS1.perm (by classical exact List.perm_iff_count.2 fun a => by simp only [List.cons_append, List.nil_append, List.count_cons] <;> omega)
      refine inv_call ho (want_g rfl hgj rfl x107) (f := 27) (by simp [go_sem, Act.eval, x113, x114]) (RFrom_calls ll low lv (by omega) w0 w1 fp0 _ hS2) ?_
      rintro e w2 ⟨v2, rfl, hs2⟩
      rw [from_selM hasc] at hs2
      refine ⟨_, rfl, hI.put 11 115 _ ho hdep (by decide) (by intro t ht; exact vals_ne2 rfl rfl (by decide : 11 ∉ [0, 1, 3, 4, 5, 6, 7, 9, 10, 13]) (by decide : 115 ∉ [104, 105, 107, 108, 109, 110, 111, 113, 114, 117]) ht) ?_⟩
      have hS3 : St w0 fp0 (emp :: ([pureA (a1.eval (.tmp 106) = .bool true), prA (a1.eval (.tmp 112)) (selM (some low) none ll), prA v2 (selM (some low) none ll), emp, blkA b6 4 #[.bool false], blkA b11 31 #[gv], prA gv xs, prA wv xs, blkA b8 31 #[lv], prA lv ll, objI O hh ll tb, starA (iterLI tb bt bl bh pl (.pointer none) (some low) none)] ++ R)) w2 := hs2.perm (by classical exact List.perm_iff_count.2 fun a => by simp only [List.cons_append, List.nil_append, List.count_cons] <;> omega)
      have hS4 := St.emp.1 hS3
      simp only [e2, e8, e11, e12, e14, Bool.or_false, Bool.or_true, Nat.reduceEqDiff, decide_true, decide_false, pick_true, pick_false, vpick_false, eval_put_same (by rw [h1sz]; decide : 115 < a1.tmps.size), eval_put_ne (by decide : 115 ≠ 106), eval_put_ne (by decide : 115 ≠ 112), eval_put_ne (by decide : 115 ≠ 116)]
      exact hS4
    · have hl : oSn34I[12]? = some ⟨some 116, Op.call ⟨Callee.value (Operand.func _), #[Operand.tmp 112, Operand.tmp 115], _⟩, _, _, _, some (3, true)⟩ := rfl
      obtain rfl := oI ho hl
      have hgj : oSn34I[3]? = some ⟨some 107, Op.move (Operand.tmp 106), _, _, _, none⟩ := rfl
      have x107 := hI.val 3 107 (.bool true) (mG (i := 2) rfl) (dK ho hdep (by kernel_rfl : waitsB oSn34I 12 3 = true))
      have hS1 := hI.eff
      have e2 : L 2 = true := hI.yes (dK ho hdep (by kernel_rfl : waitsB oSn34I 12 3 = true)) (by kernel_rfl : waitsB oSn34I 3 2 = true)
      have e8 : L 8 = true := dK ho hdep (by kernel_rfl : waitsB oSn34I 12 8 = true)
      have e11 : L 11 = true := dK ho hdep (by kernel_rfl : waitsB oSn34I 12 11 = true)
      have e12 : L 12 = false := hL
      have e14 : L 14 = false := hI.no hL (by kernel_rfl : waitsB oSn34I 14 12 = true)
      simp only [e2, e8, e11, e12, e14, pick_true, pick_false, vpick_false] at hS1
      obtain ⟨_, hp1⟩ := hS1.has 1 rfl
      obtain ⟨_, hp2⟩ := hS1.has 2 rfl
      have hC := Same_calls (selM (some low) none ll) (selM (some low) none ll) (a1.eval (.tmp 112)) (a1.eval (.tmp 115)) w1 (prA_at hp1) (prA_at hp2)
      rw [show (decide ((selM (some low) none ll) = (selM (some low) none ll)) : Bool) = true by simp] at hC
      refine inv_call ho (want_g rfl hgj rfl x107) (f := 15) (by simp [go_sem, Act.eval]) hC ?_
      rintro e w2 ⟨rfl, hb2⟩
      refine ⟨_, rfl, hI.put 12 116 _ ho hdep (by decide) (by intro t ht; exact vals_ne2 rfl rfl (by decide : 12 ∉ [0, 1, 3, 4, 5, 6, 7, 9, 10, 13]) (by decide : 116 ∉ [104, 105, 107, 108, 109, 110, 111, 113, 114, 117]) ht) ?_⟩
      have hS2 := (hS1.mono hb2).setP 3 rfl True trivial
      simp only [e2, e8, e11, e12, e14, Bool.or_false, Bool.or_true, Nat.reduceEqDiff, decide_true, decide_false, pick_true, vpick_false, eval_put_same (by rw [h1sz]; decide : 116 < a1.tmps.size), eval_put_ne (by decide : 116 ≠ 106), eval_put_ne (by decide : 116 ≠ 112), eval_put_ne (by decide : 116 ≠ 115)]
      exact hS2
    · have hl : oSn34I[13]? = some ⟨some 117, Op.pick (Operand.tmp 107) (Operand.tmp 116) (Operand.const (Value.bool false)), _, _, _, none⟩ := rfl
      obtain rfl := oI ho hl
      have x107 := hI.val 3 107 (.bool true) (mG (i := 2) rfl) (dK ho hdep (by kernel_rfl : waitsB oSn34I 13 3 = true))
      have hS1 := hI.eff
      have e2 : L 2 = true := hI.yes (dK ho hdep (by kernel_rfl : waitsB oSn34I 13 3 = true)) (by kernel_rfl : waitsB oSn34I 3 2 = true)
      have e8 : L 8 = true := hI.yes (dK ho hdep (by kernel_rfl : waitsB oSn34I 13 12 = true)) (by kernel_rfl : waitsB oSn34I 12 8 = true)
      have e11 : L 11 = true := hI.yes (dK ho hdep (by kernel_rfl : waitsB oSn34I 13 12 = true)) (by kernel_rfl : waitsB oSn34I 12 11 = true)
      have e12 : L 12 = true := dK ho hdep (by kernel_rfl : waitsB oSn34I 13 12 = true)
      have e14 : L 14 = false := hI.no hL (by kernel_rfl : waitsB oSn34I 14 13 = true)
      simp only [e2, e8, e11, e12, e14, pick_true, vpick_false] at hS1
      obtain ⟨_, hp⟩ := hS1.has 3 rfl
      have hcell := eval_spell hp.1
      exact hI.rd hE hsz 13 117 (.bool true) ho rfl rfl hdep (by decide) (vals_at hn1 hn2 9 rfl) (by simp [go_sem, execOp, Act.eval, x107, hcell])
    · have hl : oSn34I[14]? = some ⟨none, Op.store _ (Operand.tmp 6) (Operand.tmp 117), _, _, _, none⟩ := rfl
      obtain rfl := oI ho hl
      have x6 := hI.old 6 (.pointer (some ⟨b6, 0, none⟩)) (by decide) h6
      have x117 := hI.val 13 117 (.bool true) (mG (i := 9) rfl) (dK ho hdep (by kernel_rfl : waitsB oSn34I 14 13 = true))
      have hS1 := hI.eff
      have e2 : L 2 = true := dK ho hdep (by kernel_rfl : waitsB oSn34I 14 2 = true)
      have e8 : L 8 = true := dK ho hdep (by kernel_rfl : waitsB oSn34I 14 8 = true)
      have e11 : L 11 = true := dK ho hdep (by kernel_rfl : waitsB oSn34I 14 11 = true)
      have e12 : L 12 = true := dK ho hdep (by kernel_rfl : waitsB oSn34I 14 12 = true)
      have e14 : L 14 = false := hL
      simp only [e2, e8, e11, e12, e14, pick_true, vpick_false] at hS1
      obtain ⟨f, hp, hset⟩ := hS1.get 4 rfl
      have hcell := (blk_get hp).1 0
      have hfz := (blk_get hp).2.1 0
      have hlt := (blk_get hp).2.2
      simp only [List.getElem?_toArray, List.getElem?_cons_zero] at hcell
      refine inv_stored ho rfl rfl (by simp [go_sem, execOp, Act.eval, x6, x117, hcell, hfz]; rfl) (hI.step 14 ho hdep (by intro t ht; exact vals_ne1 rfl (by decide : 14 ∉ [0, 1, 3, 4, 5, 6, 7, 9, 10, 13]) ht) ?_)
      obtain ⟨hb2, ht2⟩ := blk_set hp 0 (.bool true)
      have hS2 := hset _ _ _ hb2 ht2
      simp only [e2, e8, e11, e12, e14, Bool.or_false, Bool.or_true, Nat.reduceEqDiff, decide_true, decide_false, pick_true, vpick_true]
      exact hS2
  · intro L a1 w1 hL hI
    have hS1 := hI.eff
    simp only [hL 2 (by rw [hsize]; decide), hL 8 (by rw [hsize]; decide), hL 11 (by rw [hsize]; decide), hL 12 (by rw [hsize]; decide), hL 14 (by rw [hsize]; decide), pick_true, vpick_true] at hS1
    have := hQ (fun d => a1.eval (.tmp d)) w1  hS1
    have e := hI.frame.eq
    rw [e]
    exact this
end Go.Proofs.Ytldofiankhimjaa
/- The law BtreeSnapshot, as a walk. -/
namespace Go.Proofs.Ytldofiankhimjaa
open Go Go.RowKit Go.Shelf
attribute [local go_sem] Oper.semAt_some
/-- What the loop keeps beside the tree and the list. -/
def snC (b5 b6 b7 b8 tb bt bl bh : Nat) (lv vl pl : Value) (low : Int) (l : MI) : List Asn :=
  blkA b5 46 #[lv] :: blkA b6 4 #[.bool false] :: blkA b7 25 #[.pointer (some ⟨tb, 0, none⟩)] :: blkA b8 31 #[vl] :: prA vl l :: iterLI tb bt bl bh pl (.pointer none) (some low) none
def snI (O b11 tb : Nat) (later : List (Int × Int × Int)) (l : MI) (C : List Asn) (pre : MI) : List Asn := prVar b11 pre :: hobjA O tb (itS later pre.length l) :: C
set_option maxHeartbeats 8000000 in
set_option maxRecDepth 20000 in
theorem snapshot_calls (ops later : List (Int × Int × Int)) (v lv : Value) (low : Int) (W : World) (hv : OpsAt W v ops) (hlv : OpsAt W lv later) :
    Calls Try.prog 5 #[v, .int .i64 low, lv] W fun e w' => e = .returned (.bool true) ∧ Below W.heap.size W w' := by
  have HLv := Lib.hid hlv
  have HA := Lib.hid (awake_calls W _ [] _ (((St.start0 W).newblk 46 #[lv]).newblk 4 #[.bool false]))
  simp only [World.size_alloc] at HA
  have HP : RowKit.Hid (ops.length < 1000000 → ∀ w R, St W [] R w → Calls Try.prog 24 #[.int .i64 3, v] w fun e w' => ∃ tb h v', e = .returned (.tuple #[ptrI tb, v', .bool true]) ∧ St W [] (objI (clampO 3) h (playM ops) tb :: prA v' (playM ops) :: R) w') := fun h1 w R hs => play_calls 3 ops v W w R hv h1 hs
  obtain ⟨hm, a, c, rfl, hc, -⟩ := hv
  obtain ⟨hm2, a2, c2, rfl, hc2, -⟩ := hlv
  have hpl := playM_len ops
  obtain ⟨N, hN⟩ : ∃ N, ops.length = N := ⟨_, rfl⟩
  obtain ⟨N2, hN2⟩ : ∃ N, later.length = N := ⟨_, rfl⟩
  have HN2 := Lib.hid hN2
  have HPL : RowKit.Hid ((playM ops).length ≤ N) := by rw [← hN]; exact hpl
  rw [hN] at HP ⊢
  rw [hN2] at HLv HA ⊢
  have Ho := Lib.hid (clampO_lo 3)
  have Ho' := Lib.hid (clampO_hi 3)
  generalize clampO 3 = O at *
  clear hm hc hpl hN hm2 hc2 hN2
  refine calls_of_wp_m Try.func5 rfl ?_
  simp only [Try.ntmps5, List.size_toArray, List.length_cons, List.length_nil, Nat.reduceAdd, Nat.reduceSub, Array.replicate_succ, Array.replicate_zero, List.push_toArray, List.append_toArray, List.nil_append, List.cons_append]
  go_wp2_with fail
  generalize hb5 : W.heap.size = b5 at *
  (with_reducible refine HA.out.mono ?_)
  rintro e w1 ⟨rfl, h1⟩
  have H1 := Lib.hid h1
  obtain ⟨_, q6⟩ := h1.has 0 rfl
  obtain ⟨_, q5⟩ := h1.has 1 rfl
  have d5 := (blk_get q5).1 0
  have d5l := (blk_get q5).2.2
  have d6 := (blk_get q6).1 0
  have d6l := (blk_get q6).2.2
  simp only [List.getElem?_toArray, List.getElem?_cons_zero] at d5 d6
  clear h1 HA q5 q6
  generalize b5 + 1 = b6 at *
  have d6f := (H1.out.tbsetI 0 (.bool true)).1
  by_cases hb : N > 100
  · have ht : decide ((N : Int) > 100) = true := by simp; omega
    have H2 := Lib.hid (H1.out.tbsetI 0 (.bool true)).2.2.2
    clear hb
    go_wp2
    obtain ⟨_, q6⟩ := H2.out.has 0 rfl
    have e6 := (blk_get q6).1 0
    simp only [List.getElem?_toArray, List.getElem?_cons_zero, List.setIfInBounds_toArray, List.set_cons_zero] at e6
    refine bodyPostM_ret (v := .bool true) (by simp [results, Try.results5, go_sem, e6]) rfl ?_
    exact ⟨rfl, hb5 ▸ H2.out.below0⟩
  have hNb : N ≤ 100 := by omega
  have ht : decide ((N : Int) > 100) = false := by simp; omega
  by_cases hb2 : N2 > 20
  · have ht2 : decide ((N2 : Int) > 20) = true := by simp; omega
    have H2 := Lib.hid (H1.out.tbsetI 0 (.bool true)).2.2.2
    clear hb hb2
    go_wp2
    obtain ⟨_, q6⟩ := H2.out.has 0 rfl
    have e6 := (blk_get q6).1 0
    simp only [List.getElem?_toArray, List.getElem?_cons_zero, List.setIfInBounds_toArray, List.set_cons_zero] at e6
    refine bodyPostM_ret (v := .bool true) (by simp [results, Try.results5, go_sem, e6]) rfl ?_
    exact ⟨rfl, hb5 ▸ H2.out.below0⟩
  have hN2b : N2 ≤ 20 := by omega
  have ht2 : decide ((N2 : Int) > 20) = false := by simp; omega
  have HP1 := Lib.hid (HP.out (by omega) w1 _ H1.out)
  have HLb : RowKit.Hid ((playM ops).length ≤ 100) := by have := HPL.out; show _ ≤ _; omega
  unfold ptrI at HP1
  clear hb hb2 HP H1 HPL
  generalize playM ops = l at *
  go_wp2_with fail
  (with_reducible refine HP1.out.mono ?_)
  rintro e w2 ⟨tb, h, vl, rfl, h2⟩
  obtain ⟨_, hp⟩ := h2.has 1 rfl
  obtain ⟨va, vc, rfl, hvc, -, -⟩ := row_shape hp
  obtain ⟨M, hM⟩ : ∃ M, l.length = M := ⟨_, rfl⟩
  have HM := Lib.hid hM
  have hasc := h2.asc
  have Hasc := Lib.hid hasc
  have H2 := Lib.hid (((h2.newblk 25 #[.pointer (some ⟨tb, 0, none⟩)]).newblk 31 #[.slice va l.length vc]))
  simp only [World.size_alloc] at H2
  rw [hM] at H2 hvc ⊢
  have hMb : M ≤ 100 := by rw [← hM]; exact HLb.out
  clear h2 hp HP1 d5 d5l d6 d6l d6f hM hasc HLb
  go_upto_region 8 with (fail)
  generalize hW3 : (w2.alloc _).alloc _ = W3 at *
  generalize w2.heap.size = b7 at *
  generalize b7 + 1 = b8 at *
  clear hW3
  have HF := Lib.hid (FromI_calls tb low W W3 [] _ H2.out)
  unfold encI at HF
  obtain ⟨_, q7⟩ := H2.out.has 1 rfl
  have d7 := (blk_get q7).1 0
  have d7l := (blk_get q7).2.2
  simp only [List.getElem?_toArray, List.getElem?_cons_zero] at d7
  clear q7 H2
  go_wp2_with fail
  (with_reducible refine HF.out.mono ?_)
  rintro e w4 ⟨bt, bl, bh, pl, rfl, h4⟩
  obtain ⟨C, hC⟩ : ∃ C, snC b5 b6 b7 b8 tb bt bl bh (.slice a2 N2 c2) (.slice va M vc) pl low l = C := ⟨_, rfl⟩
  have HCe := Lib.hid hC
  have hl40 : l.length < 1000 := by rw [HM.out]; omega
  have Hl40 := Lib.hid hl40
  have HSEQ := Lib.hid (betw1I_seq (h := h) Ho'.out (some low) none pl (.pointer none) l tb bt bl bh (Nat.lt_trans hl40 (by decide)) (3 - 1))
  rw [betLI_eq] at HSEQ
  have HS0 : RowKit.Hid (St W [] ((objI O h l tb :: iterLI tb bt bl bh pl (.pointer none) (some low) none) ++ (blkA w4.heap.size 31 #[.slice none 0 0] :: prA (.slice none 0 0) [] :: blkA b5 46 #[.slice a2 N2 c2] :: blkA b6 4 #[.bool false] :: blkA b7 25 #[.pointer (some ⟨tb, 0, none⟩)] :: blkA b8 31 #[.slice va M vc] :: prA (.slice va M vc) l :: [])) (w4.alloc (.cells #[.slice none 0 0] 31))) := by
    have h5 := (h4.newblk 31 #[.slice none 0 0]).nilR 51 2
    refine h5.perm ?_
    exact (by classical exact List.perm_iff_count.2 fun a => by simp only [List.cons_append, List.count_append, List.count_cons, prA, List.length_nil, entsI, List.flatMap_nil] <;> omega)
  have hsel : (selM (some low) none l).length ≤ M := by rw [← HM.out]; exact List.length_filter_le _ _
  have Hsel := Lib.hid hsel
  obtain ⟨xs, hxs0⟩ : ∃ xs, selM (some low) none l = xs := ⟨_, rfl⟩
  have Hxs0 := Lib.hid hxs0
  rw [hxs0] at HSEQ Hsel
  have hnn := iterF_ne_nil bt bl bh
  unfold iterFI at *
  clear h4 HF hC hsel hxs0 d7 d7l hl40
  go_wp2_with fail
  generalize hW5 : w4.alloc _ = W5 at *
  generalize w4.heap.size = b11 at *
  clear hW5
  refine wp_rangeFunc_st (n := 3) rfl (enters_of Try.func64 (by kernel_rfl) rfl) HSEQ.out (fun _ => rfl)
    (snI O b11 tb later l C) (fun _ _ => [pureA False]) _ HS0.out ?h0 ?round ?done ?stop
  case h0 =>
    intro Own Wx hW
    have h1 : St W [] (blkA b11 31 #[.slice none 0 0] :: prA (.slice none 0 0) [] :: (objI O h l tb :: (C ++ Own))) Wx := by
      rw [← HCe.out]
      refine hW.perm ?_
      exact (by classical exact List.perm_iff_count.2 fun a => by simp only [snC, List.cons_append, List.count_append, List.count_cons, List.count_nil] <;> omega)
    have h2 := St.prv.2 ⟨_, h1⟩
    have h3 := St.hobj.2 ⟨h, h2.perm (List.Perm.swap _ _ _)⟩
    exact h3.perm (List.Perm.swap _ _ _)
  case round =>
    intro l0 pre x rest Own Wx hxs hs
    gi_wp2
    refine ⟨hs, fun Own2 W2 hs2 => ?_⟩
    clear hs Own Wx
    obtain ⟨v0, h1⟩ := St.prv.1 (show St W [] (prVar b11 pre :: (hobjA O tb (itS later pre.length l) :: C ++ Own2)) W2 from hs2)
    have hpre : pre.length + 1 ≤ xs.length := by rw [hxs]; simp
    obtain ⟨_, hb⟩ := h1.has 0 rfl
    obtain ⟨_, hp⟩ := h1.has 1 rfl
    obtain ⟨ga, gc, rfl, -⟩ := row_shape hp
    have d0 := (blk_get hb).1 0
    have dl := (blk_get hb).2.2
    simp only [List.getElem?_toArray, List.getElem?_cons_zero] at d0
    obtain ⟨v', w', hr, ⟨a', c', rfl⟩, e0, e1, e2, h2⟩ := h1.appPr 31 x (by have := Hsel.out; omega)
    generalize hW6 : w'.setCell ⟨b11, 0, none⟩ (.slice a' (pre.length + 1) c') = W6 at h2
    obtain ⟨_, hb3⟩ := h2.has 0 rfl
    have f0 := (blk_get hb3).1 0
    have f0l := (blk_get hb3).2.2
    simp only [List.getElem?_toArray, List.getElem?_cons_zero] at f0
    have hC5 : C[0]? = some (blkA b5 46 #[.slice a2 N2 c2]) := by rw [← HCe.out]; rfl
    have hC7 : C[2]? = some (blkA b7 25 #[.pointer (some ⟨tb, 0, none⟩)]) := by rw [← HCe.out]; rfl
    have hC8 : C[3]? = some (blkA b8 31 #[.slice va M vc]) := by rw [← HCe.out]; rfl
    have hCi : ∀ (i : Nat) (A : Asn) (P1 P2 P3 : Asn) (w : World), C[i]? = some A → St W [] (P1 :: P2 :: P3 :: C ++ Own2) w → ∃ f, A.p w f := fun i A P1 P2 P3 w hi hs => hs.has (i + 1 + 1 + 1) (by
      rw [List.cons_append, List.cons_append, List.cons_append, List.getElem?_cons_succ, List.getElem?_cons_succ, List.getElem?_cons_succ, List.getElem?_append_left (List.getElem?_eq_some_iff.1 hi).1]
      exact hi)
    have HC5 := Lib.hid hC5
    have HC7 := Lib.hid hC7
    have HCi := Lib.hid hCi
    obtain ⟨_, q8⟩ := hCi 3 _ _ _ _ _ hC8 h2
    obtain ⟨_, q5⟩ := hCi 0 _ _ _ _ _ hC5 h2
    have f8 := (blk_get q8).1 0
    have f8l := (blk_get q8).2.2
    have f5 := (blk_get q5).1 0
    have f5l := (blk_get q5).2.2
    simp only [List.getElem?_toArray, List.getElem?_cons_zero] at f8 f5
    obtain ⟨T, hT⟩ : ∃ T, itS later pre.length l = T := ⟨_, rfl⟩
    rw [hT] at h2
    have HT := Lib.hid hT
    have HTa : RowKit.Hid (AscM T ∧ T.length ≤ M + N2) := by
      refine ⟨?_, ?_⟩
      · rw [← hT]
        cases hn : pre.length with
        | zero => exact Hasc.out
        | succ n => rw [itS_succ Hasc.out]; exact runS_asc Hasc.out later
      · have := itS_len Hasc.out later pre.length
        rw [hT, HM.out, HN2.out] at this
        exact this
    have h6 : St W [] (hobjA O tb (runS (later.take 0) T) :: blkA b11 31 #[.slice a' (pre.length + 1) c'] :: prA (.slice a' (pre.length + 1) c') (pre ++ [x]) :: C ++ Own2) W6 := by
      refine h2.perm ?_
      exact (by classical exact List.perm_iff_count.2 fun a => by simp only [List.take_zero, runS, List.foldl_nil, List.cons_append, List.count_append, List.count_cons] <;> omega)
    have H6 := Lib.hid h6
    have Hxs := Lib.hid hxs
    obtain ⟨n, hn⟩ : ∃ n, pre.length + 1 = n := ⟨_, rfl⟩
    have Hn := Lib.hid hn
    have hnM : ¬ M < n := by have := Hsel.out; omega
    rw [hn] at hr hW6 f0 H6
    have HR := Lib.hid hr
    clear hs2 hpre h1 hb hp h2 hb3 hC5 hC7 hC8 hCi q8 q5 hT h6 hxs hn hr
    unfold encI valI
    gi_wp2_with (gi_at_builtin; refine wpListIn_append_run rfl _ _ _ rfl rfl rfl HR.out ?_)
    obtain ⟨REST, hRE⟩ : ∃ REST, blkA b11 31 #[.slice a' n c'] :: prA (.slice a' n c') (pre ++ [x]) :: (C ++ Own2) = REST := ⟨_, rfl⟩
    have HRE := Lib.hid hRE
    have HC7r : RowKit.Hid (∀ (P1 P2 : Asn) w, St W [] (P1 :: P2 :: REST) w → w.cell? ⟨b7, 0, none⟩ = some (.pointer (some ⟨tb, 0, none⟩)) ∧ b7 < w.heap.size) := by
      intro P1 P2 w hs
      obtain ⟨_, q7⟩ := hs.has (2 + 1 + 1 + 1 + 1) (A := blkA b7 25 #[.pointer (some ⟨tb, 0, none⟩)]) (by
        rw [← hRE, List.getElem?_cons_succ, List.getElem?_cons_succ, List.getElem?_cons_succ, List.getElem?_cons_succ, List.getElem?_append_left (List.getElem?_eq_some_iff.1 HC7.out).1]
        exact HC7.out)
      have d7 := (blk_get q7).1 0
      simp only [List.getElem?_toArray, List.getElem?_cons_zero] at d7
      exact ⟨d7, (blk_get q7).2.2⟩
    have H8 : RowKit.Hid (St W [] (hobjA O tb (runS (later.take 0) T) :: REST) W6) := by
      rw [← hRE]
      exact H6.out
    clear H6 hRE f0 f0l f8 f8l f5 f5l HC7 HC5 HCi HR d0 dl hnM
    gi_loopw [58] (fun z wr => ∃ k : Nat, z = .int .i64 k ∧ k ≤ N2 ∧ RowKit.Hid (St W [] (hobjA O tb (runS (later.take k) T) :: REST) wr)) (fun z _ => N2 - (intOf z).toNat)
    case atStart => exact ⟨0, rfl, Nat.zero_le _, H8⟩
    case round =>
      clear H8
      obtain ⟨k, rfl, hk0, Hs⟩ := hrel
      rename_i wr
      by_cases hk : k < N2
      · have hkl : k < later.length := by rw [HN2.out]; exact hk
        obtain ⟨-, a0, c0', e0', -, hlcell⟩ := HLv.out
        obtain ⟨g, o, ea, hg, c0, c1, c2, k0, k1⟩ := hlcell k hkl
        have e0'' := (Value.slice.inj e0').1
        rw [ea] at e0''
        subst e0''
        have hb0 := Hs.out.below0
        have hstep : runS (later.take (k + 1)) T = opS (runS (later.take k) T) later[k] := by
          rw [List.take_add_one, List.getElem?_eq_getElem hkl]
          exact runS_snoc _ _ _
        have Hstep := Lib.hid hstep
        have hlen : (runS (later.take k) T).length < 1000 := by
          have h1 := runS_len (later.take k) T
          have h2 := HTa.out.2
          rw [List.length_take] at h1
          omega
        have Hlen := Lib.hid hlen
        replace c0 := (hb0.cell (p := ⟨g, o + k * 3, none⟩) hg).trans c0
        replace c1 := (hb0.cell (p := ⟨g, o + k * 3 + 1, none⟩) hg).trans c1
        replace c2 := (hb0.cell (p := ⟨g, o + k * 3 + 2, none⟩) hg).trans c2
        replace hg : g < wr.heap.size := Nat.lt_of_lt_of_le hg hb0.size
        clear hb0 hstep hlen e0' hlcell
        generalize runS (later.take k) T = L at *
        generalize later[k] = op at *
        obtain ⟨K, X, V⟩ := op
        simp only at c0 c1 c2 k0 k1 Hstep
        have hkn : (k : Int) < N2 := by omega
        clear hkl
        obtain ⟨d7, d7l⟩ := HC7r.out emp _ wr (St.emp.2 Hs.out)
        obtain ⟨hh, hs⟩ := St.hobj.1 Hs.out
        have hnb : St W [] (objI O hh L tb :: blkA wr.heap.size 53 #[.int .u8 K, .int .i64 X, .int .i64 V] :: REST) (wr.alloc (.cells #[.int .u8 K, .int .i64 X, .int .i64 V] 53)) := (hs.newblk 53 #[.int .u8 K, .int .i64 X, .int .i64 V]).perm (List.Perm.swap _ _ _)
        clear hs
        have hmod : K % 3 = 0 ∨ K % 3 = 1 ∨ K % 3 = 2 := by omega
        rcases hmod with hm | hm | hm
        · have ht3 : K.tmod 3 = 0 := by rw [Int.tmod_eq_emod_of_nonneg k0]; exact hm
          have Hst2 : RowKit.Hid (runS (later.take (k + 1)) T = putM L X V) := by
            show _ = _
            rw [Hstep.out]
            simp [opS, hm]
          have HP := Lib.hid (PutI_calls Ho.out Ho'.out hh L tb X V W _ [] _ (by have := Hlen.out; omega) hnb)
          unfold ptrI encI valI at HP
          clear Hs Hstep hnb hm
          gi_wp2_with fail
          refine ⟨trivial, (CallsIn.inRound l0 (callsIn_wide.2 HP.out)).mono ?_⟩
          rintro e w7 ⟨rfl, h', h7⟩
          have H7 : RowKit.Hid (St W [] (hobjA O tb (runS (later.take (k + 1)) T) :: REST) w7) := by
            rw [Hst2.out]
            have h8 := St.hobj.2 ⟨h', h7⟩
            exact (h8.perm (List.Perm.swap _ _ _)).drop
          generalize getM L X = gm at *
          clear h7 HP d7 d7l c0 c1 c2 hg
          gi_wp2
          go_roundw
          case rel => exact ⟨k + 1, by go_num, by omega, H7⟩
          case measure => simp [intOf]; omega
        · have ht3 : K.tmod 3 = 1 := by rw [Int.tmod_eq_emod_of_nonneg k0]; exact hm
          have Hst2 : RowKit.Hid (runS (later.take (k + 1)) T = delM L X) := by
            show _ = _
            rw [Hstep.out]
            simp [opS, hm]
          have HP := Lib.hid (DeleteI_calls Ho.out Ho'.out hh L tb X W _ [] _ (by have := Hlen.out; omega) hnb)
          unfold ptrI encI at HP
          clear Hs Hstep hnb hm
          gi_wp2_with fail
          refine ⟨trivial, (CallsIn.inRound l0 (callsIn_wide.2 HP.out)).mono ?_⟩
          rintro e w7 ⟨rfl, h', h7⟩
          have H7 : RowKit.Hid (St W [] (hobjA O tb (runS (later.take (k + 1)) T) :: REST) w7) := by
            rw [Hst2.out]
            have h8 := St.hobj.2 ⟨h', h7⟩
            exact (h8.perm (List.Perm.swap _ _ _)).drop
          generalize getM L X = gm at *
          clear h7 HP d7 d7l c0 c1 c2 hg
          gi_wp2
          go_roundw
          case rel => exact ⟨k + 1, by go_num, by omega, H7⟩
          case measure => simp [intOf]; omega
        · have ht3 : K.tmod 3 = 2 := by rw [Int.tmod_eq_emod_of_nonneg k0]; exact hm
          have Hst2 : RowKit.Hid (runS (later.take (k + 1)) T = delM L X) := by
            show _ = _
            rw [Hstep.out]
            simp [opS, hm]
          have HP := Lib.hid (DeleteI_calls Ho.out Ho'.out hh L tb X W _ [] _ (by have := Hlen.out; omega) hnb)
          unfold ptrI encI at HP
          clear Hs Hstep hnb hm
          gi_wp2_with fail
          refine ⟨trivial, (CallsIn.inRound l0 (callsIn_wide.2 HP.out)).mono ?_⟩
          rintro e w7 ⟨rfl, h', h7⟩
          have H7 : RowKit.Hid (St W [] (hobjA O tb (runS (later.take (k + 1)) T) :: REST) w7) := by
            rw [Hst2.out]
            have h8 := St.hobj.2 ⟨h', h7⟩
            exact (h8.perm (List.Perm.swap _ _ _)).drop
          generalize getM L X = gm at *
          clear h7 HP d7 d7l c0 c1 c2 hg
          gi_wp2
          go_roundw
          case rel => exact ⟨k + 1, by go_num, by omega, H7⟩
          case measure => simp [intOf]; omega
      · obtain rfl : k = N2 := by omega
        have H9 : RowKit.Hid (St W [] (snI O b11 tb later l C (pre ++ [x]) ++ Own2) wr) := by
          have h9 := Hs.out
          have e3 : runS (later.take k) T = itS later (pre ++ [x]).length l := by
            rw [← HN2.out, List.take_length, List.length_append, List.length_singleton, ← HT.out]
            rfl
          rw [e3, ← HRE.out] at h9
          have h10 : St W [] (blkA b11 31 #[.slice a' n c'] :: prA (.slice a' n c') (pre ++ [x]) :: (hobjA O tb (itS later (pre ++ [x]).length l) :: (C ++ Own2))) wr := by
            refine h9.perm ?_
            exact (by classical exact List.perm_iff_count.2 fun a => by simp only [List.count_append, List.count_cons] <;> omega)
          exact St.prv.2 ⟨_, h10⟩
        clear Hs hk hk0
        gi_wp2
        exact H9.out
  case stop =>
    intro D c pre x rest Wx hxs hW
    have h1 : St W [] (pureA False :: defA D :: []) Wx := hW.perm (List.Perm.swap _ _ _)
    exact (St.pure.1 h1).1.elim
  case done =>
    intro D Wx hW
    have h1 : St W [] (prVar b11 xs :: (hobjA O tb (itS later xs.length l) :: defA D :: C)) Wx := by
      refine hW.perm ?_
      unfold snI
      exact (by classical exact List.perm_iff_count.2 fun a => by simp only [List.count_cons] <;> omega)
    obtain ⟨gv, h2⟩ := St.prv.1 h1
    obtain ⟨_, hp⟩ := h2.has 1 rfl
    obtain ⟨ga, gc, rfl, hgc, -, -⟩ := row_shape hp
    obtain ⟨K, hK⟩ : ∃ K, xs.length = K := ⟨_, rfl⟩
    have HK := Lib.hid hK
    rw [hK] at h2 hgc
    have hKM : K ≤ M := by rw [← hK]; exact Hsel.out
    obtain ⟨T, hT⟩ : ∃ T, itS later K l = T := ⟨_, rfl⟩
    have HT := Lib.hid hT
    rw [hT] at h2
    have h3 : St W [] (prA (.slice va M vc) l :: (blkA b8 31 #[.slice va M vc] :: hobjA O tb T :: blkA b11 31 #[.slice ga K gc] :: prA (.slice ga K gc) xs :: defA D :: blkA b5 46 #[.slice a2 N2 c2] :: blkA b6 4 #[.bool false] :: blkA b7 25 #[.pointer (some ⟨tb, 0, none⟩)] :: starA (iterLI tb bt bl bh pl (.pointer none) (some low) none) :: [])) Wx := by
      rw [← HCe.out] at h2
      have h4 : St W [] (iterLI tb bt bl bh pl (.pointer none) (some low) none ++ (prA (.slice va M vc) l :: (blkA b8 31 #[.slice va M vc] :: hobjA O tb T :: blkA b11 31 #[.slice ga K gc] :: prA (.slice ga K gc) xs :: defA D :: blkA b5 46 #[.slice a2 N2 c2] :: blkA b6 4 #[.bool false] :: blkA b7 25 #[.pointer (some ⟨tb, 0, none⟩)] :: []))) Wx := by
        refine h2.perm ?_
        exact (by classical exact List.perm_iff_count.2 fun a => by simp only [snC, List.count_append, List.count_cons, List.count_nil] <;> omega)
      refine (St.star.2 h4).perm ?_
      exact (by classical exact List.perm_iff_count.2 fun a => by simp only [List.count_cons, List.count_nil] <;> omega)
    have HRF := Lib.hid (RFrom_calls l low (.slice va M vc) (by have := Hl40.out; omega) W Wx [] _ h3)
    rw [from_selM Hasc.out, Hxs0.out] at HRF
    obtain ⟨_, q8⟩ := h3.has 1 rfl
    have f8 := (blk_get q8).1 0
    have f8l := (blk_get q8).2.2
    simp only [List.getElem?_toArray, List.getElem?_cons_zero] at f8
    clear hW h1 h2 hp h3 q8 hK hT
    go_wp2_with fail
    (with_reducible refine HRF.out.mono ?_)
    rintro e w6 ⟨wv, rfl, h6⟩
    obtain ⟨_, hp⟩ := h6.has 0 rfl
    obtain ⟨wa, wc, rfl, hwc, -, -⟩ := row_shape hp
    rw [HK.out] at h6 hwc ⊢
    have h7 : St W [] (blkA b8 31 #[.slice va M vc] :: prA (.slice va M vc) l :: (hobjA O tb T :: blkA b11 31 #[.slice ga K gc] :: prA (.slice ga K gc) xs :: prA (.slice wa K wc) xs :: defA D :: blkA b5 46 #[.slice a2 N2 c2] :: blkA b6 4 #[.bool false] :: blkA b7 25 #[.pointer (some ⟨tb, 0, none⟩)] :: starA (iterLI tb bt bl bh pl (.pointer none) (some low) none) :: [])) w6 := by
      refine h6.perm ?_
      exact (by classical exact List.perm_iff_count.2 fun a => by simp only [List.count_cons, List.count_nil] <;> omega)
    clear h6 hp HRF f8 f8l
    by_cases hK0 : K = 0
    · subst hK0
      obtain rfl : T = l := HT.out.symm
      have h7b : St W [] (hobjA O tb T :: (blkA b8 31 #[.slice va M vc] :: prA (.slice va M vc) T :: blkA b11 31 #[.slice ga 0 gc] :: prA (.slice ga 0 gc) xs :: prA (.slice wa 0 wc) xs :: defA D :: blkA b5 46 #[.slice a2 N2 c2] :: blkA b6 4 #[.bool false] :: blkA b7 25 #[.pointer (some ⟨tb, 0, none⟩)] :: starA (iterLI tb bt bl bh pl (.pointer none) (some low) none) :: [])) w6 := by
        refine h7.perm ?_
        exact (by classical exact List.perm_iff_count.2 fun a => by simp only [List.count_cons, List.count_nil] <;> omega)
      clear h7
      obtain ⟨hh, h8⟩ := St.hobj.1 (h7b)
      have H8 : RowKit.Hid (St W [] (emp :: emp :: emp :: emp :: ([blkA b6 4 #[.bool false], blkA b11 31 #[.slice ga 0 gc], prA (.slice ga 0 gc) xs, prA (.slice wa 0 wc) xs, blkA b8 31 #[.slice va M vc], prA (.slice va M vc) (T), objI O hh (T) tb, starA (iterLI tb bt bl bh pl (.pointer none) (some low) none)] ++ [defA D, blkA b5 46 #[.slice a2 N2 c2], blkA b7 25 #[.pointer (some ⟨tb, 0, none⟩)]])) w6) := by
        refine St.emp.2 (St.emp.2 (St.emp.2 (St.emp.2 ?_)))
        refine h8.perm ?_
        exact (by classical exact List.perm_iff_count.2 fun a => by simp only [List.cons_append, List.nil_append, List.count_cons, List.count_nil] <;> omega)
      clear h8
      go_upto_region 34 with (fail)
      refine rSn34I (w0 := W) (fp0 := []) b6 b8 b11 tb bt bl bh O hh low (.slice ga 0 gc) (.slice wa 0 wc) (.slice va M vc) pl xs (T) Ho'.out Hasc.out Hl40.out [defA D, blkA b5 46 #[.slice a2 N2 c2], blkA b7 25 #[.pointer (some ⟨tb, 0, none⟩)]] _ (by kernel_rfl) rfl rfl rfl rfl rfl rfl rfl H8.out ?_
      intro u w8 h9
      have H9 : RowKit.Hid (St W [] (defA D :: (blkA b6 4 #[.bool true] :: [pureA (u 106 = .bool true), prA (u 112) (selM (some low) none (T)), prA (u 115) (selM (some low) none (T)), pureA (u 116 = .bool true), blkA b11 31 #[.slice ga 0 gc], prA (.slice ga 0 gc) xs, prA (.slice wa 0 wc) xs, blkA b8 31 #[.slice va M vc], prA (.slice va M vc) (T), objI O hh (T) tb, starA (iterLI tb bt bl bh pl (.pointer none) (some low) none), blkA b5 46 #[.slice a2 N2 c2], blkA b7 25 #[.pointer (some ⟨tb, 0, none⟩)]])) w8) := by
        refine h9.perm ?_
        exact (by classical exact List.perm_iff_count.2 fun a => by simp only [pick_true, vpick_true, List.cons_append, List.nil_append, List.count_cons, List.count_nil] <;> omega)
      clear h9 H8
      simp only [putL, List.map, List.foldl, Act.put, List.setIfInBounds_toArray, List.set_cons_succ, List.set_cons_zero]
      go_step
      go_step
      go_wp2
      refine bodyPostM_mark H9.out rfl fun w' hw' => ?_
      obtain ⟨_, q6⟩ := hw'.has 0 rfl
      have e6 := (blk_get q6).1 0
      simp only [List.getElem?_toArray, List.getElem?_cons_zero] at e6
      exact ⟨.bool true, by simp [results, Try.results5, go_sem, e6], rfl, hb5 ▸ hw'.below0⟩
    · have hKp : decide ((K : Int) > 0) = true := by simp; omega
      obtain ⟨K', rfl⟩ : ∃ K', K = K' + 1 := ⟨K - 1, by omega⟩
      have hTe : T = runS later l := by rw [← HT.out]; exact itS_succ Hasc.out later K'
      have HTe := Lib.hid hTe
      obtain ⟨KK, hKK⟩ : ∃ KK, K' + 1 = KK := ⟨_, rfl⟩
      rw [hKK] at h7 hKp ⊢
      have hKp2 : 0 < KK := by omega
      have H7 : RowKit.Hid (∃ lv, St W [] (blkA b8 31 #[lv] :: prA lv (runS (later.take 0) l) :: (hobjA O tb T :: blkA b11 31 #[.slice ga KK gc] :: prA (.slice ga KK gc) xs :: prA (.slice wa KK wc) xs :: defA D :: blkA b5 46 #[.slice a2 N2 c2] :: blkA b6 4 #[.bool false] :: blkA b7 25 #[.pointer (some ⟨tb, 0, none⟩)] :: starA (iterLI tb bt bl bh pl (.pointer none) (some low) none) :: [])) w6) := ⟨_, h7⟩
      obtain ⟨_, q5⟩ := h7.has 7 rfl
      have f5 := (blk_get q5).1 0
      have f5l := (blk_get q5).2.2
      simp only [List.getElem?_toArray, List.getElem?_cons_zero] at f5
      clear h7 q5 hTe hKK hK0
      go_wp2
      clear f5 f5l
      go_loopg [85] N2 (fun g z wr => ∃ k : Nat, z = .int .i64 k ∧ g + k = N2 ∧ RowKit.Hid (∃ lv, St W [] (blkA b8 31 #[lv] :: prA lv (runS (later.take k) l) :: (hobjA O tb T :: blkA b11 31 #[.slice ga KK gc] :: prA (.slice ga KK gc) xs :: prA (.slice wa KK wc) xs :: defA D :: blkA b5 46 #[.slice a2 N2 c2] :: blkA b6 4 #[.bool false] :: blkA b7 25 #[.pointer (some ⟨tb, 0, none⟩)] :: starA (iterLI tb bt bl bh pl (.pointer none) (some low) none) :: [])) wr))
      case atStart => exact ⟨0, rfl, rfl, H7⟩
      case round =>
        clear H7
        obtain ⟨k, rfl, hgk, Hs⟩ := hrel
        obtain ⟨lv, hs⟩ := Hs.out
        clear Hs
        have Hs := Lib.hid hs
        obtain ⟨_, q8⟩ := hs.has 0 rfl
        obtain ⟨_, hpl⟩ := hs.has 1 rfl
        obtain ⟨la, lc, rfl, hlc, -, -⟩ := row_shape hpl
        have f8 := (blk_get q8).1 0
        have f8l := (blk_get q8).2.2
        simp only [List.getElem?_toArray, List.getElem?_cons_zero] at f8
        clear q8 hpl
        have Hgk := Lib.hid hgk
        by_cases hk : k < N2
        · have hkl : k < later.length := by rw [HN2.out]; exact hk
          obtain ⟨-, a0, c0', e0', -, hlcell⟩ := HLv.out
          obtain ⟨g, o, ea, hg, p0, p1, p2, k0, k1⟩ := hlcell k hkl
          have e0'' := (Value.slice.inj e0').1
          rw [ea] at e0''
          subst e0''
          have hb0 := hs.below0
          have hstep : runS (later.take (k + 1)) l = opS (runS (later.take k) l) later[k] := by
            rw [List.take_add_one, List.getElem?_eq_getElem hkl]
            exact runS_snoc _ _ _
          have Hstep := Lib.hid hstep
          have hlen : (runS (later.take k) l).length < 1000 := by
            have h1 := runS_len (later.take k) l
            have h2 := HM.out
            rw [List.length_take] at h1
            omega
          have Hlen := Lib.hid hlen
          have HLa := Lib.hid (runS_asc Hasc.out (later.take k))
          replace p0 := (hb0.cell (p := ⟨g, o + k * 3, none⟩) hg).trans p0
          replace p1 := (hb0.cell (p := ⟨g, o + k * 3 + 1, none⟩) hg).trans p1
          replace p2 := (hb0.cell (p := ⟨g, o + k * 3 + 2, none⟩) hg).trans p2
          replace hg : g < wr.heap.size := Nat.lt_of_lt_of_le hg hb0.size
          clear hb0 hstep hlen e0' hlcell hs hgk
          generalize runS (later.take k) l = L at *
          generalize later[k] = op at *
          obtain ⟨KO, X, V⟩ := op
          simp only at p0 p1 p2 k0 k1 Hstep
          obtain ⟨n, hn⟩ : ∃ n, L.length = n := ⟨_, rfl⟩
          have Hn := Lib.hid hn
          rw [hn] at Hs f8 hlc
          have hkn : (k : Int) < N2 := by omega
          obtain ⟨eb, heb⟩ : ∃ eb, wr.heap.size = eb := ⟨_, rfl⟩
          have hnb : St W [] (prA (.slice la n lc) L :: (blkA b8 31 #[.slice la n lc] :: blkA eb 53 #[.int .u8 KO, .int .i64 X, .int .i64 V] :: (hobjA O tb T :: blkA b11 31 #[.slice ga KK gc] :: prA (.slice ga KK gc) xs :: prA (.slice wa KK wc) xs :: defA D :: blkA b5 46 #[.slice (some ⟨g, o, none⟩) N2 c2] :: blkA b6 4 #[.bool false] :: blkA b7 25 #[.pointer (some ⟨tb, 0, none⟩)] :: starA (iterLI tb bt bl bh pl (.pointer none) (some low) none) :: []))) (wr.alloc (.cells #[.int .u8 KO, .int .i64 X, .int .i64 V] 53)) := by
            rw [← heb]
            refine (Hs.out.newblk 53 #[.int .u8 KO, .int .i64 X, .int .i64 V]).perm ?_
            exact (by classical exact List.perm_iff_count.2 fun a => by simp only [List.count_cons, List.count_nil] <;> omega)
          have Heb := Lib.hid heb
          clear hkl hn heb
          have hmod : KO % 3 = 0 ∨ KO % 3 = 1 ∨ KO % 3 = 2 := by omega
          rcases hmod with hm | hm | hm
          · have Hst2 : RowKit.Hid (runS (later.take (k + 1)) l = putM L X V) := by
              show _ = _
              rw [Hstep.out]
              simp [opS, hm]
            have ht3 : KO.tmod 3 = 0 := by rw [Int.tmod_eq_emod_of_nonneg k0]; exact hm
            have HRf := Lib.hid (RPut_calls L X V _ (by have := Hlen.out; omega) W _ [] _ hnb)
            clear Hs Hstep hnb hm
            go_wp2_with fail
            (with_reducible refine HRf.out.mono ?_)
            rintro e w7 ⟨v', rfl, v1, h9⟩
            rw [putF_putM HLa.out] at h9
            have h10 : St W [] (blkA b8 31 #[.slice la n lc] :: prA v' (putM L X V) :: (hobjA O tb T :: blkA b11 31 #[.slice ga KK gc] :: prA (.slice ga KK gc) xs :: prA (.slice wa KK wc) xs :: defA D :: blkA b5 46 #[.slice (some ⟨g, o, none⟩) N2 c2] :: blkA b6 4 #[.bool false] :: blkA b7 25 #[.pointer (some ⟨tb, 0, none⟩)] :: starA (iterLI tb bt bl bh pl (.pointer none) (some low) none) :: [])) w7 := by
              have h11 : St W [] ([prA v1 (delF X L), prA (.slice la n lc) L, blkA eb 53 #[.int .u8 KO, .int .i64 X, .int .i64 V]] ++ (blkA b8 31 #[.slice la n lc] :: prA v' (putM L X V) :: (hobjA O tb T :: blkA b11 31 #[.slice ga KK gc] :: prA (.slice ga KK gc) xs :: prA (.slice wa KK wc) xs :: defA D :: blkA b5 46 #[.slice (some ⟨g, o, none⟩) N2 c2] :: blkA b6 4 #[.bool false] :: blkA b7 25 #[.pointer (some ⟨tb, 0, none⟩)] :: starA (iterLI tb bt bl bh pl (.pointer none) (some low) none) :: []))) w7 := by
                refine h9.perm ?_
                exact (by classical exact List.perm_iff_count.2 fun a => by simp only [List.cons_append, List.nil_append, List.count_cons, List.count_nil] <;> omega)
              exact St.dropAll h11
            obtain ⟨_, hp'⟩ := h10.has 1 rfl
            obtain ⟨a', c', e', -, -, -⟩ := row_shape hp'
            generalize (putM L X V).length = n' at e'
            subst e'
            obtain ⟨ff, fl, fc, hset⟩ := h10.tbsetI 0 (.slice a' n' c')
            have f8 := fc 0
            simp only [List.getElem?_toArray, List.getElem?_cons_zero] at f8
            generalize hW8 : w7.setCell ⟨b8, 0, none⟩ (.slice a' n' c') = W8 at hset
            have H10 : RowKit.Hid (∃ lv, St W [] (blkA b8 31 #[lv] :: prA lv (runS (later.take (k + 1)) l) :: (hobjA O tb T :: blkA b11 31 #[.slice ga KK gc] :: prA (.slice ga KK gc) xs :: prA (.slice wa KK wc) xs :: defA D :: blkA b5 46 #[.slice (some ⟨g, o, none⟩) N2 c2] :: blkA b6 4 #[.bool false] :: blkA b7 25 #[.pointer (some ⟨tb, 0, none⟩)] :: starA (iterLI tb bt bl bh pl (.pointer none) (some low) none) :: [])) W8) := ⟨.slice a' n' c', by
              rw [Hst2.out]
              exact hset⟩
            clear h9 h10 hset fc hp' HRf p0 p1 p2 hg Hst2
            go_wp2
            go_roundg (gk - 1)
            case rel => exact ⟨k + 1, by go_num, by have := Hgk.out; omega, H10⟩
            case measure => have := Hgk.out; omega
          · have Hst2 : RowKit.Hid (runS (later.take (k + 1)) l = delM L X) := by
              show _ = _
              rw [Hstep.out]
              simp [opS, hm]
            have ht3 : KO.tmod 3 = 1 := by rw [Int.tmod_eq_emod_of_nonneg k0]; exact hm
            have HRf := Lib.hid (RDelete_calls L X _ (by have := Hlen.out; omega) W _ [] _ hnb)
            clear Hs Hstep hnb hm
            go_wp2_with fail
            (with_reducible refine HRf.out.mono ?_)
            rintro e w7 ⟨v', rfl, h9⟩
            rw [delF_delM HLa.out] at h9
            have h10 : St W [] (blkA b8 31 #[.slice la n lc] :: prA v' (delM L X) :: (hobjA O tb T :: blkA b11 31 #[.slice ga KK gc] :: prA (.slice ga KK gc) xs :: prA (.slice wa KK wc) xs :: defA D :: blkA b5 46 #[.slice (some ⟨g, o, none⟩) N2 c2] :: blkA b6 4 #[.bool false] :: blkA b7 25 #[.pointer (some ⟨tb, 0, none⟩)] :: starA (iterLI tb bt bl bh pl (.pointer none) (some low) none) :: [])) w7 := by
              have h11 : St W [] ([prA (.slice la n lc) L, blkA eb 53 #[.int .u8 KO, .int .i64 X, .int .i64 V]] ++ (blkA b8 31 #[.slice la n lc] :: prA v' (delM L X) :: (hobjA O tb T :: blkA b11 31 #[.slice ga KK gc] :: prA (.slice ga KK gc) xs :: prA (.slice wa KK wc) xs :: defA D :: blkA b5 46 #[.slice (some ⟨g, o, none⟩) N2 c2] :: blkA b6 4 #[.bool false] :: blkA b7 25 #[.pointer (some ⟨tb, 0, none⟩)] :: starA (iterLI tb bt bl bh pl (.pointer none) (some low) none) :: []))) w7 := by
                refine h9.perm ?_
                exact (by classical exact List.perm_iff_count.2 fun a => by simp only [List.cons_append, List.nil_append, List.count_cons, List.count_nil] <;> omega)
              exact St.dropAll h11
            obtain ⟨_, hp'⟩ := h10.has 1 rfl
            obtain ⟨a', c', e', -, -, -⟩ := row_shape hp'
            generalize (delM L X).length = n' at e'
            subst e'
            obtain ⟨ff, fl, fc, hset⟩ := h10.tbsetI 0 (.slice a' n' c')
            have f8 := fc 0
            simp only [List.getElem?_toArray, List.getElem?_cons_zero] at f8
            generalize hW8 : w7.setCell ⟨b8, 0, none⟩ (.slice a' n' c') = W8 at hset
            have H10 : RowKit.Hid (∃ lv, St W [] (blkA b8 31 #[lv] :: prA lv (runS (later.take (k + 1)) l) :: (hobjA O tb T :: blkA b11 31 #[.slice ga KK gc] :: prA (.slice ga KK gc) xs :: prA (.slice wa KK wc) xs :: defA D :: blkA b5 46 #[.slice (some ⟨g, o, none⟩) N2 c2] :: blkA b6 4 #[.bool false] :: blkA b7 25 #[.pointer (some ⟨tb, 0, none⟩)] :: starA (iterLI tb bt bl bh pl (.pointer none) (some low) none) :: [])) W8) := ⟨.slice a' n' c', by
              rw [Hst2.out]
              exact hset⟩
            clear h9 h10 hset fc hp' HRf p0 p1 p2 hg Hst2
            go_wp2
            go_roundg (gk - 1)
            case rel => exact ⟨k + 1, by go_num, by have := Hgk.out; omega, H10⟩
            case measure => have := Hgk.out; omega
          · have Hst2 : RowKit.Hid (runS (later.take (k + 1)) l = delM L X) := by
              show _ = _
              rw [Hstep.out]
              simp [opS, hm]
            have ht3 : KO.tmod 3 = 2 := by rw [Int.tmod_eq_emod_of_nonneg k0]; exact hm
            have HRf := Lib.hid (RDelete_calls L X _ (by have := Hlen.out; omega) W _ [] _ hnb)
            clear Hs Hstep hnb hm
            go_wp2_with fail
            (with_reducible refine HRf.out.mono ?_)
            rintro e w7 ⟨v', rfl, h9⟩
            rw [delF_delM HLa.out] at h9
            have h10 : St W [] (blkA b8 31 #[.slice la n lc] :: prA v' (delM L X) :: (hobjA O tb T :: blkA b11 31 #[.slice ga KK gc] :: prA (.slice ga KK gc) xs :: prA (.slice wa KK wc) xs :: defA D :: blkA b5 46 #[.slice (some ⟨g, o, none⟩) N2 c2] :: blkA b6 4 #[.bool false] :: blkA b7 25 #[.pointer (some ⟨tb, 0, none⟩)] :: starA (iterLI tb bt bl bh pl (.pointer none) (some low) none) :: [])) w7 := by
              have h11 : St W [] ([prA (.slice la n lc) L, blkA eb 53 #[.int .u8 KO, .int .i64 X, .int .i64 V]] ++ (blkA b8 31 #[.slice la n lc] :: prA v' (delM L X) :: (hobjA O tb T :: blkA b11 31 #[.slice ga KK gc] :: prA (.slice ga KK gc) xs :: prA (.slice wa KK wc) xs :: defA D :: blkA b5 46 #[.slice (some ⟨g, o, none⟩) N2 c2] :: blkA b6 4 #[.bool false] :: blkA b7 25 #[.pointer (some ⟨tb, 0, none⟩)] :: starA (iterLI tb bt bl bh pl (.pointer none) (some low) none) :: []))) w7 := by
                refine h9.perm ?_
                exact (by classical exact List.perm_iff_count.2 fun a => by simp only [List.cons_append, List.nil_append, List.count_cons, List.count_nil] <;> omega)
              exact St.dropAll h11
            obtain ⟨_, hp'⟩ := h10.has 1 rfl
            obtain ⟨a', c', e', -, -, -⟩ := row_shape hp'
            generalize (delM L X).length = n' at e'
            subst e'
            obtain ⟨ff, fl, fc, hset⟩ := h10.tbsetI 0 (.slice a' n' c')
            have f8 := fc 0
            simp only [List.getElem?_toArray, List.getElem?_cons_zero] at f8
            generalize hW8 : w7.setCell ⟨b8, 0, none⟩ (.slice a' n' c') = W8 at hset
            have H10 : RowKit.Hid (∃ lv, St W [] (blkA b8 31 #[lv] :: prA lv (runS (later.take (k + 1)) l) :: (hobjA O tb T :: blkA b11 31 #[.slice ga KK gc] :: prA (.slice ga KK gc) xs :: prA (.slice wa KK wc) xs :: defA D :: blkA b5 46 #[.slice (some ⟨g, o, none⟩) N2 c2] :: blkA b6 4 #[.bool false] :: blkA b7 25 #[.pointer (some ⟨tb, 0, none⟩)] :: starA (iterLI tb bt bl bh pl (.pointer none) (some low) none) :: [])) W8) := ⟨.slice a' n' c', by
              rw [Hst2.out]
              exact hset⟩
            clear h9 h10 hset fc hp' HRf p0 p1 p2 hg Hst2
            go_wp2
            go_roundg (gk - 1)
            case rel => exact ⟨k + 1, by go_num, by have := Hgk.out; omega, H10⟩
            case measure => have := Hgk.out; omega
        · obtain rfl : k = N2 := by omega
          have hs2 : St W [] (hobjA O tb T :: (blkA b8 31 #[.slice la (runS (later.take k) l).length lc] :: prA (.slice la (runS (later.take k) l).length lc) (runS (later.take k) l) :: blkA b11 31 #[.slice ga KK gc] :: prA (.slice ga KK gc) xs :: prA (.slice wa KK wc) xs :: defA D :: blkA b5 46 #[.slice a2 k c2] :: blkA b6 4 #[.bool false] :: blkA b7 25 #[.pointer (some ⟨tb, 0, none⟩)] :: starA (iterLI tb bt bl bh pl (.pointer none) (some low) none) :: [])) wr := by
            refine hs.perm ?_
            exact (by classical exact List.perm_iff_count.2 fun a => by simp only [List.count_cons, List.count_nil] <;> omega)
          have eT : runS (later.take k) l = T := by rw [HTe.out, ← HN2.out, List.take_length]
          rw [eT] at hs2 f8 hlc
          have hTl : T.length < 1000 := by
            have h1 := runS_len later l
            rw [HTe.out]
            have h2 := HM.out
            have h3 := HN2.out
            omega
          have HTl := Lib.hid hTl
          have HTa := Lib.hid (runS_asc Hasc.out later)
          rw [← HTe.out] at HTa
          obtain ⟨n, hn⟩ : ∃ n, T.length = n := ⟨_, rfl⟩
          rw [hn] at hs2 f8 hlc
          clear hs Hs hgk hTl hn
          obtain ⟨hh, h8⟩ := St.hobj.1 (hs2)
          have H8 : RowKit.Hid (St W [] (emp :: emp :: emp :: emp :: ([blkA b6 4 #[.bool false], blkA b11 31 #[.slice ga KK gc], prA (.slice ga KK gc) xs, prA (.slice wa KK wc) xs, blkA b8 31 #[.slice la n lc], prA (.slice la n lc) (T), objI O hh (T) tb, starA (iterLI tb bt bl bh pl (.pointer none) (some low) none)] ++ [defA D, blkA b5 46 #[.slice a2 k c2], blkA b7 25 #[.pointer (some ⟨tb, 0, none⟩)]])) wr) := by
            refine St.emp.2 (St.emp.2 (St.emp.2 (St.emp.2 ?_)))
            refine h8.perm ?_
            exact (by classical exact List.perm_iff_count.2 fun a => by simp only [List.cons_append, List.nil_append, List.count_cons, List.count_nil] <;> omega)
          clear h8
          go_upto_region 34 with (fail)
          refine rSn34I (w0 := W) (fp0 := []) b6 b8 b11 tb bt bl bh O hh low (.slice ga KK gc) (.slice wa KK wc) (.slice la n lc) pl xs (T) Ho'.out HTa.out HTl.out [defA D, blkA b5 46 #[.slice a2 k c2], blkA b7 25 #[.pointer (some ⟨tb, 0, none⟩)]] _ (by kernel_rfl) rfl rfl rfl rfl rfl rfl rfl H8.out ?_
          intro u w8 h9
          have H9 : RowKit.Hid (St W [] (defA D :: (blkA b6 4 #[.bool true] :: [pureA (u 106 = .bool true), prA (u 112) (selM (some low) none (T)), prA (u 115) (selM (some low) none (T)), pureA (u 116 = .bool true), blkA b11 31 #[.slice ga KK gc], prA (.slice ga KK gc) xs, prA (.slice wa KK wc) xs, blkA b8 31 #[.slice la n lc], prA (.slice la n lc) (T), objI O hh (T) tb, starA (iterLI tb bt bl bh pl (.pointer none) (some low) none), blkA b5 46 #[.slice a2 k c2], blkA b7 25 #[.pointer (some ⟨tb, 0, none⟩)]])) w8) := by
            refine h9.perm ?_
            exact (by classical exact List.perm_iff_count.2 fun a => by simp only [pick_true, vpick_true, List.cons_append, List.nil_append, List.count_cons, List.count_nil] <;> omega)
          clear h9 H8
          simp only [putL, List.map, List.foldl, Act.put, List.setIfInBounds_toArray, List.set_cons_succ, List.set_cons_zero]
          go_step
          go_step
          go_wp2
          refine bodyPostM_mark H9.out rfl fun w' hw' => ?_
          obtain ⟨_, q6⟩ := hw'.has 0 rfl
          have e6 := (blk_get q6).1 0
          simp only [List.getElem?_toArray, List.getElem?_cons_zero] at e6
          exact ⟨.bool true, by simp [results, Try.results5, go_sem, e6], rfl, hb5 ▸ hw'.below0⟩
end Go.Proofs.Ytldofiankhimjaa
