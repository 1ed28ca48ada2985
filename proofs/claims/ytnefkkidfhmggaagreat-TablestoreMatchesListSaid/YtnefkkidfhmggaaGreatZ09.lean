/- Part 9 of the proof: Rh2, Ri2, Rs2, Ea -/
import Derived.Test.YtnefkkidfhmggaaGreatZ08
import Derived.Deep.QuietTactic
import Derived.BigQuiet
import Derived.Test.YtnefkkidfhmggaaGreatZ01
import Derived.OwnWalkIn
import Derived.TacticsInMore
import Derived.LoopIn
import Derived.LoopNIn
/- The reference's store: Put. -/
namespace Go.Proofs.YtnefkkidfhmggaaGreat
open Go Go.RowKit
theorem limit_calls (w : World) : Calls Tryz.prog 74 #[] w fun e w' => e = .returned (.int .i64 4611686018427387904) ∧ w = w' := by
 go_enter Tryz.func74, Tryz.ntmps74
 go_wp2
 go_ret
 exact ⟨rfl, rfl⟩
/-- A store is put into the result. -/
theorem cpRS {w0 w : World} {fp0 : List Nat} {R : List Asn} {A : Asn} {vb rb : Nat} {c0 c1 c2 r0 r1 r2 : Value} (h : St w0 fp0 (A :: blkA vb 37 #[c0, c1, c2] :: blkA rb 37 #[r0, r1, r2] :: R) w) :
 St w0 fp0 (A :: R) (((w.setCell ⟨rb, 0, none⟩ c0).setCell ⟨rb, 1, none⟩ c1).setCell ⟨rb, 2, none⟩ c2) := by
 have h2 := (h.perm (List.Perm.cons _ (List.Perm.swap _ _ _))).perm (List.Perm.swap _ _ _)
 have h3 := ((h2.setB 0 (by simp) c0).setB 1 (by simp) c1).setB 2 (by simp) c2
 exact (h3.drop.perm (List.Perm.swap _ _ _)).drop
theorem riA_snoc {w0 w : World} {fp0 : List Nat} {R : List Asn} {v : Value} {l : List Ri} (x : Ri) (h : St w0 fp0 (rowA 56 2 v (l.length + 1) (riV l ++ [.int .i64 x.id, x.v]) :: R) w) : St w0 fp0 (riA v (l ++ [x]) :: R) w := by
 unfold riA
 rw [riV_append, List.length_append]
 exact h
/-- List and number are put into the store's variable, this one into the result. -/
theorem setRN {w0 w : World} {fp0 : List Nat} {R : List Asn} {A : Asn} {vb rb cols : Nat} {o : Value} {next : Int} {r0 r1 r2 : Value} (h : St w0 fp0 (A :: blkA vb 37 #[.int .i64 cols, o, .int .i64 next] :: blkA rb 37 #[r0, r1, r2] :: R) w) (v : Value) (nx : Int) :
 St w0 fp0 (A :: R) (((((w.setCell ⟨vb, 1, none⟩ v).setCell ⟨vb, 2, none⟩ (.int .i64 nx)).setCell ⟨rb, 0, none⟩ (.int .i64 cols)).setCell ⟨rb, 1, none⟩ v).setCell ⟨rb, 2, none⟩ (.int .i64 nx)) := by
 have h1 := ((h.perm (List.Perm.swap _ _ _)).setB 1 (by simp) v).setB 2 (by simp) (.int .i64 nx)
 exact cpRS (h1.perm (List.Perm.swap _ _ _))
theorem rp_cells {w0 w : World} {fp0 : List Nat} {R : List Asn} {A B : Asn} {vb lb lo n c i : Nat} {c0 c2 : Value} {l : List Ri} {y : Ri} (h : St w0 fp0 (A :: blkA vb 37 #[c0, .slice (some ⟨lb, lo, none⟩) n c, c2] :: B :: riA (.slice (some ⟨lb, lo, none⟩) n c) l :: R) w) (hy : l[i]? = some y) :
 w.cell? ⟨vb, 1, none⟩ = some (.slice (some ⟨lb, lo, none⟩) n c) ∧ vb < w.heap.size ∧ w.cell? ⟨lb, lo + i * 2, none⟩ = some (.int .i64 y.id) ∧ w.cell? ⟨lb, lo + i * 2 + 1, none⟩ = some y.v ∧ lb < w.heap.size := by
 obtain ⟨_, hb⟩ := h.has 1 rfl
 obtain ⟨_, hp⟩ := h.has 3 rfl
 obtain ⟨hi, rfl⟩ := List.getElem?_eq_some_iff.1 hy
 obtain ⟨b, o, c', e1, q1, q2⟩ := ri_cells (riA_sl hp) i hi
 obtain ⟨e1, -, -⟩ := Value.slice.inj e1
 injection e1 with e1
 injection e1 with e1 e2
 subst e1 e2
 exact ⟨(blk_get hb).1 1, (blk_get hb).2.2, q1, q2, World.block_lt_of_cell? w _ q1⟩
/-- The lists behind Put. -/
def PutPost (w0 : World) (fp0 : List Nat) (R : List Asn) (q : Bool) (lv lv2 : Value) (x : Ri) (l : List Ri) (w : World) : Prop := (q = true ∧ St w0 fp0 (riA lv2 (putR x.id x l) :: riA lv l :: R) w) ∨ (q = false ∧ lv2 = lv ∧ St w0 fp0 (riA lv l :: R) w)
set_option maxHeartbeats 8000000 in
set_option maxRecDepth 20000 in
theorem RPut_calls (cols : Nat) (lv : Value) (next : Int) (x : Ri) (l : List Ri) (hasc : l.Pairwise fun a b => a.id < b.id) (hlen : l.length < 400000000000) (w0 w : World) (fp0 : List Nat) (R : List Asn) (hv : Rd w0 fp0 R fun w => ValsAt w x.r x.v) (hS : St w0 fp0 (riA lv l :: R) w) :
 Calls Tryz.prog 33 #[rsV cols lv next, .int .i64 x.id, x.v] w fun e w' => ∃ lv2, e = .returned (.tuple #[rsV cols lv2 (putN cols x.id x.r next), errV (putOk cols x.id x.r)]) ∧ PutPost w0 fp0 R (putOk cols x.id x.r) lv lv2 x l w' := by
 obtain ⟨_, hp⟩ := hS.has 0 rfl
 obtain ⟨a, c, rfl⟩ := (riA_sl hp).shape
 obtain ⟨n, hn⟩ : ∃ n, l.length = n := ⟨_, rfl⟩
 have hn63 : n ≤ 9223372036854775807 := by omega
 have HN := Lib.hid hn
 have HL := Lib.hid hlen
 have H0 : RowKit.Hid (St w0 fp0 (riA (.slice a n c) l :: blkA w.heap.size 37 #[.int .i64 cols, .slice a n c, .int .i64 next] :: blkA (w.heap.size + 1) 37 #[.int .i64 0, .slice none 0 0, .int .i64 0] :: R) ((w.alloc (.cells #[.int .i64 cols, .slice a n c, .int .i64 next] 37)).alloc (.cells #[.int .i64 0, .slice none 0 0, .int .i64 0] 37))) := by
  have h1 := ((hS.newblk 37 #[.int .i64 cols, .slice a n c, .int .i64 next]).newblk 37 #[.int .i64 0, .slice none 0 0, .int .i64 0])
  rw [hn] at h1
  simp only [World.size_alloc] at h1
  exact St_re (L := [_, _, _]) h1 [2, 1, 0] [] (by kernel_rfl)
 have HV : RowKit.Hid (∀ M w', St w0 fp0 (M ++ R) w' → ValsAt w' x.r x.v) := fun M w' h => hv.at h
 have HAL := Lib.hid (stepP_all (k := x.id) (x := x) hasc)
 have HSL := Lib.hid (fun m => stepP_len x.id x (l.take m) ([], false))
 have HST : RowKit.Hid (∀ i (hi : i < l.length), (l.take (i + 1)).foldl (stepP x.id x) ([], false) = stepP x.id x ((l.take i).foldl (stepP x.id x) ([], false)) l[i]) := fun i hi => by
  rw [List.take_add_one, List.getElem?_eq_getElem hi, List.foldl_append]
  rfl
 unfold putN
 obtain ⟨q, hq⟩ : ∃ q, putOk cols x.id x.r = q := ⟨_, rfl⟩
 have HQ : RowKit.Hid ((decide (1 ≤ x.id ∧ x.id ≤ 4611686018427387904) && storB cols x.r) = q) := hq
 rw [hq, hn]
 clear hS hp hn hlen hv hasc hq
 obtain ⟨k, xa, xn, xc, xr⟩ := x
 unfold Ri.v at *
 unfold rsV
 simp only at *
 obtain ⟨X, hX⟩ : ∃ X : Ri, (⟨k, xa, xn, xc, xr⟩ : Ri) = X := ⟨_, rfl⟩
 have HX := Lib.hid hX
 rw [hX] at HAL HSL HST ⊢
 clear hX
 obtain ⟨vb, hvb⟩ : ∃ vb, w.heap.size = vb := ⟨_, rfl⟩
 have H0' : RowKit.Hid (∃ W, (w.alloc (.cells #[.int .i64 cols, .slice a n c, .int .i64 next] 37)).alloc (.cells #[.int .i64 0, .slice none 0 0, .int .i64 0] 37) = W ∧ St w0 fp0 (riA (.slice a n c) l :: blkA vb 37 #[.int .i64 cols, .slice a n c, .int .i64 next] :: blkA (vb + 1) 37 #[.int .i64 0, .slice none 0 0, .int .i64 0] :: R) W) := ⟨_, rfl, by rw [← hvb]; exact H0.out⟩
 clear H0
 go_enter Tryz.func33, Tryz.ntmps33
 go_upto_region 1 with (fail)
 obtain ⟨W, hW, hs⟩ := H0'.out
 rw [hW]
 have H1 := Lib.hid hs
 obtain ⟨_, hb1⟩ := hs.has 1 rfl
 obtain ⟨_, hb2⟩ := hs.has 2 rfl
 have c0 := (blk_get hb1).1 0
 have c1 := (blk_get hb1).1 1
 have c2 := (blk_get hb1).1 2
 have d0 := (blk_get hb2).1 0
 have d1 := (blk_get hb2).1 1
 have d2 := (blk_get hb2).1 2
 have g0 := (blk_get hb2).2.1 0
 have g1 := (blk_get hb2).2.1 1
 have g2 := (blk_get hb2).2.1 2
 have bl1 := (blk_get hb1).2.2
 have bl2 := (blk_get hb2).2.2
 simp only [List.getElem?_toArray, List.getElem?_cons_zero, List.getElem?_cons_succ] at c0 c1 c2 d0 d1 d2
 have HEND : RowKit.Hid (St w0 fp0 (riA (.slice a n c) l :: R) (((W.setCell ⟨vb + 1, 0, none⟩ (.int .i64 cols)).setCell ⟨vb + 1, 1, none⟩ (.slice a n c)).setCell ⟨vb + 1, 2, none⟩ (.int .i64 next))) := cpRS hs
 clear hW hvb H0' hs hb1 hb2
 by_cases h1 : k < 1
 · have HE : RowKit.Hid (q = false) := by show _ = _; rw [← HQ.out, decide_eq_false (by omega)]; rfl
   obtain rfl := HE.out
   go_wp2
   refine bodyPost_ret (v := .tuple #[.agg #[.int .i64 cols, .slice a n c, .int .i64 next], .int .i64 1]) (by clear HV HAL HSL HST HEND; simp [results, Tryz.results33, go_sem, *]) rfl ?_
   exact ⟨_, rfl, .inr ⟨rfl, rfl, HEND.out⟩⟩
 · by_cases h2 : 4611686018427387904 < k
   · have HE : RowKit.Hid (q = false) := by show _ = _; rw [← HQ.out, decide_eq_false (by omega)]; rfl
     obtain rfl := HE.out
     go_wp2_with (first | (go_at_call 74; (with_reducible refine (limit_calls _).mono ?_); rintro e w1 ⟨rfl, rfl⟩))
     refine bodyPost_ret (v := .tuple #[.agg #[.int .i64 cols, .slice a n c, .int .i64 next], .int .i64 1]) (by clear HV HAL HSL HST HEND; simp [results, Tryz.results33, go_sem, *]) rfl ?_
     exact ⟨_, rfl, .inr ⟨rfl, rfl, HEND.out⟩⟩
   · have HSTO := Lib.hid (RStorable_calls cols xr (.slice xa xn xc) W (HV.out [_, _, _] W H1.out))
     have HQ2 : RowKit.Hid (storB cols xr = q) := by show _ = _; rw [← HQ.out, decide_eq_true (by omega), Bool.true_and]
     rw [HQ2.out] at HSTO
     have HQ3 : RowKit.Hid (q = true → decide (1 ≤ k ∧ k ≤ 4611686018427387904) = true) := fun _ => decide_eq_true (by omega)
     cases q
     · go_wp2_with (first
        | (go_at_call 74; (with_reducible refine (limit_calls _).mono ?_); rintro e w1 ⟨rfl, rfl⟩))
       (with_reducible refine HSTO.out.mono ?_)
       rintro e w1 ⟨rfl, hb⟩
       have hs := H1.out.mono hb
       clear HEND c0 c1 c2 d0 d1 d2 g0 g1 g2 bl1 bl2 hb
       obtain ⟨_, hb1⟩ := hs.has 1 rfl
       obtain ⟨_, hb2⟩ := hs.has 2 rfl
       have c0 := (blk_get hb1).1 0
       have c1 := (blk_get hb1).1 1
       have c2 := (blk_get hb1).1 2
       have f1 := (blk_get hb1).2.1 1
       have f2 := (blk_get hb1).2.1 2
       have d0 := (blk_get hb2).1 0
       have d1 := (blk_get hb2).1 1
       have d2 := (blk_get hb2).1 2
       have g0 := (blk_get hb2).2.1 0
       have g1 := (blk_get hb2).2.1 1
       have g2 := (blk_get hb2).2.1 2
       have bl1 := (blk_get hb1).2.2
       have bl2 := (blk_get hb2).2.2
       simp only [List.getElem?_toArray, List.getElem?_cons_zero, List.getElem?_cons_succ] at c0 c1 c2 d0 d1 d2
       have HEND : RowKit.Hid (St w0 fp0 (riA (.slice a n c) l :: R) (((w1.setCell ⟨vb + 1, 0, none⟩ (.int .i64 cols)).setCell ⟨vb + 1, 1, none⟩ (.slice a n c)).setCell ⟨vb + 1, 2, none⟩ (.int .i64 next))) := cpRS hs
       clear hb1 hb2 hs H1 HSTO
       go_wp2
       refine bodyPost_ret (v := .tuple #[.agg #[.int .i64 cols, .slice a n c, .int .i64 next], .int .i64 1]) (by clear HV HAL HSL HST HEND; simp [results, Tryz.results33, go_sem, *]) rfl ?_
       exact ⟨_, rfl, .inr ⟨rfl, rfl, HEND.out⟩⟩
     · go_wp2_with (first
        | (go_at_call 74; (with_reducible refine (limit_calls _).mono ?_); rintro e w1 ⟨rfl, rfl⟩))
       (with_reducible refine HSTO.out.mono ?_)
       rintro e w1 ⟨rfl, hb⟩
       have H2 : RowKit.Hid (∃ s, s = (l.take 0).foldl (stepP k X) ([], false) ∧ St w0 fp0 (riA (.slice none 0 0) s.1 :: blkA vb 37 #[.int .i64 cols, .slice a n c, .int .i64 next] :: blkA (vb + 1) 37 #[.int .i64 0, .slice none 0 0, .int .i64 0] :: riA (.slice a n c) l :: R) w1) := by
        refine ⟨_, rfl, ?_⟩
        rw [List.take_zero]
        have h := (H1.out.mono hb).nilR 56 2
        exact St_re (L := [_, _, _, _]) h [0, 2, 3, 1] [] (by kernel_rfl)
       clear HEND c0 c1 c2 d0 d1 d2 g0 g1 g2 bl1 bl2 hb H1 HSTO
       obtain ⟨s0, hs0, hs⟩ := H2.out
       obtain ⟨_, hb1⟩ := hs.has 1 rfl
       have c1 := (blk_get hb1).1 1
       have bl1 := (blk_get hb1).2.2
       simp only [List.getElem?_toArray, List.getElem?_cons_zero, List.getElem?_cons_succ] at c1
       clear hs hs0 hb1
       go_wp2
       go_loopg [8, 9, 10] n (fun g z8 z9 z wr => ∃ (i : Nat) (b : Bool), z = .int .i64 i ∧ z9 = .bool b ∧ g + i = n ∧ RowKit.Hid (∃ s, s = (l.take i).foldl (stepP k X) ([], false) ∧ b = s.2 ∧ St w0 fp0 (riA z8 s.1 :: blkA vb 37 #[.int .i64 cols, .slice a n c, .int .i64 next] :: blkA (vb + 1) 37 #[.int .i64 0, .slice none 0 0, .int .i64 0] :: riA (.slice a n c) l :: R) wr))
       case atStart =>
        obtain ⟨s0, hs0, hs⟩ := H2.out
        exact ⟨0, false, rfl, rfl, rfl, s0, hs0, by rw [hs0]; rfl, hs⟩
       case round =>
        clear H2 c1 bl1
        obtain ⟨i, b, rfl, rfl, hgi, Hs⟩ := hrel
        obtain ⟨s, hs0, hbs, hs⟩ := Hs.out
        obtain ⟨_, hb1⟩ := hs.has 1 rfl
        obtain ⟨_, hb2⟩ := hs.has 2 rfl
        have c0 := (blk_get hb1).1 0
        have c1 := (blk_get hb1).1 1
        have c2 := (blk_get hb1).1 2
        have f1 := (blk_get hb1).2.1 1
        have f2 := (blk_get hb1).2.1 2
        have d0 := (blk_get hb2).1 0
        have d1 := (blk_get hb2).1 1
        have d2 := (blk_get hb2).1 2
        have g0 := (blk_get hb2).2.1 0
        have g1 := (blk_get hb2).2.1 1
        have g2 := (blk_get hb2).2.1 2
        have bl1 := (blk_get hb1).2.2
        have bl2 := (blk_get hb2).2.2
        simp only [List.getElem?_toArray, List.getElem?_cons_zero, List.getElem?_cons_succ] at c0 c1 c2 d0 d1 d2
        by_cases hi : i < n
        · have hil : i < l.length := by rw [HN.out]; exact hi
          have hst := HST.out i hil
          rw [← hs0] at hst
          obtain ⟨_, hp⟩ := hs.has 3 rfl
          obtain ⟨lb, lo, c', e1, q1, q2⟩ := ri_cells (riA_sl hp) i hil
          obtain ⟨rfl, -, rfl⟩ := Value.slice.inj e1
          have hql := World.block_lt_of_cell? _ _ q1
          have hi' : (i : Int) < n := by omega
          have hlen : s.1.length + 2 < 1099511627776 := by
           have h1 := HSL.out i
           rw [← hs0, List.length_take, List.length_nil] at h1
           have := HL.out
           omega
          have Hlen := Lib.hid hlen
          have Hgi := Lib.hid hgi
          have Hst := Lib.hid hst
          have HS := Lib.hid hs
          have HY := Lib.hid (List.getElem?_eq_getElem hil)
          clear e1 hgi hst hp hlen hb1 hb2 hs hs0 Hs d0 d1 d2 g0 g1 g2 bl2 f1 f2
          generalize l[i] = y at *
          clear hil
          obtain ⟨yid, ya, yn, yc, yr⟩ := y
          obtain ⟨out, pl⟩ := s
          unfold Ri.v at q2
          simp only at q1 q2 Hst hbs HS Hlen
          subst hbs
          cases b
          · by_cases hge : k ≤ yid
            · by_cases hx : yid = k
              · have hxk : (yid != k) = false := by simp [hx]
                have hx2 := Lib.hid hx
                have hge2 := Lib.hid hge
                clear hx
                go_wp2_with (first | (at_builtin; refine wpList_appR rfl _ _ _ _ rfl rfl rfl appRI (HS.out.mono ((Below.refl _ _).alloc (Nat.le_refl _) _)) (src_litk (e' := 56) (by kernel_rfl) _ 2 _ 1 _ _ _ #[.int .i64 k, .slice xa xn xc] (heap_alloc_new _ _) rfl (by simp; exact ⟨rfl, rfl⟩)) (by have := Hlen.out; omega) ?_; intro v3 w3 h3; obtain ⟨k1, k2, k3, k4, k5⟩ := rp_cells h3.out HY.out; unfold Ri.v at k4; simp only at k3 k4))
                go_roundg (gk - 1)
                case rel => exact ⟨i + 1, true, by go_num, rfl, by have := Hgi.out; omega, (out ++ [X], true), by rw [Hst.out]; simp [stepP, hx2.out], rfl, (by have h4 := riA_snoc (⟨k, xa, xn, xc, xr⟩ : Ri) h3.out; rw [HX.out] at h4; exact h4)⟩
                case measure => have := Hgi.out; omega
              · have hxk : (yid != k) = true := by simp [hx]
                have hx2 := Lib.hid hx
                have hge2 := Lib.hid hge
                clear hx
                go_wp2_with (first
                 | (at_builtin; refine wpList_appR rfl _ _ _ _ rfl rfl rfl appRI (HS.out.mono ((Below.refl _ _).alloc (Nat.le_refl _) _)) (src_litk (e' := 56) (by kernel_rfl) _ 2 _ 1 _ _ _ #[.int .i64 k, .slice xa xn xc] (heap_alloc_new _ _) rfl (by simp; exact ⟨rfl, rfl⟩)) (by have := Hlen.out; omega) ?_; intro v3 w3 h3; obtain ⟨k1, k2, k3, k4, k5⟩ := rp_cells h3.out HY.out; unfold Ri.v at k4; simp only at k3 k4)
                 | (at_builtin; refine wpList_appR rfl _ _ _ _ rfl rfl rfl appRI ((riA_snoc (⟨k, xa, xn, xc, xr⟩ : Ri) h3.out).mono ((Below.refl _ _).alloc (Nat.le_refl _) _)) (src_litk (e' := 56) (by kernel_rfl) _ 2 _ 1 _ _ _ #[.int .i64 yid, .slice ya yn yc] (heap_alloc_new _ _) rfl (by simp; exact ⟨rfl, rfl⟩)) (by have := Hlen.out; simp; omega) ?_; intro v4 w4 h4))
                go_roundg (gk - 1)
                case rel => exact ⟨i + 1, true, by go_num, rfl, by have := Hgi.out; omega, (out ++ [X] ++ [⟨yid, ya, yn, yc, yr⟩], true), by rw [Hst.out]; simp [stepP, hx2.out, hge2.out], rfl, (by have h5 := riA_snoc (⟨yid, ya, yn, yc, yr⟩ : Ri) h4.out; rw [HX.out] at h5; exact h5)⟩
                case measure => have := Hgi.out; omega
            · have hx : ¬ yid = k := by omega
              have hxk : (yid != k) = true := by simp [hx]
              have hx2 := Lib.hid hx
              have hge2 := Lib.hid hge
              clear hx
              go_wp2_with (first | (at_builtin; refine wpList_appR rfl _ _ _ _ rfl rfl rfl appRI (HS.out.mono ((Below.refl _ _).alloc (Nat.le_refl _) _)) (src_litk (e' := 56) (by kernel_rfl) _ 2 _ 1 _ _ _ #[.int .i64 yid, .slice ya yn yc] (heap_alloc_new _ _) rfl (by simp; exact ⟨rfl, rfl⟩)) (by have := Hlen.out; omega) ?_; intro v3 w3 h3; obtain ⟨k1, k2, k3, k4, k5⟩ := rp_cells h3.out HY.out; unfold Ri.v at k4; simp only at k3 k4))
              go_roundg (gk - 1)
              case rel => exact ⟨i + 1, false, by go_num, rfl, by have := Hgi.out; omega, (out ++ [⟨yid, ya, yn, yc, yr⟩], false), by rw [Hst.out]; have h9 : ¬ k ≤ yid := (by have := hge2.out; omega); simp [stepP, hx2.out, if_neg h9], rfl, riA_snoc (⟨yid, ya, yn, yc, yr⟩ : Ri) h3.out⟩
              case measure => have := Hgi.out; omega
          · by_cases hx : yid = k
            · have hxk : (yid != k) = false := by simp [hx]
              have hx2 := Lib.hid hx
              clear hx
              go_wp2
              go_roundg (gk - 1)
              case rel => exact ⟨i + 1, true, by go_num, rfl, by have := Hgi.out; omega, (out, true), by rw [Hst.out]; simp [stepP, hx2.out], rfl, HS.out⟩
              case measure => have := Hgi.out; omega
            · have hxk : (yid != k) = true := by simp [hx]
              have hx2 := Lib.hid hx
              clear hx
              go_wp2_with (first | (at_builtin; refine wpList_appR rfl _ _ _ _ rfl rfl rfl appRI (HS.out.mono ((Below.refl _ _).alloc (Nat.le_refl _) _)) (src_litk (e' := 56) (by kernel_rfl) _ 2 _ 1 _ _ _ #[.int .i64 yid, .slice ya yn yc] (heap_alloc_new _ _) rfl (by simp; exact ⟨rfl, rfl⟩)) (by have := Hlen.out; omega) ?_; intro v3 w3 h3; obtain ⟨k1, k2, k3, k4, k5⟩ := rp_cells h3.out HY.out; unfold Ri.v at k4; simp only at k3 k4))
              go_roundg (gk - 1)
              case rel => exact ⟨i + 1, true, by go_num, rfl, by have := Hgi.out; omega, (out ++ [⟨yid, ya, yn, yc, yr⟩], true), by rw [Hst.out]; simp [stepP, hx2.out], rfl, riA_snoc (⟨yid, ya, yn, yc, yr⟩ : Ri) h3.out⟩
              case measure => have := Hgi.out; omega
        · obtain rfl : i = n := by omega
          rw [List.take_of_length_le (by rw [HN.out]; exact Nat.le_refl _)] at hs0
          obtain ⟨out, pl⟩ := s
          simp only at hbs hs
          subst hbs
          have hal := HAL.out
          rw [← hs0] at hal
          have hlen : out.length + 2 < 1099511627776 := by
           have h1 := HSL.out i
           rw [List.take_of_length_le (by rw [HN.out]; exact Nat.le_refl _), ← hs0, List.length_nil] at h1
           have := HL.out
           simp only at h1
           omega
          have Hlen := Lib.hid hlen
          have HS := Lib.hid hs
          have hw : IntKind.i64.wrap (k + 1) = k + 1 := IntWalk.i64_in _ (by omega)
          simp only at hal
          have HALL := Lib.hid hal
          clear hs0 hgi hi hlen Hs hal hs hb1 hb2
          cases b
          · go_upto_region 15 with (first | (at_builtin; refine wpList_appR rfl _ _ _ _ rfl rfl rfl appRI (HS.out.mono ((Below.refl _ _).alloc (Nat.le_refl _) _)) (src_litk (e' := 56) (by kernel_rfl) _ 2 _ 1 _ _ _ #[.int .i64 k, .slice xa xn xc] (heap_alloc_new _ _) rfl (by simp; exact ⟨rfl, rfl⟩)) (by have := Hlen.out; omega) ?_; intro v3 w3 h3))
            have H3 : RowKit.Hid (St w0 fp0 (riA v3 (putR k X l) :: blkA vb 37 #[.int .i64 cols, .slice a i c, .int .i64 next] :: blkA (vb + 1) 37 #[.int .i64 0, .slice none 0 0, .int .i64 0] :: riA (.slice a i c) l :: R) w3) := by
             have h4 := riA_snoc (⟨k, xa, xn, xc, xr⟩ : Ri) h3.out
             rw [HX.out] at h4
             have h5 := HALL.out
             rw [if_neg (by simp)] at h5
             rw [h5] at h4
             exact h4
            clear HS h3 c0 c1 c2 d0 d1 d2 f1 f2 g0 g1 g2 bl1 bl2 Hlen
            have hs := H3.out
            obtain ⟨_, hb1⟩ := hs.has 1 rfl
            obtain ⟨_, hb2⟩ := hs.has 2 rfl
            have c0 := (blk_get hb1).1 0
            have c1 := (blk_get hb1).1 1
            have c2 := (blk_get hb1).1 2
            have f1 := (blk_get hb1).2.1 1
            have f2 := (blk_get hb1).2.1 2
            have d0 := (blk_get hb2).1 0
            have d1 := (blk_get hb2).1 1
            have d2 := (blk_get hb2).1 2
            have g0 := (blk_get hb2).2.1 0
            have g1 := (blk_get hb2).2.1 1
            have g2 := (blk_get hb2).2.1 2
            have bl1 := (blk_get hb1).2.2
            have bl2 := (blk_get hb2).2.2
            simp only [List.getElem?_toArray, List.getElem?_cons_zero, List.getElem?_cons_succ] at c0 c1 c2 d0 d1 d2
            obtain ⟨_, hrow⟩ := hs.has 0 rfl
            obtain ⟨ya, yc, hyy⟩ := (riA_sl hrow).shape
            subst hyy
            obtain ⟨m, hm⟩ : ∃ m, (putR k X l).length = m := ⟨_, rfl⟩
            rw [hm] at hs
            have HF1 := Lib.hid (setRS hs (.slice ya m yc))
            have HF2 := Lib.hid (setRN hs (.slice ya m yc) (k + 1))
            rw [hm]
            clear hs hrow hb1 hb2 hm H3
            by_cases hnx : next ≤ k
            · have hmx : max next (k + 1) = k + 1 := by omega
              have HMX := Lib.hid hmx
              clear hmx
              go_wp2
              refine bodyPost_ret (v := .tuple #[.agg #[.int .i64 cols, .slice ya m yc, .int .i64 (k + 1)], .int .i64 0]) (by clear HV HAL HSL HST HF1 HF2; simp [results, Tryz.results33, go_sem, *]) rfl ?_
              refine ⟨.slice ya m yc, ?_, .inl ⟨rfl, ?_⟩⟩
              · rw [HMX.out]; rfl
              · rw [show X.id = k by rw [← HX.out]]
                exact HF2.out
            · have hmx : max next (k + 1) = next := by omega
              have HMX := Lib.hid hmx
              clear hmx
              go_wp2
              refine bodyPost_ret (v := .tuple #[.agg #[.int .i64 cols, .slice ya m yc, .int .i64 next], .int .i64 0]) (by clear HV HAL HSL HST HF1 HF2; simp [results, Tryz.results33, go_sem, *]) rfl ?_
              refine ⟨.slice ya m yc, ?_, .inl ⟨rfl, ?_⟩⟩
              · rw [HMX.out]; rfl
              · rw [show X.id = k by rw [← HX.out]]
                exact HF1.out
          · have H3 : RowKit.Hid (St w0 fp0 (riA u8 (putR k X l) :: blkA vb 37 #[.int .i64 cols, .slice a i c, .int .i64 next] :: blkA (vb + 1) 37 #[.int .i64 0, .slice none 0 0, .int .i64 0] :: riA (.slice a i c) l :: R) wr) := by
             have h5 := HALL.out
             rw [if_pos rfl] at h5
             have h4 := HS.out
             rw [h5] at h4
             exact h4
            clear HS c0 c1 c2 d0 d1 d2 f1 f2 g0 g1 g2 bl1 bl2 Hlen
            have hs := H3.out
            obtain ⟨_, hb1⟩ := hs.has 1 rfl
            obtain ⟨_, hb2⟩ := hs.has 2 rfl
            have c0 := (blk_get hb1).1 0
            have c1 := (blk_get hb1).1 1
            have c2 := (blk_get hb1).1 2
            have f1 := (blk_get hb1).2.1 1
            have f2 := (blk_get hb1).2.1 2
            have d0 := (blk_get hb2).1 0
            have d1 := (blk_get hb2).1 1
            have d2 := (blk_get hb2).1 2
            have g0 := (blk_get hb2).2.1 0
            have g1 := (blk_get hb2).2.1 1
            have g2 := (blk_get hb2).2.1 2
            have bl1 := (blk_get hb1).2.2
            have bl2 := (blk_get hb2).2.2
            simp only [List.getElem?_toArray, List.getElem?_cons_zero, List.getElem?_cons_succ] at c0 c1 c2 d0 d1 d2
            obtain ⟨_, hrow⟩ := hs.has 0 rfl
            obtain ⟨ya, yc, hyy⟩ := (riA_sl hrow).shape
            subst hyy
            obtain ⟨m, hm⟩ : ∃ m, (putR k X l).length = m := ⟨_, rfl⟩
            rw [hm] at hs
            have HF1 := Lib.hid (setRS hs (.slice ya m yc))
            have HF2 := Lib.hid (setRN hs (.slice ya m yc) (k + 1))
            rw [hm]
            clear hs hrow hb1 hb2 hm H3
            by_cases hnx : next ≤ k
            · have hmx : max next (k + 1) = k + 1 := by omega
              have HMX := Lib.hid hmx
              clear hmx
              go_wp2
              refine bodyPost_ret (v := .tuple #[.agg #[.int .i64 cols, .slice ya m yc, .int .i64 (k + 1)], .int .i64 0]) (by clear HV HAL HSL HST HF1 HF2; simp [results, Tryz.results33, go_sem, *]) rfl ?_
              refine ⟨.slice ya m yc, ?_, .inl ⟨rfl, ?_⟩⟩
              · rw [HMX.out]; rfl
              · rw [show X.id = k by rw [← HX.out]]
                exact HF2.out
            · have hmx : max next (k + 1) = next := by omega
              have HMX := Lib.hid hmx
              clear hmx
              go_wp2
              refine bodyPost_ret (v := .tuple #[.agg #[.int .i64 cols, .slice ya m yc, .int .i64 next], .int .i64 0]) (by clear HV HAL HSL HST HF1 HF2; simp [results, Tryz.results33, go_sem, *]) rfl ?_
              refine ⟨.slice ya m yc, ?_, .inl ⟨rfl, ?_⟩⟩
              · rw [HMX.out]; rfl
              · rw [show X.id = k by rw [← HX.out]]
                exact HF1.out
end Go.Proofs.YtnefkkidfhmggaaGreat
/- The reference's store: Insert; Same. -/
namespace Go.Proofs.YtnefkkidfhmggaaGreat
open Go Go.RowKit
set_option maxHeartbeats 4000000 in
set_option maxRecDepth 20000 in
theorem RInsert_calls (cols : Nat) (lv : Value) (x : Ri) (l : List Ri) (hasc : l.Pairwise fun a b => a.id < b.id) (hlen : l.length < 400000000000) (w0 w : World) (fp0 : List Nat) (R : List Asn) (hv : Rd w0 fp0 R fun w => ValsAt w x.r x.v) (hS : St w0 fp0 (riA lv l :: R) w) :
 Calls Tryz.prog 22 #[rsV cols lv x.id, x.v] w fun e w' => ∃ lv2, e = .returned (.tuple #[rsV cols lv2 (putN cols x.id x.r x.id), .int .i64 (insV cols x.r x.id)]) ∧ PutPost w0 fp0 R (putOk cols x.id x.r) lv lv2 x l w' := by
 obtain ⟨_, hp⟩ := hS.has 0 rfl
 obtain ⟨a, c, rfl⟩ := (riA_sl hp).shape
 obtain ⟨n, hn⟩ : ∃ n, l.length = n := ⟨_, rfl⟩
 rw [hn] at hS ⊢
 have h1 := (hS.newblk 37 #[.int .i64 cols, .slice a n c, .int .i64 x.id]).newblk 37 #[.int .i64 0, .slice none 0 0, .int .i64 0]
 simp only [World.size_alloc] at h1
 have h2 : St w0 fp0 (riA (.slice a n c) l :: (blkA (w.heap.size + 1) 37 #[.int .i64 0, .slice none 0 0, .int .i64 0] :: blkA w.heap.size 37 #[.int .i64 cols, .slice a n c, .int .i64 x.id] :: R)) _ := St_re (L := [_, _, _]) h1 [2, 0, 1] [] (by kernel_rfl)
 have HP := Lib.hid (RPut_calls cols (.slice a n c) x.id x l hasc hlen w0 _ fp0 _ ((hv.cons _).cons _) h2)
 have H1 := Lib.hid h2
 unfold insV
 obtain ⟨N2, hN2⟩ : ∃ N2, putN cols x.id x.r x.id = N2 := ⟨_, rfl⟩
 obtain ⟨q, hq⟩ : ∃ q, putOk cols x.id x.r = q := ⟨_, rfl⟩
 rw [hq, hN2] at HP ⊢
 have HQF : RowKit.Hid (q = false → N2 = x.id) := fun e => by rw [← hN2, putN, hq, e]; rfl
 unfold rsV at *
 unfold Ri.v at *
 clear hS h1 h2 hp hv hasc hlen hn hq hN2
 have hb : True := trivial
 clear hb
 go_enter Tryz.func22, Tryz.ntmps22
 go_upto_region 1 with (fail)
 generalize hW : (w.alloc _).alloc _ = W at *
 clear hW
 obtain ⟨vb, hvb⟩ : ∃ vb, w.heap.size = vb := ⟨_, rfl⟩
 rw [hvb] at HP H1 ⊢
 clear hvb
 obtain ⟨_, hb1⟩ := H1.out.has 2 rfl
 have c0 := (blk_get hb1).1 0
 have c1 := (blk_get hb1).1 1
 have c2 := (blk_get hb1).1 2
 have bl1 := (blk_get hb1).2.2
 simp only [List.getElem?_toArray, List.getElem?_cons_zero, List.getElem?_cons_succ] at c0 c1 c2
 clear hb1 H1
 go_wp2_with fail
 (with_reducible refine HP.out.mono ?_)
 rintro e w1 ⟨lv2, rfl, hpp⟩
 cases q with
 | true =>
  obtain ⟨-, hs⟩ : True ∧ St w0 fp0 (riA lv2 (putR x.id x l) :: riA (.slice a n c) l :: blkA (vb + 1) 37 #[.int .i64 0, .slice none 0 0, .int .i64 0] :: blkA vb 37 #[.int .i64 cols, .slice a n c, .int .i64 x.id] :: R) w1 := by
   rcases hpp with ⟨_, h⟩ | ⟨h, _⟩
   · exact ⟨trivial, h⟩
   · cases h
  obtain ⟨_, hrow⟩ := hs.has 0 rfl
  obtain ⟨ya, yc, hyy⟩ := (riA_sl hrow).shape
  subst hyy
  obtain ⟨m, hm⟩ : ∃ m, (putR x.id x l).length = m := ⟨_, rfl⟩
  rw [hm] at hs ⊢
  have hs' := hs.mono ((Below.refl _ w1).alloc (Nat.le_refl _) (.cells #[.int .i64 cols, .slice ya m yc, .int .i64 N2] 37))
  obtain ⟨_, hb2⟩ := hs'.has 2 rfl
  have d0 := (blk_get hb2).1 0
  have d1 := (blk_get hb2).1 1
  have d2 := (blk_get hb2).1 2
  have g0 := (blk_get hb2).2.1 0
  have g1 := (blk_get hb2).2.1 1
  have g2 := (blk_get hb2).2.1 2
  have bl2 := (blk_get hb2).2.2
  simp only [List.getElem?_toArray, List.getElem?_cons_zero, List.getElem?_cons_succ] at d0 d1 d2
  have HF : RowKit.Hid (PutPost w0 fp0 R true (.slice a n c) (.slice ya m yc) x l ((((w1.alloc (.cells #[.int .i64 cols, .slice ya m yc, .int .i64 N2] 37)).setCell ⟨vb + 1, 0, none⟩ (.int .i64 cols)).setCell ⟨vb + 1, 1, none⟩ (.slice ya m yc)).setCell ⟨vb + 1, 2, none⟩ (.int .i64 N2))) := by
   have h5 := ((((St_re (L := [_, _, _, _]) hs' [2, 3, 0, 1] [] (by kernel_rfl)).setB 0 (by simp) (.int .i64 cols)).setB 1 (by simp) (.slice ya m yc)).setB 2 (by simp) (.int .i64 N2)).drop.drop
   exact .inl ⟨rfl, h5⟩
  clear hs hs' hb2 hrow hm hpp HP c0 c1 c2 bl1
  unfold errV
  go_upto_region 3 with (fail)
  generalize hW : w1.alloc _ = W3 at *
  have k0 := World.cell?_alloc_new w1 #[.int .i64 cols, .slice ya m yc, .int .i64 N2] 37 0
  have k1 := World.cell?_alloc_new w1 #[.int .i64 cols, .slice ya m yc, .int .i64 N2] 37 1
  have k2 := World.cell?_alloc_new w1 #[.int .i64 cols, .slice ya m yc, .int .i64 N2] 37 2
  rw [hW] at k0 k1 k2
  simp only [List.getElem?_toArray, List.getElem?_cons_zero, List.getElem?_cons_succ] at k0 k1 k2
  have kl := World.block_lt_of_cell? W3 _ k0
  clear hW
  go_wp2
  refine bodyPost_ret (v := .tuple #[.agg #[.int .i64 cols, .slice ya m yc, .int .i64 N2], .int .i64 x.id]) (by clear HF; simp [results, Tryz.results22, go_sem, *]) rfl ?_
  exact ⟨_, rfl, HF.out⟩
 | false =>
  obtain ⟨hlv, hs⟩ : lv2 = .slice a n c ∧ St w0 fp0 (riA (.slice a n c) l :: blkA (vb + 1) 37 #[.int .i64 0, .slice none 0 0, .int .i64 0] :: blkA vb 37 #[.int .i64 cols, .slice a n c, .int .i64 x.id] :: R) w1 := by
   rcases hpp with ⟨h, _⟩ | ⟨_, h1, h⟩
   · cases h
   · exact ⟨h1, h⟩
  subst hlv
  have hN2 := HQF.out rfl
  subst hN2
  have hs' := hs.mono ((Below.refl _ w1).alloc (Nat.le_refl _) (.cells #[.int .i64 cols, .slice a n c, .int .i64 x.id] 37))
  obtain ⟨_, hb1⟩ := hs'.has 2 rfl
  obtain ⟨_, hb2⟩ := hs'.has 1 rfl
  have k0 := (blk_get hb1).1 0
  have k1 := (blk_get hb1).1 1
  have k2 := (blk_get hb1).1 2
  have kl := (blk_get hb1).2.2
  have d0 := (blk_get hb2).1 0
  have d1 := (blk_get hb2).1 1
  have d2 := (blk_get hb2).1 2
  have g0 := (blk_get hb2).2.1 0
  have g1 := (blk_get hb2).2.1 1
  have g2 := (blk_get hb2).2.1 2
  have bl2 := (blk_get hb2).2.2
  simp only [List.getElem?_toArray, List.getElem?_cons_zero, List.getElem?_cons_succ] at d0 d1 d2 k0 k1 k2
  have HF : RowKit.Hid (PutPost w0 fp0 R false (.slice a n c) (.slice a n c) x l ((((w1.alloc (.cells #[.int .i64 cols, .slice a n c, .int .i64 x.id] 37)).setCell ⟨vb + 1, 0, none⟩ (.int .i64 cols)).setCell ⟨vb + 1, 1, none⟩ (.slice a n c)).setCell ⟨vb + 1, 2, none⟩ (.int .i64 x.id))) := by
   have h5 := ((((St_re (L := [_, _, _]) hs' [1, 2, 0] [] (by kernel_rfl)).setB 0 (by simp) (.int .i64 cols)).setB 1 (by simp) (.slice a n c)).setB 2 (by simp) (.int .i64 x.id)).drop.drop
   exact .inr ⟨rfl, rfl, h5⟩
  clear hs hs' hb1 hb2 hpp HP c0 c1 c2 bl1
  unfold errV
  go_upto_region 3 with (fail)
  generalize hW : w1.alloc _ = W3 at *
  clear hW
  go_wp2
  refine bodyPost_ret (v := .tuple #[.agg #[.int .i64 cols, .slice a n c, .int .i64 x.id], .int .i64 0]) (by clear HF; simp [results, Tryz.results22, go_sem, *]) rfl ?_
  exact ⟨_, rfl, HF.out⟩
end Go.Proofs.YtnefkkidfhmggaaGreat
/- The reference's Same, of lists of rows. -/
namespace Go.Proofs.YtnefkkidfhmggaaGreat
open Go Go.RowKit
/-- A list of items is read. -/
structure RiX (w : World) (l : List Ri) (v : Value) : Prop where
 sl : SlX [] w 2 l.length (riV l) v
 row : ∀ x ∈ l, ValsAt w x.r x.v
theorem RiX.mono {w w' : World} {l : List Ri} {v : Value} (h : RiX w l v) (hb : Below w.heap.size w w') : RiX w' l v := ⟨h.sl.mono hb, fun x hx => (h.row x hx).mono hb⟩
theorem riL_drop_eq {l m : List Ri} {k : Nat} (h1 : k < l.length) (h2 : k < m.length) : riL (l.drop k) = riL (m.drop k) ↔ (l[k].id = m[k].id ∧ l[k].r = m[k].r) ∧ riL (l.drop (k + 1)) = riL (m.drop (k + 1)) := by
 rw [List.drop_eq_getElem_cons h1, List.drop_eq_getElem_cons h2]
 simp only [riL, List.map_cons, List.cons.injEq, Prod.mk.injEq]
set_option maxHeartbeats 4000000 in
set_option maxRecDepth 20000 in
theorem RSameI_calls (l m : List Ri) (v u : Value) (w : World) (hl : RiX w l v) (hm : RiX w m u) : Calls Tryz.prog 13 #[v, u] w fun e w' => e = .returned (.bool (decide (riL l = riL m))) ∧ Below w.heap.size w w' := by
 obtain ⟨a, c, rfl⟩ := hl.sl.shape
 obtain ⟨a2, c2, rfl⟩ := hm.sl.shape
 obtain ⟨n, hn⟩ : ∃ n, l.length = n := ⟨_, rfl⟩
 obtain ⟨n2, hn2⟩ : ∃ n2, m.length = n2 := ⟨_, rfl⟩
 have hb1 : n ≤ 9223372036854775807 := by have := hl.sl.1; unfold maxLen at this; omega
 have HV := Lib.hid hl
 have HU := Lib.hid hm
 obtain ⟨q, hq⟩ : ∃ q, decide (riL l = riL m) = q := ⟨_, rfl⟩
 have HQ := Lib.hid hq
 have HN := Lib.hid hn
 have HN2 := Lib.hid hn2
 rw [hq]
 clear hl hm hq
 by_cases he : n = n2
 · have HE : RowKit.Hid (riL (l.drop 0) = riL (m.drop 0) ↔ riL l = riL m) := by show _ ↔ _; simp
   rw [hn2, hn]
   rw [hn] at HV
   rw [hn2] at HU
   clear hn hn2
   subst he
   have he' : ((n : Int) != n) = false := by simp
   go_enter Tryz.func13, Tryz.ntmps13
   go_wp2
   go_loopg [5] n (fun g z wr => ∃ k : Nat, z = .int .i64 k ∧ g + k = n ∧ RowKit.Hid (riL (l.drop k) = riL (m.drop k) ↔ riL l = riL m) ∧ RowKit.Hid (Below w.heap.size w wr))
   case atStart => exact ⟨0, rfl, rfl, HE, Below.refl _ _⟩
   case round =>
    clear HE
    obtain ⟨k, rfl, hgk, He, Hb⟩ := hrel
    by_cases hk : k < n
    · have hkl : k < l.length := by rw [HN.out]; exact hk
      have hkm : k < m.length := by rw [HN2.out]; exact hk
      have hv := HV.out.mono Hb.out
      have hu := HU.out.mono Hb.out
      obtain ⟨b, o, c', e1, p1, p2⟩ := ri_cells hv.sl k hkl
      obtain ⟨b2, o2, c2', e2, r1, r2⟩ := ri_cells hu.sl k hkm
      obtain ⟨rfl, -, -⟩ := Value.slice.inj e1
      obtain ⟨rfl, -, -⟩ := Value.slice.inj e2
      have hpl := World.block_lt_of_cell? wr _ p1
      have hrl := World.block_lt_of_cell? wr _ r1
      have hk' : (k : Int) < n := by omega
      have HD := Lib.hid (riL_drop_eq hkl hkm)
      have HS := Lib.hid (fun w' (hb : Below wr.heap.size wr w') => rsame_calls l[k].r m[k].r l[k].v m[k].v w' ((hv.row _ (List.getElem_mem hkl)).mono hb) ((hu.row _ (List.getElem_mem hkm)).mono hb))
      have Hgk := Lib.hid hgk
      clear hgk e1 e2 hv hu
      generalize l[k] = x at *
      generalize m[k] = y at *
      clear hkl hkm
      obtain ⟨xid, xa, xn, xc, xr⟩ := x
      obtain ⟨yid, ya, yn, yc, yr⟩ := y
      unfold Ri.v at *
      simp only at *
      by_cases hxy : xid = yid
      · subst hxy
        have hne : (xid != xid) = false := by simp
        obtain ⟨t, ht⟩ : ∃ t, decide (xr = yr) = t := ⟨_, rfl⟩
        have HT := Lib.hid ht
        rw [ht] at HS
        clear ht
        go_upto_region 6 with (fail)
        go_region_held3 (fun w' => Below wr.heap.size wr w' ∧ ∀ b o, b < wr.heap.size → w'.cell? ⟨b, o, none⟩ = wr.cell? ⟨b, o, none⟩)
         (first | assumption | exact S_of (Below.drew (Below.refl _ _)) | exact S_step (by assumption) (by assumption))
         (first | (go_at_call 29; (with_reducible refine (HS.out _ (And.left (by assumption))).mono ?_); rintro e w1 ⟨rfl, hb1⟩))
        all_goals
         rename_i hH
         have Hb1 := Lib.hid (Hb.out.trans (hH.1.mono Hb.out.size))
         clear hH
         cases t
         · have HF : RowKit.Hid (q = false) := by
            have : ¬ riL l = riL m := fun h => of_decide_eq_false HT.out (HD.out.1 (He.out.2 h)).1.2
            show _ = _
            rw [← HQ.out, decide_eq_false this]
           obtain rfl := HF.out
           go_wp2
           go_ret
           exact ⟨rfl, Hb1.out⟩
         · go_wp2
           go_roundg (gk - 1)
           case rel =>
            refine ⟨k + 1, by go_num, by have := Hgk.out; omega, ?_, Hb1⟩
            show _ ↔ _
            rw [← He.out, HD.out]
            simp only [true_and]
            exact ⟨fun h => ⟨of_decide_eq_true HT.out, h⟩, fun h => h.2⟩
           case measure => have := Hgk.out; omega
      · have hne : (xid != yid) = true := by simp [hxy]
        have HF : RowKit.Hid (q = false) := by
         have : ¬ riL l = riL m := fun h => hxy (HD.out.1 (He.out.2 h)).1.1
         show _ = _
         rw [← HQ.out, decide_eq_false this]
        obtain rfl := HF.out
        clear hxy HS
        go_upto_region 6 with (fail)
        go_quiet (fail)
        go_wp2
        go_ret
        exact ⟨rfl, Hb.out.trans ((below_drewN _ _).mono Hb.out.size)⟩
    · obtain rfl : k = n := by omega
      have HR : RowKit.Hid (q = true) := by
       have : riL l = riL m := He.out.1 (by rw [List.drop_of_length_le (by rw [HN.out]; exact Nat.le_refl _), List.drop_of_length_le (by rw [HN2.out]; exact Nat.le_refl _)])
       show _ = _
       rw [← HQ.out, decide_eq_true this]
      obtain rfl := HR.out
      clear hgk hk
      go_wp2
      go_ret
      exact ⟨rfl, Hb.out⟩
 · have he' : ((n : Int) != n2) = true := by simp; omega
   have HF : RowKit.Hid (q = false) := by
    have : ¬ riL l = riL m := fun h => by
     have := congrArg List.length h
     simp only [riL, List.length_map] at this
     omega
    show _ = _
    rw [← HQ.out, decide_eq_false this]
   obtain rfl := HF.out
   rw [hn, hn2]
   rw [hn] at HV
   rw [hn2] at HU
   clear he hn hn2
   go_enter Tryz.func13, Tryz.ntmps13
   go_wp2
   go_ret
   exact ⟨rfl, Below.refl _ _⟩
end Go.Proofs.YtnefkkidfhmggaaGreat
/- each: rows that are collected when an iteration starts, each handed over as a copy. -/
namespace Go.Proofs.YtnefkkidfhmggaaGreat
open Go Go.RowKit
theorem wp_of_value {P : Program} {o : Oper} {a : Act} {w w' : World} {K : Act → World → Prop} {Q : Exit → Act → World → Prop} {v : Value} {d : Nat} (hd : o.dst = some d) (hr : (execOp a.eval o).run P w = .ok (.value v) w') (h : K (a.put (some d) v) w') : o.wp P a w K Q := by
 unfold Oper.wp
 rw [hr]
 show K (a.put o.dst v) w'
 rw [hd]; exact h
theorem wp_of_call {P : Program} {o : Oper} {a : Act} {w : World} {K : Act → World → Prop} {Q : Exit → Act → World → Prop} {f : FuncId} {args : Array Value} {R : Ending → World → Prop} {d : Nat} (hd : o.dst = some d) (hr : (execOp a.eval o).run P w = .ok (.enter f args) w) (hR : Calls P f args w R)
 (h : ∀ e w', R e w' → ∃ v, e = .returned v ∧ K (a.put (some d) v) w') : o.wp P a w K Q := by
 unfold Oper.wp
 rw [hr]
 refine hR.mono fun e w' hr => ?_
 obtain ⟨v, rfl, h'⟩ := h e w' hr
 show K (a.put o.dst v) w'
 rw [hd]; exact h'
/-- What is handed over of a row: its number and a slice of its own. -/
def itG (x : Ri) (args : Array Value) : Asn := exA fun q : Option Addr × Nat => starA [pureA (args = #[.int .i64 x.id, .slice q.1 x.r.length q.2]), rowA 29 3 (.slice q.1 x.r.length q.2) x.r.length (flat x.r)]
theorem itG_in {w0 w : World} {fp0 : List Nat} {R : List Asn} {x : Ri} {v : Value} (h : St w0 fp0 (rowA 29 3 v x.r.length (flat x.r) :: R) w) : St w0 fp0 (itG x #[.int .i64 x.id, v] :: R) w := by
 obtain ⟨_, hr⟩ := h.has 0 rfl
 obtain ⟨a, c, rfl, -⟩ := row_shape hr
 have h1 : St w0 fp0 ([pureA (#[Value.int .i64 x.id, .slice a x.r.length c] = #[Value.int .i64 x.id, .slice a x.r.length c]), rowA 29 3 (.slice a x.r.length c) x.r.length (flat x.r)] ++ R) w := St.pure.2 ⟨rfl, h⟩
 exact h1.fold fun f hf => ⟨(a, c), hf⟩
theorem itG_out {w0 w : World} {fp0 : List Nat} {R : List Asn} {x : Ri} {args : Array Value} (h : St w0 fp0 (itG x args :: R) w) : ∃ a c, args = #[.int .i64 x.id, .slice a x.r.length c] ∧ St w0 fp0 (rowA 29 3 (.slice a x.r.length c) x.r.length (flat x.r) :: R) w := by
 obtain ⟨⟨a, c⟩, h1⟩ := St.exE h
 have h2 := St.star.1 h1
 obtain ⟨h3, h4⟩ := St.pure.1 h2
 exact ⟨a, c, h3, h4⟩
/-- A row in memory that was new then. -/
def rowF (i d : Nat) (B n : Nat) (xs : List Value) : Ft := ⟨i, d, fun w v => ∃ f, (rowA 29 3 v n xs).p w f ∧ ∀ k ∈ f, B ≤ k, fun _w _w' v ⟨f, h1, h2⟩ hb => ⟨f, (rowA 29 3 v n xs).loc h1 (fun k hk => hb.block k ((rowA 29 3 v n xs).lt h1 k hk)), h2⟩⟩
noncomputable def oE3 : Array Oper := opsR Tryz.f84 3
def fE3 (l eb : Nat) (x : Ri) (B : Nat) : List Ft := [.const 0 12 (.func (.yield l) #[] #[]), .const 1 13 (.pointer (some ⟨eb, 0, none⟩)), .const 2 14 (.int .i64 x.id), .const 3 15 (.pointer (some ⟨eb, 1, none⟩)), .const 4 16 x.v, rowF 5 17 B x.r.length (flat x.r)]
theorem exec_load1 {P : Program} {o : Oper} {a : Act} {w : World} {ty : TypeId} {d b j : Nat} {v : Value} (hop : o.op = .load ty (.tmp d)) (ha : (isAgg ty).run P w = .ok false w) (hx : a.eval (.tmp d) = .pointer (some ⟨b, j, none⟩)) (hc : w.cell? ⟨b, j, none⟩ = some v) : (execOp a.eval o).run P w = .ok (.value v) w := by
 simp only [execOp, hop, hx, Sem.run_bind, run_load1 ha hc, Result.andThen_ok, Sem.run_pure]
set_option maxRecDepth 20000 in
/-- The drawn region of a round. -/
theorem each_reg (l eb m : Nat) (x : Ri) {c : Code} {a : Act} {w : World} {Q : Exit → Act → World → Prop} (c1 : isReg c = true) (c2 : c = .region 3 oE3 true) (hsz : a.tmps.size = 21) (h0 : a.eval (.tmp 0) = .func (.yield l) #[] #[]) (h4 : a.eval (.tmp 4) = .pointer (some ⟨eb, 0, none⟩))
 (e0 : w.cell? ⟨eb, 0, none⟩ = some (.int .i64 x.id)) (e1 : w.cell? ⟨eb, 1, none⟩ = some x.v) (hr : ValsAt w x.r x.v) (hl : x.r.length < 1099511627776)
 (hend : ∀ v w1, Below w.heap.size w w1 → (∃ f, (rowA 29 3 v x.r.length (flat x.r)).p w1 f ∧ ∀ k ∈ f, w.heap.size ≤ k) → wpListIn Fence.wide m Tryz.prog oE3 Q (oE3.toList.drop 6) (putL a [(12, .func (.yield l) #[] #[]), (13, .pointer (some ⟨eb, 0, none⟩)), (14, .int .i64 x.id), (15, .pointer (some ⟨eb, 1, none⟩)), (16, x.v), (17, v)]) w1) : c.wpIn Fence.wide m Tryz.prog Q a w := by
 subst c2
 have hebl := World.block_lt_of_cell? w _ e0
 refine wpIn_region_tail 6 [12, 13, 14, 15, 16, 17] (fE3 l eb x w.heap.size) rfl (by kernel_rfl) (by rw [show oE3.size = 8 by kernel_rfl]; omega) (by kernel_rfl) (by kernel_rfl) (by kernel_rfl) (by kernel_rfl) (by simp [fE3, Ft.const, rowF]) (by simp [fE3, Ft.const, rowF]) (by
  intro f hf
  simp only [fE3, List.mem_cons, List.not_mem_nil, or_false] at hf
  rcases hf with rfl | rfl | rfl | rfl | rfl | rfl <;> simp [Ft.const, rowF, hsz]) ?_ ?_
 · intro f hf o a1 w1 ho hb hold hfacts K hK
   simp only [fE3, List.mem_cons, List.not_mem_nil, or_false] at hf
   have D : ∀ g ∈ fE3 l eb x w.heap.size, waitsB oE3 f.i g.i = true → g.p w1 (a1.eval (.tmp g.d)) := hfacts
   have z0 := eval_spell ((hold 0 (by simp)).trans h0)
   have z4 := eval_spell ((hold 4 (by simp)).trans h4)
   rcases hf with rfl | rfl | rfl | rfl | rfl | rfl
   · have hl : oE3[0]? = some ⟨some 12, Op.move (.tmp 0), _, _, _, none⟩ := rfl
     obtain rfl := Option.some.inj (ho.symm.trans hl)
     exact wp_of_value (d := 12) (v := .func (.yield l) #[] #[]) (w' := w1) rfl (by simp [go_sem, execOp, Act.eval, z0]) (hK _ _ (Below.refl _ _) rfl)
   · have hl : oE3[1]? = some ⟨some 13, Op.fieldAddr _ (.tmp 4) 0, _, _, _, none⟩ := rfl
     obtain rfl := Option.some.inj (ho.symm.trans hl)
     exact wp_of_value (d := 13) (v := .pointer (some ⟨eb, 0, none⟩)) (w' := w1) rfl (by simp [go_sem, execOp, Act.eval, z4]) (hK _ _ (Below.refl _ _) rfl)
   · have hl : oE3[2]? = some ⟨some 14, Op.load _ (.tmp 13), _, _, _, none⟩ := rfl
     obtain rfl := Option.some.inj (ho.symm.trans hl)
     have x13 : a1.eval (.tmp 13) = .pointer (some ⟨eb, 0, none⟩) := D (.const 1 13 _) (by simp [fE3]) (by kernel_rfl : waitsB oE3 2 1 = true)
     exact wp_of_value (d := 14) (v := .int .i64 x.id) (w' := w1) rfl (exec_load1 rfl (by kernel_rfl) x13 ((hb.cell (p := ⟨eb, 0, none⟩) hebl).trans e0)) (hK _ _ (Below.refl _ _) rfl)
   · have hl : oE3[3]? = some ⟨some 15, Op.fieldAddr _ (.tmp 4) 1, _, _, _, none⟩ := rfl
     obtain rfl := Option.some.inj (ho.symm.trans hl)
     exact wp_of_value (d := 15) (v := .pointer (some ⟨eb, 1, none⟩)) (w' := w1) rfl (by simp [go_sem, execOp, Act.eval, z4]) (hK _ _ (Below.refl _ _) rfl)
   · have hl : oE3[4]? = some ⟨some 16, Op.load _ (.tmp 15), _, _, _, none⟩ := rfl
     obtain rfl := Option.some.inj (ho.symm.trans hl)
     have x15 : a1.eval (.tmp 15) = .pointer (some ⟨eb, 1, none⟩) := D (.const 3 15 _) (by simp [fE3]) (by kernel_rfl : waitsB oE3 4 3 = true)
     exact wp_of_value (d := 16) (v := x.v) (w' := w1) rfl (exec_load1 rfl (by kernel_rfl) x15 ((hb.cell (p := ⟨eb, 1, none⟩) hebl).trans e1)) (hK _ _ (Below.refl _ _) rfl)
   · have hl' : oE3[5]? = some ⟨some 17, Op.call ⟨Callee.value (Operand.func _), #[Operand.tmp 16], _⟩, _, _, _, none⟩ := rfl
     obtain rfl := Option.some.inj (ho.symm.trans hl')
     have x16 : a1.eval (.tmp 16) = x.v := D (.const 4 16 _) (by simp [fE3]) (by kernel_rfl : waitsB oE3 5 4 = true)
     have z16 := eval_spell x16
     refine wp_of_call (d := 17) (f := 37) (args := #[x.v]) rfl (by simp [go_sem, Act.eval, z16]) (cloneW (flat x.r) x.r.length x.v w1 (hr.mono hb).1 (one_flat _) hl) ?_
     rintro e w2 ⟨v, f, rfl, h2, h3, h5⟩
     exact ⟨_, rfl, hK _ _ h3 ⟨f, h2, fun k hk => Nat.le_trans hb.size (h5 k hk)⟩⟩
 · intro a1 w1 hfr hb hall
   have g0 := hall (.const 0 12 (.func (.yield l) #[] #[])) (by simp [fE3])
   have g1 := hall (.const 1 13 (.pointer (some ⟨eb, 0, none⟩))) (by simp [fE3])
   have g2 := hall (.const 2 14 (.int .i64 x.id)) (by simp [fE3])
   have g3 := hall (.const 3 15 (.pointer (some ⟨eb, 1, none⟩))) (by simp [fE3])
   have g4 := hall (.const 4 16 x.v) (by simp [fE3])
   have g5 := hall (rowF 5 17 w.heap.size x.r.length (flat x.r)) (by simp [fE3])
   rw [frame_eq hfr (cons_eq g0 (cons_eq g1 (cons_eq g2 (cons_eq g3 (cons_eq g4 (cons_eq rfl rfl))))))]
   exact hend _ w1 hb g5
set_option maxHeartbeats 4000000 in
set_option maxRecDepth 20000 in
theorem each1_seq (f : Nat) (caps : Array Value) (cb : Nat) (its : List Ri) (LC : List Asn) (he : ∀ args w, (callFunc f args).run Tryz.prog w = .ok (.enter f args) w) (hlen : its.length < 1099511627776) (hrl : ∀ x ∈ its, x.r.length < 1099511627776)
 (hcol : ∀ (w0 : World) (fp0 : List Nat) (R : List Asn) (w : World), St w0 fp0 (blkA cb 109 #[.func (.func f) #[] caps] :: (LC ++ R)) w → Calls Tryz.prog f caps w fun e w' => ∃ v, e = .returned v ∧ St w0 fp0 (rowA 114 2 v its.length (riV its) :: blkA cb 109 #[.func (.func f) #[] caps] :: (LC ++ R)) w') (n : Nat) :
 SeqG n Tryz.prog 84 #[.pointer (some ⟨cb, 0, none⟩)] 2 itG (fun W => ∀ x ∈ its, ValsAt W x.r x.v) its (blkA cb 109 #[.func (.func f) #[] caps] :: LC) := by
 intro y R J Jx w0 fp0 W hS h0 hq hY
 refine callsIn_wide.2 ?_
 have hS' : St w0 fp0 (blkA cb 109 #[.func (.func f) #[] caps] :: (LC ++ R)) W := hS
 have HC := Lib.hid (hcol w0 fp0 R W hS')
 have H0 : RowKit.Hid (∀ v W, St w0 fp0 (rowA 114 2 v its.length (riV its) :: blkA cb 109 #[.func (.func f) #[] caps] :: (LC ++ R)) W → St w0 fp0 (J [] ++ [rowA 114 2 v its.length (riV its)]) W) := fun v W h => h0 [rowA 114 2 v its.length (riV its)] W (by
  have h1 : St w0 fp0 ([rowA 114 2 v its.length (riV its)] ++ ((blkA cb 109 #[.func (.func f) #[] caps] :: LC) ++ R)) W := h
  exact h1.comm)
 have HQ := Lib.hid hq
 have HY := Lib.hid hY
 have HRL := Lib.hid hrl
 obtain ⟨N, hN⟩ : ∃ N, its.length = N := ⟨_, rfl⟩
 have HN := Lib.hid hN
 rw [hN] at HC H0
 obtain ⟨_, hb⟩ := hS'.has 0 rfl
 have c0 := (blk_get hb).1 0
 have cl := (blk_get hb).2.2
 simp only [List.getElem?_toArray, List.getElem?_cons_zero] at c0
 have hn63 : N ≤ 9223372036854775807 := by omega
 clear hS hS' hcol h0 hq hY hrl hb hN hlen
 go_enter Tryz.func84, Tryz.ntmps84
 go_wp2_with fail
 (with_reducible refine HC.out.mono ?_)
 rintro e w1 ⟨v, rfl, h1⟩
 obtain ⟨_, hrow⟩ := h1.has 0 rfl
 obtain ⟨ga, gc, hgv, -⟩ := row_shape hrow
 subst hgv
 have H2 := Lib.hid (H0.out _ _ h1)
 clear HC H0 h1 hrow c0 cl
 go_wp2
 go_loopg [8] N (fun g z wr => ∃ k : Nat, z = .int .i64 k ∧ g + k = N ∧ RowKit.Hid (∃ pre rest, its = pre ++ rest ∧ pre.length = k ∧ St w0 fp0 (J pre ++ [rowA 114 2 (.slice ga N gc) N (riV its)]) wr))
 case atStart => exact ⟨0, rfl, rfl, ⟨[], its, rfl, rfl, H2.out⟩⟩
 case round =>
  clear H2
  obtain ⟨k, rfl, hgk, Hr⟩ := hrel
  by_cases hk : k < N
  · obtain ⟨pre, rest, hxs, hpl, hs⟩ := Hr.out
    cases rest with
    | nil =>
     exfalso
     have := congrArg List.length hxs
     rw [HN.out, List.append_nil] at this
     omega
    | cons x rest =>
     obtain ⟨_, hrw⟩ := St.has (i := 0) (A := rowA 114 2 (.slice ga N gc) N (riV its)) hs.comm rfl
     have hkl : k < its.length := by rw [HN.out]; exact hk
     have hxk : its[k] = x := by
      have : its[k]? = some x := by rw [hxs, ← hpl]; simp
      rw [List.getElem?_eq_getElem hkl] at this
      exact Option.some.inj this
     have hsl := row_sl hrw (by rw [riV_len, HN.out])
     rw [← HN.out] at hsl
     obtain ⟨gb, go, gc', e0, q0, q1⟩ := ri_cells hsl k hkl
     obtain ⟨rfl, -, -⟩ := Value.slice.inj e0
     rw [hxk] at q0 q1
     have hvr := HQ.out pre _ wr hs x (by rw [hxs]; simp)
     have hql := World.block_lt_of_cell? wr _ q0
     have Hs := Lib.hid hs
     have Hxs := Lib.hid hxs
     have Hpl := Lib.hid hpl
     have Hgk := Lib.hid hgk
     have HVR := Lib.hid hvr
     have Hxl := Lib.hid (HRL.out x (by rw [hxs]; simp))
     have hkn : (k : Int) < N := by omega
     obtain ⟨xid, xa, xn, xc, xr⟩ := x
     unfold Ri.v at q1
     simp only at q0 q1
     clear hs hxs hpl hrw hkl hxk hsl e0 hvr Hr hgk
     go_upto_region 3 with (fail)
     generalize hW2 : wr.alloc _ = W2
     have hb2 : Below wr.heap.size wr W2 := by rw [← hW2]; exact (Below.refl _ _).alloc (Nat.le_refl _) _
     have d0 := World.cell?_alloc_new wr _ _ 0 |>.symm.trans (congrArg (fun w => World.cell? w ⟨wr.heap.size, 0, none⟩) hW2) |>.symm
     have d1 := World.cell?_alloc_new wr _ _ 1 |>.symm.trans (congrArg (fun w => World.cell? w ⟨wr.heap.size, 1, none⟩) hW2) |>.symm
     simp only [List.getElem?_toArray, List.getElem?_cons_zero, List.getElem?_cons_succ] at d0 d1
     have HS2 := Lib.hid (Hs.out.mono hb2)
     have HV2 := Lib.hid (HVR.out.mono hb2)
     clear hW2 hb2 q0 q1 hql Hs HVR
     refine (wpIn_wide (n := n)).1 ?_
     refine each_reg y wr.heap.size n ⟨xid, xa, xn, xc, xr⟩ rfl rfl rfl rfl rfl d0 d1 HV2.out Hxl.out fun v w2 hb3 ⟨f3, h3, h4⟩ => ?_
     have HG : RowKit.Hid (St w0 fp0 (itG ⟨xid, xa, xn, xc, xr⟩ #[.int .i64 xid, v] :: (J pre ++ [rowA 114 2 (.slice (some ⟨gb, go, none⟩) N gc) N (riV its)])) w2) := by
      have h5 := St.add HS2.out hb3 h3 h4
      refine itG_in (x := ⟨xid, xa, xn, xc, xr⟩) ?_
      exact (show St w0 fp0 ((J pre ++ [rowA 114 2 (.slice (some ⟨gb, go, none⟩) N gc) N (riV its)]) ++ [rowA 29 3 v xr.length (flat xr)]) w2 from h5).comm
     obtain ⟨fn, tmps, assign, body, hy, hR⟩ := HY.out pre ⟨xid, xa, xn, xc, xr⟩ rest _ w2 #[.int .i64 xid, v] Hxs.out rfl HG.out
     have HR := Lib.hid hR
     have HSo : RowKit.Hid (∀ W' A, St w0 fp0 (A ++ [rowA 114 2 (.slice (some ⟨gb, go, none⟩) N gc) N (riV its)]) W' → St w0 fp0 A W') := fun W' A h => St.dropAll (A := [rowA 114 2 (.slice (some ⟨gb, go, none⟩) N gc) N (riV its)]) h.comm
     clear hR HG HS2 HV2 d0 d1 hb3
     have hd : oE3.toList.drop 6 = [⟨some 18, .call ⟨.value (.tmp 12), #[.tmp 14, .tmp 17], _⟩, _, _, _, none⟩, ⟨some 19, .unOp .not _ (.tmp 18), _, _, _, none⟩] := rfl
     rw [hd]
     clear hd
     simp only [putL, List.foldl, Act.put, List.setIfInBounds_toArray, List.set_cons_succ, List.set_cons_zero]
     gi_wp2
     refine ⟨fun h => (by cases h), HR.out.mono ?_⟩
     rintro e W' (⟨rfl, hs'⟩ | ⟨rfl, hs'⟩)
     · have Hs' := Lib.hid hs'
       clear hs' HR hy
       gi_wp2
       go_wp2
       go_roundg (gk - 1)
       case rel => exact ⟨k + 1, by go_num, by have := Hgk.out; omega, ⟨pre ++ [⟨xid, xa, xn, xc, xr⟩], rest, by rw [Hxs.out]; simp, by rw [List.length_append, Hpl.out]; rfl, Hs'.out⟩⟩
       case measure => have := Hgk.out; omega
     · have Hs' := Lib.hid (HSo.out _ _ hs')
       clear hs' HR hy HSo
       gi_wp2
       go_wp2
       refine bodyPost_ret (results_none rfl _ _ _) rfl ?_
       exact ⟨⟨_, rfl⟩, .inr ⟨pre, _, rest, Hxs.out, Hs'.out⟩⟩
  · have hnk : k = N := by omega
    have Hend : RowKit.Hid (St w0 fp0 (J its) wr) := by
     obtain ⟨pre, rest, hxs, hpl, hs⟩ := Hr.out
     have : rest = [] := by
      have := congrArg List.length hxs
      rw [HN.out, List.length_append] at this
      exact List.length_eq_zero_iff.1 (by omega)
     subst this
     rw [List.append_nil] at hxs
     have h2 : St w0 fp0 ([rowA 114 2 (.slice ga N gc) N (riV its)] ++ J pre) wr := hs.comm
     rw [← hxs] at h2
     exact St.dropAll h2
    clear Hr HY HQ hgk hk HN HRL
    subst hnk
    go_wp2
    go_end0
    exact ⟨⟨_, rfl⟩, .inl Hend.out⟩
end Go.Proofs.YtnefkkidfhmggaaGreat
