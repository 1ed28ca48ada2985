/- Part 9 of the proof: Rs2, Ea, So, Al, Tk7, Tz, Ik, En, Lp, Lq, Lk8, Lr, Ls -/
import Derived.Test.YtnefkkidfhmggaaGreatX08
import Derived.Deep.QuietTactic
import Derived.BigQuiet
import Derived.Test.YtnefkkidfhmggaaGreatX01
import Derived.OwnWalkIn
import Derived.TacticsInMore
import Derived.LoopIn
import Derived.LoopNIn
import Derived.Test.YtnefkkidfhmggaaGreatX06
import Derived.Shelf.Abstract
import Derived.Shelf.RegionOpen
import Derived.Test.YtnefkkidfhmggaaGreatX07
/- The reference's Same, of lists of rows. -/
namespace Go.Proofs.YtnefkkidfhmggaaGreat
open Go Go.RowKit
/-- A list of items is read. -/
structure RiX (w : World) (l : List Ri) (v : Value) : Prop where
 sl : SlX [] w 2 l.length (riV l) v
 row : ∀ x ∈ l, ValsAt w x.r x.v
theorem RiX.mono {w w' : World} {l : List Ri} {v : Value} (h : RiX w l v) (hb : Below w.heap.size w w') : RiX w' l v := ⟨h.sl.mono hb, fun x hx => (h.row x hx).mono hb⟩
theorem riL_drop_eq {l m : List Ri} {k : Nat} (h1 : k < l.length) (h2 : k < m.length) : riL (l.drop k) = riL (m.drop k) ↔ (l[k].id = m[k].id ∧ l[k].r = m[k].r) ∧ riL (l.drop (k + 1)) = riL (m.drop (k + 1)) := by
 rw [List.drop_eq_getElem_cons h1, List.drop_eq_getElem_cons h2]
 simp only [riL, List.map_cons, List.cons.injEq, Prod.mk.injEq]
set_option maxHeartbeats 4000000 in
set_option maxRecDepth 20000 in
theorem RSameI_calls (l m : List Ri) (v u : Value) (w : World) (hl : RiX w l v) (hm : RiX w m u) : Calls Tryz.prog 13 #[v, u] w fun e w' => e = .returned (.bool (decide (riL l = riL m))) ∧ Below w.heap.size w w' := by
 obtain ⟨a, c, rfl⟩ := hl.sl.shape
 obtain ⟨a2, c2, rfl⟩ := hm.sl.shape
 obtain ⟨n, hn⟩ : ∃ n, l.length = n := ⟨_, rfl⟩
 obtain ⟨n2, hn2⟩ : ∃ n2, m.length = n2 := ⟨_, rfl⟩
 have hb1 : n ≤ 9223372036854775807 := by have := hl.sl.1; unfold maxLen at this; omega
 have HV := Lib.hid hl
 have HU := Lib.hid hm
 obtain ⟨q, hq⟩ : ∃ q, decide (riL l = riL m) = q := ⟨_, rfl⟩
 have HQ := Lib.hid hq
 have HN := Lib.hid hn
 have HN2 := Lib.hid hn2
 rw [hq]
 clear hl hm hq
 by_cases he : n = n2
 · have HE : RowKit.Hid (riL (l.drop 0) = riL (m.drop 0) ↔ riL l = riL m) := by show _ ↔ _; simp
   rw [hn2, hn]
   rw [hn] at HV
   rw [hn2] at HU
   clear hn hn2
   subst he
   have he' : ((n : Int) != n) = false := by simp
   go_enter Tryz.func13, Tryz.ntmps13
   go_wp2
   go_loopg [5] n (fun g z wr => ∃ k : Nat, z = .int .i64 k ∧ g + k = n ∧ RowKit.Hid (riL (l.drop k) = riL (m.drop k) ↔ riL l = riL m) ∧ RowKit.Hid (Below w.heap.size w wr))
   case atStart => exact ⟨0, rfl, rfl, HE, Below.refl _ _⟩
   case round =>
    clear HE
    obtain ⟨k, rfl, hgk, He, Hb⟩ := hrel
    by_cases hk : k < n
    · have hkl : k < l.length := by rw [HN.out]; exact hk
      have hkm : k < m.length := by rw [HN2.out]; exact hk
      have hv := HV.out.mono Hb.out
      have hu := HU.out.mono Hb.out
      obtain ⟨b, o, c', e1, p1, p2⟩ := ri_cells hv.sl k hkl
      obtain ⟨b2, o2, c2', e2, r1, r2⟩ := ri_cells hu.sl k hkm
      obtain ⟨rfl, -, -⟩ := Value.slice.inj e1
      obtain ⟨rfl, -, -⟩ := Value.slice.inj e2
      have hpl := World.block_lt_of_cell? wr _ p1
      have hrl := World.block_lt_of_cell? wr _ r1
      have hk' : (k : Int) < n := by omega
      have HD := Lib.hid (riL_drop_eq hkl hkm)
      have HS := Lib.hid (fun w' (hb : Below wr.heap.size wr w') => rsame_calls l[k].r m[k].r l[k].v m[k].v w' ((hv.row _ (List.getElem_mem hkl)).mono hb) ((hu.row _ (List.getElem_mem hkm)).mono hb))
      have Hgk := Lib.hid hgk
      clear hgk e1 e2 hv hu
      generalize l[k] = x at *
      generalize m[k] = y at *
      clear hkl hkm
      obtain ⟨xid, xa, xn, xc, xr⟩ := x
      obtain ⟨yid, ya, yn, yc, yr⟩ := y
      unfold Ri.v at *
      simp only at *
      by_cases hxy : xid = yid
      · subst hxy
        have hne : (xid != xid) = false := by simp
        obtain ⟨t, ht⟩ : ∃ t, decide (xr = yr) = t := ⟨_, rfl⟩
        have HT := Lib.hid ht
        rw [ht] at HS
        clear ht
        go_upto_region 6 with (fail)
        go_region_held3 (fun w' => Below wr.heap.size wr w' ∧ ∀ b o, b < wr.heap.size → w'.cell? ⟨b, o, none⟩ = wr.cell? ⟨b, o, none⟩)
         (first | assumption | exact S_of (Below.drew (Below.refl _ _)) | exact S_step (by assumption) (by assumption))
         (first | (go_at_call 29; (with_reducible refine (HS.out _ (And.left (by assumption))).mono ?_); rintro e w1 ⟨rfl, hb1⟩))
        all_goals
         rename_i hH
         have Hb1 := Lib.hid (Hb.out.trans (hH.1.mono Hb.out.size))
         clear hH
         cases t
         · have HF : RowKit.Hid (q = false) := by
            have : ¬ riL l = riL m := fun h => of_decide_eq_false HT.out (HD.out.1 (He.out.2 h)).1.2
            show _ = _
            rw [← HQ.out, decide_eq_false this]
           obtain rfl := HF.out
           go_wp2
           go_ret
           exact ⟨rfl, Hb1.out⟩
         · go_wp2
           go_roundg (gk - 1)
           case rel =>
            refine ⟨k + 1, by go_num, by have := Hgk.out; omega, ?_, Hb1⟩
            show _ ↔ _
            rw [← He.out, HD.out]
            simp only [true_and]
            exact ⟨fun h => ⟨of_decide_eq_true HT.out, h⟩, fun h => h.2⟩
           case measure => have := Hgk.out; omega
      · have hne : (xid != yid) = true := by simp [hxy]
        have HF : RowKit.Hid (q = false) := by
         have : ¬ riL l = riL m := fun h => hxy (HD.out.1 (He.out.2 h)).1.1
         show _ = _
         rw [← HQ.out, decide_eq_false this]
        obtain rfl := HF.out
        clear hxy HS
        go_upto_region 6 with (fail)
        go_quiet (fail)
        go_wp2
        go_ret
        exact ⟨rfl, Hb.out.trans ((below_drewN _ _).mono Hb.out.size)⟩
    · obtain rfl : k = n := by omega
      have HR : RowKit.Hid (q = true) := by
       have : riL l = riL m := He.out.1 (by rw [List.drop_of_length_le (by rw [HN.out]; exact Nat.le_refl _), List.drop_of_length_le (by rw [HN2.out]; exact Nat.le_refl _)])
       show _ = _
       rw [← HQ.out, decide_eq_true this]
      obtain rfl := HR.out
      clear hgk hk
      go_wp2
      go_ret
      exact ⟨rfl, Hb.out⟩
 · have he' : ((n : Int) != n2) = true := by simp; omega
   have HF : RowKit.Hid (q = false) := by
    have : ¬ riL l = riL m := fun h => by
     have := congrArg List.length h
     simp only [riL, List.length_map] at this
     omega
    show _ = _
    rw [← HQ.out, decide_eq_false this]
   obtain rfl := HF.out
   rw [hn, hn2]
   rw [hn] at HV
   rw [hn2] at HU
   clear he hn hn2
   go_enter Tryz.func13, Tryz.ntmps13
   go_wp2
   go_ret
   exact ⟨rfl, Below.refl _ _⟩
end Go.Proofs.YtnefkkidfhmggaaGreat
/- each: rows that are collected when an iteration starts, each handed over as a copy. -/
namespace Go.Proofs.YtnefkkidfhmggaaGreat
open Go Go.RowKit
theorem wp_of_value {P : Program} {o : Oper} {a : Act} {w w' : World} {K : Act → World → Prop} {Q : Exit → Act → World → Prop} {v : Value} {d : Nat} (hd : o.dst = some d) (hr : (execOp a.eval o).run P w = .ok (.value v) w') (h : K (a.put (some d) v) w') : o.wp P a w K Q := by
 unfold Oper.wp
 rw [hr]
 show K (a.put o.dst v) w'
 rw [hd]; exact h
theorem wp_of_call {P : Program} {o : Oper} {a : Act} {w : World} {K : Act → World → Prop} {Q : Exit → Act → World → Prop} {f : FuncId} {args : Array Value} {R : Ending → World → Prop} {d : Nat} (hd : o.dst = some d) (hr : (execOp a.eval o).run P w = .ok (.enter f args) w) (hR : Calls P f args w R)
 (h : ∀ e w', R e w' → ∃ v, e = .returned v ∧ K (a.put (some d) v) w') : o.wp P a w K Q := by
 unfold Oper.wp
 rw [hr]
 refine hR.mono fun e w' hr => ?_
 obtain ⟨v, rfl, h'⟩ := h e w' hr
 show K (a.put o.dst v) w'
 rw [hd]; exact h'
/-- What is handed over of a row: its number and a slice of its own. -/
def itG (x : Ri) (args : Array Value) : Asn := exA fun q : Option Addr × Nat => starA [pureA (args = #[.int .i64 x.id, .slice q.1 x.r.length q.2]), rowA 29 3 (.slice q.1 x.r.length q.2) x.r.length (flat x.r)]
theorem itG_in {w0 w : World} {fp0 : List Nat} {R : List Asn} {x : Ri} {v : Value} (h : St w0 fp0 (rowA 29 3 v x.r.length (flat x.r) :: R) w) : St w0 fp0 (itG x #[.int .i64 x.id, v] :: R) w := by
 obtain ⟨_, hr⟩ := h.has 0 rfl
 obtain ⟨a, c, rfl, -⟩ := row_shape hr
 have h1 : St w0 fp0 ([pureA (#[Value.int .i64 x.id, .slice a x.r.length c] = #[Value.int .i64 x.id, .slice a x.r.length c]), rowA 29 3 (.slice a x.r.length c) x.r.length (flat x.r)] ++ R) w := St.pure.2 ⟨rfl, h⟩
 exact h1.fold fun f hf => ⟨(a, c), hf⟩
theorem itG_out {w0 w : World} {fp0 : List Nat} {R : List Asn} {x : Ri} {args : Array Value} (h : St w0 fp0 (itG x args :: R) w) : ∃ a c, args = #[.int .i64 x.id, .slice a x.r.length c] ∧ St w0 fp0 (rowA 29 3 (.slice a x.r.length c) x.r.length (flat x.r) :: R) w := by
 obtain ⟨⟨a, c⟩, h1⟩ := St.exE h
 have h2 := St.star.1 h1
 obtain ⟨h3, h4⟩ := St.pure.1 h2
 exact ⟨a, c, h3, h4⟩
/-- A row in memory that was new then. -/
def rowF (i d : Nat) (B n : Nat) (xs : List Value) : Ft := ⟨i, d, fun w v => ∃ f, (rowA 29 3 v n xs).p w f ∧ ∀ k ∈ f, B ≤ k, fun _w _w' v ⟨f, h1, h2⟩ hb => ⟨f, (rowA 29 3 v n xs).loc h1 (fun k hk => hb.block k ((rowA 29 3 v n xs).lt h1 k hk)), h2⟩⟩
noncomputable def oE3 : Array Oper := opsR Tryz.f84 3
def fE3 (l eb : Nat) (x : Ri) (B : Nat) : List Ft := [.const 0 12 (.func (.yield l) #[] #[]), .const 1 13 (.pointer (some ⟨eb, 0, none⟩)), .const 2 14 (.int .i64 x.id), .const 3 15 (.pointer (some ⟨eb, 1, none⟩)), .const 4 16 x.v, rowF 5 17 B x.r.length (flat x.r)]
theorem exec_load1 {P : Program} {o : Oper} {a : Act} {w : World} {ty : TypeId} {d b j : Nat} {v : Value} (hop : o.op = .load ty (.tmp d)) (ha : (isAgg ty).run P w = .ok false w) (hx : a.eval (.tmp d) = .pointer (some ⟨b, j, none⟩)) (hc : w.cell? ⟨b, j, none⟩ = some v) : (execOp a.eval o).run P w = .ok (.value v) w := by
 simp only [execOp, hop, hx, Sem.run_bind, run_load1 ha hc, Result.andThen_ok, Sem.run_pure]
set_option maxRecDepth 20000 in
/-- The drawn region of a round. -/
theorem each_reg (l eb m : Nat) (x : Ri) {c : Code} {a : Act} {w : World} {Q : Exit → Act → World → Prop} (c1 : isReg c = true) (c2 : c = .region 3 oE3 true) (hsz : a.tmps.size = 21) (h0 : a.eval (.tmp 0) = .func (.yield l) #[] #[]) (h4 : a.eval (.tmp 4) = .pointer (some ⟨eb, 0, none⟩))
 (e0 : w.cell? ⟨eb, 0, none⟩ = some (.int .i64 x.id)) (e1 : w.cell? ⟨eb, 1, none⟩ = some x.v) (hr : ValsAt w x.r x.v) (hl : x.r.length < 1099511627776)
 (hend : ∀ v w1, Below w.heap.size w w1 → (∃ f, (rowA 29 3 v x.r.length (flat x.r)).p w1 f ∧ ∀ k ∈ f, w.heap.size ≤ k) → wpListIn Fence.wide m Tryz.prog oE3 Q (oE3.toList.drop 6) (putL a [(12, .func (.yield l) #[] #[]), (13, .pointer (some ⟨eb, 0, none⟩)), (14, .int .i64 x.id), (15, .pointer (some ⟨eb, 1, none⟩)), (16, x.v), (17, v)]) w1) : c.wpIn Fence.wide m Tryz.prog Q a w := by
 subst c2
 have hebl := World.block_lt_of_cell? w _ e0
 refine wpIn_region_tail 6 [12, 13, 14, 15, 16, 17] (fE3 l eb x w.heap.size) rfl (by kernel_rfl) (by rw [show oE3.size = 8 by kernel_rfl]; omega) (by kernel_rfl) (by kernel_rfl) (by kernel_rfl) (by kernel_rfl) (by simp [fE3, Ft.const, rowF]) (by simp [fE3, Ft.const, rowF]) (by
  intro f hf
  simp only [fE3, List.mem_cons, List.not_mem_nil, or_false] at hf
  rcases hf with rfl | rfl | rfl | rfl | rfl | rfl <;> simp [Ft.const, rowF, hsz]) ?_ ?_
 · intro f hf o a1 w1 ho hb hold hfacts K hK
   simp only [fE3, List.mem_cons, List.not_mem_nil, or_false] at hf
   have D : ∀ g ∈ fE3 l eb x w.heap.size, waitsB oE3 f.i g.i = true → g.p w1 (a1.eval (.tmp g.d)) := hfacts
   have z0 := eval_spell ((hold 0 (by simp)).trans h0)
   have z4 := eval_spell ((hold 4 (by simp)).trans h4)
   rcases hf with rfl | rfl | rfl | rfl | rfl | rfl
   · have hl : oE3[0]? = some ⟨some 12, Op.move (.tmp 0), _, _, _, none⟩ := rfl
     obtain rfl := Option.some.inj (ho.symm.trans hl)
     exact wp_of_value (d := 12) (v := .func (.yield l) #[] #[]) (w' := w1) rfl (by simp [go_sem, execOp, Act.eval, z0]) (hK _ _ (Below.refl _ _) rfl)
   · have hl : oE3[1]? = some ⟨some 13, Op.fieldAddr _ (.tmp 4) 0, _, _, _, none⟩ := rfl
     obtain rfl := Option.some.inj (ho.symm.trans hl)
     exact wp_of_value (d := 13) (v := .pointer (some ⟨eb, 0, none⟩)) (w' := w1) rfl (by simp [go_sem, execOp, Act.eval, z4]) (hK _ _ (Below.refl _ _) rfl)
   · have hl : oE3[2]? = some ⟨some 14, Op.load _ (.tmp 13), _, _, _, none⟩ := rfl
     obtain rfl := Option.some.inj (ho.symm.trans hl)
     have x13 : a1.eval (.tmp 13) = .pointer (some ⟨eb, 0, none⟩) := D (.const 1 13 _) (by simp [fE3]) (by kernel_rfl : waitsB oE3 2 1 = true)
     exact wp_of_value (d := 14) (v := .int .i64 x.id) (w' := w1) rfl (exec_load1 rfl (by kernel_rfl) x13 ((hb.cell (p := ⟨eb, 0, none⟩) hebl).trans e0)) (hK _ _ (Below.refl _ _) rfl)
   · have hl : oE3[3]? = some ⟨some 15, Op.fieldAddr _ (.tmp 4) 1, _, _, _, none⟩ := rfl
     obtain rfl := Option.some.inj (ho.symm.trans hl)
     exact wp_of_value (d := 15) (v := .pointer (some ⟨eb, 1, none⟩)) (w' := w1) rfl (by simp [go_sem, execOp, Act.eval, z4]) (hK _ _ (Below.refl _ _) rfl)
   · have hl : oE3[4]? = some ⟨some 16, Op.load _ (.tmp 15), _, _, _, none⟩ := rfl
     obtain rfl := Option.some.inj (ho.symm.trans hl)
     have x15 : a1.eval (.tmp 15) = .pointer (some ⟨eb, 1, none⟩) := D (.const 3 15 _) (by simp [fE3]) (by kernel_rfl : waitsB oE3 4 3 = true)
     exact wp_of_value (d := 16) (v := x.v) (w' := w1) rfl (exec_load1 rfl (by kernel_rfl) x15 ((hb.cell (p := ⟨eb, 1, none⟩) hebl).trans e1)) (hK _ _ (Below.refl _ _) rfl)
   · have hl' : oE3[5]? = some ⟨some 17, Op.call ⟨Callee.value (Operand.func _), #[Operand.tmp 16], _⟩, _, _, _, none⟩ := rfl
     obtain rfl := Option.some.inj (ho.symm.trans hl')
     have x16 : a1.eval (.tmp 16) = x.v := D (.const 4 16 _) (by simp [fE3]) (by kernel_rfl : waitsB oE3 5 4 = true)
     have z16 := eval_spell x16
     refine wp_of_call (d := 17) (f := 37) (args := #[x.v]) rfl (by simp [go_sem, Act.eval, z16]) (cloneW (flat x.r) x.r.length x.v w1 (hr.mono hb).1 (one_flat _) hl) ?_
     rintro e w2 ⟨v, f, rfl, h2, h3, h5⟩
     exact ⟨_, rfl, hK _ _ h3 ⟨f, h2, fun k hk => Nat.le_trans hb.size (h5 k hk)⟩⟩
 · intro a1 w1 hfr hb hall
   have g0 := hall (.const 0 12 (.func (.yield l) #[] #[])) (by simp [fE3])
   have g1 := hall (.const 1 13 (.pointer (some ⟨eb, 0, none⟩))) (by simp [fE3])
   have g2 := hall (.const 2 14 (.int .i64 x.id)) (by simp [fE3])
   have g3 := hall (.const 3 15 (.pointer (some ⟨eb, 1, none⟩))) (by simp [fE3])
   have g4 := hall (.const 4 16 x.v) (by simp [fE3])
   have g5 := hall (rowF 5 17 w.heap.size x.r.length (flat x.r)) (by simp [fE3])
   rw [frame_eq hfr (cons_eq g0 (cons_eq g1 (cons_eq g2 (cons_eq g3 (cons_eq g4 (cons_eq rfl rfl))))))]
   exact hend _ w1 hb g5
set_option maxHeartbeats 4000000 in
set_option maxRecDepth 20000 in
theorem each1_seq (f : Nat) (caps : Array Value) (cb : Nat) (its : List Ri) (LC : List Asn) (he : ∀ args w, (callFunc f args).run Tryz.prog w = .ok (.enter f args) w) (hlen : its.length < 1099511627776) (hrl : ∀ x ∈ its, x.r.length < 1099511627776)
 (hcol : ∀ (w0 : World) (fp0 : List Nat) (R : List Asn) (w : World), St w0 fp0 (blkA cb 109 #[.func (.func f) #[] caps] :: (LC ++ R)) w → Calls Tryz.prog f caps w fun e w' => ∃ v, e = .returned v ∧ St w0 fp0 (rowA 114 2 v its.length (riV its) :: blkA cb 109 #[.func (.func f) #[] caps] :: (LC ++ R)) w') (n : Nat) :
 SeqG n Tryz.prog 84 #[.pointer (some ⟨cb, 0, none⟩)] 2 itG (fun W => ∀ x ∈ its, ValsAt W x.r x.v) its (blkA cb 109 #[.func (.func f) #[] caps] :: LC) := by
 intro y R J Jx w0 fp0 W hS h0 hq hY
 refine callsIn_wide.2 ?_
 have hS' : St w0 fp0 (blkA cb 109 #[.func (.func f) #[] caps] :: (LC ++ R)) W := hS
 have HC := Lib.hid (hcol w0 fp0 R W hS')
 have H0 : RowKit.Hid (∀ v W, St w0 fp0 (rowA 114 2 v its.length (riV its) :: blkA cb 109 #[.func (.func f) #[] caps] :: (LC ++ R)) W → St w0 fp0 (J [] ++ [rowA 114 2 v its.length (riV its)]) W) := fun v W h => h0 [rowA 114 2 v its.length (riV its)] W (by
  have h1 : St w0 fp0 ([rowA 114 2 v its.length (riV its)] ++ ((blkA cb 109 #[.func (.func f) #[] caps] :: LC) ++ R)) W := h
  exact h1.comm)
 have HQ := Lib.hid hq
 have HY := Lib.hid hY
 have HRL := Lib.hid hrl
 obtain ⟨N, hN⟩ : ∃ N, its.length = N := ⟨_, rfl⟩
 have HN := Lib.hid hN
 rw [hN] at HC H0
 obtain ⟨_, hb⟩ := hS'.has 0 rfl
 have c0 := (blk_get hb).1 0
 have cl := (blk_get hb).2.2
 simp only [List.getElem?_toArray, List.getElem?_cons_zero] at c0
 have hn63 : N ≤ 9223372036854775807 := by omega
 clear hS hS' hcol h0 hq hY hrl hb hN hlen
 go_enter Tryz.func84, Tryz.ntmps84
 go_wp2_with fail
 (with_reducible refine HC.out.mono ?_)
 rintro e w1 ⟨v, rfl, h1⟩
 obtain ⟨_, hrow⟩ := h1.has 0 rfl
 obtain ⟨ga, gc, hgv, -⟩ := row_shape hrow
 subst hgv
 have H2 := Lib.hid (H0.out _ _ h1)
 clear HC H0 h1 hrow c0 cl
 go_wp2
 go_loopg [8] N (fun g z wr => ∃ k : Nat, z = .int .i64 k ∧ g + k = N ∧ RowKit.Hid (∃ pre rest, its = pre ++ rest ∧ pre.length = k ∧ St w0 fp0 (J pre ++ [rowA 114 2 (.slice ga N gc) N (riV its)]) wr))
 case atStart => exact ⟨0, rfl, rfl, ⟨[], its, rfl, rfl, H2.out⟩⟩
 case round =>
  clear H2
  obtain ⟨k, rfl, hgk, Hr⟩ := hrel
  by_cases hk : k < N
  · obtain ⟨pre, rest, hxs, hpl, hs⟩ := Hr.out
    cases rest with
    | nil =>
     exfalso
     have := congrArg List.length hxs
     rw [HN.out, List.append_nil] at this
     omega
    | cons x rest =>
     obtain ⟨_, hrw⟩ := St.has (i := 0) (A := rowA 114 2 (.slice ga N gc) N (riV its)) hs.comm rfl
     have hkl : k < its.length := by rw [HN.out]; exact hk
     have hxk : its[k] = x := by
      have : its[k]? = some x := by rw [hxs, ← hpl]; simp
      rw [List.getElem?_eq_getElem hkl] at this
      exact Option.some.inj this
     have hsl := row_sl hrw (by rw [riV_len, HN.out])
     rw [← HN.out] at hsl
     obtain ⟨gb, go, gc', e0, q0, q1⟩ := ri_cells hsl k hkl
     obtain ⟨rfl, -, -⟩ := Value.slice.inj e0
     rw [hxk] at q0 q1
     have hvr := HQ.out pre _ wr hs x (by rw [hxs]; simp)
     have hql := World.block_lt_of_cell? wr _ q0
     have Hs := Lib.hid hs
     have Hxs := Lib.hid hxs
     have Hpl := Lib.hid hpl
     have Hgk := Lib.hid hgk
     have HVR := Lib.hid hvr
     have Hxl := Lib.hid (HRL.out x (by rw [hxs]; simp))
     have hkn : (k : Int) < N := by omega
     obtain ⟨xid, xa, xn, xc, xr⟩ := x
     unfold Ri.v at q1
     simp only at q0 q1
     clear hs hxs hpl hrw hkl hxk hsl e0 hvr Hr hgk
     go_upto_region 3 with (fail)
     generalize hW2 : wr.alloc _ = W2
     have hb2 : Below wr.heap.size wr W2 := by rw [← hW2]; exact (Below.refl _ _).alloc (Nat.le_refl _) _
     have d0 := World.cell?_alloc_new wr _ _ 0 |>.symm.trans (congrArg (fun w => World.cell? w ⟨wr.heap.size, 0, none⟩) hW2) |>.symm
     have d1 := World.cell?_alloc_new wr _ _ 1 |>.symm.trans (congrArg (fun w => World.cell? w ⟨wr.heap.size, 1, none⟩) hW2) |>.symm
     simp only [List.getElem?_toArray, List.getElem?_cons_zero, List.getElem?_cons_succ] at d0 d1
     have HS2 := Lib.hid (Hs.out.mono hb2)
     have HV2 := Lib.hid (HVR.out.mono hb2)
     clear hW2 hb2 q0 q1 hql Hs HVR
     refine (wpIn_wide (n := n)).1 ?_
     refine each_reg y wr.heap.size n ⟨xid, xa, xn, xc, xr⟩ rfl rfl rfl rfl rfl d0 d1 HV2.out Hxl.out fun v w2 hb3 ⟨f3, h3, h4⟩ => ?_
     have HG : RowKit.Hid (St w0 fp0 (itG ⟨xid, xa, xn, xc, xr⟩ #[.int .i64 xid, v] :: (J pre ++ [rowA 114 2 (.slice (some ⟨gb, go, none⟩) N gc) N (riV its)])) w2) := by
      have h5 := St.add HS2.out hb3 h3 h4
      refine itG_in (x := ⟨xid, xa, xn, xc, xr⟩) ?_
      exact (show St w0 fp0 ((J pre ++ [rowA 114 2 (.slice (some ⟨gb, go, none⟩) N gc) N (riV its)]) ++ [rowA 29 3 v xr.length (flat xr)]) w2 from h5).comm
     obtain ⟨fn, tmps, assign, body, hy, hR⟩ := HY.out pre ⟨xid, xa, xn, xc, xr⟩ rest _ w2 #[.int .i64 xid, v] Hxs.out rfl HG.out
     have HR := Lib.hid hR
     have HSo : RowKit.Hid (∀ W' A, St w0 fp0 (A ++ [rowA 114 2 (.slice (some ⟨gb, go, none⟩) N gc) N (riV its)]) W' → St w0 fp0 A W') := fun W' A h => St.dropAll (A := [rowA 114 2 (.slice (some ⟨gb, go, none⟩) N gc) N (riV its)]) h.comm
     clear hR HG HS2 HV2 d0 d1 hb3
     have hd : oE3.toList.drop 6 = [⟨some 18, .call ⟨.value (.tmp 12), #[.tmp 14, .tmp 17], _⟩, _, _, _, none⟩, ⟨some 19, .unOp .not _ (.tmp 18), _, _, _, none⟩] := rfl
     rw [hd]
     clear hd
     simp only [putL, List.foldl, Act.put, List.setIfInBounds_toArray, List.set_cons_succ, List.set_cons_zero]
     gi_wp2
     refine ⟨fun h => (by cases h), HR.out.mono ?_⟩
     rintro e W' (⟨rfl, hs'⟩ | ⟨rfl, hs'⟩)
     · have Hs' := Lib.hid hs'
       clear hs' HR hy
       gi_wp2
       go_wp2
       go_roundg (gk - 1)
       case rel => exact ⟨k + 1, by go_num, by have := Hgk.out; omega, ⟨pre ++ [⟨xid, xa, xn, xc, xr⟩], rest, by rw [Hxs.out]; simp, by rw [List.length_append, Hpl.out]; rfl, Hs'.out⟩⟩
       case measure => have := Hgk.out; omega
     · have Hs' := Lib.hid (HSo.out _ _ hs')
       clear hs' HR hy HSo
       gi_wp2
       go_wp2
       refine bodyPost_ret (results_none rfl _ _ _) rfl ?_
       exact ⟨⟨_, rfl⟩, .inr ⟨pre, _, rest, Hxs.out, Hs'.out⟩⟩
  · have hnk : k = N := by omega
    have Hend : RowKit.Hid (St w0 fp0 (J its) wr) := by
     obtain ⟨pre, rest, hxs, hpl, hs⟩ := Hr.out
     have : rest = [] := by
      have := congrArg List.length hxs
      rw [HN.out, List.length_append] at this
      exact List.length_eq_zero_iff.1 (by omega)
     subst this
     rw [List.append_nil] at hxs
     have h2 : St w0 fp0 ([rowA 114 2 (.slice ga N gc) N (riV its)] ++ J pre) wr := hs.comm
     rw [← hxs] at h2
     exact St.dropAll h2
    clear Hr HY HQ hgk hk HN HRL
    subst hnk
    go_wp2
    go_end0
    exact ⟨⟨_, rfl⟩, .inl Hend.out⟩
end Go.Proofs.YtnefkkidfhmggaaGreat
/- some: the rows that a predicate accepts. -/
namespace Go.Proofs.YtnefkkidfhmggaaGreat
open Go Go.RowKit Go.Shelf
attribute [local go_sem] Oper.semAt_some
theorem St.exo {w0 w : World} {fp0 : List Nat} {α : Type} {F : α → List Asn} {L : List Asn} : St w0 fp0 (exA (fun a => starA (F a)) :: L) w ↔ ∃ a, St w0 fp0 (F a ++ L) w := by
 constructor
 · intro h
   obtain ⟨a, ha⟩ := h.unfold (L1 := F) fun f ⟨a, ha⟩ => ⟨a, ha⟩
   exact ⟨a, ha⟩
 · rintro ⟨a, ha⟩
   exact ha.fold fun f hf => ⟨a, hf⟩
def vaA : Va → Option Addr × Nat × Nat
 | .sl a n c => (a, n, c)
 | .int _ => (none, 0, 0)
def toRi (e : Re) : Ri := ⟨e.id, (vaA e.va).1, (vaA e.va).2.1, (vaA e.va).2.2, e.r⟩
theorem toRi_v {e : Re} (h : ∃ a n c, e.va = .sl a n c) : (toRi e).v = encV e.va := by
 obtain ⟨a, n, c, h⟩ := h
 unfold toRi Ri.v
 rw [h]
 rfl
def somL (p : Re → Bool) (es : List Re) : List Ri := (es.filter p).map toRi
theorem somL_len (p : Re → Bool) (es : List Re) : (somL p es).length ≤ es.length := by
 rw [somL, List.length_map]; exact List.length_filter_le _ _
theorem somL_snoc (p : Re → Bool) (A : List Re) (e : Re) : somL p (A ++ [e]) = somL p A ++ if p e then [toRi e] else [] := by
 unfold somL
 rw [List.filter_append, List.map_append]
 cases h : p e <;> simp [h]
def outA (b : Nat) (l : List Ri) : Asn := exA fun v => starA [blkA b 94 #[v], rowA 114 2 v l.length (riV l)]
theorem St.out {w0 w : World} {fp0 : List Nat} {L : List Asn} {b : Nat} {l : List Ri} : St w0 fp0 (outA b l :: L) w ↔ ∃ v, St w0 fp0 (blkA b 94 #[v] :: rowA 114 2 v l.length (riV l) :: L) w :=
 St.exo (F := fun v => [blkA b 94 #[v], rowA 114 2 v l.length (riV l)])
theorem appIT : AppSrc Tryz.prog 94 94 114 2 := appSrc (z := .agg #[.int .i64 0, .slice none 0 0]) (bytes := 32) (by kernel_rfl) (by kernel_rfl) rfl (by decide) (by decide)
theorem riV_one (y : Ri) : riV [y] = [.int .i64 y.id, y.v] := rfl
/-- out = append(out, item). -/
theorem St.appIt {w0 W : World} {fp0 : List Nat} {L : List Asn} {bo : Nat} {v0 : Value} {l : List Ri} (ty : TypeId) (y : Ri) (hlen : l.length + 1 < 1099511627776) (hS : St w0 fp0 (blkA bo 94 #[v0] :: rowA 114 2 v0 l.length (riV l) :: L) W) :
 ∃ v' w', (Builtin.append_ #[94, 94] ty #[v0, .slice (some ⟨W.heap.size, 0, none⟩) 1 1]).run Tryz.prog (W.alloc (.cells #[.int .i64 y.id, y.v] 114)) = .ok v' w' ∧ (∃ a c, v' = .slice a (l.length + 1) c) ∧
  w'.cell? ⟨bo, 0, none⟩ = some v0 ∧ w'.frozen? ⟨bo, 0, none⟩ = false ∧ bo < w'.heap.size ∧ St w0 fp0 (blkA bo 94 #[v'] :: rowA 114 2 v' (l ++ [y]).length (riV (l ++ [y])) :: L) (w'.setCell ⟨bo, 0, none⟩ v') := by
 have h1 := hS.newblk 114 #[.int .i64 y.id, y.v]
 have h1 : St w0 fp0 (rowA 114 2 v0 l.length (riV l) :: blkA bo 94 #[v0] :: L) (W.alloc (.cells #[.int .i64 y.id, y.v] 114)) := h1.drop.perm (List.Perm.swap _ _ _)
 obtain ⟨v', w', hr, h2⟩ := St.appSrc appIT ty h1 (src_litk (tx := 94) (e' := 114) (by kernel_rfl) _ 2 W.heap.size 1 1 114 (0, 0) #[.int .i64 y.id, y.v] (heap_alloc_new W _) rfl (by
  intro u hu
  simp only [List.mem_cons, List.not_mem_nil, or_false] at hu
  rcases hu with rfl | rfl <;> rfl)) hlen
 have h3 : St w0 fp0 (blkA bo 94 #[v0] :: rowA 114 2 v' (l.length + 1) (riV l ++ [.int .i64 y.id, y.v]) :: L) w' := h2.perm (List.Perm.swap _ _ _)
 obtain ⟨_, ho⟩ := h2.has 0 rfl
 obtain ⟨a, c, e, _⟩ := row_shape ho
 obtain ⟨g, hg, hset2⟩ := h3.get 0 rfl
 have hc := (blk_get hg).1 0
 have hf := (blk_get hg).2.1 0
 have hl := (blk_get hg).2.2
 obtain ⟨hb2, ht2⟩ := blk_set hg 0 v'
 have h4 := hset2 _ _ _ hb2 ht2
 refine ⟨v', w', hr, ⟨a, c, e⟩, hc, hf, hl, ?_⟩
 rw [riV_append, riV_one, List.length_append, List.length_singleton]
 exact h4
/-- What the predicate promises. -/
def IsC (f : Nat) (caps : Array Value) (p : Re → Bool) (S : Nat) (s : Sto) (LX : List Asn) : Prop := ∀ (w0 : World) (fp0 : List Nat) (R : List Asn) (w : World) (e : Re), e ∈ s.es → St w0 fp0 (stoL S s ++ (LX ++ R)) w →
 Calls Tryz.prog f (#[encV e.va] ++ caps) w fun ev w' => ev = .returned (.bool (p e)) ∧ St w0 fp0 (stoL S s ++ (LX ++ R)) w'
theorem St.slOf {w0 w : World} {fp0 : List Nat} {R : List Asn} {S : Nat} {s : Sto} (h : St w0 fp0 (stoL S s ++ R) w) : ∀ e ∈ s.es, ∃ a n c, e.va = .sl a n c := by
 intro e he
 obtain ⟨f, hf⟩ := h.star_of
 obtain ⟨i, hi, rfl⟩ := List.mem_iff_getElem.1 he
 obtain ⟨g, hg, -⟩ := Star.get (i + 3) (A := reA s.es[i]) (by
  show (blkA _ _ _ :: _ :: _ :: (s.es.map reA ++ s.ixs.map ixA))[i + 3]? = _
  simp only [List.getElem?_cons_succ]
  rw [List.getElem?_append_left (by simpa using hi), List.getElem?_map, List.getElem?_eq_getElem hi]
  rfl) hf
 obtain ⟨a, c, e1, -⟩ := row_shape hg
 exact encV_sl _ ⟨a, _, c, e1⟩
/-- .. but for the tree of the rows. -/
def stoR (S : Nat) (s : Sto) : List Asn := blkA S 119 #[.int .i64 s.cols, ptrV s.tb, .int .i64 s.next, s.iv] :: rowA 97 2 s.iv s.ixs.length (ixV s.ixs) :: (s.es.map reA ++ s.ixs.map ixA)
theorem reM_split {es : List Re} {pre rest : MM} {x : Ky × Va} (h : reM es = pre ++ x :: rest) : ∃ e : Re, x = (.int e.id, e.va) ∧ es.take (pre.length + 1) = es.take pre.length ++ [e] ∧ e ∈ es := by
 have hl : pre.length < es.length := by
  have h1 := congrArg List.length h
  rw [reM, List.length_map, List.length_append, List.length_cons] at h1
  omega
 have hx : (reM es)[pre.length]? = some x := by rw [h]; simp
 rw [reM, List.getElem?_map, List.getElem?_eq_getElem hl] at hx
 exact ⟨es[pre.length], (Option.some.inj hx).symm, List.take_succ_eq_append_getElem hl, List.getElem_mem hl⟩
def smI (b5 b3 : Nat) (isv : Value) (p : Re → Bool) (es : List Re) (L : List Asn) (pre : MM) : List Asn := outA b5 (somL p (es.take pre.length)) :: blkA b3 88 #[isv] :: L
set_option maxHeartbeats 4000000 in
set_option maxRecDepth 20000 in
theorem some_calls (f : Nat) (caps : Array Value) (p : Re → Bool) (S : Nat) (s : Sto) (LX : List Asn) (he : ∀ args w, (callFunc f args).run Tryz.prog w = .ok (.enter f args) w) (hlen : s.es.length + 1 < 1099511627776) (his : IsC f caps p S s LX)
 (w0 w : World) (fp0 : List Nat) (R : List Asn) (hS : St w0 fp0 (stoL S s ++ (LX ++ R)) w) :
 Calls Tryz.prog 48 #[ptrV S, .func (.func f) #[] caps] w fun e w' => ∃ v, e = .returned v ∧ St w0 fp0 (rowA 114 2 v (somL p s.es).length (riV (somL p s.es)) :: (stoL S s ++ (LX ++ R))) w' := by
 have HSL := Lib.hid hS.slOf
 obtain ⟨tb, htb⟩ : ∃ tb, s.tb = tb := ⟨_, rfl⟩
 have HS0 : RowKit.Hid (St w0 fp0 (rowA 114 2 (.slice none 0 0) 0 [] :: blkA (w.heap.size + 1) 94 #[.slice none 0 0] :: blkA w.heap.size 88 #[.func (.func f) #[] caps] :: (stoL S s ++ (LX ++ R))) ((w.alloc (.cells #[.func (.func f) #[] caps] 88)).alloc (.cells #[.slice none 0 0] 94))) := by
  have h1 := ((hS.newblk 88 #[.func (.func f) #[] caps]).newblk 94 #[.slice none 0 0]).nilR 114 2
  simp only [World.size_alloc] at h1
  exact h1
 have HSEQ := Lib.hid (fun bt bl bh => betw1_seq (β := false) (o := 16) (h := s.h) (by omega) none none 0 0 (by simp) (by simp) (reM s.es) (okR _) s.tb bt bl bh (by rw [reM, List.length_map]; exact hlen) (2 - 1))
 simp only [selM_all] at HSEQ
 have HIS := Lib.hid his
 have HLEN := Lib.hid hlen
 have c1 : (((w.alloc (.cells #[.func (.func f) #[] caps] 88)).alloc (.cells #[.slice none 0 0] 94)).cell? ⟨S, 1, none⟩) = some (ptrV tb) := by
  obtain ⟨_, hb⟩ := HS0.out.has 3 rfl
  have := (blk_get hb).1 1
  rw [← htb]
  exact this
 have hSl : S < ((w.alloc (.cells #[.func (.func f) #[] caps] 88)).alloc (.cells #[.slice none 0 0] 94)).heap.size := World.block_lt_of_cell? _ _ c1
 clear hS his hlen
 rw [htb] at HSEQ
 have HTB := Lib.hid htb
 clear htb
 unfold ptrV at *
 dsimp only [fBetw1] at HSEQ
 refine calls_of_wp_m Tryz.func48 rfl ?_
 simp only [Tryz.ntmps48, List.size_toArray, List.length_cons, List.length_nil, Nat.reduceAdd, Nat.reduceSub, Array.replicate_succ, Array.replicate_zero, List.push_toArray, List.append_toArray, List.nil_append, List.cons_append]
 go_upto_region 2 with (fail)
 generalize hWW : (w.alloc _).alloc _ = W0
 have HS1 := Lib.hid (show St w0 fp0 _ W0 from hWW ▸ HS0.out)
 have c1' : W0.cell? ⟨S, 1, none⟩ = some (.pointer (some ⟨tb, 0, none⟩)) := hWW ▸ c1
 have hSl' : S < W0.heap.size := hWW ▸ hSl
 clear hWW HS0 c1 hSl
 obtain ⟨b3, hbm⟩ : ∃ b3, w.heap.size = b3 := ⟨_, rfl⟩
 simp only [hbm] at HS1 ⊢
 clear hbm
 have HA := Lib.hid (All_calls tb w0 W0 fp0 _ HS1.out)
 clear HS1
 go_wp2_with fail
 (with_reducible refine HA.out.mono ?_)
 rintro e w1 ⟨bt, bl, bh, rfl, hs1⟩
 have HS1 := Lib.hid hs1
 clear hs1 HA c1' hSl'
 unfold iterF
 dsimp only [fBetw1]
 go_wp2_with fail
 have HFR : RowKit.Hid (St w0 fp0 (betL false 16 s.h (reM s.es) tb bt bl bh 0 0 none none ++ (blkA (b3 + 1) 94 #[.slice none 0 0] :: rowA 114 2 (.slice none 0 0) 0 [] :: blkA b3 88 #[.func (.func f) #[] caps] :: stoR S s ++ (LX ++ R))) w1) := by
  have h1 : St w0 fp0 (emp :: emp :: (iterL false tb bt bl bh 0 0 none none ++ (rowA 114 2 (.slice none 0 0) 0 [] :: blkA (b3 + 1) 94 #[.slice none 0 0] :: blkA b3 88 #[.func (.func f) #[] caps] :: (stoL S s ++ (LX ++ R))))) w1 := St.emp.2 (St.emp.2 HS1.out)
  refine h1.perm ?_
  rw [← HTB.out]
  unfold stoL stoR betL iterL optB
  exact (by classical exact List.perm_iff_count.2 fun a => by simp only [List.cons_append, List.nil_append, List.count_append, List.count_cons] <;> omega)
 obtain ⟨b5, hb5⟩ : ∃ b5, b3 + 1 = b5 := ⟨_, rfl⟩
 rw [hb5] at HFR ⊢
 clear HS1
 refine wp_rangeFunc_st (n := 2) rfl (enters_of Tryz.func137 (by kernel_rfl) rfl) (HSEQ.out bt bl bh) (fun _ => rfl)
  (smI b5 b3 (.func (.func f) #[] caps) p s.es (iterL false tb bt bl bh 0 0 none none ++ (stoL S s ++ (LX ++ R)))) (fun _ _ => [pureA False]) _ HFR.out ?h0 ?round ?done ?stop
 case h0 =>
  intro Own W hW
  have h1 : St w0 fp0 (emp :: emp :: (blkA b5 94 #[.slice none 0 0] :: rowA 114 2 (.slice none 0 0) 0 [] :: (blkA b3 88 #[.func (.func f) #[] caps] :: (iterL false tb bt bl bh 0 0 none none ++ (stoL S s ++ (LX ++ R))) ++ Own))) W := by
   refine hW.perm ?_
   rw [← HTB.out]
   unfold stoL stoR betL iterL optB
   exact (by classical exact List.perm_iff_count.2 fun a => by simp only [List.cons_append, List.nil_append, List.count_append, List.count_cons] <;> omega)
  have h2 := St.emp.1 (St.emp.1 h1)
  exact St.out.2 ⟨_, h2⟩
 case round =>
  intro l0 pre x rest Own W hxs hs
  obtain ⟨e, hx, het, hem⟩ := reM_split hxs
  obtain ⟨PRE, hPRE⟩ : ∃ PRE, somL p (s.es.take pre.length) = PRE := ⟨_, rfl⟩
  have hPL : PRE.length + 1 < 1099511627776 := by
   have h1 := somL_len p (s.es.take pre.length)
   rw [hPRE, List.length_take] at h1
   have := HLEN.out
   omega
  obtain ⟨nx, hnx⟩ : ∃ nx, pre ++ [x] = nx := ⟨_, rfl⟩
  have HNX : RowKit.Hid (somL p (s.es.take nx.length) = PRE ++ if p e then [toRi e] else []) := by
   show _ = _
   rw [← hnx, List.length_append, show [x].length = 1 from rfl, het, somL_snoc, hPRE]
  have hsm : smI b5 b3 (.func (.func f) #[] caps) p s.es (iterL false tb bt bl bh 0 0 none none ++ (stoL S s ++ (LX ++ R))) pre = outA b5 PRE :: blkA b3 88 #[.func (.func f) #[] caps] :: (iterL false tb bt bl bh 0 0 none none ++ (stoL S s ++ (LX ++ R))) := by rw [smI, hPRE]
  rw [hsm] at hs ⊢
  rw [hnx, hx]
  have HV := Lib.hid (toRi_v (HSL.out e hem))
  have HEM := Lib.hid hem
  clear hx het hPRE hxs hem hsm hnx
  obtain ⟨va, vn, vc, hvv⟩ : ∃ a n c, encV e.va = .slice a n c := by
   obtain ⟨a, n, c, h⟩ := HSL.out e HEM.out
   exact ⟨a, n, c, by rw [h]; rfl⟩
  rw [hvv] at HV ⊢
  dsimp only [encK]
  gi_wp2
  refine ⟨hs, fun Own2 W2 hs2 => ?_⟩
  clear hs Own W
  have h2 : St w0 fp0 (stoL S s ++ (LX ++ (R ++ (outA b5 PRE :: blkA b3 88 #[.func (.func f) #[] caps] :: (iterL false tb bt bl bh 0 0 none none ++ Own2))))) W2 := by
   refine hs2.perm ?_
   exact (by classical exact List.perm_iff_count.2 fun a => by simp only [List.cons_append, List.count_append, List.count_cons] <;> omega)
  have HC := Lib.hid (HIS.out w0 fp0 _ W2 e HEM.out h2)
  rw [hvv] at HC
  clear hvv
  obtain ⟨_, hb⟩ := hs2.has 1 rfl
  have d0 := (blk_get hb).1 0
  have dl := (blk_get hb).2.2
  simp only [List.getElem?_toArray, List.getElem?_cons_zero] at d0
  clear hs2 h2 hb
  gi_wp2
  refine ⟨trivial, rfl, (CallsIn.inRound l0 (callsIn_wide.2 HC.out)).mono ?_⟩
  rintro ev w3 ⟨rfl, h3⟩
  clear HC d0 dl
  have h4 : St w0 fp0 (outA b5 PRE :: (blkA b3 88 #[.func (.func f) #[] caps] :: (iterL false tb bt bl bh 0 0 none none ++ (stoL S s ++ (LX ++ R))) ++ Own2)) w3 := by
   refine h3.perm ?_
   exact (by classical exact List.perm_iff_count.2 fun a => by simp only [List.cons_append, List.count_append, List.count_cons] <;> omega)
  obtain ⟨q, hq⟩ : ∃ q, p e = q := ⟨_, rfl⟩
  rw [hq] at HNX ⊢
  clear hq h3
  cases q with
  | false =>
   have HF : RowKit.Hid (St w0 fp0 (smI b5 b3 (.func (.func f) #[] caps) p s.es (iterL false tb bt bl bh 0 0 none none ++ (stoL S s ++ (LX ++ R))) nx ++ Own2) w3) := by
    show St _ _ _ _
    unfold smI
    rw [HNX.out, if_neg (by simp), List.append_nil]
    exact h4
   clear h4 HNX
   gi_wp2
   exact HF.out
  | true =>
   obtain ⟨v0, h5⟩ := St.out.1 h4
   obtain ⟨_, hb⟩ := h5.has 0 rfl
   have d0 := (blk_get hb).1 0
   have dl := (blk_get hb).2.2
   simp only [List.getElem?_toArray, List.getElem?_cons_zero] at d0
   obtain ⟨v', w', hr, ⟨a', c', rfl⟩, e0, e1, e2, h6⟩ := h5.appIt 94 (toRi e) hPL
   rw [HV.out, show (toRi e).id = e.id from rfl] at hr
   have h7 := St.out.2 ⟨_, h6⟩
   have HF : RowKit.Hid (St w0 fp0 (smI b5 b3 (.func (.func f) #[] caps) p s.es (iterL false tb bt bl bh 0 0 none none ++ (stoL S s ++ (LX ++ R))) nx ++ Own2) (w'.setCell ⟨b5, 0, none⟩ (.slice a' (PRE.length + 1) c'))) := by
    show St _ _ _ _
    unfold smI
    rw [HNX.out, if_pos rfl]
    exact h7
   have HR := Lib.hid hr
   clear h4 HNX h5 hb h6 h7 hr
   gi_wp2_with (gi_at_builtin; refine wpListIn_append_run rfl _ _ _ rfl rfl rfl HR.out ?_)
   exact HF.out
 case done =>
  intro D W hW
  have hlr : (reM s.es).length = s.es.length := by rw [reM, List.length_map]
  have h1 : St w0 fp0 (outA b5 (somL p s.es) :: blkA b3 88 #[.func (.func f) #[] caps] :: (iterL false tb bt bl bh 0 0 none none ++ (defA D :: (stoL S s ++ (LX ++ R))))) W := by
   refine hW.perm ?_
   unfold smI
   rw [hlr, List.take_length]
   exact (by classical exact List.perm_iff_count.2 fun a => by simp only [List.count_append, List.count_cons] <;> omega)
  obtain ⟨v0, h2⟩ := St.out.1 h1
  obtain ⟨_, hb⟩ := h2.has 0 rfl
  have d0 := (blk_get hb).1 0
  have dl := (blk_get hb).2.2
  simp only [List.getElem?_toArray, List.getElem?_cons_zero] at d0
  have h3 : St w0 fp0 (defA D :: rowA 114 2 v0 (somL p s.es).length (riV (somL p s.es)) :: (stoL S s ++ (LX ++ R))) W := by
   refine St.dropAll (A := [blkA b5 94 #[v0], blkA b3 88 #[.func (.func f) #[] caps]] ++ iterL false tb bt bl bh 0 0 none none) (h2.perm ?_)
   exact (by classical exact List.perm_iff_count.2 fun a => by simp only [List.cons_append, List.nil_append, List.count_append, List.count_cons] <;> omega)
  have H3 := Lib.hid h3
  clear hW h1 h2 h3 hb hlr
  dsimp only
  go_wp2
  exact bodyPostM_mark H3.out rfl fun w' hw' => ⟨_, results_tmp rfl _ _ _, v0, rfl, hw'⟩
 case stop =>
  intro D c pre x rest W hxs hW
  exact ((St.pure.1 (show St w0 fp0 (pureA False :: [defA D]) W from hW.perm (List.Perm.swap _ _ _))).1).elim
end Go.Proofs.YtnefkkidfhmggaaGreat
/- All: an iterator over all rows. -/
namespace Go.Proofs.YtnefkkidfhmggaaGreat
open Go Go.RowKit
def allF (cb : Nat) : Value := .func (.func 84) #[] #[.pointer (some ⟨cb, 0, none⟩)]
theorem each_calls (col : Value) (h1 : col.oneCell' = true) (hc : ∃ f caps, col = .func (.func f) #[] caps) (w0 w : World) (fp0 : List Nat) (R : List Asn) (hS : St w0 fp0 R w) :
 Calls Tryz.prog 45 #[col] w fun e w' => ∃ cb, e = .returned (allF cb) ∧ St w0 fp0 (blkA cb 109 #[col] :: R) w' := by
 obtain ⟨f, caps, rfl⟩ := hc
 have HS := Lib.hid (hS.newblk 109 #[.func (.func f) #[] caps])
 clear hS
 unfold allF
 go_enter Tryz.func45, Tryz.ntmps45
 go_wp2
 go_ret
 exact ⟨_, rfl, HS.out⟩
/-- What an iterator over the store needs. -/
theorem somL_row {p : Re → Bool} {es : List Re} {x : Ri} (h : x ∈ somL p es) : ∃ e ∈ es, p e = true ∧ x = toRi e := by
 obtain ⟨e, he, rfl⟩ := List.mem_map.1 h
 obtain ⟨h1, h2⟩ := List.mem_filter.1 he
 exact ⟨e, h1, h2, rfl⟩
theorem somL_len2 {p : Re → Bool} {cols : Nat} {I : List (List Int)} {L : LL} {next : Int} {s : Sto} (hok : s.Ok cols I L next) (hc : cols ≤ 1000000) : ∀ x ∈ somL p s.es, x.r.length < 1099511627776 := by
 intro x hx
 obtain ⟨e, he, -, rfl⟩ := somL_row hx
 have hm : (e.id, e.r) ∈ L := by rw [← hok.rows]; exact List.mem_map.2 ⟨_, he, rfl⟩
 have : e.r.length = cols := (hok.row _ hm).2.2.1
 show e.r.length < _
 omega
end Go.Proofs.YtnefkkidfhmggaaGreat
/- taken's round, drawn. -/
namespace Go.Proofs.YtnefkkidfhmggaaGreat
open Go Go.RowKit
set_option maxRecDepth 100000
theorem row_empty {w : World} {b : Nat} {t : TypeId} {size : Nat} {f : List Nat} (h : (blkA b t #[]).p w f) : (rowA t size (.slice (some ⟨b, 0, none⟩) 0 0) 0 []).p w f :=
 ⟨⟨by simp, .inr ⟨b, 0, #[], rfl, Nat.zero_le _, h.1, Nat.le_refl _, Nat.zero_le _, by simp, by simp⟩⟩, h.2⟩
theorem St.emptyV {w0 w : World} {fp0 : List Nat} {L : List Asn} (h : St w0 fp0 L w) : St w0 fp0 (rowA 29 3 (.slice (some ⟨w.heap.size, 0, none⟩) 0 0) 0 [] :: L) (w.alloc (.cells #[] 29)) :=
 (h.newblk 29 #[]).fold (L1 := [blkA w.heap.size 29 #[]]) fun f ⟨f1, f2, hf, h3, _, e⟩ => by
  obtain rfl := h3
  rw [List.append_nil] at e
  subst e
  exact row_empty hf
theorem appVS : AppSrc Tryz.prog 27 27 29 3 := appSrc (z := .agg #[.int .i64 0, .int .i64 0, .string ⟨#[]⟩]) (bytes := 32) (by kernel_rfl) (by kernel_rfl) rfl (by decide) (by decide)
noncomputable def gTk7 (b5 : Nat) (lv : Value) (id : Int) (xa : Option Addr) (xn xc m : Nat) (XS V : List Value) := rgx Tryz.prog Tryz.f14 7 30 [17, 18, 19, 20, 21, 22, 23, 24] [(5, pV b5 0), (6, .int .i64 id), (7, .slice xa xn xc)] (Vq 0 17 [Kv lv, Kv (.int .i64 id)] ++ Vq 3 20 [Kv (.slice xa xn xc), Vf.slice, Fv [21] fun g => .agg #[.int .i64 id, .slice (sa (g 21)) (sn (g 21)) (sc (g 21))], Vf.box, Vf.slice]) [.blk b5 (35) [⟨lv, [(8, .s 24)]⟩], .all (rowA 29 3 (.slice xa xn xc) xn XS), .gen [2, 4] [19, 21] fun L g => match L 4 with | true => rowA 29 3 (g 21) xn XS | false => match L 2 with | true => rowA 29 3 (g 19) 0 [] | false => emp, .new 6 [23, 21] fun g => boxsA 56 (g 23) #[.int .i64 id, .slice (sa (g 21)) (sn (g 21)) (sc (g 21))], .gen [7] [24, 21] fun L g => match L 7 with | true => rowA 56 2 (g 24) (m + 1) (V ++ [Value.int .i64 id, Value.slice (sa (g 21)) (sn (g 21)) (sc (g 21))]) | false => rowA 56 2 lv m V]
theorem rTk7 (b5 : Nat) (lv : Value) (id : Int) (xa : Option Addr) (xn xc m : Nat) (XS V : List Value) (w0 : World) (fp0 : List Nat) (R : List Asn) (hx : XS.length = xn * 3) (hx1 : ∀ u ∈ XS, u.oneCell' = true) (hn : xn < 1099511627776) (hl : m + 1 < 1099511627776) {w : World} {c : Code} {a : Act} {l0 n0 : Nat} {Q : Exit → Act → World → Prop} (c1 : isDrw c = true) (c2 : cops c = opsR Tryz.f14 7) (c3 : a.tmps.size = 30) (c4 : a.defers = []) (i5 : a.eval (.tmp 5) = .pointer (some ⟨b5, 0, none⟩)) (i6 : a.eval (.tmp 6) = .int .i64 id) (i7 : a.eval (.tmp 7) = .slice xa xn xc)
 (hS : St w0 fp0 ([blkA b5 (35) #[lv], rowA 29 3 (.slice xa xn xc) xn XS, emp, emp, rowA 56 2 lv m V] ++ R) w)
 (hq : ∀ a w, ¬ Q .outgrown a w) (hQ : ∀ (u19 u21 u22 u23 u24 : Value) (w1 : World), (∃ a n c, u21 = .slice a n c) → u22 = .agg #[.int .i64 id, .slice (sa (u21)) (sn (u21)) (sc (u21))] → (∃ b, u23 = .slice (some ⟨b, 0, none⟩) 1 1) → (∃ a n c, u24 = .slice a n c) → St w0 fp0 ([blkA b5 (35) #[u24], rowA 29 3 (.slice xa xn xc) xn XS, rowA 29 3 (u21) xn XS, boxsA 56 (u23) #[.int .i64 id, .slice (sa (u21)) (sn (u21)) (sc (u21))], rowA 56 2 (u24) (m + 1) (V ++ [Value.int .i64 id, Value.slice (sa (u21)) (sn (u21)) (sc (u21))])] ++ R) w1 → Q .normal (putL a [(17, lv), (18, .int .i64 id), (19, u19), (20, .slice xa xn xc), (21, u21), (22, u22), (23, u23), (24, u24)]) w1) : c.wpIn (Fence.wide.inRound l0) n0 Tryz.prog Q a w := by
 have ok : (gTk7 b5 lv id xa xn xc m XS V w0 fp0 R).Ok 9 := Rg.ok _ 9 [0, 2, 4, 6, 7, 8] ⟨.load _ 0 0 0, .runG _ 2 (fun g => [blkA b5 35 #[lv], rowA 29 3 (.slice xa xn xc) xn XS, emp, emp, rowA 56 2 lv m V]) (fun g v => [blkA b5 35 #[lv], rowA 29 3 (.slice xa xn xc) xn XS, rowA 29 3 v 0 [], emp, rowA 56 2 lv m V]) (fun a w h => ⟨.slice (some ⟨w.heap.size, 0, none⟩) 0 0, w.alloc (.cells #[] 29), kr (by kernel_rfl), kr (by kernel_rfl), St.emp.1 (St_re (L := [_, _, _, _, _, _]) h.emptyV [3, 1, 2, 0, 4, 5] [] (by kernel_rfl))⟩), .appG _ 4 (fun g => [blkA b5 35 #[lv], rowA 29 3 (.slice xa xn xc) xn XS, rowA 29 3 (g 19) 0 [], emp, rowA 56 2 lv m V]) (fun g v => [blkA b5 35 #[lv], rowA 29 3 (.slice xa xn xc) xn XS, rowA 29 3 v xn XS, emp, rowA 56 2 lv m V]) (fun ty g w h => (by obtain ⟨fa, hfa⟩ := h.has 1 rfl; obtain ⟨v, w2, h1, h2⟩ := St.appSrc appVS ty (St_re (L := [_, _, _, _, _]) h [2, 0, 1, 3, 4] [] (by kernel_rfl)) ((SlX.of_row (X := []) hfa hx (by simp)).src (tx := 27) (e' := 29) (by kernel_rfl) (by decide) hx1) (by omega); rw [Nat.zero_add, List.nil_append] at h2; obtain ⟨_, hr⟩ := h2.has 0 rfl; obtain ⟨a, c, rfl, -⟩ := row_shape hr; exact ⟨_, w2, h1, kr (by kernel_rfl), St_re (L := [_, _, _, _, _]) h2 [1, 2, 0, 3, 4] [] (by kernel_rfl)⟩)), .boxsG _ 6 3, .appG _ 7 (fun g => [blkA b5 35 #[lv], rowA 29 3 (.slice xa xn xc) xn XS, rowA 29 3 (g 21) xn XS, boxsA 56 (g 23) #[.int .i64 id, .slice (sa (g 21)) (sn (g 21)) (sc (g 21))], rowA 56 2 lv m V]) (fun g v => [blkA b5 35 #[lv], rowA 29 3 (.slice xa xn xc) xn XS, rowA 29 3 (g 21) xn XS, boxsA 56 (g 23) #[.int .i64 id, .slice (sa (g 21)) (sn (g 21)) (sc (g 21))], rowA 56 2 v (m + 1) (V ++ [Value.int .i64 id, Value.slice (sa (g 21)) (sn (g 21)) (sc (g 21))])]) (fun ty g w h => (by obtain ⟨fb, hfb⟩ := h.has 3 rfl; obtain ⟨v, w2, h1, h2⟩ := St.appSrc appRI ty (St_re (L := [_, _, _, _, _]) h [4, 0, 1, 2, 3] [] (by kernel_rfl)) (boxs_src (tx := 35) (e' := 56) (by kernel_rfl) hfb rfl (by simp; exact ⟨rfl, rfl⟩)) hl; obtain ⟨_, hr⟩ := h2.has 0 rfl; obtain ⟨a, c, rfl, -⟩ := row_shape hr; exact ⟨_, w2, h1, kr (by kernel_rfl), St_re (L := [_, _, _, _, _]) h2 [1, 2, 3, 4, 0] [] (by kernel_rfl)⟩)), .store _ 8 0 0, trivial⟩
 refine wpIn_regT hq ok (by kernel_rfl) ⟨c1, c2⟩ ⟨c3, c4, fun p hp => ?_⟩ hS fun A1 w1 N1 H1 => ?_
 · simp only [gTk7, rgx, List.map_nil, List.append_nil, List.mem_cons, List.not_mem_nil, or_false] at hp
   rcases hp with rfl | rfl | rfl
   · exact i5
   · exact i6
   · exact i7
 have e17 := N1.val 0 rfl
 have e18 := N1.val 1 rfl
 have e20 := N1.val 2 rfl
 have e21 := N1.val 3 rfl
 have e22 := N1.val 4 rfl
 have e23 := N1.val 5 rfl
 have e24 := N1.val 6 rfl
 have h := hQ (slots A1 19) (slots A1 21) (slots A1 22) (slots A1 23) (slots A1 24) w1 ⟨_, _, _, e21⟩ e22 ⟨_, e23⟩ ⟨_, _, _, e24⟩ H1
 rw [frame_eq N1.frame (cons_eq e17 (cons_eq e18 (cons_eq rfl (cons_eq e20 (cons_eq rfl (cons_eq rfl (cons_eq rfl (cons_eq rfl rfl))))))))]
 exact h
end Go.Proofs.YtnefkkidfhmggaaGreat
/- taken: the first items of an iterator. -/
namespace Go.Proofs.YtnefkkidfhmggaaGreat
open Go Go.RowKit Go.Shelf
attribute [local go_sem] Oper.semAt_some
def rowP (x : Ri) : Asn := rowA 29 3 x.v x.r.length (flat x.r)
/-- A list of items that owns its rows. -/
def itsL (v : Value) (out : List Ri) : List Asn := riA v out :: out.map rowP
def tkA (b5 : Nat) (pre : List Ri) : Asn := exA fun q : Value × List Ri => starA (pureA (riL q.2 = riL pre) :: blkA b5 35 #[q.1] :: itsL q.1 q.2)
theorem St.tk {w0 w : World} {fp0 : List Nat} {L : List Asn} {b5 : Nat} {pre : List Ri} : St w0 fp0 (tkA b5 pre :: L) w ↔ ∃ v out, riL out = riL pre ∧ St w0 fp0 (blkA b5 35 #[v] :: (itsL v out ++ L)) w := by
 unfold tkA
 rw [St.exo (F := fun q : Value × List Ri => pureA (riL q.2 = riL pre) :: blkA b5 35 #[q.1] :: itsL q.1 q.2)]
 constructor
 · rintro ⟨⟨v, out⟩, h⟩
   exact ⟨v, out, St.pure.1 h⟩
 · rintro ⟨v, out, h⟩
   exact ⟨⟨v, out⟩, St.pure.2 h⟩
def takeR (most : Int) (l : List Ri) : List Ri := if most < 1 then [] else l.take most.toNat
theorem riL_append (A B : List Ri) : riL (A ++ B) = riL A ++ riL B := List.map_append
theorem riL_len (A : List Ri) : (riL A).length = A.length := List.length_map _
def tzI (b5 b3 : Nat) (most : Int) (L : List Asn) (pre : List Ri) : List Asn := pureA ((pre.length : Int) < most) :: tkA b5 pre :: blkA b3 3 #[.int .i64 most] :: L
def tzX (b5 : Nat) (most : Int) (L : List Asn) (c : Code) (pre : List Ri) : List Asn := pureA (c = .exit 0) :: pureA (pre.length = most.toNat) :: tkA b5 pre :: L
set_option maxHeartbeats 4000000 in
set_option maxRecDepth 20000 in
theorem taken_calls (g : Nat) (lb : Array Value) (eg : ∀ args w, (callFunc g args).run Tryz.prog w = .ok (.enter g args) w) (Qr : World → Prop) (its : List Ri) (L0 : List Asn) (hseq : SeqG (2 - 1) Tryz.prog g lb 2 itG Qr its L0) (hlen : its.length < 1099511627775) (hrow : ∀ x ∈ its, x.r.length < 1099511627776)
 (most : Int) (w0 w : World) (fp0 : List Nat) (R : List Asn) (hqr : ∀ Own W, St w0 fp0 (L0 ++ Own) W → Qr W) (hS : St w0 fp0 (L0 ++ R) w) :
 Calls Tryz.prog 14 #[.func (.func g) #[] lb, .int .i64 most] w fun e w' => ∃ v out, e = .returned v ∧ riL out = riL (takeR most its) ∧ St w0 fp0 (itsL v out ++ (L0 ++ R)) w' := by
 have hnn : ∀ w, (binOp .eql 44 (.func (.func g) #[] lb) .nilFunc).run Tryz.prog w = .ok (.bool false) w := fun w => run_eql_func_nil Tryz.underlying44 w
 have HS := Lib.hid hS
 have Hlen := Lib.hid hlen
 have Hrow := Lib.hid hrow
 by_cases hm : most < 1
 · have hT : RowKit.Hid (takeR most its = []) := by show _ = _; simp [takeR, hm]
   clear hS hlen hrow hqr hseq
   refine calls_of_wp_m Tryz.func14 rfl ?_
   simp only [Tryz.ntmps14, List.size_toArray, List.length_cons, List.length_nil, Nat.reduceAdd, Nat.reduceSub, Array.replicate_succ, Array.replicate_zero, List.push_toArray, List.append_toArray, List.nil_append, List.cons_append]
   go_wp2
   refine bodyPostM_ret (results_tmp rfl _ _ _) rfl ?_
   refine ⟨_, [], rfl, by rw [hT.out], ?_⟩
   refine St.nilR 56 2 (HS.out.mono ?_)
   exact ((Below.refl _ _).alloc (Nat.le_refl _) _).alloc (by simp) _
 · have hT : RowKit.Hid (takeR most its = its.take most.toNat) := by show _ = _; simp [takeR, hm]
   have hm1 : decide (most < 1) = false := by simp; omega
   have HM : RowKit.Hid (1 ≤ most) := by show _ ≤ _; omega
   have HSEQ := Lib.hid hseq
   have HQR := Lib.hid hqr
   have HS0 : RowKit.Hid (St w0 fp0 (L0 ++ (blkA (w.heap.size + 1) 35 #[.slice none 0 0] :: rowA 56 2 (.slice none 0 0) 0 [] :: blkA w.heap.size 3 #[.int .i64 most] :: R)) ((w.alloc (.cells #[.int .i64 most] 3)).alloc (.cells #[.slice none 0 0] 35))) := by
    have h1 := ((hS.newblk 3 #[.int .i64 most]).newblk 35 #[.slice none 0 0]).nilR 56 2
    simp only [World.size_alloc] at h1
    refine h1.perm ?_
    exact (by classical exact List.perm_iff_count.2 fun a => by simp only [List.count_append, List.count_cons] <;> omega)
   clear hS hlen hrow hqr hseq hm
   refine calls_of_wp_m Tryz.func14 rfl ?_
   simp only [Tryz.ntmps14, List.size_toArray, List.length_cons, List.length_nil, Nat.reduceAdd, Nat.reduceSub, Array.replicate_succ, Array.replicate_zero, List.push_toArray, List.append_toArray, List.nil_append, List.cons_append]
   go_wp2_with fail
   generalize hWW : (w.alloc _).alloc _ = W0 at *
   clear hWW
   obtain ⟨b3, hbm⟩ : ∃ b3, w.heap.size = b3 := ⟨_, rfl⟩
   rw [hbm] at HS0 ⊢
   clear hbm
   generalize b3 + 1 = b5 at *
   refine wp_rangeFunc_g (n := 2) rfl eg HSEQ.out
    (tzI b5 b3 most (L0 ++ R)) (tzX b5 most (L0 ++ R)) _ HS0.out ?h0 ?hqr ?round ?done ?stop
   case h0 =>
    intro Own W hW
    refine St.pure.2 ⟨by have := HM.out; simp; omega, ?_⟩
    refine St.tk.2 ⟨.slice none 0 0, [], rfl, hW.perm ?_⟩
    unfold itsL riA
    exact (by classical exact List.perm_iff_count.2 fun a => by simp only [List.map_nil, List.cons_append, List.nil_append, List.count_append, List.count_cons, riV, List.flatMap_nil, List.length_nil, List.append_eq] <;> omega)
   case hqr =>
    intro pre Own W hW
    refine HQR.out (pureA ((pre.length : Int) < most) :: tkA b5 pre :: blkA b3 3 #[.int .i64 most] :: (R ++ Own)) W (hW.perm ?_)
    unfold tzI
    exact (by classical exact List.perm_iff_count.2 fun a => by simp only [List.cons_append, List.count_append, List.count_cons] <;> omega)
   case round =>
    intro l0 pre x rest args Own W hxs hsz hs
    obtain ⟨xa, xc, rfl, hs'⟩ := itG_out (show St w0 fp0 (itG x args :: (tzI b5 b3 most (L0 ++ R) pre ++ Own)) W from hs)
    clear hs
    have HR := Lib.hid (Hrow.out x (by rw [hxs]; simp))
    have Hpl : RowKit.Hid (pre.length + 1 < 1099511627776) := by
     have h1 := congrArg List.length hxs
     rw [List.length_append, List.length_cons] at h1
     have := Hlen.out
     show _ < _
     omega
    have HS1 := Lib.hid (itG_in hs')
    clear hs' hsz
    have Hxs := Lib.hid hxs
    clear hxs
    gi_wp2
    refine ⟨HS1.out, fun Own2 W2 hs2 => ?_⟩
    clear HS1
    obtain ⟨ya, yc, hargs, h1⟩ := itG_out (show St w0 fp0 (itG x #[.int .i64 x.id, .slice xa x.r.length xc] :: (tzI b5 b3 most (L0 ++ R) pre ++ Own2)) W2 from hs2)
    have e1 : Value.slice xa x.r.length xc = .slice ya x.r.length yc := by simpa using hargs
    obtain ⟨rfl, -, rfl⟩ := Value.slice.inj e1
    obtain ⟨hlt, h2⟩ := St.pure.1 (show St w0 fp0 (pureA ((pre.length : Int) < most) :: rowA 29 3 (.slice xa x.r.length xc) x.r.length (flat x.r) :: tkA b5 pre :: (blkA b3 3 #[.int .i64 most] :: (L0 ++ R) ++ Own2)) W2 from h1.perm (List.Perm.swap _ _ _))
    obtain ⟨v0, out, ho, h3⟩ := St.tk.1 (h2.perm (List.Perm.swap _ _ _))
    have hol : out.length = pre.length := by rw [← riL_len, ho, riL_len]
    have HO := Lib.hid ho
    have h4 : St w0 fp0 ([blkA b5 35 #[v0], rowA 29 3 (.slice xa x.r.length xc) x.r.length (flat x.r), emp, emp, rowA 56 2 v0 out.length (riV out)] ++ (out.map rowP ++ (blkA b3 3 #[.int .i64 most] :: ((L0 ++ R) ++ Own2)))) W2 := by
     have h5 := St.emp.2 (St.emp.2 h3)
     refine h5.perm ?_
     unfold itsL riA
     exact (by classical exact List.perm_iff_count.2 fun a => by simp only [List.cons_append, List.nil_append, List.count_append, List.count_cons] <;> omega)
    have H4 := Lib.hid h4
    have Hlt := Lib.hid hlt
    have Hol := Lib.hid hol
    clear hs2 hargs e1 hlt h1 h2 h3 h4 ho hol
    refine wpIn_block (wpIn_seq ?_)
    refine rTk7 (w0 := w0) (fp0 := fp0) b5 v0 x.id xa x.r.length xc out.length (flat x.r) (riV out) _ (by rw [length_flat]) (one_flat _) HR.out (by rw [Hol.out]; exact Hpl.out) rfl (by kernel_rfl) rfl rfl rfl rfl rfl H4.out ?_ ?_
    · intro a w h; exact h
    intro u19 u21 u22 u23 u24 W3 ⟨da, dn, dc, d1⟩ hu22 ⟨db, hu23⟩ ⟨ea, en, ec, e1⟩ h5
    subst d1 e1 hu22 hu23
    obtain ⟨_, hr1⟩ := h5.has 2 rfl
    obtain ⟨_, _, e2, -⟩ := row_shape hr1
    obtain ⟨-, rfl, -⟩ := Value.slice.inj e2
    obtain ⟨_, hr2⟩ := h5.has 4 rfl
    obtain ⟨_, _, e3, -⟩ := row_shape hr2
    obtain ⟨-, rfl, -⟩ := Value.slice.inj e3
    have ho2 : riL (out ++ [⟨x.id, da, x.r.length, dc, x.r⟩]) = riL (pre ++ [x]) := by rw [riL_append, riL_append, HO.out]; rfl
    have h6 : St w0 fp0 (tkA b5 (pre ++ [x]) :: (blkA b3 3 #[.int .i64 most] :: ((L0 ++ R) ++ Own2))) W3 := by
     refine St.tk.2 ⟨.slice ea (out.length + 1) ec, out ++ [⟨x.id, da, x.r.length, dc, x.r⟩], ho2, ?_⟩
     refine St.dropAll (A := [rowA 29 3 (.slice xa x.r.length xc) x.r.length (flat x.r), boxsA 56 (.slice (some ⟨db, 0, none⟩) 1 1) #[.int .i64 x.id, .slice da x.r.length dc]]) (h5.perm ?_)
     unfold itsL riA
     rw [riV_append, riV_one, List.length_append]
     exact (by classical exact List.perm_iff_count.2 fun a => by simp only [List.map_append, List.map_cons, List.map_nil, rowP, Ri.v, List.length_singleton, List.cons_append, List.nil_append, List.count_append, List.count_cons, List.count_nil, sa, sn, sc] <;> omega)
    obtain ⟨_, hb5⟩ := h5.has 0 rfl
    have d0 := (blk_get hb5).1 0
    have dl := (blk_get hb5).2.2
    simp only [List.getElem?_toArray, List.getElem?_cons_zero] at d0
    obtain ⟨_, hb3⟩ := h6.has 1 rfl
    have f0 := (blk_get hb3).1 0
    have fl := (blk_get hb3).2.2
    simp only [List.getElem?_toArray, List.getElem?_cons_zero] at f0
    have H6 := Lib.hid h6
    have hl : (pre ++ [x]).length = pre.length + 1 := by simp
    have Hl := Lib.hid hl
    obtain ⟨nx, hnx⟩ : ∃ nx, pre ++ [x] = nx := ⟨_, rfl⟩
    rw [hnx] at H6 Hl ⊢
    clear H4 hr1 hr2 e2 e3 h5 h6 hb5 hb3 ho2 hl hnx HO Hxs
    generalize hon : out.length + 1 = m at *
    have Hon := Lib.hid hon
    clear hon
    simp only [putL, List.foldl, Act.put, List.setIfInBounds_toArray, List.set_cons_succ, List.set_cons_zero]
    by_cases hge : most ≤ m
    · have hge' : decide (most ≤ (m : Int)) = true := by simp [hge]
      have Hge := Lib.hid hge
      clear hge
      gi_wp2
      show St w0 fp0 (tzX b5 most (L0 ++ R) (.exit 0) nx ++ Own2) W3
      have e3 : nx.length = most.toNat := by have := Hl.out; have := Hol.out; have := Hon.out; have := Hlt.out; have := Hge.out; omega
      refine St.pure.2 ⟨rfl, St.pure.2 ⟨e3, ?_⟩⟩
      refine St.dropAll (A := [blkA b3 3 #[.int .i64 most]]) (H6.out.perm ?_)
      exact (by classical exact List.perm_iff_count.2 fun a => by simp only [List.cons_append, List.nil_append, List.append_eq, List.count_append, List.count_cons] <;> omega)
    · have hge' : decide (most ≤ (m : Int)) = false := by simp; omega
      have Hge := Lib.hid hge
      clear hge
      gi_wp2
      show St w0 fp0 (tzI b5 b3 most (L0 ++ R) nx ++ Own2) W3
      have e3 : (nx.length : Int) < most := by have := Hl.out; have := Hol.out; have := Hon.out; have := Hge.out; omega
      refine St.pure.2 ⟨e3, H6.out.perm ?_⟩
      exact (by classical exact List.perm_iff_count.2 fun a => by simp only [List.cons_append, List.append_eq, List.count_append, List.count_cons] <;> omega)
   case done =>
    intro D W hW
    obtain ⟨hlt, h1⟩ := St.pure.1 (show St w0 fp0 (pureA ((its.length : Int) < most) :: (defA D :: tkA b5 its :: blkA b3 3 #[.int .i64 most] :: (L0 ++ R))) W from hW.perm (List.Perm.swap _ _ _))
    obtain ⟨v0, out, ho, h2⟩ := St.tk.1 (h1.perm (List.Perm.swap _ _ _))
    have e : riL out = riL (takeR most its) := by rw [ho, hT.out, List.take_of_length_le (by omega)]
    have E := Lib.hid e
    obtain ⟨_, hb⟩ := h2.has 0 rfl
    obtain ⟨_, hp⟩ := h2.has 1 rfl
    obtain ⟨ga, gc, rfl, -⟩ := row_shape hp
    have d0 := (blk_get hb).1 0
    have dl := (blk_get hb).2.2
    simp only [List.getElem?_toArray, List.getElem?_cons_zero] at d0
    have h3 : St w0 fp0 (defA D :: (itsL (.slice ga out.length gc) out ++ (L0 ++ R))) W := by
     refine St.dropAll (A := [blkA b5 35 #[.slice ga out.length gc], blkA b3 3 #[.int .i64 most]]) (h2.perm ?_)
     exact (by classical exact List.perm_iff_count.2 fun a => by simp only [List.cons_append, List.nil_append, List.count_append, List.count_cons] <;> omega)
    have H3 := Lib.hid h3
    clear hW h1 h2 h3 hb hp hlt e ho
    dsimp only
    go_wp2
    exact bodyPostM_mark H3.out rfl fun w' hw' => ⟨_, results_tmp rfl _ _ _, .slice ga out.length gc, out, rfl, E.out, hw'⟩
   case stop =>
    intro D c pre x rest W hxs hW
    have h1 : St w0 fp0 (pureA (c = .exit 0) :: pureA ((pre ++ [x]).length = most.toNat) :: tkA b5 (pre ++ [x]) :: defA D :: (L0 ++ R)) W := by
     refine hW.perm ?_
     unfold tzX
     exact (by classical exact List.perm_iff_count.2 fun a => by simp only [List.count_cons] <;> omega)
    obtain ⟨rfl, h2⟩ := St.pure.1 h1
    obtain ⟨hlt, h2⟩ := St.pure.1 h2
    obtain ⟨v0, out, ho, h2⟩ := St.tk.1 h2
    have e : riL out = riL (takeR most its) := by rw [ho, hT.out, hxs, ← hlt, show pre ++ x :: rest = (pre ++ [x]) ++ rest by simp, List.take_left]
    have E := Lib.hid e
    obtain ⟨_, hb⟩ := h2.has 0 rfl
    obtain ⟨_, hp⟩ := h2.has 1 rfl
    obtain ⟨ga, gc, rfl, -⟩ := row_shape hp
    have d0 := (blk_get hb).1 0
    have dl := (blk_get hb).2.2
    simp only [List.getElem?_toArray, List.getElem?_cons_zero] at d0
    have h3 : St w0 fp0 (defA D :: (itsL (.slice ga out.length gc) out ++ (L0 ++ R))) W := by
     refine St.dropAll (A := [blkA b5 35 #[.slice ga out.length gc]]) (h2.perm ?_)
     exact (by classical exact List.perm_iff_count.2 fun a => by simp only [List.cons_append, List.nil_append, List.count_append, List.count_cons] <;> omega)
    have H3 := Lib.hid h3
    clear hW h1 h2 h3 hb hp hlt e ho hxs
    dsimp only
    go_wp2
    exact bodyPostM_mark H3.out rfl fun w' hw' => ⟨_, results_tmp rfl _ _ _, .slice ga out.length gc, out, rfl, E.out, hw'⟩
end Go.Proofs.YtnefkkidfhmggaaGreat
/- indexed: the rows of some entries of an index that a predicate accepts. -/
namespace Go.Proofs.YtnefkkidfhmggaaGreat
open Go Go.RowKit Go.Shelf
attribute [local go_sem] Oper.semAt_some
theorem find_id {es : List Re} (ha : es.Pairwise fun a b => a.id < b.id) {e : Re} (he : e ∈ es) : es.find? (fun x => x.id == e.id) = some e := by
 induction es with
 | nil => cases he
 | cons x es ih =>
  obtain ⟨h1, h2⟩ := List.pairwise_cons.1 ha
  rw [List.find?_cons]
  rcases List.mem_cons.1 he with rfl | he
  · simp
  · have : (x.id == e.id) = false := by
     have := h1 e he
     simp; omega
    rw [this]
    exact ih h2 he
theorem stoGet {S cols : Nat} {I : List (List Int)} {L : LL} {next : Int} {s : Sto} (hok : s.Ok cols I L next) {e : Re} (he : e ∈ s.es) (w0 w : World) (fp0 : List Nat) (R : List Asn) (hS : St w0 fp0 (stoL S s ++ R) w) :
 Calls Tryz.prog 69 #[ptrV s.tb, .int .i64 e.id] w fun ev w' => ev = .returned (.tuple #[encV e.va, .bool true]) ∧ St w0 fp0 (stoL S s ++ R) w' := by
 have hG := Get_calls (o := 16) (by omega) s.h (reM s.es) s.tb (.int e.id) trivial (okR s.es) w0 w fp0 _ (show St w0 fp0 (objA false 16 s.h (reM s.es) s.tb :: blkA S 119 #[.int .i64 s.cols, ptrV s.tb, .int .i64 s.next, s.iv] :: rowA 97 2 s.iv s.ixs.length (ixV s.ixs) :: (s.es.map reA ++ s.ixs.map ixA) ++ R) w from hS.perm (List.Perm.swap _ _ _))
 rw [getM_reM, find_id (reL_asc (by rw [hok.rows]; exact hok.asc)) he] at hG
 refine hG.mono ?_
 rintro ev w1 ⟨rfl, h1⟩
 exact ⟨rfl, h1.perm (List.Perm.swap _ _ _)⟩
def ikI (b7 b5 b3 S : Nat) (isv : Value) (p : Re → Bool) (ess : List Re) (L : List Asn) (pre : MM) : List Asn := outA b7 (somL p (ess.take pre.length)) :: blkA b5 88 #[isv] :: blkA b3 34 #[ptrV S] :: L
def entM (kf : Re → Ky) (ess : List Re) : MM := ess.map fun e => (kf e, .int e.id)
theorem entM_split {kf : Re → Ky} {es : List Re} {pre rest : MM} {x : Ky × Va} (h : entM kf es = pre ++ x :: rest) : ∃ e : Re, x = (kf e, .int e.id) ∧ es.take (pre.length + 1) = es.take pre.length ++ [e] ∧ e ∈ es := by
 have hl : pre.length < es.length := by
  have h1 := congrArg List.length h
  rw [entM, List.length_map, List.length_append, List.length_cons] at h1
  omega
 have hx : (entM kf es)[pre.length]? = some x := by rw [h]; simp
 rw [entM, List.getElem?_map, List.getElem?_eq_getElem hl] at hx
 exact ⟨es[pre.length], (Option.some.inj hx).symm, List.take_succ_eq_append_getElem hl, List.getElem_mem hl⟩
set_option maxHeartbeats 4000000 in
set_option maxRecDepth 20000 in
theorem indexed_calls (f : Nat) (caps : Array Value) (p : Re → Bool) (S cols : Nat) (I : List (List Int)) (L : LL) (next : Int) (s : Sto) (hok : s.Ok cols I L next) (LX : List Asn) (he : ∀ args w, (callFunc f args).run Tryz.prog w = .ok (.enter f args) w) (his : IsC f caps p S s LX)
 (g : Nat) (lb : Array Value) (eg : ∀ args w, (callFunc g args).run Tryz.prog w = .ok (.enter g args) w) (kf : Re → Ky) (ess : List Re) (hm : ∀ e ∈ ess, e ∈ s.es) (hlen : ess.length + 1 < 1099511627776) (L0 R1 : List Asn) (hseq : SeqSt (2 - 1) Tryz.prog g lb (fun e : Ky × Va => #[encK e.1, encV e.2]) (entM kf ess) L0)
 (w0 w : World) (fp0 : List Nat) (R : List Asn) (hsp : ∀ Own W, St w0 fp0 ((L0 ++ R1) ++ Own) W ↔ St w0 fp0 ((stoL S s ++ (LX ++ R)) ++ Own) W) (hS : St w0 fp0 (stoL S s ++ (LX ++ R)) w) :
 Calls Tryz.prog 51 #[ptrV S, .func (.func g) #[] lb, .func (.func f) #[] caps] w fun e w' => ∃ v, e = .returned v ∧ St w0 fp0 (rowA 114 2 v (somL p ess).length (riV (somL p ess)) :: (stoL S s ++ (LX ++ R))) w' := by
 have HSL := Lib.hid hS.slOf
 obtain ⟨tb, htb⟩ : ∃ tb, s.tb = tb := ⟨_, rfl⟩
 have HS0 : RowKit.Hid (St w0 fp0 ((L0 ++ R1) ++ (blkA (w.heap.size + 1 + 1) 94 #[.slice none 0 0] :: rowA 114 2 (.slice none 0 0) 0 [] :: blkA (w.heap.size + 1) 88 #[.func (.func f) #[] caps] :: [blkA w.heap.size 34 #[ptrV S]])) (((w.alloc (.cells #[ptrV S] 34)).alloc (.cells #[.func (.func f) #[] caps] 88)).alloc (.cells #[.slice none 0 0] 94))) := by
  have h1 := (((hS.newblk 34 #[ptrV S]).newblk 88 #[.func (.func f) #[] caps]).newblk 94 #[.slice none 0 0]).nilR 114 2
  simp only [World.size_alloc] at h1
  refine (hsp _ _).2 (h1.perm ?_)
  exact (by classical exact List.perm_iff_count.2 fun a => by simp only [List.count_append, List.count_cons, List.count_nil] <;> omega)
 have HSEQ := Lib.hid hseq
 have HSP := Lib.hid hsp
 have HIS := Lib.hid his
 have HLEN := Lib.hid hlen
 have HM := Lib.hid hm
 have HOK := Lib.hid hok
 have HTB := Lib.hid htb
 clear hS his hlen hseq hsp hm hok htb
 unfold ptrV at HS0 ⊢
 refine calls_of_wp_m Tryz.func51 rfl ?_
 simp only [Tryz.ntmps51, List.size_toArray, List.length_cons, List.length_nil, Nat.reduceAdd, Nat.reduceSub, Array.replicate_succ, Array.replicate_zero, List.push_toArray, List.append_toArray, List.nil_append, List.cons_append]
 go_wp2_with fail
 generalize hWW : ((w.alloc _).alloc _).alloc _ = W0 at *
 clear hWW
 obtain ⟨b3, hbm⟩ : ∃ b3, w.heap.size = b3 := ⟨_, rfl⟩
 rw [hbm] at HS0 ⊢
 clear hbm
 generalize b3 + 1 + 1 = b7 at *
 generalize b3 + 1 = b5 at *
 refine wp_rangeFunc_st (n := 2) rfl eg HSEQ.out (fun _ => rfl)
  (ikI b7 b5 b3 S (.func (.func f) #[] caps) p ess (stoL S s ++ (LX ++ R))) (fun _ _ => [pureA False]) _ (show St w0 fp0 (L0 ++ (R1 ++ _)) W0 from (by have := HS0.out; rwa [List.append_assoc] at this)) ?h0 ?round ?done ?stop
 case h0 =>
  intro Own W hW
  have h1 : St w0 fp0 ((L0 ++ R1) ++ (blkA b7 94 #[.slice none 0 0] :: rowA 114 2 (.slice none 0 0) 0 [] :: blkA b5 88 #[.func (.func f) #[] caps] :: blkA b3 34 #[.pointer (some ⟨S, 0, none⟩)] :: Own)) W := by
   refine hW.perm ?_
   exact (by classical exact List.perm_iff_count.2 fun a => by simp only [List.count_append, List.count_cons, List.count_nil] <;> omega)
  have h2 := (HSP.out _ _).1 h1
  refine St.out.2 ⟨.slice none 0 0, h2.perm ?_⟩
  unfold ptrV
  exact (by classical exact List.perm_iff_count.2 fun a => by simp only [List.cons_append, List.append_eq, List.count_append, List.count_cons, List.take_zero, somL, List.length_nil, List.map_nil, List.filter_nil, riV, List.flatMap_nil] <;> omega)
 case round =>
  intro l0 pre x rest Own W hxs hs
  obtain ⟨e, hx, het, hem⟩ := entM_split hxs
  obtain ⟨PRE, hPRE⟩ : ∃ PRE, somL p (ess.take pre.length) = PRE := ⟨_, rfl⟩
  have hPL : PRE.length + 1 < 1099511627776 := by
   have h1 := somL_len p (ess.take pre.length)
   rw [hPRE, List.length_take] at h1
   have := HLEN.out
   omega
  obtain ⟨nx, hnx⟩ : ∃ nx, pre ++ [x] = nx := ⟨_, rfl⟩
  have HNX : RowKit.Hid (somL p (ess.take nx.length) = PRE ++ if p e then [toRi e] else []) := by
   show _ = _
   rw [← hnx, List.length_append, show [x].length = 1 from rfl, het, somL_snoc, hPRE]
  have hsm : ikI b7 b5 b3 S (.func (.func f) #[] caps) p ess (stoL S s ++ (LX ++ R)) pre = outA b7 PRE :: blkA b5 88 #[.func (.func f) #[] caps] :: blkA b3 34 #[ptrV S] :: (stoL S s ++ (LX ++ R)) := by rw [ikI, hPRE]
  rw [hsm] at hs ⊢
  rw [hnx, hx]
  have HEM := Lib.hid (HM.out e hem)
  have HV := Lib.hid (toRi_v (HSL.out e HEM.out))
  clear hx het hPRE hxs hem hsm hnx x
  obtain ⟨va, vn, vc, hvv⟩ : ∃ a n c, encV e.va = .slice a n c := by
   obtain ⟨a, n, c, h⟩ := HSL.out e HEM.out
   exact ⟨a, n, c, by rw [h]; rfl⟩
  rw [hvv] at HV
  dsimp only [encV]
  generalize encK (kf e) = kv
  gi_wp2
  refine ⟨hs, fun Own2 W2 hs2 => ?_⟩
  clear hs Own W
  have h2 : St w0 fp0 (stoL S s ++ (LX ++ (R ++ (outA b7 PRE :: blkA b5 88 #[.func (.func f) #[] caps] :: blkA b3 34 #[ptrV S] :: Own2)))) W2 := by
   refine hs2.perm ?_
   exact (by classical exact List.perm_iff_count.2 fun a => by simp only [List.cons_append, List.count_append, List.count_cons] <;> omega)
  have HG := Lib.hid (show Calls Tryz.prog 69 #[.pointer (some ⟨s.tb, 0, none⟩), .int .i64 e.id] W2 _ from stoGet HOK.out HEM.out w0 W2 fp0 _ h2)
  rw [hvv, HTB.out] at HG
  obtain ⟨_, hb⟩ := h2.has 0 rfl
  have c1 := (blk_get hb).1 1
  have cl := (blk_get hb).2.2
  obtain ⟨_, hb3⟩ := hs2.has 2 rfl
  have d0 := (blk_get hb3).1 0
  have dl := (blk_get hb3).2.2
  simp only [List.getElem?_toArray, List.getElem?_cons_zero, List.getElem?_cons_succ] at c1 d0
  rw [HTB.out] at c1
  unfold ptrV at c1 d0
  clear hs2 h2 hb hb3
  gi_wp2
  refine ⟨trivial, rfl, (CallsIn.inRound l0 (callsIn_wide.2 HG.out)).mono ?_⟩
  rintro ev W3 ⟨rfl, h3⟩
  clear HG c1 cl d0 dl
  have HC := Lib.hid (HIS.out w0 fp0 _ W3 e HEM.out h3)
  rw [hvv] at HC
  have h3' : St w0 fp0 (blkA b5 88 #[.func (.func f) #[] caps] :: (outA b7 PRE :: blkA b3 34 #[ptrV S] :: (stoL S s ++ (LX ++ R)) ++ Own2)) W3 := by
   refine h3.perm ?_
   exact (by classical exact List.perm_iff_count.2 fun a => by simp only [List.cons_append, List.count_append, List.count_cons] <;> omega)
  obtain ⟨_, hb⟩ := h3'.has 0 rfl
  have d0 := (blk_get hb).1 0
  have dl := (blk_get hb).2.2
  simp only [List.getElem?_toArray, List.getElem?_cons_zero] at d0
  clear h3 h3' hb hvv
  gi_wp2
  refine ⟨trivial, rfl, (CallsIn.inRound l0 (callsIn_wide.2 HC.out)).mono ?_⟩
  rintro ev w3 ⟨rfl, h3⟩
  clear HC d0 dl
  have h4 : St w0 fp0 (outA b7 PRE :: (blkA b5 88 #[.func (.func f) #[] caps] :: blkA b3 34 #[ptrV S] :: (stoL S s ++ (LX ++ R)) ++ Own2)) w3 := by
   refine h3.perm ?_
   exact (by classical exact List.perm_iff_count.2 fun a => by simp only [List.cons_append, List.count_append, List.count_cons] <;> omega)
  obtain ⟨q, hq⟩ : ∃ q, p e = q := ⟨_, rfl⟩
  rw [hq] at HNX ⊢
  clear hq h3
  cases q with
  | false =>
   have HF : RowKit.Hid (St w0 fp0 (ikI b7 b5 b3 S (.func (.func f) #[] caps) p ess (stoL S s ++ (LX ++ R)) nx ++ Own2) w3) := by
    show St _ _ _ _
    unfold ikI
    rw [HNX.out, if_neg (by simp), List.append_nil]
    exact h4
   clear h4 HNX
   gi_wp2
   exact HF.out
  | true =>
   obtain ⟨v0, h5⟩ := St.out.1 h4
   obtain ⟨_, hb⟩ := h5.has 0 rfl
   have d0 := (blk_get hb).1 0
   have dl := (blk_get hb).2.2
   simp only [List.getElem?_toArray, List.getElem?_cons_zero] at d0
   obtain ⟨v', w', hr, ⟨a', c', rfl⟩, e0, e1, e2, h6⟩ := h5.appIt 94 (toRi e) hPL
   rw [HV.out, show (toRi e).id = e.id from rfl] at hr
   have h7 := St.out.2 ⟨_, h6⟩
   have HF : RowKit.Hid (St w0 fp0 (ikI b7 b5 b3 S (.func (.func f) #[] caps) p ess (stoL S s ++ (LX ++ R)) nx ++ Own2) (w'.setCell ⟨b7, 0, none⟩ (.slice a' (PRE.length + 1) c'))) := by
    show St _ _ _ _
    unfold ikI
    rw [HNX.out, if_pos rfl]
    exact h7
   have HR := Lib.hid hr
   clear h4 HNX h5 hb h6 h7 hr
   gi_wp2_with (gi_at_builtin; refine wpListIn_append_run rfl _ _ _ rfl rfl rfl HR.out ?_)
   exact HF.out
 case done =>
  intro D W hW
  have hlr : (entM kf ess).length = ess.length := by rw [entM, List.length_map]
  have h1 : St w0 fp0 (outA b7 (somL p ess) :: blkA b5 88 #[.func (.func f) #[] caps] :: blkA b3 34 #[ptrV S] :: (defA D :: (stoL S s ++ (LX ++ R)))) W := by
   refine hW.perm ?_
   unfold ikI
   rw [hlr, List.take_length]
   exact (by classical exact List.perm_iff_count.2 fun a => by simp only [List.count_append, List.count_cons] <;> omega)
  obtain ⟨v0, h2⟩ := St.out.1 h1
  obtain ⟨_, hb⟩ := h2.has 0 rfl
  have d0 := (blk_get hb).1 0
  have dl := (blk_get hb).2.2
  simp only [List.getElem?_toArray, List.getElem?_cons_zero] at d0
  have h3 : St w0 fp0 (defA D :: rowA 114 2 v0 (somL p ess).length (riV (somL p ess)) :: (stoL S s ++ (LX ++ R))) W := by
   refine St.dropAll (A := [blkA b7 94 #[v0], blkA b5 88 #[.func (.func f) #[] caps], blkA b3 34 #[ptrV S]]) (h2.perm ?_)
   exact (by classical exact List.perm_iff_count.2 fun a => by simp only [List.cons_append, List.nil_append, List.count_append, List.count_cons] <;> omega)
  have H3 := Lib.hid h3
  clear hW h1 h2 h3 hb hlr
  dsimp only
  go_wp2
  exact bodyPostM_mark H3.out rfl fun w' hw' => ⟨_, results_tmp rfl _ _ _, v0, rfl, hw'⟩
 case stop =>
  intro D c pre x rest W hxs hW
  exact ((St.pure.1 (show St w0 fp0 (pureA False :: [defA D]) W from hW.perm (List.Perm.swap _ _ _))).1).elim
end Go.Proofs.YtnefkkidfhmggaaGreat
/- End: the least text behind all texts with a beginning. -/
namespace Go.Proofs.YtnefkkidfhmggaaGreat
open Go Go.RowKit
theorem text_get (l : List UInt8) (j : Nat) (h : j < (textOf l).size) : (textOf l)[j]'h = l[j]'(by rwa [text_size] at h) := by
 rfl
theorem text_take (l : List UInt8) (m : Nat) : (textOf l).extract 0 m = textOf (l.take m) := by
 apply ByteArray.ext
 rw [ByteArray.data_extract]
 show l.toArray.extract 0 m = (l.take m).toArray
 simp
set_option maxHeartbeats 4000000 in
set_option maxRecDepth 20000 in
theorem End_calls (p : List UInt8) (h : ∃ c ∈ p, c ≠ 255) (hl : p.length < 1099511627776) (w : World) :
 Calls Tryz.prog 50 #[.string (textOf p)] w fun e w' => e = .returned (.tuple #[.string (textOf (endL p)), .bool true]) ∧ Below w.heap.size w w' := by
 obtain ⟨N, hN⟩ : ∃ N, p.length = N := ⟨_, rfl⟩
 have HN := Lib.hid hN
 obtain ⟨t, ht⟩ : ∃ t, textOf p = t := ⟨_, rfl⟩
 have HT := Lib.hid ht
 rw [ht]
 obtain ⟨r, hr⟩ : ∃ r, textOf (endL p) = r := ⟨_, rfl⟩
 rw [hr]
 have HR := Lib.hid hr
 have H := Lib.hid h
 have HL := Lib.hid hl
 clear h hr ht hl hN
 go_enter Tryz.func50, Tryz.ntmps50
 go_wp2
 go_loopg [4] N (fun g z wr => ∃ u : ByteArray, z = .string u ∧ u.size = g ∧ g ≤ N ∧ wr = w ∧ RowKit.Hid (∃ s : List UInt8, u = textOf s ∧ (∃ c ∈ s, c ≠ 255) ∧ endL s = endL p))
 case atStart => exact ⟨t, rfl, by rw [← HT.out, text_size, HN.out], Nat.le_refl _, rfl, p, HT.out.symm, H.out, rfl⟩
 case round =>
  obtain ⟨u, rfl, hug, hgN, rfl, Hu⟩ := hrel
  obtain ⟨s0, hu, hlow, hend⟩ := Hu.out
  clear Hu
  have hne : s0 ≠ [] := by rintro rfl; obtain ⟨c, hc, -⟩ := hlow; cases hc
  obtain ⟨s, c, rfl⟩ : ∃ s c, s0 = s ++ [c] := ⟨_, _, (List.dropLast_concat_getLast hne).symm⟩
  obtain ⟨m, hm⟩ : ∃ m, s.length = m := ⟨_, rfl⟩
  have hg : gk = m + 1 := by rw [← hug, hu, text_size, List.length_append, hm]; rfl
  have hgp : 0 < gk := by omega
  have hmg : (m : Int) < gk := by omega
  have hw : wrap64 ((gk : Int) - 1) = m := by
   have : (gk : Int) - 1 = m := by omega
   rw [this]
   have := HL.out; have := HN.out
   unfold wrap64
   omega
  have hcu : ∀ (h : m < u.size), u[m]'h = c := by
   intro h
   subst hu
   show (s ++ [c]).toArray[m]'_ = c
   simp [← hm]
  have hte : u.toList.isEmpty = false := by
   cases h : u.toList with
   | nil =>
    have := (text_mt u).1 h
    rw [this] at hug
    exact absurd hug (by show ¬ (0 = gk); omega)
   | cons a l => rfl
  have HG := Lib.hid hg
  have HGN := Lib.hid hgN
  have HU := Lib.hid hu
  have HLOW := Lib.hid hlow
  have HEND := Lib.hid hend
  have HMM := Lib.hid hm
  clear hg hgN
  by_cases hc : c = 255
  · have hcc : ((c.toNat : Int) == 255) = true := by rw [hc]; rfl
    have hx : u.extract 0 m = textOf s := by rw [hu, text_take, ← hm, List.take_left]
    have HE : RowKit.Hid (∃ s' : List UInt8, u.extract 0 m = textOf s' ∧ (∃ c ∈ s', c ≠ 255) ∧ endL s' = endL p) := by
     refine ⟨s, hx, ?_, ?_⟩
     · obtain ⟨d, hd, hd'⟩ := hlow
       rcases List.mem_append.1 hd with h | h
       · exact ⟨d, h, hd'⟩
       · exact absurd ((List.mem_singleton.1 h).trans hc) hd'
     · rw [← hend, endL, endL, List.reverse_append, List.reverse_singleton, List.singleton_append, endR, if_pos hc]
    have HX : RowKit.Hid ((u.extract 0 m).size = m) := by show _ = _; rw [hx, text_size, hm]
    clear hx hu hlow hend hne hm hc
    go_wp2
    go_roundg m
    case rel => exact ⟨_, rfl, HX.out, by have := HG.out; have := HGN.out; omega, rfl, HE.out⟩
    case measure => have := HG.out; omega
  · have hcc : ((c.toNat : Int) == 255) = false := by
     have : c.toNat ≠ 255 := fun e => hc (by rw [← UInt8.toNat_inj]; exact e)
     simp; omega
    have hcv := run_bytes_of_string (P := Tryz.prog) wr 9 101 5 u (by kernel_rfl) (by kernel_rfl) (by kernel_rfl)
    have hcap : gk ≤ grownCap wr u.size 0 5 := by rw [← hug]; exact grownCap_ge _ _ _ _
    rw [hug] at hcv hcap
    obtain ⟨G, hG⟩ : ∃ G, grownCap wr gk 0 5 = G := ⟨_, rfl⟩
    rw [hG] at hcv hcap
    have hbr : ∀ j (hj : j < u.size), (bytesRow u G)[j]? = some (.int .u8 (u[j]'hj).toNat) := bytesRow_get u _
    have hbs : (bytesRow u G).size = G := by
     rw [bytesRow, Array.size_append, Array.size_map, Array.size_replicate, show u.data.size = gk from hug, hug]
     omega
    obtain ⟨br, hbrr⟩ : ∃ br, bytesRow u G = br := ⟨_, rfl⟩
    rw [hbrr] at hcv hbr hbs
    rw [hbs] at hcv
    obtain ⟨W2, hW2⟩ : ∃ W2, wr.drew.alloc (.cells br 5 (G, G + 1)) = W2 := ⟨_, rfl⟩
    rw [hW2] at hcv
    obtain ⟨B, hB⟩ : ∃ B, wr.heap.size = B := ⟨_, rfl⟩
    have h2 : W2.heap[B]? = some (.cells br 5 (G, G + 1)) := by rw [← hW2, ← hB]; exact heap_alloc_new wr.drew _
    have hb2 : Below wr.heap.size wr W2 := by rw [← hW2]; exact Below.alloc (below_drew wr) (Nat.le_refl _) _
    rw [hB] at hcv
    have c0 : W2.cell? ⟨B, m, none⟩ = some (.int .u8 c.toNat) := by
     have hmu : m < u.size := by omega
     rw [cell_of_row W2 B m br 5 _ h2, hbr m hmu, hcu hmu]
    have f0 : W2.frozen? ⟨B, m, none⟩ = false := by
     simp [World.frozen?, h2]
     omega
    have hBl : B < W2.heap.size := World.block_lt_of_cell? W2 _ c0
    have hc1 : (c + 1).toNat = (c.toNat + 1) % 256 := by rw [UInt8.toNat_add]; rfl
    have hend2 : r = textOf (s ++ [c + 1]) := by
     rw [← HR.out, ← hend, endL, List.reverse_append, List.reverse_singleton, List.singleton_append, endR, if_neg hc, List.reverse_cons, List.reverse_reverse]
    have hln : (s ++ [c + 1]).length = gk := by rw [HG.out, List.length_append, hm]; rfl
    have hcv2 : (convert 101 9 (.slice (some ⟨B, 0, none⟩) gk G)).run Tryz.prog (W2.setCell ⟨B, m, none⟩ (.int .u8 (((c.toNat : Int) + 1) % 256))) = .ok (.string r) (W2.setCell ⟨B, m, none⟩ (.int .u8 (((c.toNat : Int) + 1) % 256))) := by
     rw [← hln, hend2]
     refine run_convert_bytes_back _ 101 9 5 ⟨B, 0, none⟩ G (s ++ [c + 1]) (by kernel_rfl) (by kernel_rfl) (by kernel_rfl) fun j hj => ?_
     rw [hln, HG.out] at hj
     rw [add_plain, Nat.zero_add]
     by_cases hjm : j = m
     · subst hjm
       rw [World.cell?_setCell_same _ _ _ c0]
       have : (s ++ [c + 1])[j]'(by rw [List.length_append, hm]; simp) = c + 1 := by simp [← hm]
       rw [this, hc1]
       simp
     · rw [World.cell?_setCell_other _ _ _ _ (by intro h; injection h with h1 h2; exact hjm h2.symm)]
       have hju : j < u.size := by omega
       rw [cell_of_row W2 B j br 5 _ h2, hbr j hju]
       have : (s ++ [c + 1])[j]'(by rw [hln]; omega) = u[j]'hju := by
        subst hu
        rw [List.getElem_append_left (by omega)]
        rw [text_get, List.getElem_append_left (by omega)]
       rw [this]
    have HB2 := Lib.hid hb2
    have HH2 := Lib.hid h2
    have HBR := Lib.hid hbr
    have HCAP := Lib.hid hcap
    have HBS := Lib.hid hbs
    have HBB := Lib.hid hB
    clear hend2 hu hlow hend hne hm hc hbr hcap hbs hG hbrr hW2 h2 hb2 hB
    go_wp2
    refine bodyPost_ret (v := .tuple #[.string r, .bool true]) (by simp [results, Tryz.results50, go_sem]) rfl ?_
    exact ⟨rfl, HB2.out.setCell (by show wr.heap.size ≤ B; have := HBB.out; omega) _⟩
end Go.Proofs.YtnefkkidfhmggaaGreat
/- Lookup's predicate. -/
namespace Go.Proofs.YtnefkkidfhmggaaGreat
open Go Go.RowKit
theorem colV_at {r : Rw} {c : Int} (h : 0 ≤ c) (hc : c.toNat < r.length) : colV r c = r[c.toNat] := by
 rw [colV, if_pos h, List.getD, List.getElem?_eq_getElem hc]
 rfl
set_option maxHeartbeats 4000000 in
set_option maxRecDepth 20000 in
theorem lookup1_calls (cs : List Int) (vals r : Rw) (cv vv rv : Value) (b4 b5 : Nat) (w : World) (hc : IntsX [] w cs cv) (hv : ValsAt w vals vv) (hr : ValsAt w r rv) (e4 : w.cell? ⟨b4, 0, none⟩ = some cv) (e5 : w.cell? ⟨b5, 0, none⟩ = some vv) (hlen : cs.length = vals.length) (hcs : ∀ c ∈ cs, 0 ≤ c ∧ c < r.length) :
 Calls Tryz.prog 38 #[rv, .pointer (some ⟨b4, 0, none⟩), .pointer (some ⟨b5, 0, none⟩)] w fun e w' => e = .returned (.bool (decide (cs.map (colV r) = vals))) ∧ Below w.heap.size w w' := by
 obtain ⟨a1, n1, c1, rfl, hn1, -⟩ := hc.shape
 obtain ⟨a2, n2, c2, rfl, hn2, -⟩ := hv.shape
 obtain ⟨a3, n3, c3, rfl, hn3, hm3⟩ := hr.shape
 have hln : cs.length ≤ maxLen := hc.1
 unfold maxLen at hln hm3
 obtain ⟨n, hn⟩ : ∃ n, cs.length = n := ⟨_, rfl⟩
 have hb1 : n ≤ 9223372036854775807 := by omega
 have hb3 : n3 ≤ 9223372036854775807 := by omega
 obtain rfl : n2 = n := by omega
 obtain rfl : n1 = n2 := by omega
 have e4l := World.block_lt_of_cell? w _ e4
 have e5l := World.block_lt_of_cell? w _ e5
 have HC := Lib.hid hc
 have HV := Lib.hid hv
 have HR := Lib.hid hr
 obtain ⟨q, hq⟩ : ∃ q, decide (cs.map (colV r) = vals) = q := ⟨_, rfl⟩
 have HQ := Lib.hid hq
 have HN := Lib.hid hn
 have HN2 := Lib.hid hn2
 have HN3 := Lib.hid hn3
 have HCS := Lib.hid hcs
 have E4 := Lib.hid e4
 have E5 := Lib.hid e5
 rw [hq]
 have HE : RowKit.Hid ((cs.drop 0).map (colV r) = vals.drop 0 ↔ cs.map (colV r) = vals) := by show _ ↔ _; simp
 clear hc hv hr hq hn1 hn2 hn3 hm3 hln hlen hcs hn
 go_enter Tryz.func38, Tryz.ntmps38
 go_wp2
 clear e4 e5
 go_loopg [9] n1 (fun g z wr => ∃ k : Nat, z = .int .i64 k ∧ g + k = n1 ∧ RowKit.Hid ((cs.drop k).map (colV r) = vals.drop k ↔ cs.map (colV r) = vals) ∧ RowKit.Hid (Below w.heap.size w wr))
 case atStart => exact ⟨0, rfl, rfl, HE, Below.refl _ _⟩
 case round =>
  clear HE
  obtain ⟨k, rfl, hgk, He, Hb⟩ := hrel
  by_cases hk : k < n1
  · have hkc : k < cs.length := by rw [HN.out]; exact hk
    have hkv : k < vals.length := by rw [← HN2.out]; exact hk
    have hcw := HC.out.mono Hb.out
    have hvw := HV.out.mono Hb.out
    have hrw' := HR.out.mono Hb.out
    obtain ⟨hj0, hj1⟩ := HCS.out _ (List.getElem_mem hkc)
    obtain ⟨j, hj⟩ : ∃ j : Nat, cs[k] = (j : Int) := ⟨cs[k].toNat, by omega⟩
    have hjr : j < r.length := by omega
    obtain ⟨b1, o1, rfl⟩ := hcw.has k hk
    obtain ⟨b2, o2, rfl⟩ := hvw.has k hk
    obtain ⟨b3, o3, rfl⟩ := hrw'.has j (by rw [HN3.out]; exact hjr)
    have p1 := hcw.cell k hkc
    obtain ⟨p2, p3, p4⟩ := hvw.cell k hkv
    obtain ⟨p5, p6, p7⟩ := hrw'.cell j hjr
    rw [hj] at p1
    have p8 : wr.cell? ⟨b4, 0, none⟩ = _ := (Hb.out.cell (p := ⟨b4, 0, none⟩) e4l).trans E4.out
    have p9 : wr.cell? ⟨b5, 0, none⟩ = _ := (Hb.out.cell (p := ⟨b5, 0, none⟩) e5l).trans E5.out
    have hp1 := World.block_lt_of_cell? wr _ p1
    have hp2 := World.block_lt_of_cell? wr _ p2
    have hp5 := World.block_lt_of_cell? wr _ p5
    have hp8 := World.block_lt_of_cell? wr _ p8
    have hp9 := World.block_lt_of_cell? wr _ p9
    have hk' : (k : Int) < n1 := by omega
    have hjn : (j : Int) < n3 := by have := HN3.out; omega
    have HD : RowKit.Hid ((cs.drop k).map (colV r) = vals.drop k ↔ r[j] = vals[k] ∧ (cs.drop (k + 1)).map (colV r) = vals.drop (k + 1)) := by
     show _ ↔ _
     rw [List.drop_eq_getElem_cons hkc, List.drop_eq_getElem_cons hkv, List.map_cons, List.cons.injEq, hj, colV_at (by omega) (by simpa using hjr)]
     simp
    generalize r[j] = x at *
    generalize vals[k] = y at *
    have HX := Lib.hid (fun w' => cmpV_calls x y w')
    have Hgk := Lib.hid hgk
    clear hgk hcw hvw hrw' hj0 hj1 hj hkc hkv hjr
    by_cases hxy : x = y
    · subst hxy
      have HZ : cmpV x x = 0 := cmpV_zero.2 rfl
      rw [HZ] at HX
      clear HZ
      go_upto_region 4 with (fail)
      go_region_held3 (fun w' => Below wr.heap.size wr w' ∧ ∀ b o, b < wr.heap.size → w'.cell? ⟨b, o, none⟩ = wr.cell? ⟨b, o, none⟩)
       (first | assumption | exact S_of (Below.drew (Below.refl _ _)) | exact S_step (by assumption) (by assumption))
       (first | (go_at_call 39; (with_reducible refine (HX.out _).mono ?_); rintro e w1 ⟨rfl, hb1⟩))
      all_goals
       rename_i hH
       have Hb1 := Lib.hid (Hb.out.trans (hH.1.mono Hb.out.size))
       clear hH
       go_wp2
       go_roundg (gk - 1)
       case rel =>
        refine ⟨k + 1, by go_num, by have := Hgk.out; omega, ?_, Hb1⟩
        show _ ↔ _
        rw [← He.out, HD.out]
        simp only [true_and]
       case measure => have := Hgk.out; omega
    · have HZ : (cmpV x y != 0) = true := by
       have : cmpV x y ≠ 0 := fun h => hxy (cmpV_zero.1 h)
       simpa using this
      generalize cmpV x y = z at *
      have HF : RowKit.Hid (q = false) := by
       have : ¬ cs.map (colV r) = vals := fun h => hxy (HD.out.1 (He.out.2 h)).1
       show _ = _
       rw [← HQ.out, decide_eq_false this]
      obtain rfl := HF.out
      clear hxy
      go_upto_region 4 with (fail)
      go_region_held3 (fun w' => Below wr.heap.size wr w' ∧ ∀ b o, b < wr.heap.size → w'.cell? ⟨b, o, none⟩ = wr.cell? ⟨b, o, none⟩)
       (first | assumption | exact S_of (Below.drew (Below.refl _ _)) | exact S_step (by assumption) (by assumption))
       (first | (go_at_call 39; (with_reducible refine (HX.out _).mono ?_); rintro e w1 ⟨rfl, hb1⟩))
      all_goals
       rename_i hH
       have Hb1 := Lib.hid (Hb.out.trans (hH.1.mono Hb.out.size))
       clear hH
       go_wp2
       go_ret
       exact ⟨rfl, Hb1.out⟩
  · obtain rfl : k = n1 := by omega
    have HR1 : RowKit.Hid (q = true) := by
     have : cs.map (colV r) = vals := He.out.1 (by rw [List.drop_of_length_le (by rw [HN.out]; exact Nat.le_refl _), List.drop_of_length_le (by rw [← HN2.out]; exact Nat.le_refl _)]; rfl)
     show _ = _
     rw [← HQ.out, decide_eq_true this]
    obtain rfl := HR1.out
    clear hgk hk
    go_wp2
    go_ret
    exact ⟨rfl, Hb.out⟩
end Go.Proofs.YtnefkkidfhmggaaGreat
/- An index between two keys. -/
namespace Go.Proofs.YtnefkkidfhmggaaGreat
open Go Go.RowKit
theorem asc_ext {A B : List Re} (hA : A.Pairwise fun a b => a.id < b.id) (hB : B.Pairwise fun a b => a.id < b.id) (h : ∀ e, e ∈ A ↔ e ∈ B) : A = B := by
 induction A generalizing B with
 | nil =>
  cases B with
  | nil => rfl
  | cons b B => exact absurd ((h b).2 (by simp)) (by simp)
 | cons a A ih =>
  obtain ⟨a1, a2⟩ := List.pairwise_cons.1 hA
  cases B with
  | nil => exact absurd ((h a).1 (by simp)) (by simp)
  | cons b B =>
   obtain ⟨b1, b2⟩ := List.pairwise_cons.1 hB
   have hab : a = b := by
    rcases List.mem_cons.1 ((h a).1 (by simp)) with e | e
    · exact e
    · rcases List.mem_cons.1 ((h b).2 (by simp)) with e2 | e2
      · exact e2.symm
      · have := b1 a e
        have := a1 b e2
        omega
   subst hab
   rw [ih a2 b2 fun e => ⟨fun he => ?_, fun he => ?_⟩]
   · rcases List.mem_cons.1 ((h e).1 (List.mem_cons_of_mem _ he)) with rfl | h2
     · have := a1 e he; omega
     · exact h2
   · rcases List.mem_cons.1 ((h e).2 (List.mem_cons_of_mem _ he)) with rfl | h2
     · have := b1 e he; omega
     · exact h2
theorem entM_of (kf : Re → Ky) (es : List Re) : ∀ km : MM, (∀ e ∈ km, ∃ a ∈ es, e = (kf a, Va.int a.id)) → ∃ ess, entM kf ess = km ∧ ∀ e ∈ ess, e ∈ es
 | [], _ => ⟨[], rfl, by simp⟩
 | x :: km, h => by
  obtain ⟨a, ha, e⟩ := h x (by simp)
  obtain ⟨ess, h1, h2⟩ := entM_of kf es km fun y hy => h y (List.mem_cons_of_mem _ hy)
  refine ⟨a :: ess, ?_, fun y hy => ?_⟩
  · show (kf a, Va.int a.id) :: entM kf ess = _
    rw [h1, e]
  · rcases List.mem_cons.1 hy with rfl | hy
    · exact ha
    · exact h2 y hy
def ixK (cs : List Int) (e : Re) : Ky := .str (ixKey e.id e.r cs)
/-- The entries of an index between two keys are those of some rows. -/
theorem ix_sel {_S cols : Nat} {I : List (List Int)} {L : LL} {next : Int} {s : Sto} (hok : s.Ok cols I L next) {x : Ix} (hx : x ∈ s.ixs) (lo hi : Option Ky) :
 ∃ ess, entM (ixK x.cs) ess = selM lo hi x.km ∧ (∀ e, e ∈ ess ↔ e ∈ s.es ∧ inR lo hi (ixK x.cs e, Va.int e.id) = true) ∧ ess.Pairwise (fun a b => ltK (ixK x.cs a) (ixK x.cs b)) ∧ ess.length ≤ L.length := by
 obtain ⟨-, -, -, hix, hasc⟩ := hok.ixs x hx
 have hmem : ∀ e, e ∈ x.km ↔ ∃ a ∈ s.es, e = (ixK x.cs a, Va.int a.id) := by
  intro e
  rw [hix.mem e, ← hok.rows]
  constructor
  · rintro ⟨y, hy, rfl⟩
    obtain ⟨a, ha, rfl⟩ := List.mem_map.1 hy
    exact ⟨a, ha, rfl⟩
  · rintro ⟨a, ha, rfl⟩
    exact ⟨_, List.mem_map.2 ⟨a, ha, rfl⟩, rfl⟩
 obtain ⟨ess, h1, h2⟩ := entM_of (ixK x.cs) s.es (selM lo hi x.km) fun e he => (hmem e).1 (List.mem_filter.1 he).1
 have hasc2 := reL_asc (by rw [hok.rows]; exact hok.asc)
 refine ⟨ess, h1, fun e => ⟨fun he => ⟨h2 e he, ?_⟩, fun ⟨he, hr⟩ => ?_⟩, ?_, ?_⟩
 · have h3 : (ixK x.cs e, Va.int e.id) ∈ selM lo hi x.km := by rw [← h1]; exact List.mem_map.2 ⟨e, he, rfl⟩
   exact (List.mem_filter.1 h3).2
 · have h3 : (ixK x.cs e, Va.int e.id) ∈ selM lo hi x.km := List.mem_filter.2 ⟨(hmem _).2 ⟨e, he, rfl⟩, hr⟩
   rw [← h1] at h3
   obtain ⟨a, ha, h4⟩ := List.mem_map.1 h3
   have h5 : a.id = e.id := Va.int.inj (Prod.mk.inj h4).2
   have h6 := find_id hasc2 (h2 a ha)
   rw [h5, find_id hasc2 he] at h6
   rw [Option.some.inj h6]
   exact ha
 · have h3 : AscM (selM lo hi x.km) := List.Pairwise.sublist List.filter_sublist hasc
   rw [← h1] at h3
   unfold AscM entM at h3
   rw [List.pairwise_map] at h3
   exact h3
 · have h3 : (entM (ixK x.cs) ess).length ≤ x.km.length := by rw [h1]; exact List.length_filter_le _ _
   rw [entM, List.length_map, hix.len] at h3
   exact h3
/-- An iterator over an index. -/
def itA (v : Value) (tb : Nat) (lo hi : Option Ky) : Asn := exA fun q : (Nat × Nat × Nat) × Nat × Nat => starA (pureA (v = iterF true q.1.1 q.1.2.1 q.1.2.2) :: (iterL true tb q.1.1 q.1.2.1 q.1.2.2 q.2.1 q.2.2 lo hi ++ [optB true q.2.1 lo, optB true q.2.2 hi]))
theorem St.it {w0 w : World} {fp0 : List Nat} {L : List Asn} {v : Value} {tb : Nat} {lo hi : Option Ky} : St w0 fp0 (itA v tb lo hi :: L) w ↔ ∃ bt bl bh lb hb, v = iterF true bt bl bh ∧ St w0 fp0 (iterL true tb bt bl bh lb hb lo hi ++ [optB true lb lo, optB true hb hi] ++ L) w := by
 unfold itA
 rw [St.exo (F := fun q : (Nat × Nat × Nat) × Nat × Nat => pureA (v = iterF true q.1.1 q.1.2.1 q.1.2.2) :: (iterL true tb q.1.1 q.1.2.1 q.1.2.2 q.2.1 q.2.2 lo hi ++ [optB true q.2.1 lo, optB true q.2.2 hi]))]
 constructor
 · rintro ⟨⟨⟨bt, bl, bh⟩, lb, hb⟩, h⟩
   exact ⟨bt, bl, bh, lb, hb, St.pure.1 h⟩
 · rintro ⟨bt, bl, bh, lb, hb, h⟩
   exact ⟨⟨⟨bt, bl, bh⟩, lb, hb⟩, St.pure.2 h⟩
set_option maxRecDepth 20000 in
theorem idx_calls (f : Nat) (caps : Array Value) (p : Re → Bool) (S cols : Nat) (I : List (List Int)) (L : LL) (next : Int) (s : Sto) (hok : s.Ok cols I L next) (LX : List Asn) (he : ∀ args w, (callFunc f args).run Tryz.prog w = .ok (.enter f args) w) (his : IsC f caps p S s LX)
 (x : Ix) (hx : x ∈ s.ixs) (lo hi : Option Ky) (hlo : ∀ k, lo = some k → k.ok true) (hhi : ∀ k, hi = some k → k.ok true) (ess : List Re) (hess : entM (ixK x.cs) ess = selM lo hi x.km) (hm : ∀ e ∈ ess, e ∈ s.es) (hlen : L.length + 1 < 1099511627776) (v : Value)
 (w0 w : World) (fp0 : List Nat) (R : List Asn) (hS : St w0 fp0 (itA v x.kb lo hi :: (stoL S s ++ (LX ++ R))) w) :
 Calls Tryz.prog 51 #[ptrV S, v, .func (.func f) #[] caps] w fun e w' => ∃ u, e = .returned u ∧ St w0 fp0 (rowA 114 2 u (somL p ess).length (riV (somL p ess)) :: (stoL S s ++ (LX ++ R))) w' := by
 obtain ⟨bt, bl, bh, lb, hb, rfl, h1⟩ := St.it.1 hS
 obtain ⟨A, B, hAB⟩ := List.append_of_mem hx
 obtain ⟨-, -, -, hix, hasc⟩ := hok.ixs x hx
 have hkl : x.km.length = L.length := hix.len
 have hel : ess.length ≤ L.length := by
  have h3 : (entM (ixK x.cs) ess).length ≤ x.km.length := by rw [hess]; exact List.length_filter_le _ _
  rwa [entM, List.length_map, hkl] at h3
 have hseq := betw1_seq (β := true) (o := 16) (h := x.kh) (by omega) lo hi lb hb hlo hhi x.km (okK hix) x.kb bt bl bh (by rw [hkl]; exact hlen) (2 - 1)
 rw [← hess] at hseq
 let R0 : List Asn := iterL true x.kb bt bl bh lb hb lo hi ++ [optB true lb lo, optB true hb hi] ++ R
 let R1 : List Asn := slA 3 x.cv (x.cs.map intC) :: blkA S 119 #[.int .i64 s.cols, ptrV s.tb, .int .i64 s.next, s.iv] :: objA false 16 s.h (reM s.es) s.tb :: rowA 97 2 s.iv s.ixs.length (ixV s.ixs) :: (s.es.map reA ++ (A.map ixA ++ B.map ixA) ++ (LX ++ R))
 have hsp : ∀ Own W, St w0 fp0 ((betL true 16 x.kh x.km x.kb bt bl bh lb hb lo hi ++ R1) ++ Own) W ↔ St w0 fp0 ((stoL S s ++ (LX ++ R0)) ++ Own) W := by
  intro Own W
  have e1 : ((stoL S s ++ (LX ++ R0)) ++ Own).Perm (ixA x :: (iterL true x.kb bt bl bh lb hb lo hi ++ [optB true lb lo, optB true hb hi] ++ (blkA S 119 #[.int .i64 s.cols, ptrV s.tb, .int .i64 s.next, s.iv] :: objA false 16 s.h (reM s.es) s.tb :: rowA 97 2 s.iv s.ixs.length (ixV s.ixs) :: (s.es.map reA ++ (A.map ixA ++ B.map ixA) ++ (LX ++ R)) ++ Own))) := by
   have e2 : s.ixs.map ixA = A.map ixA ++ ixA x :: B.map ixA := by rw [hAB]; simp
   unfold stoL
   rw [e2]
   classical
   refine List.perm_iff_count.2 fun a => ?_
   simp only [R0, List.cons_append, List.count_append, List.count_cons]
   omega
  have e3 : ((betL true 16 x.kh x.km x.kb bt bl bh lb hb lo hi ++ R1) ++ Own).Perm ([slA 3 x.cv (x.cs.map intC), objA true 16 x.kh x.km x.kb] ++ (iterL true x.kb bt bl bh lb hb lo hi ++ [optB true lb lo, optB true hb hi] ++ (blkA S 119 #[.int .i64 s.cols, ptrV s.tb, .int .i64 s.next, s.iv] :: objA false 16 s.h (reM s.es) s.tb :: rowA 97 2 s.iv s.ixs.length (ixV s.ixs) :: (s.es.map reA ++ (A.map ixA ++ B.map ixA) ++ (LX ++ R)) ++ Own))) := by
   unfold betL iterL
   classical
   refine List.perm_iff_count.2 fun a => ?_
   simp only [R1, List.cons_append, List.nil_append, List.count_append, List.count_cons]
   omega
  constructor
  · intro h
    exact (St.star.2 (h.perm e3)).perm e1.symm
  · intro h
    exact (St.star.1 (h.perm e1)).perm e3.symm
 have h2 : St w0 fp0 (stoL S s ++ (LX ++ R0)) w := h1.perm (by
  classical
  refine List.perm_iff_count.2 fun a => ?_
  simp only [R0, List.count_append]
  omega)
 refine (indexed_calls f caps p S cols I L next s hok LX he his (fBetw1 true) _ (enters_of Tryz.func110 (by kernel_rfl) rfl) (ixK x.cs) ess hm (by omega) _ R1 hseq w0 w fp0 R0 hsp h2).mono ?_
 rintro e w' ⟨u, rfl, h3⟩
 refine ⟨u, rfl, St.dropAll (A := iterL true x.kb bt bl bh lb hb lo hi ++ [optB true lb lo, optB true hb hi]) (h3.perm ?_)⟩
 classical
 refine List.perm_iff_count.2 fun a => ?_
 simp only [R0, List.count_append, List.count_cons]
 omega
end Go.Proofs.YtnefkkidfhmggaaGreat
/- Lookup's and Range's calls of indexed, drawn. -/
namespace Go.Proofs.YtnefkkidfhmggaaGreat
open Go Go.RowKit
set_option maxRecDepth 100000
theorem Between_it (kb : Nat) (k1 k2 : ByteArray) (w0 w : World) (fp0 : List Nat) (R : List Asn) (h : St w0 fp0 R w) : Calls Tryz.prog 52 #[.pointer (some ⟨kb, 0, none⟩), .string k1, .string k2] w fun e w' => ∃ v, e = .returned v ∧ St w0 fp0 (itA v kb (some (.str k1)) (some (.str k2)) :: R) w' :=
 (Between_calls kb k1 k2 w0 w fp0 R h).mono fun e w2 ⟨bt, bl, bh, lb, hb, e1, h2⟩ => ⟨_, e1, St.it.2 ⟨bt, bl, bh, lb, hb, rfl, h2.perm (by
  classical
  refine List.perm_iff_count.2 fun a => ?_
  simp only [List.count_append, List.count_cons, List.count_nil]
  omega)⟩⟩
theorem From_it (kb : Nat) (k1 : ByteArray) (w0 w : World) (fp0 : List Nat) (R : List Asn) (h : St w0 fp0 R w) : Calls Tryz.prog 58 #[.pointer (some ⟨kb, 0, none⟩), .string k1] w fun e w' => ∃ v, e = .returned v ∧ St w0 fp0 (itA v kb (some (.str k1)) none :: R) w' :=
 (From_calls kb k1 w0 w fp0 R h).mono fun e w2 ⟨bt, bl, bh, lb, e1, h2⟩ => ⟨_, e1, St.it.2 ⟨bt, bl, bh, lb, 0, rfl, (show St w0 fp0 (emp :: _) w2 from St.emp.2 h2).perm (by
  show List.Perm _ (iterL true kb bt bl bh lb 0 (some (.str k1)) none ++ [optB true lb (some (.str k1)), emp] ++ R)
  classical
  refine List.perm_iff_count.2 fun a => ?_
  simp only [List.count_append, List.count_cons, List.count_nil]
  omega)⟩⟩
theorem load3 {P : Program} {o : Oper} {env : Operand → Value} {w : World} {ty : TypeId} {x : Operand} {b : Nat} {v0 v1 v2 : Value} (hop : o.op = .load ty x) (ha : (isAgg ty).run P w = .ok true w) (hs : (sizeOf ty).run P w = .ok 3 w) (hx : env x = .pointer (some ⟨b, 0, none⟩)) (c0 : w.cell? ⟨b, 0, none⟩ = some v0) (c1 : w.cell? ⟨b, 1, none⟩ = some v1) (c2 : w.cell? ⟨b, 2, none⟩ = some v2) : (execOp env o).run P w = .ok (.value (.agg #[v0, v1, v2])) w := by
 have h := run_loadCells_list (P := P) (w := w) ⟨b, 0, none⟩ [v0, v1, v2] (fun j v hj => by
  rw [add_plain, Nat.zero_add]
  match j, hj with
  | 0, hj => cases hj; exact c0
  | 1, hj => cases hj; exact c1
  | 2, hj => cases hj; exact c2
  | j + 3, hj => simp at hj)
 have h' : (loadCells ⟨b, 0, none⟩ 3).run P w = .ok #[v0, v1, v2] w := h
 simp [execOp, hop, hx, Instr.loadAt, Instr.sureAddr, loadVar, ha, hs, h']
theorem conv1 {P : Program} {o : Oper} {env : Operand → Value} {w : World} {t u : TypeId} {x : Operand} {v r : Value} (hop : o.op = .convert t u x) (hx : env x = v) (hr : (convert t u v).run P w = .ok r w) : (execOp env o).run P w = .ok (.value r) w := by
 simp only [execOp, hop, hx, Sem.run_bind, hr, Result.andThen_ok, Sem.run_pure]
/-- A piece is laid down. -/
theorem newB {w0 w w' : World} {fp0 : List Nat} {L : List Asn} {A : Asn} (h : St w0 fp0 L w) (h2 : St w [] [A] w') : St w0 fp0 (A :: L) w' := by
 obtain ⟨fp, ⟨f, g, h3, hg, -, e⟩, ht⟩ := h2
 obtain rfl : g = [] := hg
 rw [List.append_nil] at e
 subst e
 have h4 := St.add h (ht.below (Nat.le_refl _) (fun k hk => nomatch hk)) h3 (fun k hk => (ht.new k hk).resolve_left (by simp))
 exact h4.perm List.perm_append_comm
noncomputable def gLk8 (b3 b6 b7 S kb n : Nat) (cv isv : Value) (k1 k2 : ByteArray) (V : List Value) := rgx Tryz.prog Tryz.f46 8 39 [31, 32, 33, 34, 35, 36, 37, 38, 5] [(1, pV b3 0), (6, pV b6 0), (3, pV b7 0), (8, .string k1), (9, .string k2)] (Vq 0 31 [Kp S 0, Kp b6 1, Kp kb 0, Kv (.string k1), Kv (.string k2)] ++ Vq 6 37 [Kv isv] ++ Vq 8 5 [Fv [38] fun g => g 38]) [Bk b3 (34) [pV S 0], Bk b6 (97) [cv, pV kb 0], Bk b7 (88) [isv], .gen [5, 7] [36] fun L g => match L 7 with | true => emp | false => match L 5 with | true => itA (g 36) kb (some (.str k1)) (some (.str k2)) | false => emp, .new 7 [38] fun g => rowA 114 2 (g 38) n V]
theorem rLk8 (b3 b6 b7 S kb n : Nat) (cv isv : Value) (k1 k2 : ByteArray) (V : List Value) (w0 : World) (fp0 : List Nat) (R : List Asn) (hix : ∀ (v : Value) (w : World), St w0 fp0 ([blkA b3 34 #[.pointer (some ⟨S, 0, none⟩)], blkA b6 97 #[cv, .pointer (some ⟨kb, 0, none⟩)], blkA b7 88 #[isv], itA v kb (some (.str k1)) (some (.str k2)), emp] ++ R) w → Calls Tryz.prog 51 #[.pointer (some ⟨S, 0, none⟩), v, isv] w fun e w2 => ∃ u, e = .returned u ∧ St w0 fp0 ([blkA b3 34 #[.pointer (some ⟨S, 0, none⟩)], blkA b6 97 #[cv, .pointer (some ⟨kb, 0, none⟩)], blkA b7 88 #[isv], emp, rowA 114 2 u n V] ++ R) w2) {w : World} {c : Code} {a : Act} {Q : Exit → Act → World → Prop} (c1 : isReg c = true) (c2 : cops c = opsR Tryz.f46 8) (c3 : a.tmps.size = 39) (_c4 : a.defers = a.defers) (i1 : a.eval (.tmp 1) = .pointer (some ⟨b3, 0, none⟩)) (i6 : a.eval (.tmp 6) = .pointer (some ⟨b6, 0, none⟩)) (i3 : a.eval (.tmp 3) = .pointer (some ⟨b7, 0, none⟩)) (i8 : a.eval (.tmp 8) = .string k1) (i9 : a.eval (.tmp 9) = .string k2)
 (hS : St w0 fp0 ([blkA b3 (34) #[.pointer (some ⟨S, 0, none⟩)], blkA b6 (97) #[cv, .pointer (some ⟨kb, 0, none⟩)], blkA b7 (88) #[isv], emp, emp] ++ R) w)
 (hQ : ∀ (u36 u38 : Value) (w1 : World), St w0 fp0 ([blkA b3 (34) #[.pointer (some ⟨S, 0, none⟩)], blkA b6 (97) #[cv, .pointer (some ⟨kb, 0, none⟩)], blkA b7 (88) #[isv], emp, rowA 114 2 (u38) n V] ++ R) w1 → Q .normal (putL a [(31, .pointer (some ⟨S, 0, none⟩)), (32, .pointer (some ⟨b6, 1, none⟩)), (33, .pointer (some ⟨kb, 0, none⟩)), (34, .string k1), (35, .string k2), (36, u36), (37, isv), (38, u38), (5, u38)]) w1) : c.wp Tryz.prog Q a w := by
 have ok : (gLk8 b3 b6 b7 S kb n cv isv k1 k2 V w0 fp0 R).Ok 9 := Rg.ok _ 9 [0, 2, 5, 6, 7] ⟨.load _ 0 0 0, .load _ 2 1 1, .callG _ 5 (fun g => [blkA b3 34 #[.pointer (some ⟨S, 0, none⟩)], blkA b6 97 #[cv, .pointer (some ⟨kb, 0, none⟩)], blkA b7 88 #[isv], emp, emp]) (fun g v => [blkA b3 34 #[.pointer (some ⟨S, 0, none⟩)], blkA b6 97 #[cv, .pointer (some ⟨kb, 0, none⟩)], blkA b7 88 #[isv], itA v kb (some (.str k1)) (some (.str k2)), emp]) (fun g w h => (Between_it kb k1 k2 w0 w fp0 _ h).mono fun e w2 ⟨v, e1, h2⟩ => ⟨_, e1, rfl, St.emp.1 (St_re (L := [_, _, _, _, _, _]) h2 [4, 1, 2, 3, 0, 5] [] (by kernel_rfl))⟩), .load _ 6 2 0, .callG _ 7 (fun g => [blkA b3 34 #[.pointer (some ⟨S, 0, none⟩)], blkA b6 97 #[cv, .pointer (some ⟨kb, 0, none⟩)], blkA b7 88 #[isv], itA (g 36) kb (some (.str k1)) (some (.str k2)), emp]) (fun g v => [blkA b3 34 #[.pointer (some ⟨S, 0, none⟩)], blkA b6 97 #[cv, .pointer (some ⟨kb, 0, none⟩)], blkA b7 88 #[isv], emp, rowA 114 2 v n V]) (fun g w h => (hix (g 36) w h).mono fun e w2 ⟨u, e1, h2⟩ => ⟨_, e1, rfl, h2⟩), trivial⟩
 refine wp_regD ok (by kernel_rfl) ⟨c1, c2⟩ ⟨c3, fun p hp => ?_⟩ hS fun A1 w1 N1 H1 => ?_
 · simp only [gLk8, rgx, List.map_nil, List.append_nil, List.mem_cons, List.not_mem_nil, or_false] at hp
   rcases hp with rfl | rfl | rfl | rfl | rfl
   · exact i1
   · exact i6
   · exact i3
   · exact i8
   · exact i9
 have e31 := N1.val 0 rfl
 have e32 := N1.val 1 rfl
 have e33 := N1.val 2 rfl
 have e34 := N1.val 3 rfl
 have e35 := N1.val 4 rfl
 have e37 := N1.val 5 rfl
 have e5 := N1.val 6 rfl
 have h := hQ (slots A1 36) (slots A1 38) w1  H1
 rw [frame_eq N1.frame (cons_eq e31 (cons_eq e32 (cons_eq e33 (cons_eq e34 (cons_eq e35 (cons_eq rfl (cons_eq e37 (cons_eq rfl (cons_eq e5 rfl)))))))))]
 exact h
noncomputable def gRn5 (b3 b2 b5 b7 S kb n : Nat) (cv isv : Value) (vk vi : Int) (vt : ByteArray) (V : List Value) := rgx Tryz.prog Tryz.f56 5 40 [24, 25, 26, 27, 28, 29, 30, 31, 32, 4] [(0, pV b3 0), (2, pV b2 0), (5, pV b5 0), (3, pV b7 0)] (Vq 0 24 [Kp S 0, Kp b5 1, Kp kb 0, Kv (.agg #[.int .i64 vk, .int .i64 vi, .string vt])] ++ Vq 5 29 [Kv (.string (textOf (encL ⟨vk, vi, vt⟩)))] ++ Vq 7 31 [Kv isv] ++ Vq 9 4 [Fv [32] fun g => g 32]) [Bk b3 (34) [pV S 0], Bk b2 (29) [.int .i64 vk, .int .i64 vi, .string vt], Bk b5 (97) [cv, pV kb 0], Bk b7 (88) [isv], .new 4 [28] fun g => slA 5 (g 28) ((encL ⟨vk, vi, vt⟩).map u8C), .gen [6, 8] [30] fun L g => match L 8 with | true => emp | false => match L 6 with | true => itA (g 30) kb (some (.str (textOf (encL ⟨vk, vi, vt⟩)))) none | false => emp, .new 8 [32] fun g => rowA 114 2 (g 32) n V]
theorem rRn5 (b3 b2 b5 b7 S kb n : Nat) (cv isv : Value) (vk vi : Int) (vt : ByteArray) (V : List Value) (w0 : World) (fp0 : List Nat) (R : List Asn) (hvi : I64 vi) (hvt : vt.size ≤ 1048576) (hix : ∀ (b v : Value) (w : World), St w0 fp0 ([blkA b3 34 #[.pointer (some ⟨S, 0, none⟩)], blkA b2 29 #[.int .i64 vk, .int .i64 vi, .string vt], blkA b5 97 #[cv, .pointer (some ⟨kb, 0, none⟩)], blkA b7 88 #[isv], slA 5 b ((encL ⟨vk, vi, vt⟩).map u8C), itA v kb (some (.str (textOf (encL ⟨vk, vi, vt⟩)))) none, emp] ++ R) w → Calls Tryz.prog 51 #[.pointer (some ⟨S, 0, none⟩), v, isv] w fun e w2 => ∃ u, e = .returned u ∧ St w0 fp0 ([blkA b3 34 #[.pointer (some ⟨S, 0, none⟩)], blkA b2 29 #[.int .i64 vk, .int .i64 vi, .string vt], blkA b5 97 #[cv, .pointer (some ⟨kb, 0, none⟩)], blkA b7 88 #[isv], slA 5 b ((encL ⟨vk, vi, vt⟩).map u8C), emp, rowA 114 2 u n V] ++ R) w2) {w : World} {c : Code} {a : Act} {Q : Exit → Act → World → Prop} (c1 : isReg c = true) (c2 : cops c = opsR Tryz.f56 5) (c3 : a.tmps.size = 40) (_c4 : a.defers = a.defers) (i0 : a.eval (.tmp 0) = .pointer (some ⟨b3, 0, none⟩)) (i2 : a.eval (.tmp 2) = .pointer (some ⟨b2, 0, none⟩)) (i5 : a.eval (.tmp 5) = .pointer (some ⟨b5, 0, none⟩)) (i3 : a.eval (.tmp 3) = .pointer (some ⟨b7, 0, none⟩))
 (hS : St w0 fp0 ([blkA b3 (34) #[.pointer (some ⟨S, 0, none⟩)], blkA b2 (29) #[.int .i64 vk, .int .i64 vi, .string vt], blkA b5 (97) #[cv, .pointer (some ⟨kb, 0, none⟩)], blkA b7 (88) #[isv], emp, emp, emp] ++ R) w)
 (hQ : ∀ (u28 u30 u32 : Value) (w1 : World), St w0 fp0 ([blkA b3 (34) #[.pointer (some ⟨S, 0, none⟩)], blkA b2 (29) #[.int .i64 vk, .int .i64 vi, .string vt], blkA b5 (97) #[cv, .pointer (some ⟨kb, 0, none⟩)], blkA b7 (88) #[isv], slA 5 (u28) ((encL ⟨vk, vi, vt⟩).map u8C), emp, rowA 114 2 (u32) n V] ++ R) w1 → Q .normal (putL a [(24, .pointer (some ⟨S, 0, none⟩)), (25, .pointer (some ⟨b5, 1, none⟩)), (26, .pointer (some ⟨kb, 0, none⟩)), (27, .agg #[.int .i64 vk, .int .i64 vi, .string vt]), (28, u28), (29, .string (textOf (encL ⟨vk, vi, vt⟩))), (30, u30), (31, isv), (32, u32), (4, u32)]) w1) : c.wp Tryz.prog Q a w := by
 have ok : (gRn5 b3 b2 b5 b7 S kb n cv isv vk vi vt V w0 fp0 R).Ok 10 := Rg.ok _ 10 [0, 2, 3, 4, 5, 6, 7, 8] ⟨.load _ 0 0 0, .load _ 2 2 1, .runG _ 3 (fun g => [blkA b3 34 #[.pointer (some ⟨S, 0, none⟩)], blkA b2 29 #[.int .i64 vk, .int .i64 vi, .string vt], blkA b5 97 #[cv, .pointer (some ⟨kb, 0, none⟩)], blkA b7 88 #[isv], emp, emp, emp]) (fun g v => [blkA b3 34 #[.pointer (some ⟨S, 0, none⟩)], blkA b2 29 #[.int .i64 vk, .int .i64 vi, .string vt], blkA b5 97 #[cv, .pointer (some ⟨kb, 0, none⟩)], blkA b7 88 #[isv], emp, emp, emp]) (fun a w h => (by obtain ⟨f, hf⟩ := h.has 1 rfl; have c0 := (blk_get hf).1 0; have c1 := (blk_get hf).1 1; have c2 := (blk_get hf).1 2; exact ⟨.agg #[.int .i64 vk, .int .i64 vi, .string vt], w, load3 rfl (kr (by kernel_rfl)) (kr (by kernel_rfl)) (kr (by kernel_rfl)) c0 c1 c2, kr (by kernel_rfl), h⟩)), .callG _ 4 (fun g => [blkA b3 34 #[.pointer (some ⟨S, 0, none⟩)], blkA b2 29 #[.int .i64 vk, .int .i64 vi, .string vt], blkA b5 97 #[cv, .pointer (some ⟨kb, 0, none⟩)], blkA b7 88 #[isv], emp, emp, emp]) (fun g v => [blkA b3 34 #[.pointer (some ⟨S, 0, none⟩)], blkA b2 29 #[.int .i64 vk, .int .i64 vi, .string vt], blkA b5 97 #[cv, .pointer (some ⟨kb, 0, none⟩)], blkA b7 88 #[isv], slA 5 v ((encL ⟨vk, vi, vt⟩).map u8C), emp, emp]) (fun g w h => (encode_calls ⟨vk, vi, vt⟩ hvi hvt w).mono fun e w2 ⟨b, e1, h2⟩ => (by exact ⟨_, e1, rfl, St.emp.1 (St_re (L := [_, _, _, _, _, _, _, _]) (newB h h2) [5, 1, 2, 3, 4, 0, 6, 7] [] (by kernel_rfl))⟩)), .runG _ 5 (fun g => [blkA b3 34 #[.pointer (some ⟨S, 0, none⟩)], blkA b2 29 #[.int .i64 vk, .int .i64 vi, .string vt], blkA b5 97 #[cv, .pointer (some ⟨kb, 0, none⟩)], blkA b7 88 #[isv], slA 5 (g 28) ((encL ⟨vk, vi, vt⟩).map u8C), emp, emp]) (fun g v => [blkA b3 34 #[.pointer (some ⟨S, 0, none⟩)], blkA b2 29 #[.int .i64 vk, .int .i64 vi, .string vt], blkA b5 97 #[cv, .pointer (some ⟨kb, 0, none⟩)], blkA b7 88 #[isv], slA 5 (g 28) ((encL ⟨vk, vi, vt⟩).map u8C), emp, emp]) (fun a w h => (by obtain ⟨f, hf⟩ := h.has 4 rfl; exact ⟨.string (textOf (encL ⟨vk, vi, vt⟩)), w, conv1 (v := slots a 28) rfl (kr (by kernel_rfl)) (by obtain ⟨ya, yn, yc, e⟩ := sl_shape hf; rw [e] at hf ⊢; exact run_back hf), kr (by kernel_rfl), h⟩)), .callG _ 6 (fun g => [blkA b3 34 #[.pointer (some ⟨S, 0, none⟩)], blkA b2 29 #[.int .i64 vk, .int .i64 vi, .string vt], blkA b5 97 #[cv, .pointer (some ⟨kb, 0, none⟩)], blkA b7 88 #[isv], slA 5 (g 28) ((encL ⟨vk, vi, vt⟩).map u8C), emp, emp]) (fun g v => [blkA b3 34 #[.pointer (some ⟨S, 0, none⟩)], blkA b2 29 #[.int .i64 vk, .int .i64 vi, .string vt], blkA b5 97 #[cv, .pointer (some ⟨kb, 0, none⟩)], blkA b7 88 #[isv], slA 5 (g 28) ((encL ⟨vk, vi, vt⟩).map u8C), itA v kb (some (.str (textOf (encL ⟨vk, vi, vt⟩)))) none, emp]) (fun g w h => (From_it kb (textOf (encL ⟨vk, vi, vt⟩)) w0 w fp0 _ h).mono fun e w2 ⟨v, e1, h2⟩ => ⟨_, e1, rfl, St.emp.1 (St_re (L := [_, _, _, _, _, _, _, _]) h2 [6, 1, 2, 3, 4, 5, 0, 7] [] (by kernel_rfl))⟩), .load _ 7 3 0, .callG _ 8 (fun g => [blkA b3 34 #[.pointer (some ⟨S, 0, none⟩)], blkA b2 29 #[.int .i64 vk, .int .i64 vi, .string vt], blkA b5 97 #[cv, .pointer (some ⟨kb, 0, none⟩)], blkA b7 88 #[isv], slA 5 (g 28) ((encL ⟨vk, vi, vt⟩).map u8C), itA (g 30) kb (some (.str (textOf (encL ⟨vk, vi, vt⟩)))) none, emp]) (fun g v => [blkA b3 34 #[.pointer (some ⟨S, 0, none⟩)], blkA b2 29 #[.int .i64 vk, .int .i64 vi, .string vt], blkA b5 97 #[cv, .pointer (some ⟨kb, 0, none⟩)], blkA b7 88 #[isv], slA 5 (g 28) ((encL ⟨vk, vi, vt⟩).map u8C), emp, rowA 114 2 v n V]) (fun g w h => (hix (g 28) (g 30) w h).mono fun e w2 ⟨u, e1, h2⟩ => ⟨_, e1, rfl, h2⟩), trivial⟩
 refine wp_regD ok (by kernel_rfl) ⟨c1, c2⟩ ⟨c3, fun p hp => ?_⟩ hS fun A1 w1 N1 H1 => ?_
 · simp only [gRn5, rgx, List.map_nil, List.append_nil, List.mem_cons, List.not_mem_nil, or_false] at hp
   rcases hp with rfl | rfl | rfl | rfl
   · exact i0
   · exact i2
   · exact i5
   · exact i3
 have e24 := N1.val 0 rfl
 have e25 := N1.val 1 rfl
 have e26 := N1.val 2 rfl
 have e27 := N1.val 3 rfl
 have e29 := N1.val 4 rfl
 have e31 := N1.val 5 rfl
 have e4 := N1.val 6 rfl
 have h := hQ (slots A1 28) (slots A1 30) (slots A1 32) w1  H1
 rw [frame_eq N1.frame (cons_eq e24 (cons_eq e25 (cons_eq e26 (cons_eq e27 (cons_eq rfl (cons_eq e29 (cons_eq rfl (cons_eq e31 (cons_eq rfl (cons_eq e4 rfl))))))))))]
 exact h
end Go.Proofs.YtnefkkidfhmggaaGreat
/- Lookup: what is collected. -/
namespace Go.Proofs.YtnefkkidfhmggaaGreat
open Go Go.RowKit
def lkP (cs : List Int) (vals : Rw) (e : Re) : Bool := decide (cs.map (colV e.r) = vals)
/-- What Lookup keeps. -/
def lkX (b4 b5 : Nat) (cv vv : Value) (cs : List Int) (vals : Rw) : List Asn := [blkA b4 22 #[cv], slA 3 cv (cs.map intC), blkA b5 27 #[vv], rowA 29 3 vv vals.length (flat vals)]
structure LkOk (cols : Nat) (cs : List Int) (vals : Rw) : Prop where
 len : cs.length = vals.length
 rng : ∀ c ∈ cs, 0 ≤ c ∧ c < cols
 ne : cs ≠ []
 kd : ∀ v ∈ vals, v.kind ≠ 0
theorem lk_reads {S : Nat} {s : Sto} {b4 b5 : Nat} {cv vv : Value} {cs : List Int} {vals : Rw} {w0 w : World} {fp0 : List Nat} {R : List Asn} (hx : ∀ v ∈ vals, v.text.size ≤ maxLen) (hS : St w0 fp0 (stoL S s ++ (lkX b4 b5 cv vv cs vals ++ R)) w) :
 IntsX [] w cs cv ∧ ValsAt w vals vv ∧ w.cell? ⟨b4, 0, none⟩ = some cv ∧ w.cell? ⟨b5, 0, none⟩ = some vv := by
 have h1 : St w0 fp0 (lkX b4 b5 cv vv cs vals ++ (stoL S s ++ R)) w := hS.perm (by
  classical
  refine List.perm_iff_count.2 fun a => ?_
  simp only [List.count_append]
  omega)
 obtain ⟨_, h2⟩ := h1.has 0 rfl
 obtain ⟨_, h3⟩ := h1.has 1 rfl
 obtain ⟨_, h4⟩ := h1.has 2 rfl
 obtain ⟨_, h5⟩ := h1.has 3 rfl
 have c2 := (blk_get h2).1 0
 have c4 := (blk_get h4).1 0
 simp only [List.getElem?_toArray, List.getElem?_cons_zero] at c2 c4
 refine ⟨?_, ⟨SlX.of_row h5 (length_flat vals) (by simp), hx⟩, c2, c4⟩
 have h6 := SlX.of_sl (X := []) h3 (by simp)
 unfold IntsX
 rwa [List.length_map] at h6
theorem lk_isc {S cols : Nat} {I : List (List Int)} {L : LL} {next : Int} {s : Sto} (hok : s.Ok cols I L next) (b4 b5 : Nat) (cv vv : Value) {cs : List Int} {vals : Rw} (hk : LkOk cols cs vals) (hx : ∀ v ∈ vals, v.text.size ≤ maxLen) :
 IsC 38 #[.pointer (some ⟨b4, 0, none⟩), .pointer (some ⟨b5, 0, none⟩)] (lkP cs vals) S s (lkX b4 b5 cv vv cs vals) := by
 intro w0 fp0 R w e he hs
 obtain ⟨h1, h2, h3, h4⟩ := lk_reads hx hs
 obtain ⟨f, hf⟩ := hs.star_of
 have hm : (e.id, e.r) ∈ L := by rw [← hok.rows]; exact List.mem_map.2 ⟨_, he, rfl⟩
 have hl : e.r.length = cols := (hok.row _ hm).2.2.1
 refine (lookup1_calls cs vals e.r cv vv (encV e.va) b4 b5 w h1 h2 (re_at hok hf he) h3 h4 hk.len fun c hc => by rw [hl]; exact hk.rng c hc).mono ?_
 rintro ev w' ⟨rfl, hb⟩
 exact ⟨rfl, hs.mono hb⟩
/-- Rows that an index finds are in order. -/
theorem lk_ess {_S cols : Nat} {I : List (List Int)} {L : LL} {next : Int} {s : Sto} (hok : s.Ok cols I L next) {x : Ix} (_hx : x ∈ s.ixs) {vals : Rw} (hne : vals ≠ []) {ess : List Re}
 (h1 : ∀ e, e ∈ ess ↔ e ∈ s.es ∧ inR (some (.str (textOf (encR vals)))) (some (.str (textOf (endL (encR vals))))) (ixK x.cs e, Va.int e.id) = true) (h2 : ess.Pairwise (fun a b => ltK (ixK x.cs a) (ixK x.cs b))) : somL (lkP x.cs vals) ess = somL (lkP x.cs vals) s.es := by
 have hasc2 := reL_asc (by rw [hok.rows]; exact hok.asc)
 have hkey : ∀ e : Re, lkP x.cs vals e = true → keyL e.r x.cs = encR vals := by
  intro e he
  have : x.cs.map (colV e.r) = vals := of_decide_eq_true he
  rw [keyL, encR, ← this, List.flatMap_map]
 have hi64 : ∀ e ∈ s.es, I64 e.id := fun e he => by
  have hm : (e.id, e.r) ∈ L := by rw [← hok.rows]; exact List.mem_map.2 ⟨_, he, rfl⟩
  exact AscI.i64 hok.nx.2 (fun y hy => ⟨(hok.row y hy).1, (hok.row y hy).2.1⟩) _ hm
 unfold somL
 congr 1
 refine asc_ext ?_ (hasc2.sublist List.filter_sublist) fun e => ?_
 · rw [List.pairwise_filter]
   refine h2.imp_of_mem ?_
   intro a b ha hb hlt hpa hpb
   have ha' := (h1 a).1 ha
   have hb' := (h1 b).1 hb
   have h3 : Lib.compareBytes (bytes (ixKey a.id a.r x.cs)) (bytes (ixKey b.id b.r x.cs)) < 0 := hlt
   rw [ixKey, ixKey, bytes_textOf, bytes_textOf, hkey a hpa, hkey b hpb, cmpB_pre] at h3
   rcases Int.lt_trichotomy a.id b.id with h | h | h
   · exact h
   · rw [h, cmpB_zero.2 rfl] at h3
     omega
   · have h4 := numL_lt (hi64 b hb'.1) (hi64 a ha'.1) h [] []
     rw [List.append_nil, List.append_nil] at h4
     have h5 := cmpB_swap (numL b.id) (numL a.id)
     omega
 · rw [List.mem_filter, List.mem_filter, h1 e]
   constructor
   · rintro ⟨⟨h3, -⟩, h4⟩
     exact ⟨h3, h4⟩
   · rintro ⟨h3, h4⟩
     refine ⟨⟨h3, ?_⟩, h4⟩
     have hk := hkey e h4
     have a1 : ¬ ltK (ixK x.cs e) (Ky.str (textOf (encR vals))) := by
      show ¬ Lib.compareBytes (bytes (ixKey e.id e.r x.cs)) (bytes (textOf (encR vals))) < 0
      rw [ixKey, bytes_textOf, bytes_textOf, hk]
      exact cmpB_le_app _ _
     have a2 : ltK (ixK x.cs e) (Ky.str (textOf (endL (encR vals)))) := by
      show Lib.compareBytes (bytes (ixKey e.id e.r x.cs)) (bytes (textOf (endL (encR vals)))) < 0
      rw [ixKey, bytes_textOf, bytes_textOf, hk]
      exact endL_lt (encR_low hne) _
     show (!decide (ltK (ixK x.cs e) (Ky.str (textOf (encR vals)))) && decide (ltK (ixK x.cs e) (Ky.str (textOf (endL (encR vals)))))) = true
     rw [decide_eq_false a1, decide_eq_true a2]
     rfl
end Go.Proofs.YtnefkkidfhmggaaGreat
/- Lookup: the walk of what is collected. -/
namespace Go.Proofs.YtnefkkidfhmggaaGreat
open Go Go.RowKit
def lkIts (none : Bool) (cs : List Int) (vals : Rw) (s : Sto) : List Ri := if none then [] else somL (lkP cs vals) s.es
def isV (b4 b5 : Nat) : Value := .func (.func 38) #[] #[.pointer (some ⟨b4, 0, none⟩), .pointer (some ⟨b5, 0, none⟩)]
set_option maxHeartbeats 4000000 in
set_option maxRecDepth 20000 in
theorem lookup4_calls {S cols : Nat} {I : List (List Int)} {L : LL} {next : Int} {s : Sto} (hok : s.Ok cols I L next) (b8 b3 b4 b7 b5 : Nat) (cv vv : Value) (none : Bool) {cs : List Int} {vals : Rw} (hk : none = false → LkOk cols cs vals) (hx : RowS vals) (hvl : vals.length ≤ 100000) (hlen : L.length + 1 < 1099511627776)
 (w0 w : World) (fp0 : List Nat) (R : List Asn) (hS : St w0 fp0 (blkA b8 4 #[.bool none] :: blkA b3 34 #[ptrV S] :: blkA b7 88 #[isV b4 b5] :: (stoL S s ++ (lkX b4 b5 cv vv cs vals ++ R))) w) :
 Calls Tryz.prog 46 #[.pointer (some ⟨b8, 0, .none⟩), .pointer (some ⟨b3, 0, .none⟩), .pointer (some ⟨b4, 0, .none⟩), .pointer (some ⟨b7, 0, .none⟩), .pointer (some ⟨b5, 0, .none⟩)] w fun e w' => ∃ v, e = .returned v ∧
  St w0 fp0 (rowA 114 2 v (lkIts none cs vals s).length (riV (lkIts none cs vals s)) :: (blkA b8 4 #[.bool none] :: blkA b3 34 #[ptrV S] :: blkA b7 88 #[isV b4 b5] :: (stoL S s ++ (lkX b4 b5 cv vv cs vals ++ R)))) w' := by
 obtain ⟨_, hb8⟩ := hS.has 0 rfl
 have d8 := (blk_get hb8).1 0
 have d8l := (blk_get hb8).2.2
 simp only [List.getElem?_toArray, List.getElem?_cons_zero] at d8
 cases none with
 | true =>
  have HS := Lib.hid (St.nilR 114 2 hS)
  clear hS hk hb8
  go_enter Tryz.func46, Tryz.ntmps46
  go_wp2
  go_ret
  exact ⟨_, rfl, HS.out⟩
 | false =>
  have hk1 := hk rfl
  clear hk
  have hk := hk1
  clear hk1
  have hxm : ∀ v ∈ vals, v.text.size ≤ maxLen := fun v hv => by have := (hx v hv).2; unfold maxLen; omega
  let R1 : List Asn := blkA b8 4 #[.bool false] :: blkA b3 34 #[ptrV S] :: blkA b7 88 #[isV b4 b5] :: R
  have hS1 : St w0 fp0 (stoL S s ++ (lkX b4 b5 cv vv cs vals ++ R1)) w := hS.perm (by
   classical
   refine List.perm_iff_count.2 fun a => ?_
   simp only [R1, List.count_append, List.count_cons]
   omega)
  obtain ⟨r1, r2, d4, d5⟩ := lk_reads hxm hS1
  obtain ⟨_, hb3⟩ := hS.has 1 rfl
  have d3 := (blk_get hb3).1 0
  have d3l := (blk_get hb3).2.2
  obtain ⟨_, hb7⟩ := hS.has 2 rfl
  have d7 := (blk_get hb7).1 0
  have d7l := (blk_get hb7).2.2
  obtain ⟨_, hbS⟩ := hS.has 3 rfl
  have e3 := (blk_get hbS).1 3
  obtain ⟨_, hri⟩ := hS.has 5 rfl
  have hix := row_sl hri (ixV_len s.ixs)
  simp only [List.getElem?_toArray, List.getElem?_cons_zero, List.getElem?_cons_succ] at d3 d7 e3
  have d4l := World.block_lt_of_cell? w _ d4
  have d5l := World.block_lt_of_cell? w _ d5
  have hixs : ∀ x ∈ s.ixs, IntsX [] w x.cs x.cv := by
   intro x hx
   obtain ⟨f, hf⟩ := hS1.hasM (A := ixA x) (List.mem_append_left _ (by unfold stoL; exact .tail _ (.tail _ (.tail _ (List.mem_append_right _ (List.mem_map.2 ⟨x, hx, rfl⟩))))))
   obtain ⟨f1, f2, h1, -⟩ := (show Star w [slA 3 x.cv (x.cs.map intC), objA true 16 x.kh x.km x.kb] f from hf)
   exact intsX_of h1
  have HCVS : RowKit.Hid (∀ x ∈ s.ixs, ∃ a n c, x.cv = .slice a n c) := fun x hx => by
   obtain ⟨a, n, c, h, -⟩ := (hixs x hx).shape
   exact ⟨a, n, c, h⟩
  have HF := Lib.hid (sfind_calls S s.ixs s.iv cs cv w e3 hix hixs r1)
  obtain ⟨o, ho⟩ : ∃ o, findIx s.ixs cs = o := ⟨_, rfl⟩
  rw [ho] at HF
  have HO := Lib.hid ho
  have HS1 := Lib.hid hS1
  have HOK := Lib.hid hok
  have HK := Lib.hid hk
  have HX := Lib.hid hx
  have HXM := Lib.hid hxm
  have HVL := Lib.hid hvl
  have HLEN := Lib.hid hlen
  have HISC := Lib.hid (lk_isc (S := S) hok b4 b5 cv vv hk hxm)
  have hlk : lkIts false cs vals s = somL (lkP cs vals) s.es := rfl
  rw [hlk]
  clear hS hS1 hk hb8 hb3 hb7 hbS hri hix hixs e3 r1 r2 ho hok hx hxm hvl hlen hlk
  go_enter Tryz.func46, Tryz.ntmps46
  unfold ptrV at d3
  unfold isV at d7
  unfold ptrV at HF
  go_wp2_with fail
  (with_reducible refine HF.out.mono ?_)
  rintro e w1 ⟨rfl, hb1⟩
  have HS2 := Lib.hid (HS1.out.mono hb1)
  have c3 := (hb1.cell (p := ⟨b3, 0, none⟩) d3l).trans d3
  have c4 := (hb1.cell (p := ⟨b4, 0, none⟩) d4l).trans d4
  have c5 := (hb1.cell (p := ⟨b5, 0, none⟩) d5l).trans d5
  have c7 := (hb1.cell (p := ⟨b7, 0, none⟩) d7l).trans d7
  have l3 := World.block_lt_of_cell? w1 _ c3
  have l4 := World.block_lt_of_cell? w1 _ c4
  have l5 := World.block_lt_of_cell? w1 _ c5
  have l7 := World.block_lt_of_cell? w1 _ c7
  clear HF hb1 d3 d4 d5 d7 d3l d4l d5l d7l d8 d8l HS1
  have HLE : RowKit.Hid (s.es.length + 1 < 1099511627776) := by
   have h1 := congrArg List.length HOK.out.rows
   rw [reL, List.length_map] at h1
   have := HLEN.out
   show _ < _
   omega
  cases o with
  | none =>
   unfold findV
   go_upto_region 5 with (fail)
   generalize hW2 : w1.alloc _ = W2
   have hb2 : Below w1.heap.size w1 W2 := by rw [← hW2]; exact (Below.refl _ _).alloc (Nat.le_refl _) _
   have HS3 := Lib.hid (HS2.out.mono hb2)
   have e3 := (hb2.cell (p := ⟨b3, 0, .none⟩) l3).trans c3
   have e7 := (hb2.cell (p := ⟨b7, 0, .none⟩) l7).trans c7
   have m3 := World.block_lt_of_cell? W2 _ e3
   have m7 := World.block_lt_of_cell? W2 _ e7
   clear hb2
   generalize w1.heap.size = b6 at *
   have HC := Lib.hid (some_calls 38 #[.pointer (some ⟨b4, 0, .none⟩), .pointer (some ⟨b5, 0, .none⟩)] (lkP cs vals) S s (lkX b4 b5 cv vv cs vals) (enters_own Tryz.func38 (by kernel_rfl) rfl) HLE.out HISC.out w0 W2 fp0 R1 HS3.out)
   clear hW2 HS2 HS3 c3 c4 c5 c7 l3 l4 l5 l7
   unfold ptrV at HC
   go_wp2_with fail
   (with_reducible refine HC.out.mono ?_)
   rintro e w3 ⟨v, rfl, h3⟩
   have H3 : RowKit.Hid (St w0 fp0 (rowA 114 2 v (somL (lkP cs vals) s.es).length (riV (somL (lkP cs vals) s.es)) :: (blkA b8 4 #[.bool false] :: blkA b3 34 #[ptrV S] :: blkA b7 88 #[isV b4 b5] :: (stoL S s ++ (lkX b4 b5 cv vv cs vals ++ R)))) w3) := h3.perm (by
    classical
    refine List.perm_iff_count.2 fun a => ?_
    simp only [R1, List.count_append, List.count_cons]
    omega)
   clear HC h3 e3 e7 m3 m7
   go_wp2
   go_ret
   exact ⟨v, rfl, H3.out⟩
  | some x =>
   have hxm : x ∈ s.ixs := List.mem_of_find?_eq_some HO.out
   have hxc : x.cs = cs := of_decide_eq_true (List.find?_some (p := fun x : Ix => decide (x.cs = cs)) HO.out)
   obtain ⟨xa, xn, xc, hxv⟩ := HCVS.out x hxm
   have hfv : findV (some x) = .agg #[.slice xa xn xc, .pointer (some ⟨x.kb, 0, .none⟩)] := by
    rw [findV, hxv]
    rfl
   rw [hfv]
   have HXS := Lib.hid hxm
   have HXC := Lib.hid hxc
   obtain ⟨kb, hkb⟩ : ∃ kb, x.kb = kb := ⟨_, rfl⟩
   rw [hkb]
   have HKB := Lib.hid hkb
   clear hxm hxc hxv hkb hfv HCVS
   go_upto_region 6 with (fail)
   generalize hW2 : w1.alloc _ = W2
   have hb2 : Below w1.heap.size w1 W2 := by rw [← hW2]; exact (Below.refl _ _).alloc (Nat.le_refl _) _
   have HS3 : RowKit.Hid (St w0 fp0 (blkA w1.heap.size 97 #[.slice xa xn xc, .pointer (some ⟨kb, 0, .none⟩)] :: (stoL S s ++ (lkX b4 b5 cv vv cs vals ++ R1))) W2) := by
    show St _ _ _ _
    rw [← hW2]
    exact HS2.out.newblk 97 #[.slice xa xn xc, .pointer (some ⟨kb, 0, .none⟩)]
   have e5 := (hb2.cell (p := ⟨b5, 0, .none⟩) l5).trans c5
   have m5 := World.block_lt_of_cell? W2 _ e5
   clear hb2 hW2 HS2 c3 c4 c5 c7 l3 l4 l5 l7
   generalize w1.heap.size = b6 at *
   have hvv : ValsAt W2 vals vv := (lk_reads HXM.out (show St w0 fp0 (stoL S s ++ (lkX b4 b5 cv vv cs vals ++ (blkA b6 97 #[.slice xa xn xc, .pointer (some ⟨kb, 0, .none⟩)] :: R1))) W2 from HS3.out.perm (by
    classical
    refine List.perm_iff_count.2 fun a => ?_
    simp only [List.count_append, List.count_cons]
    omega))).2.1
   have HENC := Lib.hid (encodeRow_calls vals vv HX.out HVL.out W2 hvv)
   clear hvv
   go_wp2_with fail
   (with_reducible refine HENC.out.mono ?_)
   rintro e W3 ⟨b, rfl, hb⟩
   obtain ⟨_, hbs⟩ := hb.has 0 rfl
   obtain ⟨ba, bn, bc, rfl⟩ := sl_shape hbs
   have hcv := run_back hbs
   have HS4 := Lib.hid (HS3.out.mono hb.below0)
   obtain ⟨p, hp⟩ : ∃ p, textOf (encR vals) = p := ⟨_, rfl⟩
   rw [hp] at hcv
   have HP := Lib.hid hp
   clear HENC HS3 hb hbs e5 m5 hp
   go_upto_region 7 with (fail)
   clear hcv
   have hvne : vals ≠ [] := by
    intro h
    have h1 := HK.out.len
    rw [h] at h1
    exact HK.out.ne (List.length_eq_zero_iff.1 h1)
   have HEND := Lib.hid (End_calls (encR vals) (encR_low hvne) (by have := encR_len HX.out; have := HVL.out; omega) W3)
   rw [HP.out] at HEND
   obtain ⟨q, hq⟩ : ∃ q, textOf (endL (encR vals)) = q := ⟨_, rfl⟩
   rw [hq] at HEND
   have HQ := Lib.hid hq
   clear hvne hq
   go_wp2_with fail
   (with_reducible refine HEND.out.mono ?_)
   rintro e W4 ⟨rfl, hb4⟩
   have HS5 := Lib.hid (HS4.out.mono hb4)
   clear HEND HS4 hb4
   obtain ⟨ess, hess, hem, hep, hel⟩ := ix_sel (_S := S) HOK.out HXS.out (some (.str p)) (some (.str q))
   have hits : somL (lkP cs vals) ess = somL (lkP cs vals) s.es := by
    have hvne : vals ≠ [] := by
     intro h
     have h1 := HK.out.len
     rw [h] at h1
     exact HK.out.ne (List.length_eq_zero_iff.1 h1)
    rw [← HXC.out]
    rw [← HP.out, ← HQ.out] at hem
    exact lk_ess (_S := S) HOK.out HXS.out hvne hem hep
   have HIX : RowKit.Hid (∀ (v : Value) (w : World), St w0 fp0 ([blkA b3 34 #[.pointer (some ⟨S, 0, .none⟩)], blkA b6 97 #[.slice xa xn xc, .pointer (some ⟨kb, 0, .none⟩)], blkA b7 88 #[isV b4 b5], itA v kb (some (.str p)) (some (.str q)), emp] ++ (blkA b8 4 #[.bool false] :: (stoL S s ++ (lkX b4 b5 cv vv cs vals ++ R)))) w →
    Calls Tryz.prog 51 #[.pointer (some ⟨S, 0, .none⟩), v, isV b4 b5] w fun e w2 => ∃ u, e = .returned u ∧ St w0 fp0 ([blkA b3 34 #[.pointer (some ⟨S, 0, .none⟩)], blkA b6 97 #[.slice xa xn xc, .pointer (some ⟨kb, 0, .none⟩)], blkA b7 88 #[isV b4 b5], emp, rowA 114 2 u (somL (lkP cs vals) s.es).length (riV (somL (lkP cs vals) s.es))] ++ (blkA b8 4 #[.bool false] :: (stoL S s ++ (lkX b4 b5 cv vv cs vals ++ R)))) w2) := by
    intro v W h
    rw [← HKB.out] at h
    have h2 : St w0 fp0 (itA v x.kb (some (.str p)) (some (.str q)) :: (stoL S s ++ (lkX b4 b5 cv vv cs vals ++ (emp :: blkA b3 34 #[.pointer (some ⟨S, 0, .none⟩)] :: blkA b6 97 #[.slice xa xn xc, .pointer (some ⟨x.kb, 0, .none⟩)] :: blkA b7 88 #[isV b4 b5] :: blkA b8 4 #[.bool false] :: R)))) W := h.perm (by
     classical
     refine List.perm_iff_count.2 fun a => ?_
     simp only [List.cons_append, List.nil_append, List.count_append, List.count_cons]
     omega)
    refine (idx_calls 38 #[.pointer (some ⟨b4, 0, .none⟩), .pointer (some ⟨b5, 0, .none⟩)] (lkP cs vals) S cols I L next s HOK.out (lkX b4 b5 cv vv cs vals) (enters_own Tryz.func38 (by kernel_rfl) rfl) HISC.out x HXS.out (some (.str p)) (some (.str q)) (by rintro k ⟨rfl⟩; trivial) (by rintro k ⟨rfl⟩; trivial) ess hess (fun e he => ((hem e).1 he).1) HLEN.out v w0 W fp0 _ h2).mono ?_
    rintro e w2 ⟨u, rfl, h3⟩
    refine ⟨u, rfl, ?_⟩
    rw [hits] at h3
    rw [← HKB.out]
    refine h3.perm ?_
    classical
    refine List.perm_iff_count.2 fun a => ?_
    simp only [List.cons_append, List.nil_append, List.count_append, List.count_cons]
    omega
   clear hits hel hep hem hess
   go_upto_region 8 with (fail)
   refine rLk8 (w0 := w0) (fp0 := fp0) b3 b6 b7 S kb (somL (lkP cs vals) s.es).length (.slice xa xn xc) (isV b4 b5) p q (riV (somL (lkP cs vals) s.es)) (blkA b8 4 #[.bool false] :: (stoL S s ++ (lkX b4 b5 cv vv cs vals ++ R))) HIX.out rfl (by kernel_rfl) rfl rfl rfl rfl rfl rfl rfl ?_ ?_
   · have h5 := St.emp.2 (St.emp.2 HS5.out)
     refine h5.perm ?_
     classical
     refine List.perm_iff_count.2 fun a => ?_
     simp only [R1, ptrV, List.cons_append, List.nil_append, List.count_append, List.count_cons]
     omega
   · intro u36 u38 W5 h6
     have H6 : RowKit.Hid (St w0 fp0 (rowA 114 2 u38 (somL (lkP cs vals) s.es).length (riV (somL (lkP cs vals) s.es)) :: (blkA b8 4 #[.bool false] :: blkA b3 34 #[ptrV S] :: blkA b7 88 #[isV b4 b5] :: (stoL S s ++ (lkX b4 b5 cv vv cs vals ++ R)))) W5) := by
      refine St.dropAll (A := [emp, blkA b6 97 #[.slice xa xn xc, .pointer (some ⟨kb, 0, .none⟩)]]) (h6.perm ?_)
      classical
      refine List.perm_iff_count.2 fun a => ?_
      simp only [ptrV, List.cons_append, List.nil_append, List.count_append, List.count_cons]
      omega
     clear h6 HS5 HIX
     simp only [putL, List.foldl, Act.put, List.setIfInBounds_toArray, List.set_cons_succ, List.set_cons_zero]
     go_wp2
     go_ret
     exact ⟨_, rfl, H6.out⟩
end Go.Proofs.YtnefkkidfhmggaaGreat
