/- Part 12 of the proof: Nb -/
import Derived.Test.YtnefkkidfhmggaaGreatY11
import Derived.BigFrameIn
/- TablestoreNoAliasing: its walk. -/
namespace Go.Proofs.YtnefkkidfhmggaaGreat
open Go Go.RowKit
attribute [local go_sem] Oper.semAt_some
theorem op_one {w0 w : World} {fp0 : List Nat} {L : List Asn} {b rn c : Nat} {ra : Option Addr} {rc : Nat} {r : Rw} (h : St w0 fp0 (blkA b 58 #[.int .u8 0, .int .i64 0, .slice ra rn rc] :: L) w) (hr : ValsAt w r (.slice ra rn rc)) : OpsX w [⟨0, 0, ra, rn, rc, r⟩] (.slice (some ⟨b, 0, none⟩) 1 c) := by
 obtain ⟨_, hb⟩ := h.has 0 rfl
 exact ⟨SlX.of_blk (X := []) (n := 1) (size := 3) hb.1 (by simp) (by unfold maxLen; omega) rfl, fun x hx => by obtain rfl := List.mem_singleton.1 hx; exact hr⟩
set_option maxHeartbeats 4000000 in
set_option maxRecDepth 100000 in
theorem noalias_calls (u : Nat) (hu : u < 256) (ka fa : Option Addr) (kn kc fn fc : Nat) (K F : List Int) (l : List Opr) (v : Value) (W : World) (hk : IntsX [] W K (.slice ka kn kc)) (hf : IntsX [] W F (.slice fa fn fc)) (hl : OpsX W l v) (ho : OpsOk l) (r : Rw) (rv : Value) (hr : ValsAt W r rv) (hri : ∀ v ∈ r, I64 v.int) :
 Calls Tryz.prog 8 #[.agg #[.int .u8 u, .slice ka kn kc, .slice fa fn fc], v, rv] W fun e w' => e = .returned (.bool true) ∧ Below W.heap.size W w' := by
 have H0 := Lib.hid ((St.start (w := W) (L := []) (fp := []) rfl).newblk 24 #[.int .u8 u, .slice ka kn kc, .slice fa fn fc])
 have HK := Lib.hid hk
 have HF := Lib.hid hf
 have HL := Lib.hid hl
 have HO := Lib.hid ho
 have HR := Lib.hid hr
 have HRI := Lib.hid hri
 obtain ⟨ra, rn, rc, rfl, -, -⟩ := hr.shape
 clear hk hf hl ho hr hri
 refine calls_of_wp_m Tryz.func8 rfl ?_
 simp only [Tryz.ntmps8, List.size_toArray, List.length_cons, List.length_nil, Nat.reduceAdd, Nat.reduceSub, Array.replicate_succ, Array.replicate_zero, List.push_toArray, List.append_toArray, List.nil_append, List.cons_append]
 go_wp2_with fail
 generalize hW : W.alloc _ = w1 at *
 obtain ⟨b2, hb2⟩ : ∃ b2, W.heap.size = b2 := ⟨_, rfl⟩
 rw [hb2] at H0 ⊢
 have HB := Lib.hid hb2
 clear hW hb2
 (with_reducible refine (awake_calls w1).mono ?_)
 rintro e w2 ⟨rfl, hb⟩
 replace H0 := Lib.hid (H0.out.mono hb)
 clear hb
 obtain ⟨q0, q1, q2, r0, r1, r2, ql⟩ := cells3 H0.out 0 rfl
 go_wp2_with fail
 have HQ := Lib.hid (fair_calls u ka fa kn kc fn fc l v 20 w2 (by have := SlX.len HK.out; omega) (by have := SlX.len HF.out; omega) (HL.out.mono (st_below H0.out)))
 obtain ⟨q, hq⟩ : ∃ q, fairB kn fn l 20 = q := ⟨_, rfl⟩
 rw [hq] at HQ
 (with_reducible refine HQ.out.mono ?_)
 rintro e w3 ⟨rfl, hb⟩
 replace H0 := Lib.hid (H0.out.mono hb)
 clear hb HQ q0 q1 q2 r0 r1 r2 ql
 cases q with
 | false =>
  rw [← HB.out]
  have HE := Lib.hid (st_below H0.out)
  clear H0 hq
  go_wp2
  refine bodyPostM_ret (results_tmp rfl _ _ _) rfl ?_
  exact ⟨rfl, HE.out⟩
 | true =>
  have HFQ := Lib.hid (fair_ok hq)
  have HOP := Lib.hid (HO.out.play hq)
  clear hq
  obtain ⟨q0, q1, q2, r0, r1, r2, ql⟩ := cells3 H0.out 0 rfl
  go_wp2_with fail
  have H1 := Lib.hid (H0.out.newblk 58 #[.int .u8 0, .int .i64 0, .slice ra rn rc])
  generalize hW : w3.alloc _ = w4 at *
  obtain ⟨bo, hbo⟩ : ∃ bo, w3.heap.size = bo := ⟨_, rfl⟩
  rw [hbo] at H1 ⊢
  clear hW hbo q0 q1 q2 r0 r1 r2 ql H0
  have HQ := Lib.hid (fair_calls u ka fa kn kc fn fc _ _ 1 w4 (by have := SlX.len HK.out; omega) (by have := SlX.len HF.out; omega) (op_one (c := 1) H1.out (HR.out.mono (st_below H1.out))))
  obtain ⟨q, hq⟩ : ∃ q, fairB kn fn [⟨0, 0, ra, rn, rc, r⟩] 1 = q := ⟨_, rfl⟩
  rw [hq] at HQ
  (with_reducible refine HQ.out.mono ?_)
  rintro e w5 ⟨rfl, hb⟩
  have H0 := Lib.hid (H1.out.mono hb).drop
  clear hb HQ H1
  cases q with
  | false =>
   rw [← HB.out]
   have HE := Lib.hid (st_below H0.out)
   clear H0 hq
   go_wp2
   refine bodyPostM_ret (results_tmp rfl _ _ _) rfl ?_
   exact ⟨rfl, HE.out⟩
  | true =>
   have HRL := Lib.hid (((fair_ok hq).2.2.2 _ (List.mem_singleton.2 rfl)).1)
   simp only at HRL
   clear hq
   have HP := Lib.hid (by
    have hr : ∀ {Q : World → Prop}, (∀ w', Below W.heap.size W w' → Q w') → Rd W [] [blkA b2 24 #[.int .u8 u, .slice ka kn kc, .slice fa fn fc]] Q := fun h L w hs => h w (st_below hs)
    have h2 := SlX.len HK.out
    have h3 := SlX.len HF.out
    exact play_calls u hu ka fa kn kc fn fc K F (by have := HFQ.out.2.1; omega) (by have := HFQ.out.2.2.1; omega) l v W w5 [] _ (hr fun w' hb => HK.out.mono hb) (hr fun w' hb => HF.out.mono hb) (hr fun w' hb => HL.out.mono hb) (by have := HFQ.out.1; omega) HOP.out H0.out)
   obtain ⟨q0, q1, q2, r0, r1, r2, ql⟩ := cells3 H0.out 0 rfl
   clear H0
   go_wp2_with fail
   (with_reducible refine HP.out.mono ?_)
   rintro e w6 ⟨S, I, next, lv, m, rfl, hml, hasc, hof, h4⟩
   obtain ⟨la, lc, rfl⟩ : ∃ a c, lv = .slice a m.length c := by
    obtain ⟨_, hr⟩ := h4.has 1 rfl
    exact (riA_sl hr).shape
   have HM := Lib.hid (And.intro hml (And.intro hasc hof))
   have H4 := Lib.hid (h4.newblk 37 #[.int .i64 (colsN u), .slice la m.length lc, .int .i64 next])
   clear hml hasc hof h4 HP q0 q1 q2 r0 r1 r2 ql
   unfold rsV ptrV
   go_upto_region 8 with (fail)
   generalize hW4 : w6.alloc _ = w7 at *
   obtain ⟨b8, hb8⟩ : ∃ b8, w6.heap.size = b8 := ⟨_, rfl⟩
   rw [hb8] at H4 ⊢
   clear hW4 hb8
   have HE := Lib.hid H4.out.emptyV
   have HSRC := Lib.hid ((HR.out.mono (st_below HE.out)).1.src (P := Tryz.prog) (tx := 27) (e' := 29) (by kernel_rfl) (by decide) (one_flat _))
   go_upto_region 9 with (first
    | (at_builtin; refine wpList_appR rfl _ _ _ _ rfl rfl rfl appVS HE.out HSRC.out (by have := HRL.out; omega) ?_; intro v3 w8 h3))
   rw [Nat.zero_add, List.nil_append] at h3
   clear HE HSRC H4
   obtain ⟨va3, vc3, rfl⟩ : ∃ a c, v3 = .slice a r.length c := by
    obtain ⟨_, hr⟩ := h3.out.has 0 rfl
    obtain ⟨a, c, e, -⟩ := row_shape hr
    exact ⟨_, _, e⟩
   have HVR := Lib.hid (And.intro HR.out.2 (show m.length < 200000 by have := HM.out.1; have := HFQ.out.1; omega))
   have HP := Lib.hid (RInsert_calls (colsN u) (.slice la m.length lc) ⟨next, ra, rn, rc, r⟩ m HM.out.2.1 (by have := HVR.out.2; omega) W w8 [] _ (fun L w hs => HR.out.mono (st_below hs)) (St_re (L := [_, _, _, _, _]) h3.out [3, 1, 0, 2, 4] [] (by kernel_rfl)))
   obtain ⟨p0, p1, p2, s0, s1, s2, pl⟩ := cells3 h3.out 1 rfl
   clear h3
   unfold rsV Ri.v at HP
   obtain ⟨N2, hN2⟩ : ∃ N2, putN (colsN u) next r next = N2 := ⟨_, rfl⟩
   obtain ⟨iv, hiv⟩ : ∃ iv, insV (colsN u) r next = iv := ⟨_, rfl⟩
   rw [hN2, hiv] at HP
   have HN2 := Lib.hid (And.intro hN2 hiv)
   clear hN2 hiv
   go_wp2_with fail
   (with_reducible refine HP.out.mono ?_)
   rintro e w9 ⟨lv2, rfl, hpp⟩
   obtain ⟨m2, h1, h2, h3, h4, h5⟩ := PutPost.fin (x := ⟨next, ra, rn, rc, r⟩) (P := fun x => Of l x ∨ x.r = r ∧ x.v = .slice ra rn rc) hpp HM.out.2.1 (fun y hy => .inl (HM.out.2.2 y hy)) (.inr ⟨rfl, rfl⟩)
   clear HP hpp p0 p1 p2 s0 s1 s2 pl
   obtain ⟨ya, yc, rfl⟩ : ∃ a c, lv2 = .slice a m2.length c := by
    obtain ⟨_, hr⟩ := h5.has 0 rfl
    exact (riA_sl hr).shape
   have HM2 := Lib.hid (And.intro h1 (And.intro h2 h4))
   have H5 := Lib.hid (St_re (L := [_, _, _, _, _]) h5 [1, 0, 2, 3, 4] [] (by kernel_rfl))
   clear h1 h2 h3 h4 h5
   obtain ⟨p0, p1, p2, s0, s1, s2, pl⟩ := cells3 H5.out 0 rfl
   have H7 := Lib.hid (setB3 H5.out (.int .i64 (colsN u)) (.slice ya m2.length yc) (.int .i64 N2))
   clear H5
   go_upto_region 10 with (fail)
   generalize hW7 : World.setCell (World.setCell (World.setCell _ _ _) _ _) _ _ = w10 at *
   clear hW7 p0 p1 p2 s0 s1 s2 pl
   have HI2 := Lib.hid (SInsert_calls S (colsN u) _ (riL m) next r (.slice va3 r.length vc3) HRI.out (by unfold colsN; omega) (by rw [riL_len]; have := HVR.out.2; omega) W w10 [] _ (Rd.of_piece 2 rfl fun w f h => ⟨SlX.of_row (X := []) h (length_flat r) (by simp), HVR.out.1⟩) (St_re (L := [_, _, _, _, _]) H7.out [3, 0, 1, 2, 4] [] (by kernel_rfl)))
   clear H7
   rw [HN2.out.1, HN2.out.2, ← HM2.out.1] at HI2
   unfold ptrV at HI2
   go_wp2_with fail
   (with_reducible refine HI2.out.mono ?_)
   rintro e w11 ⟨rfl, h8⟩
   have H8 := Lib.hid (St_re (L := [_, _, _, _, _]) h8 [3, 0, 1, 2, 4] [] (by kernel_rfl)).ownI
   clear HI2 h8
   obtain ⟨n, hn⟩ : ∃ n, r.length = n := ⟨_, rfl⟩
   rw [hn] at H8 HRL ⊢
   have hn1 : n ≤ 8 := HRL.out
   clear hn
   go_upto_region 13 with (fail)
   go_loopg [60] n (fun g z wr => ∃ i : Nat, z = .int .i64 i ∧ g + i = n ∧ RowKit.Hid (St W [] (ownA (.slice va3 n vc3) n :: [storeA S (colsN u) I (riL m2) N2, blkA b8 37 #[.int .i64 (colsN u), .slice ya m2.length yc, .int .i64 N2], riA (.slice ya m2.length yc) m2, blkA b2 24 #[.int .u8 u, .slice ka kn kc, .slice fa fn fc]]) wr))
   case atStart => exact ⟨0, rfl, rfl, H8⟩
   case round =>
    clear H8
    obtain ⟨i, rfl, hgi, Hi⟩ := hrel
    have Hgi := Lib.hid hgi
    by_cases hin : i < n
    · have hii : (i : Int) < n := by omega
      clear hgi
      go_wp2_with fail
      (with_reducible refine (number39_calls 77 wr).mono ?_)
      rintro e w12 ⟨rfl, hb⟩
      have Hj := Lib.hid (Hi.out.mono hb)
      clear hb Hi
      unfold Vl.val
      obtain ⟨g, o0, o1, o2, rfl, c0, c1, c2, f0, f1, f2, gl, hset⟩ := own_store Hj.out i hin
      have Hk := Lib.hid (hset (.int .i64 1) (.int .i64 77) (.string ⟨#[]⟩))
      clear hset Hj
      go_wp2
      go_roundg (gk - 1)
      case rel => exact ⟨i + 1, by go_num, by have := Hgi.out; omega, Hk⟩
      case measure => have := Hgi.out; omega
    · have hii : ¬ (i : Int) < n := by omega
      clear hgi
      go_upto_region 17 with (fail)
      obtain ⟨p0, p1, p2, s0, s1, s2, pl⟩ := cells3 Hi.out 2 rfl
      have H9 := Lib.hid Hi.out.drop
      obtain ⟨n2, hn2⟩ : ∃ n2, m2.length = n2 := ⟨_, rfl⟩
      have HN3 := Lib.hid hn2
      rw [hn2] at H9 p1 ⊢
      have hn63 : n2 ≤ 1000000 := by have := HM2.out.2.1; have := HVR.out.2; omega
      clear hn2 Hi
      obtain ⟨vi, hvi⟩ : ∃ vi, va3 = vi := ⟨_, rfl⟩
      clear hvi
      go_upto_region 18 with (fail)
      clear p0 p1 p2 s0 s1 s2 pl
      go_loopg [71] n2 (fun g z wr => ∃ k : Nat, z = .int .i64 k ∧ g + k = n2 ∧ RowKit.Hid (St W [] [storeA S (colsN u) I (riL m2) N2, blkA b8 37 #[.int .i64 (colsN u), .slice ya n2 yc, .int .i64 N2], riA (.slice ya n2 yc) m2, blkA b2 24 #[.int .u8 u, .slice ka kn kc, .slice fa fn fc]] wr))
      case atStart => exact ⟨0, rfl, rfl, H9⟩
      case round =>
       clear H9
       obtain ⟨k, rfl, hgk, Hk⟩ := hrel
       have Hgk := Lib.hid hgk
       by_cases hkn : k < n2
       · have hki : (k : Int) < n2 := by omega
         clear hgk
         have hkl : k < m2.length := by rw [HN3.out]; exact hkn
         obtain ⟨_, hrw⟩ := Hk.out.has 2 rfl
         obtain ⟨bb, oo, cc, e1, c0, c1⟩ := ri_cells (riA_sl hrw) k hkl
         obtain ⟨rfl, -, rfl⟩ := Value.slice.inj e1
         have cl := World.block_lt_of_cell? _ _ c0
         clear hrw e1
         generalize m2[k] = y at *
         obtain ⟨yid, ya2, yn2, yc2, yr⟩ := y
         unfold Ri.v at c1
         simp only at c0 c1
         have Hl := Lib.hid (Hk.out.newblk 56 #[.int .i64 yid, .slice ya2 yn2 yc2])
         go_upto_region 20 with (fail)
         generalize hW : wr.alloc _ = w13 at *
         obtain ⟨b14, hb14⟩ : ∃ b14, wr.heap.size = b14 := ⟨_, rfl⟩
         rw [hb14] at Hl ⊢
         clear hW hb14 c0 c1 cl Hk
         obtain ⟨_, hb⟩ := Hl.out.has 0 rfl
         have c0 := (blk_get hb).1 0
         have cl := (blk_get hb).2.2
         simp only [List.getElem?_toArray, List.getElem?_cons_zero] at c0
         clear hb
         have HG := Lib.hid (SGet_calls S (colsN u) I (riL m2) N2 yid W w13 [] _ (by unfold colsN; omega) (St_re (L := [_, _, _, _, _]) Hl.out [1, 0, 2, 3, 4] [] (by kernel_rfl)))
         unfold ptrV at HG
         clear Hl
         go_wp2_with fail
         (with_reducible refine HG.out.mono ?_)
         rintro e w14 ⟨rv2, rfl, h9⟩
         obtain ⟨a5, c5, rfl⟩ : ∃ a c, rv2 = .slice a ((getL (riL m2) yid).getD []).length c := by
          obtain ⟨_, hr⟩ := h9.has 0 rfl
          obtain ⟨a, c, e, -⟩ := row_shape hr
          exact ⟨_, _, e⟩
         have Hm := Lib.hid (St_re (L := [_, _, _, _, _, _]) h9 [0, 1, 3, 4, 5, 2] [] (by kernel_rfl)).ownI
         have hq63 : ((getL (riL m2) yid).getD []).length ≤ 1000000 := by
          obtain ⟨s, hok, -⟩ := St.openS (St_re (L := [_, _, _, _, _, _]) h9 [1, 0, 2, 3, 4, 5] [] (by kernel_rfl))
          cases hg : getL (riL m2) yid with
          | none => simp
          | some r' =>
           have hm : (yid, r') ∈ riL m2 := by
            unfold getL at hg
            obtain ⟨x, hx, rfl⟩ := Option.map_eq_some_iff.1 hg
            have h1 := List.mem_of_find?_eq_some hx
            have h2 : x.1 = yid := by simpa using List.find?_some hx
            rw [← h2]
            exact h1
           have h4 : r'.length = colsN u := (hok.row _ hm).2.2.1
           show r'.length ≤ _
           have h3 : colsN u ≤ 4 := by unfold colsN; omega
           omega
         clear h9 HG c0 cl
         obtain ⟨q, hq⟩ : ∃ q, ((getL (riL m2) yid).getD []).length = q := ⟨_, rfl⟩
         rw [hq] at Hm hq63 ⊢
         clear hq
         obtain ⟨gk0, rfl⟩ : ∃ x, x = gk := ⟨_, rfl⟩
         obtain ⟨wr0, rfl⟩ : ∃ x, x = wr := ⟨_, rfl⟩
         go_upto_region 22 with (fail)
         go_loopg [84] q (fun g z wr => ∃ i : Nat, z = .int .i64 i ∧ g + i = q ∧ RowKit.Hid (St W [] (ownA (.slice a5 q c5) q :: [storeA S (colsN u) I (riL m2) N2, blkA b8 37 #[.int .i64 (colsN u), .slice (some ⟨bb, oo, none⟩) n2 yc, .int .i64 N2], riA (.slice (some ⟨bb, oo, none⟩) n2 yc) m2, blkA b2 24 #[.int .u8 u, .slice ka kn kc, .slice fa fn fc], blkA b14 56 #[.int .i64 yid, .slice ya2 yn2 yc2]]) wr))
         case atStart => exact ⟨0, rfl, rfl, Hm⟩
         case round =>
          clear Hm
          obtain ⟨i, rfl, hgi, Hi⟩ := hrel
          have Hgi := Lib.hid hgi
          by_cases hin : i < q
          · have hii : (i : Int) < q := by omega
            clear hgi
            go_wp2_with fail
            refine (text39_calls ⟨#[120]⟩ wr).mono ?_
            rintro e w12 ⟨rfl, hb⟩
            have Hj := Lib.hid (Hi.out.mono hb)
            clear hb Hi
            unfold Vl.val
            obtain ⟨g, o0, o1, o2, rfl, c0, c1, c2, f0, f1, f2, gl, hset⟩ := own_store Hj.out i hin
            have Hk := Lib.hid (hset (.int .i64 2) (.int .i64 0) (.string ⟨#[120]⟩))
            clear hset Hj
            go_wp2
            go_roundg (gk - 1)
            case rel => exact ⟨i + 1, by go_num, by have := Hgi.out; omega, Hk⟩
            case measure => have := Hgi.out; omega
          · have hii : ¬ (i : Int) < q := by omega
            have Hx := Lib.hid (St_re (L := [_, _, _, _, _, _]) Hi.out [0, 5, 1, 2, 3, 4] [] (by kernel_rfl)).drop.drop
            clear hgi Hi
            go_wp2
            go_roundg (gk0 - 1)
            case rel => exact ⟨k + 1, by go_num, by have := Hgk.out; omega, Hx⟩
            case measure => have := Hgk.out; omega
       · have hki : ¬ (k : Int) < n2 := by omega
         clear hgk
         obtain ⟨REST, hRE⟩ : ∃ REST, [blkA b8 37 #[.int .i64 (colsN u), .slice ya n2 yc, .int .i64 N2], riA (.slice ya n2 yc) m2, blkA b2 24 #[.int .u8 u, .slice ka kn kc, .slice fa fn fc]] = REST := ⟨_, rfl⟩
         rw [hRE] at Hk
         have HRE := Lib.hid hRE
         have HA := Lib.hid (All_it S (colsN u) I (by unfold colsN; omega) W wr [] _ Hk.out)
         clear Hk hRE
         unfold ptrV at HA
         go_wp2_with fail
         (with_reducible refine HA.out.mono ?_)
         rintro e w15 ⟨itv, rfl, h9⟩
         obtain ⟨X, ⟨gf, lb', rfl, heg, hq⟩, h10⟩ := St.iter.1 h9
         obtain ⟨s, hok, h11⟩ := (h10.perm List.perm_middle).openS
         obtain ⟨its, -, e2, e3, hseq⟩ := hq s (riL m2) N2 hok (by rw [riL_len, HN3.out]; omega)
         have HSEQ := Lib.hid (hseq 2)
         have HOK := Lib.hid hok
         have HI := Lib.hid e2
         have HLI := Lib.hid e3
         have H12 : RowKit.Hid (St W [] ((X ++ stoL S s) ++ REST) w15) := h11.perm (by
          classical
          refine List.perm_iff_count.2 fun a => ?_
          simp only [List.count_append]
          omega)
         clear HA h9 h10 h11 hq hseq hok e2 e3
         go_wp2_with fail
         refine wp_rangeFunc_g (n := 3) rfl heg HSEQ.out (fun _ => (X ++ stoL S s) ++ REST) (fun _ _ => [pureA False]) _ H12.out ?h0 ?hqr ?round ?done ?stop
         case h0 => exact fun _ _ h => h
         case hqr =>
          intro pre Own W' h x hx
          obtain ⟨e, he, rfl⟩ := HI.out x hx
          have h4 : St W [] (stoL S s ++ (X ++ (REST ++ Own))) W' := h.perm (by
           classical
           refine List.perm_iff_count.2 fun a => ?_
           simp only [List.count_append]
           omega)
          obtain ⟨f, hf⟩ := h4.star_of
          rw [toRi_v (h4.slOf e he)]
          exact re_at HOK.out hf he
         case stop =>
          intro D c pre x rest Wx hxs hW
          exact ((St.pure.1 (show St W [] (pureA False :: defA D :: []) Wx from hW.perm (List.Perm.swap _ _ _))).1).elim
         case round =>
          intro l0 pre x rest args Own W' hxs hsz hs
          obtain ⟨xa, xc, rfl, hs'⟩ := itG_out (show St W [] (itG x args :: (((X ++ stoL S s) ++ REST) ++ Own)) W' from hs)
          have HX : RowKit.Hid (x.r.length ≤ 1000000) := by
           obtain ⟨e, he, rfl⟩ := HI.out x (by rw [hxs]; simp)
           have hm : (e.id, e.r) ∈ riL m2 := by rw [← HOK.out.rows]; exact List.mem_map.2 ⟨_, he, rfl⟩
           have h4 : e.r.length = colsN u := (HOK.out.row _ hm).2.2.1
           show e.r.length ≤ _
           have h3 : colsN u ≤ 4 := by unfold colsN; omega
           omega
          have HS1 := Lib.hid (itG_in hs')
          clear hs hs' hsz hxs
          simp only [List.zip_toArray, List.zip_cons_cons, List.zip_nil_right, List.size_toArray, List.length_cons, List.length_nil, Nat.zero_add, Nat.reduceAdd, List.foldl_toArray', List.foldl_cons, List.setIfInBounds_toArray, List.set_cons_succ, List.set_cons_zero, List.foldl_nil]
          gi_wp2
          refine And.intro HS1.out (fun Own2 W2 hs2 => ?_)
          clear HS1
          obtain ⟨ya2, yc2, hargs, h1⟩ := itG_out (show St W [] (itG x #[.int .i64 x.id, .slice xa x.r.length xc] :: (((X ++ stoL S s) ++ REST) ++ Own2)) W2 from hs2)
          have e1 : Value.slice xa x.r.length xc = .slice ya2 x.r.length yc2 := by simpa using hargs
          obtain ⟨rfl, -, rfl⟩ := Value.slice.inj e1
          have Hm := Lib.hid h1.ownI
          clear hs2 h1 hargs e1
          obtain ⟨q, hq⟩ : ∃ q, x.r.length = q := ⟨_, rfl⟩
          rw [hq] at Hm HX ⊢
          have hq63 := HX.out
          clear hq
          generalize hLL : ((X ++ stoL S s) ++ REST) ++ Own2 = LL at *
          have HLL := Lib.hid hLL
          clear hLL
          gi_wp2
          gi_loopw [99] (fun z wr => ∃ i : Nat, z = .int .i64 i ∧ i ≤ q ∧ RowKit.Hid (St W [] (ownA (.slice xa q xc) q :: LL) wr)) (fun z _ => q - (intOf z).toNat)
          case atStart => exact ⟨0, rfl, Nat.zero_le _, Hm⟩
          case round =>
           clear Hm
           obtain ⟨i, rfl, hi0, Hi⟩ := hrel
           rename_i wr
           by_cases hin : i < q
           · have hii : (i : Int) < q := by omega
             have Hiq := Lib.hid hin
             clear hi0
             gi_wp2_with fail
             refine ⟨trivial, (CallsIn.inRound l0 (callsIn_wide.2 (number39_calls (-77) wr))).mono ?_⟩
             rintro e w12 ⟨rfl, hb⟩
             have Hj := Lib.hid (Hi.out.mono hb)
             clear hb Hi
             unfold Vl.val
             obtain ⟨g, o0, o1, o2, rfl, c0, c1, c2, f0, f1, f2, gl, hset⟩ := own_store Hj.out i hin
             have Hk := Lib.hid (hset (.int .i64 1) (.int .i64 (-77)) (.string ⟨#[]⟩))
             clear hset Hj
             gi_wp2
             go_roundw
             case rel => exact ⟨i + 1, by go_num, by have := Hiq.out; omega, Hk⟩
             case measure => simp [intOf]; have := Hiq.out; omega
           · have hii : ¬ (i : Int) < q := by omega
             have Hz : RowKit.Hid (St W [] (((X ++ stoL S s) ++ REST) ++ Own2) wr) := by
              rw [HLL.out]
              exact Hi.out.drop
             clear Hi hi0
             gi_wp2
             show St W [] ((X ++ (stoL S s ++ REST)) ++ Own2) wr
             rw [← List.append_assoc X]
             exact Hz.out
         case done =>
          intro D Wx hW
          have h1 : St W [] (stoL S s ++ (X ++ (REST ++ [defA D]))) Wx := hW.perm (by
           classical
           refine List.perm_iff_count.2 fun a => ?_
           simp only [List.count_append, List.count_cons, List.count_nil]
           omega)
          have h2 := St.dropAll (A := X) ((St.shutS HOK.out h1).perm List.perm_middle.symm)
          rw [← HRE.out] at h2
          have H2 := Lib.hid (St_re (L := [_, _, _, _, _]) h2 [1, 0, 2, 3, 4] [] (by kernel_rfl))
          clear hW h1 h2
          dsimp only
          go_upto_region 34 with (fail)
          refine rNa34 (w0 := W) (fp0 := []) S b8 (colsN u) n2 yc ya N2 I (riL m2) (riA (.slice ya n2 yc) m2 :: blkA b2 24 #[.int .u8 u, .slice ka kn kc, .slice fa fn fc] :: [defA D]) (by unfold colsN; omega) (by rw [riL_len, HN3.out]; omega) ((riL_len m2).trans HN3.out) (fun A w x h => same_res (St_re (L := [_, _, _, _]) h [3, 0, 1, 2] [] (by kernel_rfl)) (sto_text (St_re (L := [_, _, _, _]) h [2, 0, 1, 3] [] (by kernel_rfl))) ⟨by
           obtain ⟨_, hr⟩ := h.has 4 rfl
           exact riA_sl hr, fun y hy => by
           rcases HM2.out.2.2 y hy with ⟨o, ho, e1, e2⟩ | ⟨e1, e2⟩
           · rw [← e1, ← e2]
             exact (HL.out.mono (st_below h)).row o ho
           · rw [e1, e2]
             exact HR.out.mono (st_below h)⟩ rfl) rfl (by kernel_rfl) rfl rfl rfl rfl (St_re (L := [_, _, _, _, _, _, _]) (St.emp.2 (St.emp.2 H2.out)) [2, 0, 3, 1, 4, 5, 6] [] (by kernel_rfl)) ?_
          intro u108 u113 w16 h16
          have HZ := Lib.hid (St_re (L := [_, _, _, _, _, _, _]) h16 [6, 0, 1, 2, 3, 4, 5] [] (by kernel_rfl))
          clear h16 H2
          simp only [putL, List.foldl, Act.put, List.setIfInBounds_toArray, List.set_cons_succ, List.set_cons_zero]
          go_wp2
          exact bodyPostM_mark HZ.out rfl fun w' hw' => ⟨_, results_tmp rfl _ _ _, rfl, by rw [← HB.out] at *; exact st_below hw'⟩
end Go.Proofs.YtnefkkidfhmggaaGreat
