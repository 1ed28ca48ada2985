/- Part 12 of the proof: Rk, Lo9, Lw -/
import Derived.Test.YtnefkkidfhmggaaGreatX11
/- The reference's Lookup. -/
namespace Go.Proofs.YtnefkkidfhmggaaGreat
open Go Go.RowKit
def okC (cols : Nat) (r : Rw) (c : Int) (v : Vl) : Bool := decide (0 ≤ c) && (decide (c < cols) && (!decide (v.kind = 0) && decide (cmpV (colV r c) v = 0)))
def rlB (cols : Nat) (cs : List Int) (vals : Rw) (r : Rw) : Bool := (cs.zip vals).all fun p => okC cols r p.1 p.2
def rlkR (cols : Nat) (cs : List Int) (vals : Rw) (m : List Ri) : List Ri := if cs.length = vals.length ∧ cs.length ≠ 0 then m.filter fun x => rlB cols cs vals x.r else []
theorem rlB_eq (cols : Nat) (r : Rw) : ∀ (cs : List Int) (vals : Rw), cs.length = vals.length → rlB cols cs vals r = (!(cs.any fun c => !decide (0 ≤ c ∧ c < (cols : Int))) && (!(vals.any fun v => v.kind == 0) && decide (cs.map (colV r) = vals)))
 | [], [], _ => by simp [rlB]
 | c :: cs, v :: vals, h => by
  have ih := rlB_eq cols r cs vals (by simpa using h)
  unfold rlB at ih ⊢
  rw [List.zip_cons_cons, List.all_cons, ih, List.any_cons, List.any_cons, List.map_cons]
  rw [Bool.eq_iff_iff]
  simp only [okC, Bool.and_eq_true, Bool.not_eq_true', Bool.or_eq_false_iff, Bool.not_eq_false', decide_eq_true_eq, decide_eq_false_iff_not, beq_eq_false_iff_ne, ne_eq, List.cons.injEq, cmpV_zero]
  constructor
  · rintro ⟨⟨h1, h2, h3, h4⟩, h5, h6, h7⟩
    exact ⟨⟨⟨h1, h2⟩, h5⟩, ⟨h3, h6⟩, h4, h7⟩
  · rintro ⟨⟨⟨h1, h2⟩, h5⟩, ⟨h3, h6⟩, h4, h7⟩
    exact ⟨⟨h1, h2, h3, h4⟩, h5, h6, h7⟩
theorem rlk_eq (cols : Nat) (cs : List Int) (vals : Rw) (m : List Ri) : riL (rlkR cols cs vals m) = lookL cols cs vals (riL m) := by
 unfold rlkR lookL noneB
 by_cases h : cs.length = vals.length ∧ cs.length ≠ 0
 · rw [if_pos h, decide_eq_false h.2, decide_eq_true h.1]
   simp only [Bool.not_true, Bool.false_or, Bool.or_eq_true]
   have e : riL (m.filter fun x => rlB cols cs vals x.r) = (riL m).filter fun x => rlB cols cs vals x.2 := by
    unfold riL
    rw [List.filter_map]
    rfl
   rw [e]
   split
   · rename_i h2
     refine List.filter_eq_nil_iff.2 fun x _ => ?_
     rw [rlB_eq cols x.2 cs vals h.1]
     rcases h2 with h2 | h2 <;> rw [h2] <;> simp
   · rename_i h2
     refine List.filter_congr fun x _ => ?_
     rw [rlB_eq cols x.2 cs vals h.1]
     simp only [not_or, Bool.not_eq_true] at h2
     rw [h2.1, h2.2]
     rfl
 · rw [if_neg h]
   have h2 : (decide (cs.length = 0) || (!decide (cs.length = vals.length) || (cs.any (fun c => !decide (0 ≤ c ∧ c < (cols : Int))) || vals.any (fun v => v.kind == 0)))) = true := by
    by_cases h0 : cs.length = 0
    · simp [h0]
    · have : ¬ cs.length = vals.length := fun e => h ⟨e, h0⟩
      simp [this]
   rw [if_pos h2]
   rfl
theorem zip_step {cs : List Int} {vals : Rw} {k : Nat} (h1 : k < cs.length) (h2 : k < vals.length) (p : Int × Vl → Bool) : ((cs.zip vals).take (k + 1)).all p = (((cs.zip vals).take k).all p && p (cs[k], vals[k])) := by
 have hz : k < (cs.zip vals).length := by rw [List.length_zip]; omega
 rw [List.take_add_one, List.getElem?_eq_getElem hz, List.all_append]
 simp
theorem filt_snoc {α : Type} (p : α → Bool) (l : List α) (i : Nat) (hi : i < l.length) : (l.take (i + 1)).filter p = if p l[i] then (l.take i).filter p ++ [l[i]] else (l.take i).filter p := by
 rw [List.take_add_one, List.getElem?_eq_getElem hi, List.filter_append]
 cases h : p l[i] <;> simp [h]
set_option maxHeartbeats 4000000 in
set_option maxRecDepth 20000 in
theorem RLookup_calls (cols : Nat) (lv : Value) (next : Int) (m : List Ri) (cs : List Int) (vals : Rw) (cv vv : Value) (hlen : m.length < 1099511627775) (hrl : ∀ x ∈ m, x.r.length = cols) (w0 w : World) (fp0 : List Nat) (R : List Asn)
 (hm : Rd w0 fp0 R fun w => RiX w m lv) (hc : Rd w0 fp0 R fun w => IntsX [] w cs cv) (hv : Rd w0 fp0 R fun w => ValsAt w vals vv) (hS : St w0 fp0 R w) :
 Calls Tryz.prog 12 #[rsV cols lv next, cv, vv] w fun e w' => ∃ v, e = .returned v ∧ St w0 fp0 (riA v (rlkR cols cs vals m) :: R) w' := by
 obtain ⟨ca, cn, cc, rfl, hcn, hcm⟩ := (hc.here hS).shape
 obtain ⟨va, vn, vc, rfl, hvn, hvm⟩ := (hv.here hS).shape
 obtain ⟨la, lc, rfl⟩ := (hm.here hS).sl.shape
 unfold maxLen at hcm hvm
 have HM := Lib.hid hm
 have HC := Lib.hid hc
 have HV := Lib.hid hv
 have HRL := Lib.hid hrl
 have H0 := Lib.hid ((hS.newblk 37 #[.int .i64 cols, .slice la m.length lc, .int .i64 next]).nilR 56 2)
 obtain ⟨n, hn⟩ : ∃ n, m.length = n := ⟨_, rfl⟩
 rw [hn] at H0 hlen ⊢
 have HN := Lib.hid hn
 clear hm hc hv hS hrl hn
 unfold rsV
 by_cases hq : cn = vn
 · by_cases h0 : cn = 0
   · have e : rlkR cols cs vals m = [] := by unfold rlkR; rw [if_neg (fun h => h.2 (by omega))]
     rw [e]
     subst hq
     have z1 : decide ((cn : Int) = 0) = true := by simp [h0]
     subst h0
     clear e hcn hvn
     go_enter Tryz.func12, Tryz.ntmps12
     go_wp2
     go_ret
     exact ⟨_, rfl, (H0.out.perm (List.Perm.swap _ _ _)).drop⟩
   · have e : rlkR cols cs vals m = m.filter fun x => rlB cols cs vals x.r := by unfold rlkR; rw [if_pos ⟨by omega, by omega⟩]
     rw [e]
     clear e
     subst hq
     have z2 : decide ((cn : Int) = 0) = false := by simp; omega
     have z2' : ((cn : Int) == 0) = false := by simp; omega
     have HCN := Lib.hid (And.intro hcn hvn)
     have hcp : 0 < cn := by omega
     clear hcn hvn h0
     go_enter Tryz.func12, Tryz.ntmps12
     go_upto_region 5 with (fail)
     obtain ⟨b3, hb3⟩ : ∃ b3, w.heap.size = b3 := ⟨_, rfl⟩
     rw [hb3] at H0 ⊢
     generalize hW : w.alloc _ = W1 at *
     clear hW hb3
     go_loopg [7, 8] n (fun g z7 z8 wr => ∃ i : Nat, z8 = .int .i64 i ∧ g + i = n ∧ RowKit.Hid (St w0 fp0 (riA z7 ((m.take i).filter fun x => rlB cols cs vals x.r) :: blkA b3 37 #[.int .i64 cols, .slice la n lc, .int .i64 next] :: R) wr))
     case atStart => exact ⟨0, rfl, rfl, H0⟩
     case round =>
      clear H0
      obtain ⟨i, rfl, hgi, Hi⟩ := hrel
      have Hgi := Lib.hid hgi
      obtain ⟨c0, c1, c2, f0, f1, f2, cl⟩ := cells3 Hi.out 1 rfl
      by_cases hin : i < n
      · have hii : (i : Int) < n := by omega
        have hil : i < m.length := by rw [HN.out]; exact hin
        clear hgi
        have hmw := HM.out.at (M := [_, _]) Hi.out
        obtain ⟨bb, oo, kk, e1, p0, p1⟩ := ri_cells hmw.sl i hil
        have HFS := Lib.hid (filt_snoc (fun x : Ri => rlB cols cs vals x.r) m i hil)
        have HXR : RowKit.Hid (∀ w', Below wr.heap.size wr w' → ValsAt w' m[i].r m[i].v) := fun w' hb => (hmw.row _ (List.getElem_mem hil)).mono hb
        have HXL := Lib.hid (HRL.out _ (List.getElem_mem hil))
        have pl := World.block_lt_of_cell? _ _ p0
        obtain ⟨rfl, -, -⟩ := Value.slice.inj e1
        clear hmw e1
        obtain ⟨gk0, rfl⟩ : ∃ x, x = gk := ⟨_, rfl⟩
        obtain ⟨wr0, rfl⟩ : ∃ x, x = wr := ⟨_, rfl⟩
        have HCX := Lib.hid (HC.out.at (M := [_, _]) Hi.out)
        have HVX := Lib.hid (HV.out.at (M := [_, _]) Hi.out)
        generalize m[i] = x at *
        clear hil
        obtain ⟨xid, xa, xn, xc, xr⟩ := x
        unfold Ri.v at p1 HXR
        simp only at p0 p1 HXR HXL HFS
        go_upto_region 9 with (fail)
        go_loopg [9, 10] cn (fun g z9 z10 wr => ∃ (k : Nat) (t : Bool), z9 = .bool t ∧ z10 = .int .i64 k ∧ g + k = cn ∧ RowKit.Hid (((cs.zip vals).take k).all (fun p => okC cols xr p.1 p.2) = t) ∧ RowKit.Hid (Below wr0.heap.size wr0 wr))
        case atStart => exact ⟨0, true, rfl, rfl, rfl, rfl, Below.refl _ _⟩
        case round =>
         obtain ⟨k, t, rfl, rfl, hgk, Ht, Hb⟩ := hrel
         have Hgk := Lib.hid hgk
         obtain ⟨d0, d1, d2, -, -, -, dl⟩ := cells3 (Hi.out.mono Hb.out) 1 rfl
         by_cases hkn : k < cn
         · have hki : (k : Int) < cn := by omega
           clear hgk c0 c1 c2 f0 f1 f2 cl
           have hkc : k < cs.length := by rw [← HCN.out.1]; exact hkn
           have hkv : k < vals.length := by rw [← HCN.out.2]; exact hkn
           have HZ := Lib.hid (zip_step hkc hkv (fun p => okC cols xr p.1 p.2))
           have hc2 := HCX.out.mono Hb.out
           have hv2 := HVX.out.mono Hb.out
           obtain ⟨cb, co, rfl⟩ := hc2.has k hkn
           obtain ⟨vb, vo, rfl⟩ := hv2.has k hkn
           have i0 := hc2.cell k hkc
           obtain ⟨j0, j1, j2⟩ := hv2.cell k hkv
           have il := World.block_lt_of_cell? _ _ i0
           have jl := World.block_lt_of_cell? _ _ j0
           have HTV : RowKit.Hid (vals[k].text.size ≤ maxLen) := HVX.out.2 _ (List.getElem_mem hkv)
           have q0 := (Hb.out.cell (p := ⟨bb, oo + i * 2, none⟩) pl).trans p0
           have q1 := (Hb.out.cell (p := ⟨bb, oo + i * 2 + 1, none⟩) pl).trans p1
           have ql := World.block_lt_of_cell? _ _ q0
           clear hc2 hv2
           generalize cs[k] = c at *
           generalize vals[k] = v at *
           obtain ⟨yk, yi, yt⟩ := v
           simp only at j0 j1 j2 HTV
           go_upto_region 12 with (fail)
           cases t with
           | false =>
            go_quiet (fail)
            go_wp2
            go_roundg (gk - 1)
            case rel => exact ⟨k + 1, false, rfl, by go_num, by have := Hgk.out; omega, (by show _ = _; rw [HZ.out, Ht.out]; rfl), Hb.out.trans ((below_drewN _ _).mono Hb.out.size)⟩
            case measure => have := Hgk.out; omega
           | true =>
            by_cases g1 : 0 ≤ c
            · by_cases g2 : c < (cols : Int)
              · by_cases g3 : yk = 0
                · have z3 : decide (yk = 0) = true := by simp [g3]
                  have G := Lib.hid (And.intro g1 (And.intro g2 g3))
                  subst g3
                  go_quiet (fail)
                  go_wp2
                  go_roundg (gk - 1)
                  case rel => exact ⟨k + 1, false, rfl, by go_num, by have := Hgk.out; omega, (by show _ = _; rw [HZ.out, Ht.out]; simp [okC]), Hb.out.trans ((below_drewN _ _).mono Hb.out.size)⟩
                  case measure => have := Hgk.out; omega
                · obtain ⟨c', rfl⟩ := Int.eq_ofNat_of_zero_le g1
                  have g4 : c' < cols := by omega
                  have g5 : c' < xr.length := by rw [HXL.out]; exact g4
                  have hxw := HXR.out _ Hb.out
                  have hxn : xn = xr.length := by
                   obtain ⟨_, _, _, e, h, -⟩ := hxw.shape
                   obtain ⟨-, rfl, -⟩ := Value.slice.inj e
                   exact h
                  obtain ⟨rb, ro, rfl⟩ := hxw.has c' (by omega)
                  obtain ⟨s0, s1, s2⟩ := hxw.cell c' g5
                  have sl := World.block_lt_of_cell? _ _ s0
                  have hcv : colV xr (c' : Int) = xr[c'] := by simp [colV, List.getD, g5]
                  have htx : xr[c'].text.size ≤ maxLen := hxw.2 _ (List.getElem_mem g5)
                  have HG := Lib.hid (And.intro hcv (And.intro g4 g3))
                  have g6 : (c' : Int) < (xn : Int) := by omega
                  have z3 : (yk != 0) = true := by simpa using g3
                  have HRC : RowKit.Hid (∀ w', Calls Tryz.prog 35 #[.agg #[.int .i64 xr[c'].kind, .int .i64 xr[c'].int, .string xr[c'].text], .agg #[.int .i64 yk, .int .i64 yi, .string yt]] w' fun e w'' => e = .returned (.int .i64 (cmpV xr[c'] ⟨yk, yi, yt⟩)) ∧ Below w'.heap.size w' w'') := fun w' => rcmp_calls xr[c'] ⟨yk, yi, yt⟩ w' htx
                  clear hxw hxn htx hcv
                  generalize xr[c'] = y at *
                  clear g5
                  obtain ⟨zk, zi, zt⟩ := y
                  obtain ⟨cm, hcm⟩ : ∃ cm, cmpV ⟨zk, zi, zt⟩ ⟨yk, yi, yt⟩ = cm := ⟨_, rfl⟩
                  have HCM := Lib.hid hcm
                  simp only at s0 s1 s2 HRC
                  rw [hcm] at HRC
                  clear hcm
                  obtain ⟨wk, rfl⟩ : ∃ x, x = wr := ⟨_, rfl⟩
                  go_region_held3 (fun w' => Below wk.heap.size wk w' ∧ ∀ b o, b < wk.heap.size → w'.cell? ⟨b, o, none⟩ = wk.cell? ⟨b, o, none⟩)
                   (first | assumption | exact S_of (Below.drew (Below.refl _ _)) | exact S_step (by assumption) (by assumption))
                   (first | (go_at_call 35; (with_reducible refine (HRC.out _).mono ?_); rintro e w1 ⟨rfl, hb1⟩))
                  all_goals
                   rename_i hH
                   have Hb1 := Lib.hid (Hb.out.trans (hH.1.mono Hb.out.size))
                   clear hH
                   go_wp2
                   go_roundg (gk - 1)
                   case rel =>
                    refine ⟨k + 1, _, rfl, by go_num, by have := Hgk.out; omega, ?_, Hb1⟩
                    show _ = _
                    rw [HZ.out, Ht.out]
                    obtain ⟨h1, h2, h3⟩ := HG.out
                    rw [Bool.true_and, okC, h1, HCM.out, decide_eq_true (Int.natCast_nonneg c'), decide_eq_true (by omega : (c' : Int) < (cols : Int)), decide_eq_false h3]
                    rfl
                   case measure => have := Hgk.out; omega
              · have z2 : decide (c < (cols : Int)) = false := by simp; omega
                have G := Lib.hid g2
                clear g2
                go_quiet (fail)
                go_wp2
                go_roundg (gk - 1)
                case rel => exact ⟨k + 1, false, rfl, by go_num, by have := Hgk.out; omega, (by show _ = _; rw [HZ.out, Ht.out]; simp [okC]; intro _ h; exact absurd h (Int.not_lt.2 G.out)), Hb.out.trans ((below_drewN _ _).mono Hb.out.size)⟩
                case measure => have := Hgk.out; omega
            · have z1 : decide (0 ≤ c) = false := by simp; omega
              have G := Lib.hid g1
              clear g1
              go_quiet (fail)
              go_wp2
              go_roundg (gk - 1)
              case rel => exact ⟨k + 1, false, rfl, by go_num, by have := Hgk.out; omega, (by show _ = _; rw [HZ.out, Ht.out]; simp [okC]; intro h; exact absurd h (Int.not_le.2 G.out)), Hb.out.trans ((below_drewN _ _).mono Hb.out.size)⟩
              case measure => have := Hgk.out; omega
         · have hki : ¬ (k : Int) < cn := by omega
           have HT2 : RowKit.Hid (rlB cols cs vals xr = t) := by
            show _ = _
            rw [← Ht.out, List.take_of_length_le (by rw [List.length_zip]; have := HCN.out; omega)]
            rfl
           rw [HT2.out] at HFS
           clear hgk Hgk HT2 Ht d0 d1 d2 dl
           have Hj := Lib.hid (Hi.out.mono Hb.out)
           obtain ⟨c0, c1, c2, f0, f1, f2, cl⟩ := cells3 Hj.out 1 rfl
           cases t with
           | false =>
            have Hk : RowKit.Hid (St w0 fp0 (riA u7 ((m.take (i + 1)).filter fun x => rlB cols cs vals x.r) :: blkA b3 37 #[.int .i64 cols, .slice (some ⟨bb, oo, none⟩) n lc, .int .i64 next] :: R) wr) := by
             have e := HFS.out
             rw [if_neg (by simp)] at e
             rw [e]
             exact Hj.out
            go_wp2
            go_roundg (gk0 - 1)
            case rel => exact ⟨i + 1, by go_num, by have := Hgi.out; omega, Hk⟩
            case measure => have := Hgi.out; omega
           | true =>
            have q0 := (Hb.out.cell (p := ⟨bb, oo + i * 2, none⟩) pl).trans p0
            have q1 := (Hb.out.cell (p := ⟨bb, oo + i * 2 + 1, none⟩) pl).trans p1
            have ql := World.block_lt_of_cell? _ _ q0
            have hlen2 : ((m.take i).filter fun x => rlB cols cs vals x.r).length + 1 < 1099511627776 := by
             have h1 := List.length_filter_le (fun x : Ri => rlB cols cs vals x.r) (m.take i)
             rw [List.length_take] at h1
             omega
            have HLL := Lib.hid hlen2
            clear hlen2
            go_wp2_with (first
             | (at_builtin; refine wpList_appR rfl _ _ _ _ rfl rfl rfl appRI (Hj.out.mono ((Below.refl _ _).alloc (Nat.le_refl _) _)) (src_litk (e' := 56) (by kernel_rfl) _ 2 _ 1 _ _ _ #[.int .i64 xid, .slice xa xn xc] (heap_alloc_new _ _) rfl (by simp; exact ⟨rfl, rfl⟩)) HLL.out ?_; intro v3 w3 h3))
            go_roundg (gk0 - 1)
            case rel =>
             refine ⟨i + 1, by go_num, by have := Hgi.out; omega, ?_⟩
             have e := HFS.out
             rw [if_pos trivial] at e
             rw [e]
             have h4 := h3.out
             exact riA_snoc (⟨xid, xa, xn, xc, xr⟩ : Ri) h4
            case measure => have := Hgi.out; omega
      · have hii : ¬ (i : Int) < n := by omega
        have Hz : RowKit.Hid (St w0 fp0 (riA u7 (m.filter fun x => rlB cols cs vals x.r) :: R) wr) := by
         have e : m.take i = m := List.take_of_length_le (by rw [HN.out]; omega)
         have h1 := Hi.out
         rw [e] at h1
         exact (h1.perm (List.Perm.swap _ _ _)).drop
        clear hgi
        go_wp2
        go_ret
        exact ⟨_, rfl, Hz.out⟩
 · have e : rlkR cols cs vals m = [] := by unfold rlkR; rw [if_neg (fun h => hq (by omega))]
   rw [e]
   have z1 : decide ((cn : Int) = (vn : Int)) = false := by simp; omega
   have z1' : ((cn : Int) == (vn : Int)) = false := by simp; omega
   clear e hcn hvn
   go_enter Tryz.func12, Tryz.ntmps12
   go_wp2
   go_ret
   exact ⟨_, rfl, (H0.out.perm (List.Perm.swap _ _ _)).drop⟩
end Go.Proofs.YtnefkkidfhmggaaGreat
/- TablestoreLookup's last region. -/
namespace Go.Proofs.YtnefkkidfhmggaaGreat
open Go Go.RowKit
set_option maxRecDepth 100000
theorem lookL_len (cols : Nat) (cs : List Int) (vals : Rw) (L : LL) : (lookL cols cs vals L).length ≤ L.length := by
 unfold lookL
 split
 · exact Nat.zero_le _
 · exact List.length_filter_le _ _
theorem takeL_look {cols : Nat} {cs : List Int} {vals : Rw} {L : LL} {n : Nat} (h : L.length = n) : takeL ((n : Int) + 1) (lookL cols cs vals L) = lookL cols cs vals L := by
 have := lookL_len cols cs vals L
 unfold takeL
 rw [if_neg (by omega), List.take_of_length_le (by omega)]
theorem vals_row {w : World} {f : List Nat} {v : Value} {vals : Rw} (h : (rowA 29 3 v vals.length (flat vals)).p w f) (hx : ∀ y ∈ vals, y.text.size ≤ maxLen) : ValsAt w vals v := ⟨SlX.of_row h (length_flat _) (by simp), hx⟩
theorem look_step {A B : Asn} {S cols : Nat} {I : List (List Int)} {L : LL} {next : Int} {x y : Value} {cs : List Int} {vs : Rw} (hc : cols ≤ 1000000) (hvl : vs.length ≤ 100000) (hcl : cs.length ≤ 100000) (hx : RowS vs) (w0 w : World) (fp0 : List Nat) (R : List Asn)
 (h : St w0 fp0 ([A, B, slA 3 x (cs.map intC), rowA 29 3 y vs.length (flat vs), storeA S cols I L next, emp, emp] ++ R) w) :
 Calls Tryz.prog 15 #[ptrV S, .slice (sa x) (sn x) (sc x), .slice (sa y) (sn y) (sc y)] w fun e w' => ∃ v, e = .returned v ∧ St w0 fp0 ([A, B, slA 3 x (cs.map intC), rowA 29 3 y vs.length (flat vs), storeA S cols I L next, iterA v S cols I (lookL cols cs vs), emp] ++ R) w' := by
 obtain ⟨_, h1⟩ := h.has 2 rfl
 obtain ⟨a, n, c, rfl⟩ := sl_shape h1
 obtain ⟨_, h2⟩ := h.has 3 rfl
 obtain ⟨a2, c2, rfl, -⟩ := row_shape h2
 have h3 : St w0 fp0 (storeA S cols I L next :: ([A, B, slA 3 (.slice a n c) (cs.map intC), rowA 29 3 (.slice a2 vs.length c2) vs.length (flat vs)] ++ R)) w := St.emp.1 (St.emp.1 (St_re (L := [_, _, _, _, _, _, _]) h [5, 6, 4, 0, 1, 2, 3] [] (by kernel_rfl)))
 refine (Lookup_it S cols I L next hc _ _ hvl hcl hx w0 w fp0 _ (Rd.of_piece 2 rfl fun _ _ h => intsX_of h) (Rd.of_piece 3 rfl fun _ _ h => vals_row h fun y hy => by have := (hx y hy).2; unfold maxLen; omega) h3).mono ?_
 rintro e w' ⟨v, rfl, h4⟩
 exact ⟨v, rfl, St_re (L := [_, _, _, _, _, _, _]) (St.emp.2 h4) [3, 4, 5, 6, 2, 1, 0] [] (by kernel_rfl)⟩
noncomputable def gLo7 (S b8 b5 cols n lc cn cc vn vc : Nat) (la ca va : Option Addr) (next q2 q3 q4 q6 q7 : Int) (q5 q8 : ByteArray) (I : List (List Int)) (L : LL) (cs : List Int) (vs : Rw) (tv : Value) := rgx Tryz.prog Tryz.f3 7 62 [42, 43, 44, 45, 46, 47, 48, 49, 50, 51, 52, 53, 54, 55, 56, 57, 58, 59, 60, 61, 6] [(9, .bool true), (7, pV S 0), (8, pV b8 0), (5, pV b5 0), (10, tv)] (Vq 0 42 [Kv (.bool true), Kv (.bool true), Kp S 0] ++ Vq 4 46 [Kp b5 0, Kv (.slice ca cn cc), Vf.slice] ++ Vq 8 50 [Kp b5 1, Kv (.slice va vn vc), Vf.slice] ++ Vq 12 54 [Kp b8 1, Kv (.slice la n lc), Kv (.int .i64 n), Kn (n + 1)] ++ Vq 17 59 [Kv tv, Kv (.bool true), Kv (.bool true)] ++ Vq 20 6 [Kv (.bool true)]) [Bk b8 (37) [.int .i64 cols, .slice la n lc, .int .i64 next], Bk b5 (31) [.slice ca cn cc, .slice va vn vc, .int .i64 q2, .int .i64 q3, .int .i64 q4, .string q5, .int .i64 q6, .int .i64 q7, .string q8], .gen [3, 6] [45, 48] fun L g => match L 6 with | true => slA 3 (g 48) (cs.map intC) | false => match L 3 with | true => slA 3 (g 45) [] | false => emp, .gen [7, 10] [49, 52] fun L g => match L 10 with | true => rowA 29 3 (g 52) vs.length (flat vs) | false => match L 7 with | true => rowA 29 3 (g 49) 0 [] | false => emp, .all (storeA S cols I L next), .new 11 [53] fun g => iterA (g 53) S cols I (lookL cols cs vs), .new 16 [58] fun g => resA (g 58) (lookL cols cs vs L)]
theorem rLo7 (S b8 b5 cols n lc cn cc vn vc : Nat) (la ca va : Option Addr) (next q2 q3 q4 q6 q7 : Int) (q5 q8 : ByteArray) (I : List (List Int)) (L : LL) (cs : List Int) (vs : Rw) (tv : Value) (w0 : World) (fp0 : List Nat) (R : List Asn) (hc : cols ≤ 1000000) (hl : L.length + 1 < 1099511627776) (hn : L.length = n) (hcl : cs.length ≤ 100000) (hvl : vs.length ≤ 100000) (hxs : RowS vs) (hcr : ∀ L w, St w0 fp0 (L ++ R) w → SlX [] w 1 cs.length (cs.map intC) (.slice ca cn cc)) (hvr : ∀ L w, St w0 fp0 (L ++ R) w → SlX [] w 3 vs.length (flat vs) (.slice va vn vc)) (hsame : ∀ A B C w u, St w0 fp0 ([blkA b8 37 #[.int .i64 cols, .slice la n lc, .int .i64 next], blkA b5 31 #[.slice ca cn cc, .slice va vn vc, .int .i64 q2, .int .i64 q3, .int .i64 q4, .string q5, .int .i64 q6, .int .i64 q7, .string q8], A, B, storeA S cols I L next, C, resA u (lookL cols cs vs L)] ++ R) w → Calls Tryz.prog 13 #[u, tv] w fun e w' => e = .returned (.bool true) ∧ Below w.heap.size w w') {w : World} {c : Code} {a : Act} {Q : Exit → Act → World → Prop} (c1 : isReg c = true) (c2 : cops c = opsR Tryz.f3 7) (c3 : a.tmps.size = 62) (_c4 : a.defers = a.defers) (i9 : a.eval (.tmp 9) = .bool true) (i7 : a.eval (.tmp 7) = .pointer (some ⟨S, 0, none⟩)) (i8 : a.eval (.tmp 8) = .pointer (some ⟨b8, 0, none⟩)) (i5 : a.eval (.tmp 5) = .pointer (some ⟨b5, 0, none⟩)) (i10 : a.eval (.tmp 10) = tv)
 (hS : St w0 fp0 ([blkA b8 (37) #[.int .i64 cols, .slice la n lc, .int .i64 next], blkA b5 (31) #[.slice ca cn cc, .slice va vn vc, .int .i64 q2, .int .i64 q3, .int .i64 q4, .string q5, .int .i64 q6, .int .i64 q7, .string q8], emp, emp, storeA S cols I L next, emp, emp] ++ R) w)
 (hQ : ∀ (u45 u48 u49 u52 u53 u58 : Value) (w1 : World), (∃ a n c, u48 = .slice a n c) → (∃ a n c, u52 = .slice a n c) → St w0 fp0 ([blkA b8 (37) #[.int .i64 cols, .slice la n lc, .int .i64 next], blkA b5 (31) #[.slice ca cn cc, .slice va vn vc, .int .i64 q2, .int .i64 q3, .int .i64 q4, .string q5, .int .i64 q6, .int .i64 q7, .string q8], slA 3 (u48) (cs.map intC), rowA 29 3 (u52) vs.length (flat vs), storeA S cols I L next, iterA (u53) S cols I (lookL cols cs vs), resA (u58) (lookL cols cs vs L)] ++ R) w1 → Q .normal (putL a [(42, .bool true), (43, .bool true), (44, .pointer (some ⟨S, 0, none⟩)), (45, u45), (46, .pointer (some ⟨b5, 0, none⟩)), (47, .slice ca cn cc), (48, u48), (49, u49), (50, .pointer (some ⟨b5, 1, none⟩)), (51, .slice va vn vc), (52, u52), (53, u53), (54, .pointer (some ⟨b8, 1, none⟩)), (55, .slice la n lc), (56, .int .i64 n), (57, .int .i64 ((n + 1 : Nat) : Int)), (58, u58), (59, tv), (60, .bool true), (61, .bool true), (6, .bool true)]) w1) : c.wp Tryz.prog Q a w := by
 have ok : (gLo7 S b8 b5 cols n lc cn cc vn vc la ca va next q2 q3 q4 q6 q7 q5 q8 I L cs vs tv w0 fp0 R).Ok 21 := Rg.ok _ 21 [3, 5, 6, 7, 9, 10, 11, 13, 15, 16, 18] ⟨.run1 _ 3 2 (fun _ => emp) (fun _ v => slA 3 v []) (fun L a w fp _ hp => ⟨.slice (some ⟨w.heap.size, 0, none⟩) 0 0, w.alloc (.cells #[] 3), [w.heap.size], kr (by kernel_rfl), rfl, emptyI w, trNew hp _⟩), .load _ 5 1 0, .run1 _ 6 2 (fun g => slA 3 (g 45) []) (fun _ v => slA 3 v (cs.map intC)) (fun L a w fp hS hp => (by obtain ⟨v, w2, f2, h1, h2, h3⟩ := appIS (opAt (opsR Tryz.f3 7) 6).type w (slots a 45) 0 [] fp (.slice ca cn cc) cs.length (cs.map intC) hp ((hcr _ w hS).src (tx := 22) (e' := 3) (by kernel_rfl) (by decide) (one_int _)) (by omega); rw [Nat.zero_add, List.nil_append] at h2; have h4 : (slA 3 v (cs.map intC)).p w2 f2 := slOf h2; obtain ⟨va, vn, vc, rfl⟩ := sl_shape h4; exact ⟨_, w2, f2, exec_app rfl (kr (by kernel_rfl)) (kr (by kernel_rfl)) h1, kr (by kernel_rfl), h4, h3⟩)), .run1 _ 7 3 (fun _ => emp) (fun _ v => rowA 29 3 v 0 []) (fun L a w fp _ hp => ⟨.slice (some ⟨w.heap.size, 0, none⟩) 0 0, w.alloc (.cells #[] 29), [w.heap.size], kr (by kernel_rfl), rfl, row_empty (size := 3) ⟨heap_alloc_new w _, rfl⟩, trNew hp _⟩), .load _ 9 1 1, .run1 _ 10 3 (fun g => rowA 29 3 (g 49) 0 []) (fun _ v => rowA 29 3 v vs.length (flat vs)) (fun L a w fp hS hp => (by obtain ⟨v, w2, f2, h1, h2, h3⟩ := appVS (opAt (opsR Tryz.f3 7) 10).type w (slots a 49) 0 [] fp (.slice va vn vc) vs.length (flat vs) hp ((hvr _ w hS).src (tx := 27) (e' := 29) (by kernel_rfl) (by decide) (one_flat _)) (by omega); rw [Nat.zero_add, List.nil_append] at h2; obtain ⟨va, vc, rfl, -⟩ := row_shape h2; exact ⟨_, w2, f2, exec_app rfl (kr (by kernel_rfl)) (kr (by kernel_rfl)) h1, kr (by kernel_rfl), h2, h3⟩)), .callG _ 11 (f := 15) (args := fun g => #[ptrV S, .slice (sa (g 48)) (sn (g 48)) (sc (g 48)), .slice (sa (g 52)) (sn (g 52)) (sc (g 52))]) (fun g => [blkA b8 37 #[.int .i64 cols, .slice la n lc, .int .i64 next], blkA b5 31 #[.slice ca cn cc, .slice va vn vc, .int .i64 q2, .int .i64 q3, .int .i64 q4, .string q5, .int .i64 q6, .int .i64 q7, .string q8], slA 3 (g 48) (cs.map intC), rowA 29 3 (g 52) vs.length (flat vs), storeA S cols I L next, emp, emp]) (fun g v => [blkA b8 37 #[.int .i64 cols, .slice la n lc, .int .i64 next], blkA b5 31 #[.slice ca cn cc, .slice va vn vc, .int .i64 q2, .int .i64 q3, .int .i64 q4, .string q5, .int .i64 q6, .int .i64 q7, .string q8], slA 3 (g 48) (cs.map intC), rowA 29 3 (g 52) vs.length (flat vs), storeA S cols I L next, iterA (v) S cols I (lookL cols cs vs), emp]) (fun g w h => (look_step hc hvl hcl hxs w0 w fp0 R h).mono fun e w2 ⟨u, e1, h2⟩ => ⟨u, e1, rfl, h2⟩), .load _ 13 0 1, .add _ 15 (n) (1) ((n + 1 : Nat) : Int), .callG _ 16 (f := 14) (args := fun g => #[g 53, .int .i64 ((n + 1 : Nat) : Int)]) (fun g => [blkA b8 37 #[.int .i64 cols, .slice la n lc, .int .i64 next], blkA b5 31 #[.slice ca cn cc, .slice va vn vc, .int .i64 q2, .int .i64 q3, .int .i64 q4, .string q5, .int .i64 q6, .int .i64 q7, .string q8], slA 3 (g 48) (cs.map intC), rowA 29 3 (g 52) vs.length (flat vs), storeA S cols I L next, iterA (g 53) S cols I (lookL cols cs vs), emp]) (fun g v => [blkA b8 37 #[.int .i64 cols, .slice la n lc, .int .i64 next], blkA b5 31 #[.slice ca cn cc, .slice va vn vc, .int .i64 q2, .int .i64 q3, .int .i64 q4, .string q5, .int .i64 q6, .int .i64 q7, .string q8], slA 3 (g 48) (cs.map intC), rowA 29 3 (g 52) vs.length (flat vs), storeA S cols I L next, iterA (g 53) S cols I (lookL cols cs vs), resA v (lookL cols cs vs L)]) (fun g w h => (by have h1 := taken_it hc hl ((n : Int) + 1) w0 w fp0 _ (St_re (L := [_, _, _, _, _, _, _]) h [5, 4, 0, 1, 2, 3, 6] [] (by kernel_rfl)); rw [takeL_look hn] at h1; exact h1.mono fun e w2 ⟨u, e1, h2⟩ => ⟨u, e1, rfl, St.emp.1 (St_re (L := [_, _, _, _, _, _, _, _]) h2 [7, 3, 4, 5, 6, 2, 1, 0] [] (by kernel_rfl))⟩)), .callG _ 18 (f := 13) (args := fun g => #[g 58, tv]) (fun g => [blkA b8 37 #[.int .i64 cols, .slice la n lc, .int .i64 next], blkA b5 31 #[.slice ca cn cc, .slice va vn vc, .int .i64 q2, .int .i64 q3, .int .i64 q4, .string q5, .int .i64 q6, .int .i64 q7, .string q8], slA 3 (g 48) (cs.map intC), rowA 29 3 (g 52) vs.length (flat vs), storeA S cols I L next, iterA (g 53) S cols I (lookL cols cs vs), resA (g 58) (lookL cols cs vs L)]) (fun g _ => [blkA b8 37 #[.int .i64 cols, .slice la n lc, .int .i64 next], blkA b5 31 #[.slice ca cn cc, .slice va vn vc, .int .i64 q2, .int .i64 q3, .int .i64 q4, .string q5, .int .i64 q6, .int .i64 q7, .string q8], slA 3 (g 48) (cs.map intC), rowA 29 3 (g 52) vs.length (flat vs), storeA S cols I L next, iterA (g 53) S cols I (lookL cols cs vs), resA (g 58) (lookL cols cs vs L)]) (fun g w h => (hsame _ _ _ w _ h).mono fun e w2 ⟨e1, h2⟩ => ⟨_, e1, rfl, h.mono h2⟩), trivial⟩
 refine wp_regD ok (by kernel_rfl) ⟨c1, c2⟩ ⟨c3, fun p hp => ?_⟩ hS fun A1 w1 N1 H1 => ?_
 · simp only [gLo7, rgx, List.map_nil, List.append_nil, List.mem_cons, List.not_mem_nil, or_false] at hp
   rcases hp with rfl | rfl | rfl | rfl | rfl
   · exact i9
   · exact i7
   · exact i8
   · exact i5
   · exact i10
 have e42 := N1.val 0 rfl
 have e43 := N1.val 1 rfl
 have e44 := N1.val 2 rfl
 have e46 := N1.val 3 rfl
 have e47 := N1.val 4 rfl
 have e48 := N1.val 5 rfl
 have e50 := N1.val 6 rfl
 have e51 := N1.val 7 rfl
 have e52 := N1.val 8 rfl
 have e54 := N1.val 9 rfl
 have e55 := N1.val 10 rfl
 have e56 := N1.val 11 rfl
 have e57 := N1.val 12 rfl
 have e59 := N1.val 13 rfl
 have e60 := N1.val 14 rfl
 have e61 := N1.val 15 rfl
 have e6 := N1.val 16 rfl
 have h := hQ (slots A1 45) (slots A1 48) (slots A1 49) (slots A1 52) (slots A1 53) (slots A1 58) w1 ⟨_, _, _, e48⟩ ⟨_, _, _, e52⟩ H1
 rw [frame_eq N1.frame (cons_eq e42 (cons_eq e43 (cons_eq e44 (cons_eq rfl (cons_eq e46 (cons_eq e47 (cons_eq rfl (cons_eq rfl (cons_eq e50 (cons_eq e51 (cons_eq rfl (cons_eq rfl (cons_eq e54 (cons_eq e55 (cons_eq e56 (cons_eq e57 (cons_eq rfl (cons_eq e59 (cons_eq e60 (cons_eq e61 (cons_eq e6 rfl)))))))))))))))))))))]
 exact h
end Go.Proofs.YtnefkkidfhmggaaGreat
/- TablestoreLookup: its walk. -/
namespace Go.Proofs.YtnefkkidfhmggaaGreat
open Go Go.RowKit
theorem sto_len {w0 w : World} {fp0 : List Nat} {R : List Asn} {S cols : Nat} {I : List (List Int)} {L : LL} {next : Int} (h : St w0 fp0 (storeA S cols I L next :: R) w) : ∀ x ∈ L, x.2.length = cols := by
 obtain ⟨s, hok, -⟩ := h.openS
 intro x hx
 exact (hok.row x hx).2.2.1
theorem rlkR_mem {cols : Nat} {cs : List Int} {vals : Rw} {m : List Ri} {z : Ri} (h : z ∈ rlkR cols cs vals m) : z ∈ m := by
 unfold rlkR at h
 split at h
 · exact (List.mem_filter.1 h).1
 · cases h
set_option maxHeartbeats 4000000 in
set_option maxRecDepth 20000 in
theorem lookup_calls (u : Nat) (hu : u < 256) (ka fa : Option Addr) (kn kc fn fc : Nat) (K F : List Int) (l : List Opr) (v : Value) (W : World) (hk : IntsX [] W K (.slice ka kn kc)) (hf : IntsX [] W F (.slice fa fn fc)) (hl : OpsX W l v) (ho : OpsOk l)
 (ca va : Option Addr) (cn cc vn vc : Nat) (q2 q3 q4 q6 q7 : Int) (q5 q8 : ByteArray) (cs : List Int) (vs : Rw) (hc : IntsX [] W cs (.slice ca cn cc)) (hv : ValsAt W vs (.slice va vn vc)) (hvs : RowS vs) :
 Calls Tryz.prog 3 #[.agg #[.int .u8 u, .slice ka kn kc, .slice fa fn fc], v, .agg #[.slice ca cn cc, .slice va vn vc, .int .i64 q2, .int .i64 q3, .int .i64 q4, .string q5, .int .i64 q6, .int .i64 q7, .string q8]] W fun e w' => e = .returned (.bool true) ∧ Below W.heap.size W w' := by
 have H0 := Lib.hid (((St.start (w := W) (L := []) (fp := []) rfl).newblk 24 #[.int .u8 u, .slice ka kn kc, .slice fa fn fc]).newblk 31 #[.slice ca cn cc, .slice va vn vc, .int .i64 q2, .int .i64 q3, .int .i64 q4, .string q5, .int .i64 q6, .int .i64 q7, .string q8])
 have HK := Lib.hid hk
 have HF := Lib.hid hf
 have HL := Lib.hid hl
 have HO := Lib.hid ho
 have HC := Lib.hid hc
 have HV := Lib.hid hv
 have HS := Lib.hid hvs
 obtain ⟨hcn, -⟩ : cn = cs.length ∧ True := by
  obtain ⟨_, _, _, e, h, -⟩ := hc.shape
  obtain ⟨-, rfl, -⟩ := Value.slice.inj e
  exact ⟨h, trivial⟩
 obtain ⟨hvn, -⟩ : vn = vs.length ∧ True := by
  obtain ⟨_, _, _, e, h, -⟩ := hv.shape
  obtain ⟨-, rfl, -⟩ := Value.slice.inj e
  exact ⟨h, trivial⟩
 have HN := Lib.hid (And.intro hcn hvn)
 clear hk hf hl ho hc hv hvs hcn hvn
 go_enter Tryz.func3, Tryz.ntmps3
 go_wp2_with fail
 rw [show (W.alloc (.cells #[.int .u8 u, .slice ka kn kc, .slice fa fn fc] 24)).heap.size = W.heap.size + 1 from Array.size_push _] at H0
 generalize hW : (W.alloc _).alloc _ = w1 at *
 obtain ⟨b2, hb2⟩ : ∃ b2, W.heap.size = b2 := ⟨_, rfl⟩
 obtain ⟨b5, hb5⟩ : ∃ b5, W.heap.size + 1 = b5 := ⟨_, rfl⟩
 rw [hb5] at H0 ⊢
 rw [hb2] at H0 ⊢
 have HB := Lib.hid hb2
 clear hW hb2 hb5
 (with_reducible refine (awake_calls w1).mono ?_)
 rintro e w2 ⟨rfl, hb⟩
 replace H0 := Lib.hid (H0.out.mono hb)
 clear hb
 obtain ⟨q0, q1, q2, r0, r1, r2, ql⟩ := cells3 H0.out 1 rfl
 go_wp2_with fail
 have HQ := Lib.hid (fair_calls u ka fa kn kc fn fc l v 60 w2 (by have := SlX.len HK.out; omega) (by have := SlX.len HF.out; omega) (HL.out.mono (st_below H0.out)))
 obtain ⟨q, hq⟩ : ∃ q, fairB kn fn l 60 = q := ⟨_, rfl⟩
 rw [hq] at HQ
 (with_reducible refine HQ.out.mono ?_)
 rintro e w3 ⟨rfl, hb⟩
 replace H0 := Lib.hid (H0.out.mono hb)
 clear hb HQ q0 q1 q2 r0 r1 r2 ql
 have HE := Lib.hid (st_below H0.out)
 cases q with
 | false =>
  rw [← HB.out]
  clear H0 hq
  go_wp2
  go_ret
  exact ⟨rfl, HE.out⟩
 | true =>
  have HFQ := Lib.hid (fair_ok hq)
  have HOP := Lib.hid (HO.out.play hq)
  clear hq
  obtain ⟨_, hb0⟩ := H0.out.has 0 rfl
  have d0 : w3.cell? ⟨b5, 0, none⟩ = some (.slice ca cn cc) := (blk_get hb0).1 0
  have d1 : w3.cell? ⟨b5, 1, none⟩ = some (.slice va vn vc) := (blk_get hb0).1 1
  have dl := World.block_lt_of_cell? _ _ d0
  by_cases g1 : (6 : Int) < cn
  · rw [← HB.out]
    have z1 : decide ((6 : Int) < cn) = true := decide_eq_true g1
    clear H0 hb0
    go_wp2
    go_ret
    exact ⟨rfl, HE.out⟩
  by_cases g2 : (6 : Int) < vn
  · rw [← HB.out]
    have z1 : decide ((6 : Int) < cn) = false := decide_eq_false g1
    have z2 : decide ((6 : Int) < vn) = true := decide_eq_true g2
    clear H0 hb0
    go_wp2
    go_ret
    exact ⟨rfl, HE.out⟩
  have z1 : decide ((6 : Int) < cn) = false := decide_eq_false g1
  have z2 : decide ((6 : Int) < vn) = false := decide_eq_false g2
  have HSM : RowKit.Hid (cs.length ≤ 6 ∧ vs.length ≤ 6) := by
   have := HN.out
   exact ⟨by omega, by omega⟩
  have HP := Lib.hid (by
   have hr : ∀ {Q : World → Prop}, (∀ w', Below W.heap.size W w' → Q w') → Rd W [] [blkA b5 31 #[.slice ca cn cc, .slice va vn vc, .int .i64 q2, .int .i64 q3, .int .i64 q4, .string q5, .int .i64 q6, .int .i64 q7, .string q8], blkA b2 24 #[.int .u8 u, .slice ka kn kc, .slice fa fn fc]] Q := fun h L w hs => h w (st_below hs)
   have h2 := SlX.len HK.out
   have h3 := SlX.len HF.out
   exact play_calls u hu ka fa kn kc fn fc K F (by have := HFQ.out.2.1; omega) (by have := HFQ.out.2.2.1; omega) l v W w3 [] _ (hr fun w' hb => HK.out.mono hb) (hr fun w' hb => HF.out.mono hb) (hr fun w' hb => HL.out.mono hb) (by have := HFQ.out.1; omega) HOP.out H0.out)
  obtain ⟨q0, q1, q2, r0, r1, r2, ql⟩ := cells3 H0.out 1 rfl
  clear H0 hb0
  go_wp2_with fail
  (with_reducible refine HP.out.mono ?_)
  rintro e w4 ⟨S, I, next, lv, m, rfl, hml, hasc, hof, h4⟩
  obtain ⟨la, lc, rfl⟩ : ∃ a c, lv = .slice a m.length c := by
   obtain ⟨_, hr⟩ := h4.has 1 rfl
   exact (riA_sl hr).shape
  have HM := Lib.hid (And.intro hml (And.intro hasc hof))
  have H4 := Lib.hid (h4.newblk 37 #[.int .i64 (colsN u), .slice la m.length lc, .int .i64 next])
  clear hml hasc hof h4 HP q0 q1 q2 r0 r1 r2 ql d0 d1 dl
  unfold rsV ptrV
  go_upto_region 6 with (fail)
  generalize hW4 : w4.alloc _ = w5 at *
  obtain ⟨b8, hb8⟩ : ∃ b8, w4.heap.size = b8 := ⟨_, rfl⟩
  rw [hb8] at H4 ⊢
  clear hW4 hb8
  obtain ⟨_, hb0⟩ := H4.out.has 3 rfl
  have d0 : w5.cell? ⟨b5, 0, none⟩ = some (.slice ca cn cc) := (blk_get hb0).1 0
  have d1 : w5.cell? ⟨b5, 1, none⟩ = some (.slice va vn vc) := (blk_get hb0).1 1
  have dl := World.block_lt_of_cell? _ _ d0
  obtain ⟨q0, q1, q2, r0, r1, r2, ql⟩ := cells3 H4.out 0 rfl
  have HLEN := Lib.hid (sto_len (St_re (L := [_, _, _, _, _]) H4.out [1, 0, 2, 3, 4] [] (by kernel_rfl)))
  have HR := Lib.hid (RLookup_calls (colsN u) (.slice la m.length lc) next m cs vs (.slice ca cn cc) (.slice va vn vc) (by have := HM.out.1; have := HFQ.out.1; omega) (fun x hx => HLEN.out (x.id, x.r) (List.mem_map.2 ⟨x, hx, rfl⟩)) W w5 [] _ (fun L w hs => by
   obtain ⟨_, hr⟩ := hs.has (L.length + 2) (A := riA (.slice la m.length lc) m) (by rw [List.getElem?_append_right (by omega)]; simp)
   exact of_rix (HL.out.mono (st_below hs)) HM.out.2.2 (riA_sl hr)) (fun L w hs => HC.out.mono (st_below hs)) (fun L w hs => HV.out.mono (st_below hs)) H4.out)
  clear H4 hb0
  unfold rsV at HR
  go_wp2_with fail
  (with_reducible refine HR.out.mono ?_)
  rintro e w6 ⟨tv, rfl, h6⟩
  have H6 := Lib.hid h6
  clear h6 HR q0 q1 q2 r0 r1 r2 ql d0 d1 dl HLEN
  go_upto_region 7 with (fail)
  refine rLo7 (w0 := W) (fp0 := []) S b8 b5 (colsN u) m.length lc cn cc vn vc la ca va next q2 q3 q4 q6 q7 q5 q8 I (riL m) cs vs tv (riA tv (rlkR (colsN u) cs vs m) :: [riA (.slice la m.length lc) m, blkA b2 24 #[.int .u8 u, .slice ka kn kc, .slice fa fn fc]]) (by unfold colsN; omega) (by rw [riL_len]; have := HM.out.1; have := HFQ.out.1; omega) (riL_len m) (by have := HSM.out; omega) (by have := HSM.out; omega) HS.out (fun L w hs => HC.out.mono (st_below hs)) (fun L w hs => (HV.out.mono (st_below hs)).1) (fun A B C w x h => same_res (St_re (L := [_, _, _, _, _, _, _]) h [6, 0, 1, 2, 3, 4, 5] [] (by kernel_rfl)) (fun y hy => sto_text (St_re (L := [_, _, _, _, _, _, _]) h [4, 0, 1, 2, 3, 5, 6] [] (by kernel_rfl)) y (by
   rw [← rlk_eq] at hy
   obtain ⟨z, hz, rfl⟩ := List.mem_map.1 hy
   exact List.mem_map.2 ⟨z, rlkR_mem hz, rfl⟩)) (by
   obtain ⟨_, hr⟩ := h.has 7 rfl
   exact of_rix (HL.out.mono (st_below h)) (fun z hz => HM.out.2.2 z (rlkR_mem hz)) (riA_sl hr)) (rlk_eq _ _ _ _)) rfl (by kernel_rfl) rfl rfl rfl rfl rfl rfl rfl ?_ ?_
  · exact St_re (L := [_, _, _, _, _, _, _, _, _, _]) (St.emp.2 (St.emp.2 (St.emp.2 (St.emp.2 H6.out)))) [5, 8, 0, 1, 6, 2, 3] [4, 7, 9] (by kernel_rfl)
  · intro u45 u48 u49 u52 u53 u58 w7 _ _ h7
    have HE := Lib.hid (st_below h7)
    clear h7 H6
    rw [← HB.out]
    simp only [putL, List.foldl, Act.put, List.setIfInBounds_toArray, List.set_cons_succ, List.set_cons_zero]
    go_wp2
    go_ret
    exact ⟨rfl, HE.out⟩
end Go.Proofs.YtnefkkidfhmggaaGreat
