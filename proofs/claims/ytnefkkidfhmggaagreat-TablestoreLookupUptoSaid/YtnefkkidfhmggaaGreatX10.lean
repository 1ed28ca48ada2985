/- Part 10 of the proof: Lt, Lu, Rp, Rr, Ry, Tb, Fr, Fs, Pl, Pm, Pn -/
import Derived.Test.YtnefkkidfhmggaaGreatX09
import Derived.Test.YtnefkkidfhmggaaGreatX08
/- Lookup: its drawn region; its other closures. -/
namespace Go.Proofs.YtnefkkidfhmggaaGreat
open Go Go.RowKit
set_option maxRecDepth 100000
/-- A call that lays a piece, whatever else was done. -/
theorem Rg.Ob.callNew (G : Rg) (i k : Nat) {d : Nat} {A : (Nat → Value) → Asn} (B : Value → Asn) (hB : ∀ v w f, (B v).p w f → ∃ a n c, v = .slice a n c) {f : Nat} {args : Array Value} (hc : ∀ L w, St G.w0 G.fp0 (L ++ G.R) w → Calls G.P f args w fun e w2 => ∃ v f', e = .returned v ∧ (B v).p w2 f' ∧ Below w.heap.size w w2 ∧ ∀ k ∈ f', w.heap.size ≤ k)
 (hk : G.pcs[k]? = some (.new i [d] A) := by rfl) (hA : ∀ g v, A (rv [d] (sput g (some d) v)) = B v := by intro _ _; exact kr (by kernel_rfl)) (hr : ∀ a w, (execOp (G.env i a) (opAt G.ops i)).run G.P w = .ok (.enter f args) w := by intro _ _; exact kr (by kernel_rfl))
 (hd : dstOf G.ops i = some d := by exact kr (by kernel_rfl)) (hself : ((closOf G.ops).getD i []).elem i = false := by exact kr (by kernel_rfl)) (hsh : ∀ g a n c, G.shp i g (.slice a n c) = .slice a n c := by intro _ _ _ _; exact kr (by kernel_rfl))
 (hq : G.quiet i k = true := by exact kr (by kernel_rfl)) (hw : ∀ a, wantE G.ops (opAt G.ops i) (G.env i a) = some true := by intro _; exact kr (by kernel_rfl)) : G.Ob i :=
 Rg.Ob.call G i k (args := fun _ => args) hr (fun L a w fp _ hS hp => by
  rw [new_before hself] at hp
  obtain rfl : fp = [] := hp
  refine (hc _ w hS).mono ?_
  rintro e w2 ⟨v, f', rfl, h2, h3, h4⟩
  obtain ⟨va, vn, vc, rfl⟩ := hB _ _ _ h2
  refine ⟨_, rfl, hsh _ _ _ _, f', ?_, ⟨h3.os, h3.tape, h3.output, h3.size, fun k hk _ => h3.block k hk, fun k hk => .inr (h4 k hk)⟩⟩
  rw [new_after, hd, hA]
  exact h2) hk hq hw
set_option maxRecDepth 20000 in
theorem lookup2_calls (b3 S cols : Nat) (c : Int) (w : World) (hc : w.cell? ⟨S, 0, none⟩ = some (.int .i64 cols)) (h3 : w.cell? ⟨b3, 0, none⟩ = some (ptrV S)) :
 Calls Tryz.prog 41 #[.int .i64 c, .pointer (some ⟨b3, 0, none⟩)] w fun e w' => e = .returned (.bool (!decide (0 ≤ c ∧ c < cols))) ∧ w = w' := by
 have HC := Lib.hid (has_calls S cols c w hc)
 have h3l := World.block_lt_of_cell? w _ h3
 obtain ⟨q, hq⟩ : ∃ q, decide (0 ≤ c ∧ c < (cols : Int)) = q := ⟨_, rfl⟩
 rw [hq] at HC ⊢
 clear hq hc
 unfold ptrV at *
 go_enter Tryz.func41, Tryz.ntmps41
 go_wp2_with fail
 (with_reducible refine HC.out.mono ?_)
 rintro e w1 ⟨rfl, rfl⟩
 clear HC
 cases q <;> (go_wp2; go_ret; exact ⟨rfl, rfl⟩)
theorem lookup3_calls (v : Vl) (w : World) : Calls Tryz.prog 44 #[v.val] w fun e w' => e = .returned (.bool (v.kind == 0)) ∧ Below w.heap.size w w' := by
 have HB := Lib.hid ((Below.refl _ w).alloc (Nat.le_refl _) (.cells #[.int .i64 v.kind, .int .i64 v.int, .string v.text] 29))
 unfold Vl.val
 go_enter Tryz.func44, Tryz.ntmps44
 go_wp2
 go_ret
 exact ⟨rfl, HB.out⟩
noncomputable def gLk1 (b4 b5 n : Nat) (cv vv : Value) (CS XS : List Value) := rgx Tryz.prog Tryz.f15 1 35 [9, 10, 11, 12] [(4, pV b4 0), (5, pV b5 0)] (Vq 0 9 [Kv cv, Vf.slice, Kv vv, Vf.slice]) [.blk b4 (22) [⟨cv, [(4, .s 10)]⟩], .blk b5 (27) [⟨vv, [(5, .s 12)]⟩], .new 1 [10] fun g => slA 3 (g 10) CS, .new 3 [12] fun g => rowA 29 3 (g 12) n XS]
theorem rLk1 (b4 b5 n : Nat) (cv vv : Value) (CS XS : List Value) (w0 : World) (fp0 : List Nat) (R : List Asn) (hcl : ∀ (L : List Asn) (w : World), St w0 fp0 (L ++ R) w → Calls Tryz.prog 36 #[cv] w fun e w2 => ∃ v f, e = .returned v ∧ (slA 3 v CS).p w2 f ∧ Below w.heap.size w w2 ∧ ∀ k ∈ f, w.heap.size ≤ k) (hcr : ∀ (L : List Asn) (w : World), St w0 fp0 (L ++ R) w → Calls Tryz.prog 37 #[vv] w fun e w2 => ∃ v f, e = .returned v ∧ (rowA 29 3 v n XS).p w2 f ∧ Below w.heap.size w w2 ∧ ∀ k ∈ f, w.heap.size ≤ k) {w : World} {c : Code} {a : Act} {Q : Exit → Act → World → Prop} (c1 : isReg c = true) (c2 : cops c = opsR Tryz.f15 1) (c3 : a.tmps.size = 35) (_c4 : a.defers = a.defers) (i4 : a.eval (.tmp 4) = .pointer (some ⟨b4, 0, none⟩)) (i5 : a.eval (.tmp 5) = .pointer (some ⟨b5, 0, none⟩))
 (hS : St w0 fp0 ([blkA b4 (22) #[cv], blkA b5 (27) #[vv], emp, emp] ++ R) w)
 (hQ : ∀ (u10 u12 : Value) (w1 : World), (∃ a n c, u10 = .slice a n c) → (∃ a n c, u12 = .slice a n c) → St w0 fp0 ([blkA b4 (22) #[u10], blkA b5 (27) #[u12], slA 3 (u10) CS, rowA 29 3 (u12) n XS] ++ R) w1 → Q .normal (putL a [(9, cv), (10, u10), (11, vv), (12, u12)]) w1) : c.wp Tryz.prog Q a w := by
 have ok : (gLk1 b4 b5 n cv vv CS XS w0 fp0 R).Ok 6 := Rg.ok _ 6 [0, 1, 2, 3, 4, 5] ⟨.load _ 0 0 0, .callNew _ 1 2 (fun v => slA 3 v CS) (fun _ _ _ h => sl_shape h) hcl, .load _ 2 1 0, .callNew _ 3 3 (fun v => rowA 29 3 v n XS) (fun _ _ _ h => let ⟨a, c, e, _⟩ := row_shape h; ⟨a, _, c, e⟩) hcr, .store _ 4 0 0, .store _ 5 1 0, trivial⟩
 refine wp_regD ok (by kernel_rfl) ⟨c1, c2⟩ ⟨c3, fun p hp => ?_⟩ hS fun A1 w1 N1 H1 => ?_
 · simp only [gLk1, rgx, List.map_nil, List.append_nil, List.mem_cons, List.not_mem_nil, or_false] at hp
   rcases hp with rfl | rfl
   · exact i4
   · exact i5
 have e9 := N1.val 0 rfl
 have e10 := N1.val 1 rfl
 have e11 := N1.val 2 rfl
 have e12 := N1.val 3 rfl
 have h := hQ (slots A1 10) (slots A1 12) w1 ⟨_, _, _, e10⟩ ⟨_, _, _, e12⟩ H1
 rw [frame_eq N1.frame (cons_eq e9 (cons_eq rfl (cons_eq e11 (cons_eq rfl rfl))))]
 exact h
end Go.Proofs.YtnefkkidfhmggaaGreat
/- Lookup. -/
namespace Go.Proofs.YtnefkkidfhmggaaGreat
open Go Go.RowKit
theorem run_storeF {P : Program} {w : World} {a : Addr} {m : Mode} (fn : Fn) (x y : Array Value) : (store a (.func fn x y) m).run P w = stored P w a (.func fn x y) m := run_store P w a _ m rfl
attribute [local go_sem] run_storeF
def noneB (cols : Nat) (cs : List Int) (vals : Rw) : Bool := decide (cs.length = 0) || (!decide (cs.length = vals.length) || (cs.any (fun c => !decide (0 ≤ c ∧ c < (cols : Int))) || vals.any (fun v => v.kind == 0)))
theorem noneB_ok {cols : Nat} {cs : List Int} {vals : Rw} (h : noneB cols cs vals = false) : LkOk cols cs vals := by
 unfold noneB at h
 simp only [Bool.or_eq_false_iff, Bool.not_eq_false', decide_eq_false_iff_not, decide_eq_true_eq, List.any_eq_false] at h
 obtain ⟨h1, h2, h3, h4⟩ := h
 exact ⟨h2, fun c hc => by simpa using h3 c hc, fun e => h1 (by rw [e]; rfl), fun v hv e => h4 v hv (by rw [e]; rfl)⟩
def lkCol (b8 b3 b4 b7 b5 : Nat) : Value := .func (.func 46) #[] #[.pointer (some ⟨b8, 0, none⟩), .pointer (some ⟨b3, 0, none⟩), .pointer (some ⟨b4, 0, none⟩), .pointer (some ⟨b7, 0, none⟩), .pointer (some ⟨b5, 0, none⟩)]
/-- What Lookup's iterator keeps. -/
def lkB (b8 b3 b7 b4 b5 S : Nat) (nn : Bool) : List Asn := [blkA b8 4 #[.bool nn], blkA b3 34 #[ptrV S], blkA b7 88 #[isV b4 b5]]
set_option maxHeartbeats 4000000 in
set_option maxRecDepth 20000 in
theorem Lookup_store {S : Nat} {s : Sto} (cv vv : Value) {cs : List Int} {vals : Rw} (hvl : vals.length ≤ 100000) (hcl : cs.length ≤ 100000) (hx : RowS vals)
 (w0 w : World) (fp0 : List Nat) (R : List Asn) (hrc : Rd w0 fp0 R fun w => IntsX [] w cs cv) (hrv : Rd w0 fp0 R fun w => ValsAt w vals vv) (hS : St w0 fp0 (stoL S s ++ R) w) :
 Calls Tryz.prog 15 #[ptrV S, cv, vv] w fun e w' => ∃ cb b8 b3 b4 b7 b5 cv' vv', e = .returned (allF cb) ∧ St w0 fp0 (blkA cb 109 #[lkCol b8 b3 b4 b7 b5] :: (lkB b8 b3 b7 b4 b5 S (noneB s.cols cs vals) ++ (stoL S s ++ (lkX b4 b5 cv' vv' cs vals ++ R)))) w' := by
 obtain ⟨a1, n1, c1, rfl, hn1, -⟩ := (hrc.at hS).shape
 obtain ⟨a2, n2, c2, rfl, hn2, -⟩ := (hrv.at hS).shape
 have HI : RowKit.Hid (∀ (L : List Asn) (w : World), St w0 fp0 (L ++ (stoL S s ++ R)) w → Calls Tryz.prog 36 #[.slice a1 n1 c1] w fun e w2 => ∃ v f, e = .returned v ∧ (slA 3 v (cs.map intC)).p w2 f ∧ Below w.heap.size w w2 ∧ ∀ k ∈ f, w.heap.size ≤ k) := fun L w h => by
  have h1 := cloneI (cs.map intC) (cs.map intC).length _ w (by rw [List.length_map]; exact (hrc.app (L ++ stoL S s)).here (by rwa [List.append_assoc])) (by intro u hu; obtain ⟨z, -, rfl⟩ := List.mem_map.1 hu; rfl) (by rw [List.length_map]; omega)
  refine h1.mono ?_
  rintro e w2 ⟨v, f, rfl, h2, h3, h4⟩
  exact ⟨v, f, rfl, h2, h3, h4⟩
 have HW : RowKit.Hid (∀ (L : List Asn) (w : World), St w0 fp0 (L ++ (stoL S s ++ R)) w → Calls Tryz.prog 37 #[.slice a2 n2 c2] w fun e w2 => ∃ v f, e = .returned v ∧ (rowA 29 3 v vals.length (flat vals)).p w2 f ∧ Below w.heap.size w w2 ∧ ∀ k ∈ f, w.heap.size ≤ k) := fun L w h =>
  cloneW (flat vals) vals.length _ w ((hrv.app (L ++ stoL S s)).here (by rwa [List.append_assoc])).1 (one_flat _) (by omega)
 have HX : RowKit.Hid (∀ v ∈ vals, v.text.size ≤ maxLen) := fun v hv => by have := (hx v hv).2; unfold maxLen; omega
 have HS0 : RowKit.Hid (St w0 fp0 ([blkA (w.heap.size + 1) 22 #[.slice a1 n1 c1], blkA (w.heap.size + 1 + 1) 27 #[.slice a2 n2 c2], emp, emp] ++ (blkA w.heap.size 34 #[ptrV S] :: (stoL S s ++ R))) (((w.alloc (.cells #[ptrV S] 34)).alloc (.cells #[.slice a1 n1 c1] 22)).alloc (.cells #[.slice a2 n2 c2] 27))) := by
  have h1 := St.emp.2 (St.emp.2 (((hS.newblk 34 #[ptrV S]).newblk 22 #[.slice a1 n1 c1]).newblk 27 #[.slice a2 n2 c2]))
  simp only [World.size_alloc] at h1
  refine h1.perm ?_
  classical
  refine List.perm_iff_count.2 fun a => ?_
  simp only [List.cons_append, List.nil_append, List.count_append, List.count_cons]
  omega
 have HN1 := Lib.hid hn1
 have HN2 := Lib.hid hn2
 obtain ⟨nn, hnn⟩ : ∃ nn, noneB s.cols cs vals = nn := ⟨_, rfl⟩
 have HNN := Lib.hid hnn
 rw [hnn]
 have hb1 : n1 ≤ 100000 := by omega
 have hb2 : n2 ≤ 100000 := by omega
 clear hrc hrv hS hn1 hn2 hvl hcl hx hnn
 unfold ptrV at HS0 ⊢
 go_enter Tryz.func15, Tryz.ntmps15
 go_upto_region 1 with (fail)
 generalize hWW : ((w.alloc _).alloc _).alloc _ = W0 at *
 clear hWW
 obtain ⟨b3, hbm⟩ : ∃ b3, w.heap.size = b3 := ⟨_, rfl⟩
 rw [hbm] at HS0 ⊢
 clear hbm
 obtain ⟨b5, hb5⟩ : ∃ b5, b3 + 1 + 1 = b5 := ⟨_, rfl⟩
 rw [hb5] at HS0 ⊢
 obtain ⟨b4, hb4⟩ : ∃ b4, b3 + 1 = b4 := ⟨_, rfl⟩
 rw [hb4] at HS0 ⊢
 clear hb5 hb4
 refine rLk1 (w0 := w0) (fp0 := fp0) b4 b5 vals.length (.slice a1 n1 c1) (.slice a2 n2 c2) (cs.map intC) (flat vals) (blkA b3 34 #[.pointer (some ⟨S, 0, none⟩)] :: (stoL S s ++ R)) (fun L w h => HI.out (L ++ [blkA b3 34 #[.pointer (some ⟨S, 0, none⟩)]]) w (by rw [List.append_assoc]; exact h)) (fun L w h => HW.out (L ++ [blkA b3 34 #[.pointer (some ⟨S, 0, none⟩)]]) w (by rw [List.append_assoc]; exact h)) rfl (by kernel_rfl) rfl rfl rfl rfl HS0.out ?_
 intro u10 u12 W1 ⟨xa, xn, xc, hu10⟩ ⟨ya, yn, yc, hu12⟩ h1
 subst hu10 hu12
 obtain ⟨_, hp1⟩ := h1.has 2 rfl
 obtain ⟨_, _, e2, -⟩ := sl_get hp1
 obtain ⟨_, hp2⟩ := h1.has 3 rfl
 obtain ⟨_, _, e3, -⟩ := row_shape hp2
 obtain ⟨-, hxn, -⟩ := Value.slice.inj e2
 obtain ⟨-, hyn, -⟩ := Value.slice.inj e3
 rw [List.length_map, ← HN1.out] at hxn
 rw [← HN2.out] at hyn
 subst hxn hyn
 have H1 := Lib.hid h1
 clear h1 hp1 hp2 e2 e3 HS0
 simp only [putL, List.foldl, Act.put, List.setIfInBounds_toArray, List.set_cons_succ, List.set_cons_zero]
 obtain ⟨V0, V1, V2⟩ := VarIs.new W1 #[.nilFunc] 88
 go_upto_region 3 with (fail)
 clear V0 V1 V2
 have H2 : RowKit.Hid (St w0 fp0 (blkA W1.heap.size 88 #[isV b4 b5] :: (blkA b3 34 #[ptrV S] :: (stoL S s ++ (lkX b4 b5 (.slice xa xn xc) (.slice ya yn yc) cs vals ++ R)))) (W1.alloc (.cells #[isV b4 b5] 88))) := by
  have h2 := H1.out.newblk 88 #[isV b4 b5]
  refine h2.perm ?_
  unfold lkX ptrV
  classical
  refine List.perm_iff_count.2 fun a => ?_
  simp only [List.cons_append, List.nil_append, List.count_append, List.count_cons]
  omega
 unfold isV at H2
 obtain ⟨W2, hW2⟩ : ∃ W2, W1.alloc (.cells #[.func (.func 38) #[] #[.pointer (some ⟨b4, 0, none⟩), .pointer (some ⟨b5, 0, none⟩)]] 88) = W2 := ⟨_, rfl⟩
 rw [hW2] at H2 ⊢
 change RowKit.Hid (St w0 fp0 (blkA W1.heap.size 88 #[isV b4 b5] :: (blkA b3 34 #[ptrV S] :: (stoL S s ++ (lkX b4 b5 (.slice xa xn xc) (.slice ya yn yc) cs vals ++ R)))) W2) at H2
 clear hW2 H1
 generalize W1.heap.size = b7 at *
 obtain ⟨d1, d2, d4, d5⟩ := lk_reads (R := blkA b7 88 #[isV b4 b5] :: blkA b3 34 #[ptrV S] :: R) HX.out (show St w0 fp0 (stoL S s ++ (lkX b4 b5 (.slice xa xn xc) (.slice ya yn yc) cs vals ++ (blkA b7 88 #[isV b4 b5] :: blkA b3 34 #[ptrV S] :: R))) W2 from H2.out.perm (by
  classical
  refine List.perm_iff_count.2 fun a => ?_
  simp only [List.count_append, List.count_cons]
  omega))
 have d4l := World.block_lt_of_cell? W2 _ d4
 have d5l := World.block_lt_of_cell? W2 _ d5
 obtain ⟨_, hb3⟩ := H2.out.has 1 rfl
 have d3 := (blk_get hb3).1 0
 have d3l := (blk_get hb3).2.2
 obtain ⟨_, hbS⟩ := H2.out.has 2 rfl
 have dS := (blk_get hbS).1 0
 simp only [List.getElem?_toArray, List.getElem?_cons_zero] at d3 dS
 have HCI := Lib.hid (containsI_calls cs (.slice xa xn xc) 41 (.pointer (some ⟨b3, 0, none⟩)) (fun c => !decide (0 ≤ c ∧ c < (s.cols : Int))) W2 (enters_own Tryz.func41 (by kernel_rfl) rfl) d1 fun i hi w' hb => (lookup2_calls b3 S s.cols i w' ((hb.cell (p := ⟨S, 0, none⟩) (World.block_lt_of_cell? W2 _ dS)).trans dS) ((hb.cell (p := ⟨b3, 0, none⟩) d3l).trans d3)).mono fun e w'' h => ⟨h.1, by rw [← h.2]; exact Below.refl _ _⟩)
 have HCV := Lib.hid (fun w' (hb : Below W2.heap.size W2 w') => containsV_calls vals (.slice ya yn yc) 44 (fun v => v.kind == 0) w' (enters_own Tryz.func44 (by kernel_rfl) rfl) (d2.mono hb) fun v hv w' hb => lookup3_calls v w')
 clear d1 d2 hb3 hbS dS d3 d3l HI HW
 have HN : RowKit.Hid (nn = (decide (xn = 0) || (!decide (xn = yn) || (cs.any (fun c => !decide (0 ≤ c ∧ c < (s.cols : Int))) || vals.any (fun v => v.kind == 0))))) := by
  show _ = _
  rw [← HNN.out, HN1.out, HN2.out]
  rfl
 generalize cs.any (fun c => !decide (0 ≤ c ∧ c < (s.cols : Int))) = q1 at *
 generalize vals.any (fun v => v.kind == 0) = q2 at *
 clear HNN
 by_cases h1 : xn = 0
 · have z1 : ((xn : Int) == 0) = true := by simp [h1]
   have hn : nn = true := by rw [HN.out, decide_eq_true h1]; rfl
   subst hn
   clear h1 HN HCI HCV
   have H3 : RowKit.Hid (St w0 fp0 (lkB W2.heap.size b3 b7 b4 b5 S true ++ (stoL S s ++ (lkX b4 b5 (.slice xa xn xc) (.slice ya yn yc) cs vals ++ R))) (W2.alloc (.cells #[.bool true] 4))) := by
    have h2 := (H2.out).newblk 4 #[.bool true]
    exact h2.perm (by
     unfold lkB
     classical
     refine List.perm_iff_count.2 fun a => ?_
     simp only [List.cons_append, List.nil_append, List.count_append, List.count_cons]
     omega)
   obtain ⟨V0, V1, V2⟩ := VarIs.new W2 #[.bool false] 4
   go_upto_region 4 with (fail)
   clear V0 V1 V2
   obtain ⟨W4, hW4⟩ : ∃ W4, W2.alloc (.cells #[.bool true] 4) = W4 := ⟨_, rfl⟩
   rw [hW4] at H3 ⊢
   clear hW4
   generalize W2.heap.size = b8 at *
   have HE := Lib.hid (each_calls (lkCol b8 b3 b4 b7 b5) rfl ⟨_, _, rfl⟩ w0 W4 fp0 _ H3.out)
   clear H3
   unfold lkCol at HE
   go_wp2_with fail
   (with_reducible refine HE.out.mono ?_)
   rintro e W5 ⟨cb, rfl, h5⟩
   have H5 := Lib.hid h5
   clear h5 HE
   unfold allF
   go_wp2
   go_ret
   exact ⟨cb, b8, b3, b4, b7, b5, _, _, rfl, H5.out⟩
 · have z1 : ((xn : Int) == 0) = false := by simp; omega
   by_cases h2 : xn = yn
   · have z2 : ((xn : Int) != yn) = false := by simp [h2]
     have hnn : nn = (q1 || q2) := by rw [HN.out, decide_eq_false h1, decide_eq_true h2]; rfl
     have HNQ := Lib.hid hnn
     clear h1 h2 HN hnn
     go_wp2_with fail
     (with_reducible refine HCI.out.mono ?_)
     rintro e W3 ⟨rfl, hb⟩
     have H3 := Lib.hid (H2.out.mono hb)
     have d5' := (hb.cell (p := ⟨b5, 0, none⟩) d5l).trans d5
     have d5l' := World.block_lt_of_cell? W3 _ d5'
     have HCV3 := Lib.hid (HCV.out W3 hb)
     clear hb HCI HCV H2 d4 d5 d4l d5l
     cases q1 with
     | true =>
      obtain rfl : nn = true := HNQ.out
      clear HCV3
      have H3 : RowKit.Hid (St w0 fp0 (lkB W3.heap.size b3 b7 b4 b5 S true ++ (stoL S s ++ (lkX b4 b5 (.slice xa xn xc) (.slice ya yn yc) cs vals ++ R))) (W3.alloc (.cells #[.bool true] 4))) := by
       have h2 := (H3.out).newblk 4 #[.bool true]
       exact h2.perm (by
        unfold lkB
        classical
        refine List.perm_iff_count.2 fun a => ?_
        simp only [List.cons_append, List.nil_append, List.count_append, List.count_cons]
        omega)
      obtain ⟨V0, V1, V2⟩ := VarIs.new W3 #[.bool false] 4
      go_upto_region 4 with (fail)
      clear V0 V1 V2
      obtain ⟨W4, hW4⟩ : ∃ W4, W3.alloc (.cells #[.bool true] 4) = W4 := ⟨_, rfl⟩
      rw [hW4] at H3 ⊢
      clear hW4
      generalize W3.heap.size = b8 at *
      have HE := Lib.hid (each_calls (lkCol b8 b3 b4 b7 b5) rfl ⟨_, _, rfl⟩ w0 W4 fp0 _ H3.out)
      clear H3
      unfold lkCol at HE
      go_wp2_with fail
      (with_reducible refine HE.out.mono ?_)
      rintro e W5 ⟨cb, rfl, h5⟩
      have H5 := Lib.hid h5
      clear h5 HE
      unfold allF
      go_wp2
      go_ret
      exact ⟨cb, b8, b3, b4, b7, b5, _, _, rfl, H5.out⟩
     | false =>
      obtain rfl : nn = q2 := HNQ.out
      go_wp2_with fail
      (with_reducible refine HCV3.out.mono ?_)
      rintro e W6 ⟨rfl, hb⟩
      have H6 := Lib.hid (H3.out.mono hb)
      clear hb HCV3 H3
      have H3 : RowKit.Hid (St w0 fp0 (lkB W6.heap.size b3 b7 b4 b5 S nn ++ (stoL S s ++ (lkX b4 b5 (.slice xa xn xc) (.slice ya yn yc) cs vals ++ R))) (W6.alloc (.cells #[.bool nn] 4))) := by
       have h2 := (H6.out).newblk 4 #[.bool nn]
       exact h2.perm (by
        unfold lkB
        classical
        refine List.perm_iff_count.2 fun a => ?_
        simp only [List.cons_append, List.nil_append, List.count_append, List.count_cons]
        omega)
      obtain ⟨V0, V1, V2⟩ := VarIs.new W6 #[.bool false] 4
      go_upto_region 4 with (fail)
      clear V0 V1 V2
      obtain ⟨W4, hW4⟩ : ∃ W4, W6.alloc (.cells #[.bool nn] 4) = W4 := ⟨_, rfl⟩
      rw [hW4] at H3 ⊢
      clear hW4
      generalize W6.heap.size = b8 at *
      have HE := Lib.hid (each_calls (lkCol b8 b3 b4 b7 b5) rfl ⟨_, _, rfl⟩ w0 W4 fp0 _ H3.out)
      clear H3
      unfold lkCol at HE
      go_wp2_with fail
      (with_reducible refine HE.out.mono ?_)
      rintro e W5 ⟨cb, rfl, h5⟩
      have H5 := Lib.hid h5
      clear h5 HE
      unfold allF
      go_wp2
      go_ret
      exact ⟨cb, b8, b3, b4, b7, b5, _, _, rfl, H5.out⟩
   · have z2 : ((xn : Int) != yn) = true := by simp; omega
     have hn : nn = true := by rw [HN.out, decide_eq_false h1, decide_eq_false h2]; rfl
     subst hn
     clear h1 h2 HN HCI HCV
     have H3 : RowKit.Hid (St w0 fp0 (lkB W2.heap.size b3 b7 b4 b5 S true ++ (stoL S s ++ (lkX b4 b5 (.slice xa xn xc) (.slice ya yn yc) cs vals ++ R))) (W2.alloc (.cells #[.bool true] 4))) := by
      have h2 := (H2.out).newblk 4 #[.bool true]
      exact h2.perm (by
       unfold lkB
       classical
       refine List.perm_iff_count.2 fun a => ?_
       simp only [List.cons_append, List.nil_append, List.count_append, List.count_cons]
       omega)
     obtain ⟨V0, V1, V2⟩ := VarIs.new W2 #[.bool false] 4
     go_upto_region 4 with (fail)
     clear V0 V1 V2
     obtain ⟨W4, hW4⟩ : ∃ W4, W2.alloc (.cells #[.bool true] 4) = W4 := ⟨_, rfl⟩
     rw [hW4] at H3 ⊢
     clear hW4
     generalize W2.heap.size = b8 at *
     have HE := Lib.hid (each_calls (lkCol b8 b3 b4 b7 b5) rfl ⟨_, _, rfl⟩ w0 W4 fp0 _ H3.out)
     clear H3
     unfold lkCol at HE
     go_wp2_with fail
     (with_reducible refine HE.out.mono ?_)
     rintro e W5 ⟨cb, rfl, h5⟩
     have H5 := Lib.hid h5
     clear h5 HE
     unfold allF
     go_wp2
     go_ret
     exact ⟨cb, b8, b3, b4, b7, b5, _, _, rfl, H5.out⟩
end Go.Proofs.YtnefkkidfhmggaaGreat
/- Range's predicate. -/
namespace Go.Proofs.YtnefkkidfhmggaaGreat
open Go Go.RowKit
/-- Whether a value lies between two bounds. -/
def rgV (v low high : Vl) : Bool := !decide (v.kind = 0) && ((decide (low.kind = 0) || decide (0 ≤ cmpV v low)) && (decide (high.kind = 0) || decide (cmpV v high ≤ 0)))
set_option maxHeartbeats 4000000 in
set_option maxRecDepth 20000 in
theorem range1_calls (c : Nat) (low high : Vl) (r : Rw) (rv : Value) (b5 b6 b7 : Nat) (w : World) (hr : ValsAt w r rv) (e5 : w.cell? ⟨b5, 0, none⟩ = some (.int .i64 c))
 (l0 : w.cell? ⟨b6, 0, none⟩ = some (.int .i64 low.kind)) (l1 : w.cell? ⟨b6, 1, none⟩ = some (.int .i64 low.int)) (l2 : w.cell? ⟨b6, 2, none⟩ = some (.string low.text))
 (h0 : w.cell? ⟨b7, 0, none⟩ = some (.int .i64 high.kind)) (h1 : w.cell? ⟨b7, 1, none⟩ = some (.int .i64 high.int)) (h2 : w.cell? ⟨b7, 2, none⟩ = some (.string high.text)) (hc : c < r.length) :
 Calls Tryz.prog 55 #[rv, .pointer (some ⟨b5, 0, none⟩), .pointer (some ⟨b6, 0, none⟩), .pointer (some ⟨b7, 0, none⟩)] w fun e w' => e = .returned (.bool (rgV (r[c]'hc) low high)) ∧ Below w.heap.size w w' := by
 obtain ⟨a, n, cc, rfl, hn, hm⟩ := hr.shape
 unfold maxLen at hm
 obtain ⟨b, o, rfl⟩ := hr.has c (by omega)
 obtain ⟨p0, p1, p2⟩ := hr.cell c hc
 obtain ⟨x, hx⟩ : ∃ x, r[c]'hc = x := ⟨_, rfl⟩
 rw [hx] at p0 p1 p2 ⊢
 have pl := World.block_lt_of_cell? w _ p0
 have el := World.block_lt_of_cell? w _ e5
 have ll := World.block_lt_of_cell? w _ l0
 have hl := World.block_lt_of_cell? w _ h0
 have hcn : (c : Int) < n := by omega
 have hn63 : n ≤ 9223372036854775807 := by omega
 obtain ⟨q, hq⟩ : ∃ q, rgV x low high = q := ⟨_, rfl⟩
 have HQ := Lib.hid hq
 rw [hq]
 clear hr hn hx hc hq hm
 obtain ⟨lk, li, lt⟩ := low
 obtain ⟨hk, hi, ht⟩ := high
 obtain ⟨xk, xi, xt⟩ := x
 simp only at p0 p1 p2 l0 l1 l2 h0 h1 h2
 have HB := Lib.hid ((Below.refl _ w).alloc (Nat.le_refl _) (.cells #[.int .i64 xk, .int .i64 xi, .string xt] 29))
 have d0 := World.cell?_alloc_new w #[.int .i64 xk, .int .i64 xi, .string xt] 29 0
 have d1 := World.cell?_alloc_new w #[.int .i64 xk, .int .i64 xi, .string xt] 29 1
 have d2 := World.cell?_alloc_new w #[.int .i64 xk, .int .i64 xi, .string xt] 29 2
 simp only [List.getElem?_toArray, List.getElem?_cons_zero, List.getElem?_cons_succ] at d0 d1 d2
 have HK := Lib.hid (show rgV ⟨xk, xi, xt⟩ ⟨lk, li, lt⟩ ⟨hk, hi, ht⟩ = (!decide (xk = 0) && ((decide (lk = 0) || decide (0 ≤ cmpV ⟨xk, xi, xt⟩ ⟨lk, li, lt⟩)) && (decide (hk = 0) || decide (cmpV ⟨xk, xi, xt⟩ ⟨hk, hi, ht⟩ ≤ 0)))) from rfl)
 rw [HQ.out] at HK
 clear HQ
 have HC1 := Lib.hid (fun w' => cmpV_calls ⟨xk, xi, xt⟩ ⟨lk, li, lt⟩ w')
 have HC2 := Lib.hid (fun w' => cmpV_calls ⟨xk, xi, xt⟩ ⟨hk, hi, ht⟩ w')
 simp only at HC1 HC2
 generalize cmpV ⟨xk, xi, xt⟩ ⟨lk, li, lt⟩ = z1 at *
 generalize cmpV ⟨xk, xi, xt⟩ ⟨hk, hi, ht⟩ = z2 at *
 obtain ⟨W, hW⟩ : ∃ W, w.alloc (.cells #[.int .i64 xk, .int .i64 xi, .string xt] 29) = W := ⟨_, rfl⟩
 have q0 : W.cell? ⟨b6, 0, none⟩ = some (.int .i64 lk) := by rw [← hW]; exact (HB.out.cell (p := ⟨b6, 0, none⟩) ll).trans l0
 have q1 : W.cell? ⟨b6, 1, none⟩ = some (.int .i64 li) := by rw [← hW]; exact (HB.out.cell (p := ⟨b6, 1, none⟩) ll).trans l1
 have q2 : W.cell? ⟨b6, 2, none⟩ = some (.string lt) := by rw [← hW]; exact (HB.out.cell (p := ⟨b6, 2, none⟩) ll).trans l2
 have s0 : W.cell? ⟨b7, 0, none⟩ = some (.int .i64 hk) := by rw [← hW]; exact (HB.out.cell (p := ⟨b7, 0, none⟩) hl).trans h0
 have s1 : W.cell? ⟨b7, 1, none⟩ = some (.int .i64 hi) := by rw [← hW]; exact (HB.out.cell (p := ⟨b7, 1, none⟩) hl).trans h1
 have s2 : W.cell? ⟨b7, 2, none⟩ = some (.string ht) := by rw [← hW]; exact (HB.out.cell (p := ⟨b7, 2, none⟩) hl).trans h2
 rw [hW] at HB d0 d1 d2
 have ll2 := World.block_lt_of_cell? W _ q0
 have hl2 := World.block_lt_of_cell? W _ s0
 have dl2 := World.block_lt_of_cell? W _ d0
 go_enter Tryz.func55, Tryz.ntmps55
 go_upto_region 2 with (fail)
 clear hW l0 l1 l2 h0 h1 h2 p0 p1 p2 e5 pl el ll hl
 by_cases k1 : xk = 0
 · have z0 : (xk != 0) = false := by simp [k1]
   have HQ2 : RowKit.Hid (q = false) := by show _ = _; rw [HK.out, decide_eq_true k1]; rfl
   clear k1 HK HC1 HC2
   obtain rfl : q = false := HQ2.out
   go_wp2
   go_ret
   exact ⟨rfl, HB.out⟩
 · have z0 : (xk != 0) = true := by simp [k1]
   by_cases k2 : lk = 0
   · have z2' : (lk == 0) = true := by simp [k2]
     by_cases k3 : hk = 0
     · have z3 : (hk == 0) = true := by simp [k3]
       have HQ2 : RowKit.Hid (q = true) := by show _ = _; rw [HK.out, decide_eq_false k1, decide_eq_true k2, decide_eq_true k3]; rfl
       clear k3 HK HC1 HC2
       obtain rfl : q = true := HQ2.out
       go_wp2
       go_ret
       exact ⟨rfl, HB.out⟩
     · have z3 : (hk == 0) = false := by simp [k3]
       have HQ2 : RowKit.Hid (q = decide (z2 ≤ 0)) := by show _ = _; rw [HK.out, decide_eq_false k1, decide_eq_true k2, decide_eq_false k3]; rfl
       clear k3 HK HC1
       go_wp2_with fail
       (with_reducible refine (HC2.out _).mono ?_)
       rintro e W9 ⟨rfl, hb9⟩
       have HB9 := Lib.hid ((HB.out).trans (hb9.mono (HB.out).size))
       clear hb9 HC2
       go_wp2
       go_ret
       exact ⟨by rw [HQ2.out]; rfl, HB9.out⟩
   · have z2' : (lk == 0) = false := by simp [k2]
     go_wp2_with fail
     (with_reducible refine (HC1.out _).mono ?_)
     rintro e W3 ⟨rfl, hb3⟩
     have HB3 := Lib.hid (HB.out.trans (hb3.mono HB.out.size))
     have q0 : W3.cell? ⟨w.heap.size, 0, none⟩ = _ := (hb3.cell (p := ⟨w.heap.size, 0, none⟩) dl2).trans d0
     have q1 : W3.cell? ⟨w.heap.size, 1, none⟩ = _ := (hb3.cell (p := ⟨w.heap.size, 1, none⟩) dl2).trans d1
     have q2 : W3.cell? ⟨w.heap.size, 2, none⟩ = _ := (hb3.cell (p := ⟨w.heap.size, 2, none⟩) dl2).trans d2
     have t0 : W3.cell? ⟨b7, 0, none⟩ = _ := (hb3.cell (p := ⟨b7, 0, none⟩) hl2).trans s0
     have t1 : W3.cell? ⟨b7, 1, none⟩ = _ := (hb3.cell (p := ⟨b7, 1, none⟩) hl2).trans s1
     have t2 : W3.cell? ⟨b7, 2, none⟩ = _ := (hb3.cell (p := ⟨b7, 2, none⟩) hl2).trans s2
     have ql := World.block_lt_of_cell? W3 _ q0
     have tl := World.block_lt_of_cell? W3 _ t0
     clear hb3 HC1 HB d0 d1 d2 s0 s1 s2 ll2 hl2 dl2
     by_cases k4 : 0 ≤ z1
     · have z4 : decide (0 ≤ z1) = true := by simp [k4]
       by_cases k3 : hk = 0
       · have z3 : (hk == 0) = true := by simp [k3]
         have HQ2 : RowKit.Hid (q = true) := by show _ = _; rw [HK.out, decide_eq_false k1, decide_eq_false k2, decide_eq_true k4, decide_eq_true k3]; rfl
         clear k3 HK HC2
         obtain rfl : q = true := HQ2.out
         go_wp2
         go_ret
         exact ⟨rfl, HB3.out⟩
       · have z3 : (hk == 0) = false := by simp [k3]
         have HQ2 : RowKit.Hid (q = decide (z2 ≤ 0)) := by show _ = _; rw [HK.out, decide_eq_false k1, decide_eq_false k2, decide_eq_true k4, decide_eq_false k3]; rfl
         clear k3 HK
         go_wp2_with fail
         (with_reducible refine (HC2.out _).mono ?_)
         rintro e W9 ⟨rfl, hb9⟩
         have HB9 := Lib.hid ((HB3.out).trans (hb9.mono (HB3.out).size))
         clear hb9 HC2
         go_wp2
         go_ret
         exact ⟨by rw [HQ2.out]; rfl, HB9.out⟩
     · have z4 : decide (0 ≤ z1) = false := by simp; omega
       have HQ2 : RowKit.Hid (q = false) := by show _ = _; rw [HK.out, decide_eq_false k1, decide_eq_false k2, decide_eq_false k4]; rfl
       clear k4 HK HC2
       obtain rfl : q = false := HQ2.out
       go_wp2
       go_ret
       exact ⟨rfl, HB3.out⟩
end Go.Proofs.YtnefkkidfhmggaaGreat
/- Range: what is collected, by an index. -/
namespace Go.Proofs.YtnefkkidfhmggaaGreat
open Go Go.RowKit
def rgP (c : Nat) (low high : Vl) (e : Re) : Bool := rgV (colV e.r c) low high
def vlA (b : Nat) (v : Vl) : Asn := blkA b 29 #[.int .i64 v.kind, .int .i64 v.int, .string v.text]
def rgX (b5 b6 b7 : Nat) (c : Int) (low high : Vl) : List Asn := [blkA b5 3 #[.int .i64 c], vlA b6 low, vlA b7 high]
def rgF (b5 b6 b7 : Nat) : Value := .func (.func 55) #[] #[.pointer (some ⟨b5, 0, none⟩), .pointer (some ⟨b6, 0, none⟩), .pointer (some ⟨b7, 0, none⟩)]
theorem rg_isc {S cols : Nat} {I : List (List Int)} {L : LL} {next : Int} {s : Sto} (hok : s.Ok cols I L next) (b5 b6 b7 c : Nat) (low high : Vl) (hc : c < cols) : IsC 55 #[.pointer (some ⟨b5, 0, none⟩), .pointer (some ⟨b6, 0, none⟩), .pointer (some ⟨b7, 0, none⟩)] (rgP c low high) S s (rgX b5 b6 b7 c low high) := by
 intro w0 fp0 R w e he hs
 have h1 : St w0 fp0 (rgX b5 b6 b7 c low high ++ (stoL S s ++ R)) w := hs.perm (by
  classical
  refine List.perm_iff_count.2 fun a => ?_
  simp only [List.count_append]
  omega)
 obtain ⟨_, h2⟩ := h1.has 0 rfl
 obtain ⟨_, h3⟩ := h1.has 1 rfl
 obtain ⟨_, h4⟩ := h1.has 2 rfl
 obtain ⟨f, hf⟩ := hs.star_of
 have hm : (e.id, e.r) ∈ L := by rw [← hok.rows]; exact List.mem_map.2 ⟨_, he, rfl⟩
 have hl : e.r.length = cols := (hok.row _ hm).2.2.1
 have hcl : c < e.r.length := by omega
 refine (range1_calls c low high e.r (encV e.va) b5 b6 b7 w (re_at hok hf he) ((blk_get h2).1 0) ((blk_get h3).1 0) ((blk_get h3).1 1) ((blk_get h3).1 2) ((blk_get h4).1 0) ((blk_get h4).1 1) ((blk_get h4).1 2) hcl).mono ?_
 rintro ev w' ⟨rfl, hb⟩
 refine ⟨?_, hs.mono hb⟩
 rw [rgP, colV_at (by omega) (by simpa using hcl)]
 rfl
def rgL (b4 b9 b5 b6 b7 S : Nat) : List Asn := [blkA b4 34 #[ptrV S], blkA b9 88 #[rgF b5 b6 b7]]
set_option maxHeartbeats 4000000 in
set_option maxRecDepth 20000 in
theorem range2_calls {S cols : Nat} {I : List (List Int)} {L : LL} {next : Int} {s : Sto} (hok : s.Ok cols I L next) (b4 b5 b6 b7 b9 c : Nat) (low high : Vl) (hc : c < cols) (hlv : okV low = true) (hli : I64 low.int) (hlen : L.length + 1 < 1099511627776) (x : Ix) (hx : findIx s.ixs [(c : Int)] = some x)
 (ess : List Re) (hess : entM (ixK x.cs) ess = selM (some (.str (textOf (encL low)))) none x.km) (hem : ∀ e ∈ ess, e ∈ s.es)
 (w0 w : World) (fp0 : List Nat) (R : List Asn) (hS : St w0 fp0 (rgL b4 b9 b5 b6 b7 S ++ (stoL S s ++ (rgX b5 b6 b7 c low high ++ R))) w) :
 Calls Tryz.prog 56 #[.pointer (some ⟨b4, 0, none⟩), .pointer (some ⟨b5, 0, none⟩), .pointer (some ⟨b6, 0, none⟩), .pointer (some ⟨b9, 0, none⟩)] w fun e w' => ∃ v, e = .returned v ∧
  St w0 fp0 (rowA 114 2 v (somL (rgP c low high) ess).length (riV (somL (rgP c low high) ess)) :: (rgL b4 b9 b5 b6 b7 S ++ (stoL S s ++ (rgX b5 b6 b7 c low high ++ R)))) w' := by
 have hxm : x ∈ s.ixs := List.mem_of_find?_eq_some hx
 have hltx : low.text.size ≤ 16 := by
  rcases okV_cases hlv with ⟨-, -, h⟩ | ⟨-, h⟩ | ⟨-, -, -, h⟩
  · rw [h]; exact Nat.zero_le _
  · rw [h]; exact Nat.zero_le _
  · exact h
 obtain ⟨_, hb4⟩ := hS.has 0 rfl
 have d4 := (blk_get hb4).1 0
 have d4l := (blk_get hb4).2.2
 obtain ⟨_, hb9⟩ := hS.has 1 rfl
 have d9 := (blk_get hb9).1 0
 have d9l := (blk_get hb9).2.2
 obtain ⟨_, hbS⟩ := hS.has 2 rfl
 have e0 := (blk_get hbS).1 0
 have e3 := (blk_get hbS).1 3
 obtain ⟨_, hri⟩ := hS.has 4 rfl
 have hix := row_sl hri (ixV_len s.ixs)
 have hXS : St w0 fp0 (rgX b5 b6 b7 c low high ++ (rgL b4 b9 b5 b6 b7 S ++ (stoL S s ++ R))) w := hS.perm (by
  classical
  refine List.perm_iff_count.2 fun a => ?_
  simp only [List.count_append]
  omega)
 obtain ⟨_, hb5⟩ := hXS.has 0 rfl
 have d5 := (blk_get hb5).1 0
 have d5l := (blk_get hb5).2.2
 obtain ⟨_, hb6⟩ := hXS.has 1 rfl
 have d60 := (blk_get hb6).1 0
 have d61 := (blk_get hb6).1 1
 have d62 := (blk_get hb6).1 2
 have d6l := (blk_get hb6).2.2
 simp only [List.getElem?_toArray, List.getElem?_cons_zero, List.getElem?_cons_succ] at d4 d9 d5 d60 d61 d62 e0 e3
 have hixs : ∀ x ∈ s.ixs, IntsX [] w x.cs x.cv := by
  intro x hx
  obtain ⟨f, hf⟩ := hS.hasM (A := ixA x) (List.mem_append_right _ (List.mem_append_left _ (by unfold stoL; exact .tail _ (.tail _ (.tail _ (List.mem_append_right _ (List.mem_map.2 ⟨x, hx, rfl⟩)))))))
  obtain ⟨f1, f2, h1, -⟩ := (show Star w [slA 3 x.cv (x.cs.map intC), objA true 16 x.kh x.km x.kb] f from hf)
  exact intsX_of h1
 obtain ⟨xa, xn, xc, hxv, -⟩ := (hixs x hxm).shape
 have HH := Lib.hid (has_calls S s.cols c w e0)
 have hcd : decide (0 ≤ (c : Int) ∧ (c : Int) < (s.cols : Int)) = true := by rw [hok.ecols]; simp; omega
 rw [hcd] at HH
 have HB0 : RowKit.Hid (Below w.heap.size w (w.alloc (.cells #[.int .i64 c] 3))) := (Below.refl _ _).alloc (Nat.le_refl _) _
 have hne := World.cell?_alloc_new w #[.int .i64 c] 3 0
 have HF := Lib.hid (sfind_calls S s.ixs s.iv [(c : Int)] (.slice (some ⟨w.heap.size, 0, none⟩) 1 1) (w.alloc (.cells #[.int .i64 c] 3)) ((HB0.out.cell (p := ⟨S, 3, none⟩) (World.block_lt_of_cell? w _ e3)).trans e3) (hix.mono HB0.out) (fun y hy => (hixs y hy).mono HB0.out) (SlX.of_blk (X := []) (heap_alloc_new w _) (by simp) (by show 1 ≤ maxLen; unfold maxLen; omega) rfl))
 rw [hx] at HF
 have hfv : findV (some x) = .agg #[.slice xa xn xc, .pointer (some ⟨x.kb, 0, none⟩)] := by
  rw [findV, hxv]
  rfl
 rw [hfv] at HF
 have HS := Lib.hid hS
 have HOK := Lib.hid hok
 have HXM := Lib.hid hxm
 have HLEN := Lib.hid hlen
 have HISC := Lib.hid (rg_isc (S := S) hok b5 b6 b7 c low high hc)
 have HESS := Lib.hid hess
 have HEM := Lib.hid hem
 have HLV := Lib.hid hlv
 have HLI := Lib.hid hli
 have HLT := Lib.hid hltx
 obtain ⟨kb, hkb⟩ : ∃ kb, x.kb = kb := ⟨_, rfl⟩
 have HKB := Lib.hid hkb
 rw [hkb] at HF
 clear hS hok hxm hx hlen hess hem hlv hli hltx hkb hb4 hb9 hbS hri hix hXS hb5 hb6 hixs hxv hcd hfv e0 e3 hc hne
 unfold ptrV at d4
 unfold rgF at d9
 unfold ptrV at HF HH
 obtain ⟨lk, li, lt⟩ := low
 simp only at d60 d61 d62
 go_enter Tryz.func56, Tryz.ntmps56
 go_wp2_with fail
 (with_reducible refine HH.out.mono ?_)
 rintro e w1 ⟨rfl, rfl⟩
 clear HH
 go_wp2_with fail
 (with_reducible refine HF.out.mono ?_)
 rintro e w2 ⟨rfl, hb1⟩
 have hb2 := HB0.out.trans (hb1.mono HB0.out.size)
 have HS2 := Lib.hid (HS.out.mono hb2)
 have c60 := (hb2.cell (p := ⟨b6, 0, none⟩) d6l).trans d60
 have c61 := (hb2.cell (p := ⟨b6, 1, none⟩) d6l).trans d61
 have c62 := (hb2.cell (p := ⟨b6, 2, none⟩) d6l).trans d62
 have l6 := World.block_lt_of_cell? w2 _ c60
 have c4 := (hb2.cell (p := ⟨b4, 0, none⟩) d4l).trans d4
 have l4 := World.block_lt_of_cell? w2 _ c4
 clear HF hb1 hb2 HS d4 d4l d9 d9l d5 d5l d60 d61 d62 d6l HB0
 rw [show (some x).isSome = true from rfl]
 go_upto_region 4 with (fail)
 have HS3 := Lib.hid (HS2.out.newblk 97 #[.slice xa xn xc, .pointer (some ⟨kb, 0, none⟩)])
 have hb3 : Below w2.heap.size w2 (w2.alloc (.cells #[.slice xa xn xc, .pointer (some ⟨kb, 0, none⟩)] 97)) := (Below.refl _ _).alloc (Nat.le_refl _) _
 have c60 := (hb3.cell (p := ⟨b6, 0, none⟩) l6).trans c60
 have c61 := (hb3.cell (p := ⟨b6, 1, none⟩) l6).trans c61
 have c62 := (hb3.cell (p := ⟨b6, 2, none⟩) l6).trans c62
 obtain ⟨W3, hW3⟩ : ∃ W3, w2.alloc (.cells #[.slice xa xn xc, .pointer (some ⟨kb, 0, none⟩)] 97) = W3 := ⟨_, rfl⟩
 rw [hW3] at HS3 c60 c61 c62 ⊢
 clear hb3 hW3 HS2 c4 l4 l6
 generalize w2.heap.size = b10 at *
 have l6 := World.block_lt_of_cell? W3 _ c60
 have HVA := Lib.hid (valid_calls ⟨lk, li, lt⟩ W3 (by have : lt.size ≤ 16 := HLT.out; unfold maxLen; show lt.size ≤ _; omega))
 rw [HLV.out] at HVA
 unfold Vl.val at HVA
 simp only at HVA
 go_wp2_with fail
 (with_reducible refine HVA.out.mono ?_)
 rintro e W4 ⟨rfl, hb4⟩
 have HS4 := Lib.hid (HS3.out.mono hb4)
 clear HVA hb4 HS3 c60 c61 c62 l6
 have HIX : RowKit.Hid (∀ (b v : Value) (w : World), St w0 fp0 ([blkA b4 34 #[.pointer (some ⟨S, 0, none⟩)], blkA b6 29 #[.int .i64 lk, .int .i64 li, .string lt], blkA b10 97 #[.slice xa xn xc, .pointer (some ⟨kb, 0, none⟩)], blkA b9 88 #[rgF b5 b6 b7], slA 5 b ((encL ⟨lk, li, lt⟩).map u8C), itA v kb (some (.str (textOf (encL ⟨lk, li, lt⟩)))) none, emp] ++ (stoL S s ++ (blkA b5 3 #[.int .i64 c] :: vlA b7 high :: R))) w →
  Calls Tryz.prog 51 #[.pointer (some ⟨S, 0, none⟩), v, rgF b5 b6 b7] w fun e w2 => ∃ u, e = .returned u ∧ St w0 fp0 ([blkA b4 34 #[.pointer (some ⟨S, 0, none⟩)], blkA b6 29 #[.int .i64 lk, .int .i64 li, .string lt], blkA b10 97 #[.slice xa xn xc, .pointer (some ⟨kb, 0, none⟩)], blkA b9 88 #[rgF b5 b6 b7], slA 5 b ((encL ⟨lk, li, lt⟩).map u8C), emp, rowA 114 2 u (somL (rgP c ⟨lk, li, lt⟩ high) ess).length (riV (somL (rgP c ⟨lk, li, lt⟩ high) ess))] ++ (stoL S s ++ (blkA b5 3 #[.int .i64 c] :: vlA b7 high :: R))) w2) := by
  intro b v W h
  rw [← HKB.out] at h
  have h2 : St w0 fp0 (itA v x.kb (some (.str (textOf (encL ⟨lk, li, lt⟩)))) none :: (stoL S s ++ (rgX b5 b6 b7 c ⟨lk, li, lt⟩ high ++ (emp :: slA 5 b ((encL ⟨lk, li, lt⟩).map u8C) :: blkA b4 34 #[.pointer (some ⟨S, 0, none⟩)] :: blkA b10 97 #[.slice xa xn xc, .pointer (some ⟨x.kb, 0, none⟩)] :: blkA b9 88 #[rgF b5 b6 b7] :: R)))) W := h.perm (by
   unfold rgX
   classical
   refine List.perm_iff_count.2 fun a => ?_
   simp only [vlA, List.cons_append, List.nil_append, List.count_append, List.count_cons]
   omega)
  refine (idx_calls 55 #[.pointer (some ⟨b5, 0, none⟩), .pointer (some ⟨b6, 0, none⟩), .pointer (some ⟨b7, 0, none⟩)] (rgP c ⟨lk, li, lt⟩ high) S cols I L next s HOK.out (rgX b5 b6 b7 c ⟨lk, li, lt⟩ high) (enters_own Tryz.func55 (by kernel_rfl) rfl) HISC.out x HXM.out (some (.str (textOf (encL ⟨lk, li, lt⟩)))) none (by rintro k ⟨rfl⟩; trivial) (by rintro k ⟨⟩) ess HESS.out HEM.out HLEN.out v w0 W fp0 _ h2).mono ?_
  rintro e w2 ⟨u, rfl, h3⟩
  refine ⟨u, rfl, ?_⟩
  rw [← HKB.out]
  refine h3.perm ?_
  unfold rgX
  classical
  refine List.perm_iff_count.2 fun a => ?_
  simp only [vlA, List.cons_append, List.nil_append, List.count_append, List.count_cons]
  omega
 go_upto_region 5 with (fail)
 refine rRn5 (w0 := w0) (fp0 := fp0) b4 b6 b10 b9 S kb (somL (rgP c ⟨lk, li, lt⟩ high) ess).length (.slice xa xn xc) (rgF b5 b6 b7) lk li lt (riV (somL (rgP c ⟨lk, li, lt⟩ high) ess)) (stoL S s ++ (blkA b5 3 #[.int .i64 c] :: vlA b7 high :: R)) HLI.out (by have : lt.size ≤ 16 := HLT.out; omega) HIX.out rfl (by kernel_rfl) rfl rfl rfl rfl rfl rfl ?_ ?_
 · have h5 := St.emp.2 (St.emp.2 (St.emp.2 HS4.out))
   refine h5.perm ?_
   unfold rgL rgX
   classical
   refine List.perm_iff_count.2 fun a => ?_
   simp only [vlA, ptrV, List.cons_append, List.nil_append, List.count_append, List.count_cons]
   omega
 · intro u28 u30 u32 W5 h6
   have H6 : RowKit.Hid (St w0 fp0 (rowA 114 2 u32 (somL (rgP c ⟨lk, li, lt⟩ high) ess).length (riV (somL (rgP c ⟨lk, li, lt⟩ high) ess)) :: (rgL b4 b9 b5 b6 b7 S ++ (stoL S s ++ (rgX b5 b6 b7 c ⟨lk, li, lt⟩ high ++ R)))) W5) := by
    refine St.dropAll (A := [emp, slA 5 u28 ((encL ⟨lk, li, lt⟩).map u8C), blkA b10 97 #[.slice xa xn xc, .pointer (some ⟨kb, 0, none⟩)]]) (h6.perm ?_)
    unfold rgL rgX
    classical
    refine List.perm_iff_count.2 fun a => ?_
    simp only [vlA, ptrV, List.cons_append, List.nil_append, List.count_append, List.count_cons]
    omega
   clear h6 HS4 HIX
   simp only [putL, List.foldl, Act.put, List.setIfInBounds_toArray, List.set_cons_succ, List.set_cons_zero]
   go_wp2
   go_ret
   exact ⟨_, rfl, H6.out⟩
end Go.Proofs.YtnefkkidfhmggaaGreat
/- Range's iterator; what iterators yield. -/
namespace Go.Proofs.YtnefkkidfhmggaaGreat
open Go Go.RowKit
attribute [local go_sem] run_storeF
def rgCol (b4 b5 b6 b9 : Nat) : Value := .func (.func 56) #[] #[.pointer (some ⟨b4, 0, none⟩), .pointer (some ⟨b5, 0, none⟩), .pointer (some ⟨b6, 0, none⟩), .pointer (some ⟨b9, 0, none⟩)]
set_option maxHeartbeats 4000000 in
set_option maxRecDepth 20000 in
theorem Range_store (S : Nat) (c : Int) (low high : Vl) (w0 w : World) (fp0 : List Nat) (R : List Asn) (hS : St w0 fp0 R w) :
 Calls Tryz.prog 17 #[ptrV S, .int .i64 c, low.val, high.val] w fun e w' => ∃ cb b4 b5 b6 b7 b9, e = .returned (allF cb) ∧ St w0 fp0 (blkA cb 109 #[rgCol b4 b5 b6 b9] :: (rgL b4 b9 b5 b6 b7 S ++ (rgX b5 b6 b7 c low high ++ R))) w' := by
 obtain ⟨lk, li, lt⟩ := low
 obtain ⟨hk, hi, ht⟩ := high
 unfold Vl.val
 have HS0 : RowKit.Hid (St w0 fp0 (blkA (w.heap.size + 1 + 1 + 1) 29 #[.int .i64 hk, .int .i64 hi, .string ht] :: blkA (w.heap.size + 1 + 1) 29 #[.int .i64 lk, .int .i64 li, .string lt] :: blkA (w.heap.size + 1) 3 #[.int .i64 c] :: blkA w.heap.size 34 #[ptrV S] :: R) ((((w.alloc (.cells #[ptrV S] 34)).alloc (.cells #[.int .i64 c] 3)).alloc (.cells #[.int .i64 lk, .int .i64 li, .string lt] 29)).alloc (.cells #[.int .i64 hk, .int .i64 hi, .string ht] 29))) := by
  have h1 := (((hS.newblk 34 #[ptrV S]).newblk 3 #[.int .i64 c]).newblk 29 #[.int .i64 lk, .int .i64 li, .string lt]).newblk 29 #[.int .i64 hk, .int .i64 hi, .string ht]
  simp only [World.size_alloc] at h1
  exact h1
 clear hS
 unfold ptrV at HS0 ⊢
 go_enter Tryz.func17, Tryz.ntmps17
 go_upto_region 1 with (fail)
 obtain ⟨W0, hW0⟩ : ∃ W0, (((w.alloc (.cells #[.pointer (some ⟨S, 0, none⟩)] 34)).alloc (.cells #[.int .i64 c] 3)).alloc (.cells #[.int .i64 lk, .int .i64 li, .string lt] 29)).alloc (.cells #[.int .i64 hk, .int .i64 hi, .string ht] 29) = W0 := ⟨_, rfl⟩
 rw [hW0] at HS0 ⊢
 clear hW0
 obtain ⟨b4, hb4⟩ : ∃ b4, w.heap.size = b4 := ⟨_, rfl⟩
 rw [hb4] at HS0 ⊢
 clear hb4
 obtain ⟨b7, hb7⟩ : ∃ b7, b4 + 1 + 1 + 1 = b7 := ⟨_, rfl⟩
 rw [hb7] at HS0 ⊢
 obtain ⟨b6, hb6⟩ : ∃ b6, b4 + 1 + 1 = b6 := ⟨_, rfl⟩
 rw [hb6] at HS0 ⊢
 obtain ⟨b5, hb5⟩ : ∃ b5, b4 + 1 = b5 := ⟨_, rfl⟩
 rw [hb5] at HS0 ⊢
 clear hb5 hb6 hb7
 obtain ⟨V0, V1, V2⟩ := VarIs.new W0 #[.nilFunc] 88
 go_upto_region 2 with (fail)
 clear V0 V1 V2
 have HS1 := Lib.hid (HS0.out.newblk 88 #[rgF b5 b6 b7])
 obtain ⟨W1, hW1⟩ : ∃ W1, W0.alloc (.cells #[rgF b5 b6 b7] 88) = W1 := ⟨_, rfl⟩
 rw [hW1] at HS1
 unfold rgF at hW1
 rw [hW1]
 clear hW1 HS0
 generalize W0.heap.size = b9 at *
 have HE := Lib.hid (each_calls (rgCol b4 b5 b6 b9) rfl ⟨_, _, rfl⟩ w0 W1 fp0 _ HS1.out)
 clear HS1
 unfold rgCol at HE
 go_wp2_with fail
 (with_reducible refine HE.out.mono ?_)
 rintro e W5 ⟨cb, rfl, h5⟩
 have H5 : RowKit.Hid (St w0 fp0 (blkA cb 109 #[rgCol b4 b5 b6 b9] :: (rgL b4 b9 b5 b6 b7 S ++ (rgX b5 b6 b7 c ⟨lk, li, lt⟩ ⟨hk, hi, ht⟩ ++ R))) W5) := h5.perm (by
  unfold rgL rgX rgCol
  classical
  refine List.perm_iff_count.2 fun a => ?_
  simp only [vlA, ptrV, List.cons_append, List.nil_append, List.count_cons]
  omega)
 clear h5 HE
 unfold allF
 go_wp2
 go_ret
 exact ⟨cb, b4, b5, b6, b7, b9, rfl, H5.out⟩
/-! What iterators yield. -/
section
variable {S cols : Nat} {I : List (List Int)} {L : LL} {next : Int} {s : Sto}
theorem lk_seq (hok : s.Ok cols I L next) (hc : cols ≤ 1000000) (hlen : L.length + 1 < 1099511627776) (b8 b3 b4 b7 b5 cb : Nat) (cv vv : Value) (nn : Bool) {cs : List Int} {vals : Rw} (hk : nn = false → LkOk cols cs vals) (hx : RowS vals) (hvl : vals.length ≤ 100000) (n : Nat) :
 SeqG n Tryz.prog 84 #[.pointer (some ⟨cb, 0, none⟩)] 2 itG (fun W => ∀ x ∈ lkIts nn cs vals s, ValsAt W x.r x.v) (lkIts nn cs vals s) (blkA cb 109 #[lkCol b8 b3 b4 b7 b5] :: (lkB b8 b3 b7 b4 b5 S nn ++ (stoL S s ++ lkX b4 b5 cv vv cs vals))) :=
 have hes : s.es.length = L.length := by rw [← hok.rows, reL, List.length_map]
 each1_seq 46 _ cb _ _ (enters_own Tryz.func46 (by kernel_rfl) rfl) (by
  cases nn with
  | true => show 0 < _; omega
  | false => exact Nat.lt_of_le_of_lt (somL_len _ _) (by omega)) (by
  cases nn with
  | true => intro x hx; cases hx
  | false => exact somL_len2 hok hc) (fun w0 fp0 R w hs => by
  have h1 : St w0 fp0 (blkA b8 4 #[.bool nn] :: blkA b3 34 #[ptrV S] :: blkA b7 88 #[isV b4 b5] :: (stoL S s ++ (lkX b4 b5 cv vv cs vals ++ (blkA cb 109 #[lkCol b8 b3 b4 b7 b5] :: R)))) w := hs.perm (by
   unfold lkB
   show List.Perm (blkA cb 109 #[lkCol b8 b3 b4 b7 b5] :: _) _
   classical
   refine List.perm_iff_count.2 fun a => ?_
   simp only [List.cons_append, List.nil_append, List.count_append, List.count_cons]
   omega)
  refine (lookup4_calls hok b8 b3 b4 b7 b5 cv vv nn hk hx hvl hlen w0 w fp0 _ h1).mono ?_
  rintro e w' ⟨v, rfl, h2⟩
  refine ⟨v, rfl, h2.perm ?_⟩
  unfold lkB
  show List.Perm _ (_ :: blkA cb 109 #[lkCol b8 b3 b4 b7 b5] :: _)
  classical
  refine List.perm_iff_count.2 fun a => ?_
  simp only [List.cons_append, List.nil_append, List.count_append, List.count_cons]
  omega) n
theorem rg_seq (hok : s.Ok cols I L next) (hcm : cols ≤ 1000000) (b4 b5 b6 b7 b9 cb c : Nat) (low high : Vl) (hc : c < cols) (hlv : okV low = true) (hli : I64 low.int) (hlen : L.length + 1 < 1099511627776) (x : Ix) (hx : findIx s.ixs [(c : Int)] = some x)
 (ess : List Re) (hess : entM (ixK x.cs) ess = selM (some (.str (textOf (encL low)))) none x.km) (hem : ∀ e ∈ ess, e ∈ s.es) (hel : ess.length ≤ L.length) (n : Nat) :
 SeqG n Tryz.prog 84 #[.pointer (some ⟨cb, 0, none⟩)] 2 itG (fun W => ∀ x ∈ somL (rgP c low high) ess, ValsAt W x.r x.v) (somL (rgP c low high) ess) (blkA cb 109 #[rgCol b4 b5 b6 b9] :: (rgL b4 b9 b5 b6 b7 S ++ (stoL S s ++ rgX b5 b6 b7 c low high))) :=
 each1_seq 56 _ cb _ _ (enters_own Tryz.func56 (by kernel_rfl) rfl) (Nat.lt_of_le_of_lt (somL_len _ _) (by omega)) (fun y hy => by
  obtain ⟨e, he, -, rfl⟩ := somL_row hy
  have hm : (e.id, e.r) ∈ L := by rw [← hok.rows]; exact List.mem_map.2 ⟨_, hem e he, rfl⟩
  have : e.r.length = cols := (hok.row _ hm).2.2.1
  show e.r.length < _
  omega) (fun w0 fp0 R w hs => by
  have h1 : St w0 fp0 (rgL b4 b9 b5 b6 b7 S ++ (stoL S s ++ (rgX b5 b6 b7 c low high ++ (blkA cb 109 #[rgCol b4 b5 b6 b9] :: R)))) w := hs.perm (by
   show List.Perm (blkA cb 109 #[rgCol b4 b5 b6 b9] :: _) _
   classical
   refine List.perm_iff_count.2 fun a => ?_
   simp only [List.count_append, List.count_cons]
   omega)
  refine (range2_calls hok b4 b5 b6 b7 b9 c low high hc hlv hli hlen x hx ess hess hem w0 w fp0 _ h1).mono ?_
  rintro e w' ⟨v, rfl, h2⟩
  refine ⟨v, rfl, h2.perm ?_⟩
  show List.Perm _ (_ :: blkA cb 109 #[rgCol b4 b5 b6 b9] :: _)
  classical
  refine List.perm_iff_count.2 fun a => ?_
  simp only [List.count_append, List.count_cons]
  omega) n
end
end Go.Proofs.YtnefkkidfhmggaaGreat
/- number, text, table. -/
namespace Go.Proofs.YtnefkkidfhmggaaGreat
open Go Go.RowKit
theorem number39_calls (n : Int) (w : World) : Calls Tryz.prog 18 #[.int .i64 n] w fun e w' => e = .returned (Vl.val ⟨1, n, ⟨#[]⟩⟩) ∧ Below w.heap.size w w' := by
 have HB := Lib.hid ((Below.refl _ w).alloc (Nat.le_refl _) (.cells #[.int .i64 1, .int .i64 n, .string ⟨#[]⟩] 29))
 obtain ⟨V0, V1, V2⟩ := VarIs.new w #[.int .i64 0, .int .i64 0, .string ⟨#[]⟩] 29
 unfold Vl.val
 go_enter Tryz.func18, Tryz.ntmps18
 go_wp2
 refine bodyPost_ret (v := .agg #[.int .i64 1, .int .i64 n, .string ⟨#[]⟩]) (by simp [results, Tryz.results18, go_sem]) rfl ?_
 exact ⟨rfl, HB.out⟩
theorem text39_calls (s : ByteArray) (w : World) : Calls Tryz.prog 25 #[.string s] w fun e w' => e = .returned (Vl.val ⟨2, 0, s⟩) ∧ Below w.heap.size w w' := by
 have HB := Lib.hid ((Below.refl _ w).alloc (Nat.le_refl _) (.cells #[.int .i64 2, .int .i64 0, .string s] 29))
 obtain ⟨V0, V1, V2⟩ := VarIs.new w #[.int .i64 0, .int .i64 0, .string ⟨#[]⟩] 29
 unfold Vl.val
 go_enter Tryz.func25, Tryz.ntmps25
 go_wp2
 refine bodyPost_ret (v := .agg #[.int .i64 2, .int .i64 0, .string s]) (by simp [results, Tryz.results25, go_sem]) rfl ?_
 exact ⟨rfl, HB.out⟩
theorem appCol : AppSrc Tryz.prog 70 70 131 6 := appSrc (z := .agg #[.string ⟨#[]⟩, .int .i64 0, .int .i64 0, .int .i64 0, .int .i64 0, .bool false]) (bytes := 56) (by kernel_rfl) (by kernel_rfl) rfl (by decide) (by decide)
def col1 : List Value := [.string ⟨#[99]⟩, .int .i64 1, .int .i64 0, .int .i64 0, .int .i64 0, .bool false]
def colsV : Nat → List Value
 | 0 => []
 | k + 1 => colsV k ++ col1
set_option maxHeartbeats 4000000 in
set_option maxRecDepth 20000 in
theorem table_calls (n : Nat) (ka fa : Option Addr) (kn kc fn fc : Nat) (hn : n ≤ 1000) (w0 w : World) (fp0 : List Nat) (R : List Asn) (hS : St w0 fp0 R w) :
 Calls Tryz.prog 27 #[.int .i64 n, .slice ka kn kc, .slice fa fn fc] w fun e w' => ∃ ca cc kb fb, e = .returned (.agg #[.string ⟨#[116]⟩, .slice ca n cc, .slice (some ⟨kb, 0, none⟩) 1 1, .slice (some ⟨fb, 0, none⟩) 1 1, .slice none 0 0]) ∧
  St w0 fp0 (blkA kb 22 #[.slice ka kn kc] :: blkA fb 129 #[.slice fa fn fc, .int .i64 0, .int .i64 0] :: R) w' := by
 have HS := Lib.hid hS
 clear hS
 go_enter Tryz.func27, Tryz.ntmps27
 go_upto_region 3 with (fail)
 have HS1 : RowKit.Hid (St w0 fp0 (blkA (w.heap.size + 1 + 1 + 1) 75 #[.string ⟨#[116]⟩, .slice none 0 0, .slice (some ⟨w.heap.size + 1, 0, none⟩) 1 1, .slice (some ⟨w.heap.size + 1 + 1, 0, none⟩) 1 1, .slice none 0 0] :: rowA 131 6 (.slice none 0 0) 0 (colsV 0) :: blkA w.heap.size 75 #[.string ⟨#[]⟩, .slice none 0 0, .slice none 0 0, .slice none 0 0, .slice none 0 0] :: blkA (w.heap.size + 1) 22 #[.slice ka kn kc] :: blkA (w.heap.size + 1 + 1) 129 #[.slice fa fn fc, .int .i64 0, .int .i64 0] :: R)
  ((((w.alloc (.cells #[.string ⟨#[]⟩, .slice none 0 0, .slice none 0 0, .slice none 0 0, .slice none 0 0] 75)).alloc (.cells #[.slice ka kn kc] 22)).alloc (.cells #[.slice fa fn fc, .int .i64 0, .int .i64 0] 129)).alloc (.cells #[.string ⟨#[116]⟩, .slice none 0 0, .slice (some ⟨w.heap.size + 1, 0, none⟩) 1 1, .slice (some ⟨w.heap.size + 1 + 1, 0, none⟩) 1 1, .slice none 0 0] 75))) := by
  have h1 := ((((HS.out.newblk 75 #[.string ⟨#[]⟩, .slice none 0 0, .slice none 0 0, .slice none 0 0, .slice none 0 0]).newblk 22 #[.slice ka kn kc]).newblk 129 #[.slice fa fn fc, .int .i64 0, .int .i64 0]).newblk 75 #[.string ⟨#[116]⟩, .slice none 0 0, .slice (some ⟨w.heap.size + 1, 0, none⟩) 1 1, .slice (some ⟨w.heap.size + 1 + 1, 0, none⟩) 1 1, .slice none 0 0]).nilR 131 6
  simp only [World.size_alloc] at h1
  refine h1.perm ?_
  classical
  refine List.perm_iff_count.2 fun a => ?_
  simp only [List.count_cons, colsV]
  omega
 generalize hWW : (((w.alloc _).alloc _).alloc _).alloc _ = W0 at *
 clear hWW HS
 obtain ⟨b6, hb6⟩ : ∃ b6, w.heap.size = b6 := ⟨_, rfl⟩
 rw [hb6] at HS1 ⊢
 clear hb6
 generalize b6 + 1 + 1 + 1 = b7 at *
 generalize b6 + 1 + 1 = fb at *
 generalize b6 + 1 = kb at *
 go_loopg [15] n (fun g z wr => ∃ k : Nat, z = .int .i64 k ∧ g + k = n ∧ RowKit.Hid (∃ ca cc, St w0 fp0 (blkA b7 75 #[.string ⟨#[116]⟩, .slice ca k cc, .slice (some ⟨kb, 0, none⟩) 1 1, .slice (some ⟨fb, 0, none⟩) 1 1, .slice none 0 0] :: rowA 131 6 (.slice ca k cc) k (colsV k) :: blkA b6 75 #[.string ⟨#[]⟩, .slice none 0 0, .slice none 0 0, .slice none 0 0, .slice none 0 0] :: blkA kb 22 #[.slice ka kn kc] :: blkA fb 129 #[.slice fa fn fc, .int .i64 0, .int .i64 0] :: R) wr))
 case atStart => exact ⟨0, rfl, rfl, none, 0, HS1.out⟩
 case round =>
  clear HS1
  obtain ⟨k, rfl, hgk, Hr⟩ := hrel
  obtain ⟨ca, cc, hs⟩ := Hr.out
  obtain ⟨_, hb⟩ := hs.has 0 rfl
  have t0 := (blk_get hb).1 0
  have t1 := (blk_get hb).1 1
  have t2 := (blk_get hb).1 2
  have t3 := (blk_get hb).1 3
  have t4 := (blk_get hb).1 4
  have tf := (blk_get hb).2.1
  have tl := (blk_get hb).2.2
  simp only [List.getElem?_toArray, List.getElem?_cons_zero, List.getElem?_cons_succ] at t0 t1 t2 t3 t4
  have Hs := Lib.hid hs
  have Hgk := Lib.hid hgk
  clear Hr hs hb hgk
  by_cases hk : k < n
  · have hk' : (k : Int) < n := by omega
    go_upto_region 5 with (first
     | (at_builtin; refine wpList_appR rfl _ _ _ _ rfl rfl rfl appCol ((Hs.out.perm (List.Perm.swap _ _ _)).mono ((Below.refl _ _).alloc (Nat.le_refl _) _)) (src_litk (e' := 131) (by kernel_rfl) _ 6 _ 1 1 _ _ #[.string ⟨#[99]⟩, .int .i64 1, .int .i64 0, .int .i64 0, .int .i64 0, .bool false] (heap_alloc_new _ _) rfl (by decide)) (by omega) ?_; intro v1 w1 h1
        obtain ⟨_, hb⟩ := h1.out.has 1 rfl; obtain ⟨_, hr1⟩ := h1.out.has 0 rfl; obtain ⟨va, vc, hv1, -⟩ := row_shape hr1; subst hv1; clear t0 t1 t2 t3 t4 tf tl; have t1 := (blk_get hb).1 1; have tf := (blk_get hb).2.1 1; have tl := (blk_get hb).2.2; simp only [List.getElem?_toArray, List.getElem?_cons_zero, List.getElem?_cons_succ] at t1; clear hb hr1))
    have HS2 : RowKit.Hid (∃ ca cc, St w0 fp0 (blkA b7 75 #[.string ⟨#[116]⟩, .slice ca (k + 1 : Nat) cc, .slice (some ⟨kb, 0, none⟩) 1 1, .slice (some ⟨fb, 0, none⟩) 1 1, .slice none 0 0] :: rowA 131 6 (.slice ca (k + 1 : Nat) cc) (k + 1) (colsV (k + 1)) :: blkA b6 75 #[.string ⟨#[]⟩, .slice none 0 0, .slice none 0 0, .slice none 0 0, .slice none 0 0] :: blkA kb 22 #[.slice ka kn kc] :: blkA fb 129 #[.slice fa fn fc, .int .i64 0, .int .i64 0] :: R) (w1.setCell ⟨b7, 1, none⟩ (.slice va (k + 1) vc))) :=
     ⟨va, vc, (h1.out.perm (List.Perm.swap _ _ _)).setB 1 (by simp) (.slice va (k + 1) vc)⟩
    clear h1 Hs
    go_wp2
    go_roundg (gk - 1)
    case rel => exact ⟨k + 1, by go_num, by have := Hgk.out; omega, HS2⟩
    case measure => have := Hgk.out; omega
  · obtain rfl : k = n := by have := Hgk.out; omega
    have hs6 : St w0 fp0 (blkA b6 75 #[.string ⟨#[]⟩, .slice none 0 0, .slice none 0 0, .slice none 0 0, .slice none 0 0] :: (blkA kb 22 #[.slice ka kn kc] :: blkA fb 129 #[.slice fa fn fc, .int .i64 0, .int .i64 0] :: R)) wr := by
     refine St.dropAll (A := [blkA b7 75 #[.string ⟨#[116]⟩, .slice ca k cc, .slice (some ⟨kb, 0, none⟩) 1 1, .slice (some ⟨fb, 0, none⟩) 1 1, .slice none 0 0], rowA 131 6 (.slice ca k cc) k (colsV k)]) Hs.out
    have HFIN := Lib.hid (((((hs6.setB 0 (by simp) (.string ⟨#[116]⟩)).setB 1 (by simp) (.slice ca k cc)).setB 2 (by simp) (.slice (some ⟨kb, 0, none⟩) 1 1)).setB 3 (by simp) (.slice (some ⟨fb, 0, none⟩) 1 1)).setB 4 (by simp) (.slice none 0 0)).drop
    obtain ⟨_, hb6⟩ := Hs.out.has 2 rfl
    have s0 := (blk_get hb6).1 0
    have s1 := (blk_get hb6).1 1
    have s2 := (blk_get hb6).1 2
    have s3 := (blk_get hb6).1 3
    have s4 := (blk_get hb6).1 4
    have sf := (blk_get hb6).2.1
    have sl := (blk_get hb6).2.2
    simp only [List.getElem?_toArray, List.getElem?_cons_zero, List.getElem?_cons_succ] at s0 s1 s2 s3 s4
    clear hb6 hs6 Hgk
    go_wp2
    refine bodyPost_ret (v := .agg #[.string ⟨#[116]⟩, .slice ca k cc, .slice (some ⟨kb, 0, none⟩) 1 1, .slice (some ⟨fb, 0, none⟩) 1 1, .slice none 0 0]) (by clear HFIN Hs; simp [results, Tryz.results27, go_sem, *]) rfl ?_
    exact ⟨ca, cc, kb, fb, rfl, HFIN.out⟩
end Go.Proofs.YtnefkkidfhmggaaGreat
/- Operations in memory; fair. -/
namespace Go.Proofs.YtnefkkidfhmggaaGreat
open Go Go.RowKit
/-- An operation. -/
structure Opr where
 kd : Nat
 id : Int
 a : Option Addr
 n : Nat
 c : Nat
 r : Rw
def Opr.v (x : Opr) : Value := .slice x.a x.n x.c
def opV (l : List Opr) : List Value := l.flatMap fun x => [.int .u8 x.kd, .int .i64 x.id, x.v]
theorem opV_at (l : List Opr) (k : Nat) (hk : k < l.length) : (opV l)[k * 3]? = some (.int .u8 l[k].kd) ∧ (opV l)[k * 3 + 1]? = some (.int .i64 l[k].id) ∧ (opV l)[k * 3 + 2]? = some l[k].v := by
 induction l generalizing k with
 | nil => simp at hk
 | cons x l ih =>
  have e : opV (x :: l) = .int .u8 x.kd :: .int .i64 x.id :: x.v :: opV l := rfl
  cases k with
  | zero => exact ⟨rfl, rfl, rfl⟩
  | succ k =>
   have := ih k (by simpa using hk)
   rw [e, show (k + 1) * 3 = k * 3 + 1 + 1 + 1 by omega, show k * 3 + 1 + 1 + 1 + 1 = (k * 3 + 1) + 1 + 1 + 1 by omega, show k * 3 + 1 + 1 + 1 + 2 = (k * 3 + 2) + 1 + 1 + 1 by omega]
   simpa using this
/-- A list of operations is read. -/
structure OpsX (w : World) (l : List Opr) (v : Value) : Prop where
 sl : SlX [] w 3 l.length (opV l) v
 row : ∀ x ∈ l, ValsAt w x.r x.v
theorem OpsX.mono {w w' : World} {l : List Opr} {v : Value} (h : OpsX w l v) (hb : Below w.heap.size w w') : OpsX w' l v := ⟨h.sl.mono hb, fun x hx => (h.row x hx).mono hb⟩
theorem op_cells {X : List Nat} {w : World} {l : List Opr} {v : Value} (h : SlX X w 3 l.length (opV l) v) (k : Nat) (hk : k < l.length) : ∃ b o c, v = .slice (some ⟨b, o, none⟩) l.length c ∧ w.cell? ⟨b, o + k * 3, none⟩ = some (.int .u8 l[k].kd) ∧ w.cell? ⟨b, o + k * 3 + 1, none⟩ = some (.int .i64 l[k].id) ∧ w.cell? ⟨b, o + k * 3 + 2, none⟩ = some l[k].v := by
 obtain ⟨e1, e2, e3⟩ := opV_at l k hk
 obtain ⟨b, o, c, h1, h2⟩ := h.some e1
 obtain ⟨b', o', c', h3, h4⟩ := h.some e2
 obtain ⟨b2, o2, c2, h5, h6⟩ := h.some e3
 rw [h1] at h3 h5
 obtain ⟨h3, -, -⟩ := Value.slice.inj h3
 obtain ⟨h5, -, -⟩ := Value.slice.inj h5
 injection h3 with h3
 injection h3 with h3 h7
 injection h5 with h5
 injection h5 with h5 h8
 subst h3 h7 h5 h8
 exact ⟨b, o, c, h1, h2, by rw [Nat.add_assoc]; exact h4, by rw [Nat.add_assoc]; exact h6⟩
def shortR (r : Rw) : Bool := decide (r.length ≤ 8) && r.all fun v => decide (v.text.size ≤ 40)
def fairB (kl fl : Nat) (l : List Opr) (most : Int) : Bool := decide ((l.length : Int) ≤ most) && (decide (kl ≤ 6) && (decide (fl ≤ 6) && l.all fun o => shortR o.r))
theorem fair_ok {kl fl : Nat} {l : List Opr} {most : Int} (h : fairB kl fl l most = true) : (l.length : Int) ≤ most ∧ kl ≤ 6 ∧ fl ≤ 6 ∧ ∀ o ∈ l, o.r.length ≤ 8 ∧ ∀ v ∈ o.r, v.text.size ≤ 40 := by
 unfold fairB shortR at h
 simp only [Bool.and_eq_true, decide_eq_true_eq, List.all_eq_true] at h
 exact ⟨h.1, h.2.1, h.2.2.1, h.2.2.2⟩
theorem all_drop {α : Type} (p : α → Bool) (l : List α) (k : Nat) (hk : k < l.length) : (l.drop k).all p = (p l[k] && (l.drop (k + 1)).all p) := by
 rw [List.drop_eq_getElem_cons hk, List.all_cons]
end Go.Proofs.YtnefkkidfhmggaaGreat
/- fair. -/
namespace Go.Proofs.YtnefkkidfhmggaaGreat
open Go Go.RowKit
set_option maxHeartbeats 4000000 in
set_option maxRecDepth 20000 in
theorem fair_calls (cols : Int) (ka fa : Option Addr) (kn kc fn fc : Nat) (l : List Opr) (v : Value) (most : Int) (w : World) (hk : kn ≤ maxLen) (hf : fn ≤ maxLen) (hl : OpsX w l v) :
 Calls Tryz.prog 10 #[.agg #[.int .u8 cols, .slice ka kn kc, .slice fa fn fc], v, .int .i64 most] w fun e w' => e = .returned (.bool (fairB kn fn l most)) ∧ Below w.heap.size w w' := by
 obtain ⟨a, c, rfl⟩ := hl.sl.shape
 obtain ⟨n, hn⟩ : ∃ n, l.length = n := ⟨_, rfl⟩
 have hb1 : n ≤ 9223372036854775807 := by have := hl.sl.1; unfold maxLen at this; omega
 unfold maxLen at hk hf
 have hb0 : Below w.heap.size w (w.alloc (.cells #[.int .u8 cols, .slice ka kn kc, .slice fa fn fc] 24)) := (Below.refl _ _).alloc (Nat.le_refl _) _
 have HL := Lib.hid (hl.mono hb0)
 have HN := Lib.hid hn
 have HB := Lib.hid hb0
 have V1 := World.cell?_alloc_new w #[.int .u8 cols, .slice ka kn kc, .slice fa fn fc] 24 1
 have V2 := World.cell?_alloc_new w #[.int .u8 cols, .slice ka kn kc, .slice fa fn fc] 24 2
 simp only [List.getElem?_toArray, List.getElem?_cons_zero, List.getElem?_cons_succ] at V1 V2
 obtain ⟨q, hq⟩ : ∃ q, fairB kn fn l most = q := ⟨_, rfl⟩
 have HQ : RowKit.Hid ((decide ((n : Int) ≤ most) && (decide (kn ≤ 6) && (decide (fn ≤ 6) && l.all fun o => shortR o.r))) = q) := by show _ = _; rw [← hq, ← hn]; rfl
 rw [hq, hn]
 clear hl hn hb0 hq
 by_cases h1 : (n : Int) ≤ most
 · have z1 : decide (most < (n : Int)) = false := by simp; omega
   by_cases h2 : kn ≤ 6
   · have z2 : decide (6 < (kn : Int)) = false := by simp; omega
     by_cases h3 : fn ≤ 6
     · have z3 : decide (6 < (fn : Int)) = false := by simp; omega
       have HA : RowKit.Hid ((l.drop 0).all (fun o => shortR o.r) = q) := by show _ = _; rw [← HQ.out, decide_eq_true h1, decide_eq_true h2, decide_eq_true h3]; rfl
       clear h1 h2 h3 HQ
       go_enter Tryz.func10, Tryz.ntmps10
       go_upto_region 1 with (fail)
       generalize hW : w.alloc _ = W at *
       clear hW
       have Vl := World.block_lt_of_cell? W _ V1
       go_wp2
       clear V1 V2 Vl
       go_loopg [29] n (fun g z wr => ∃ k : Nat, z = .int .i64 k ∧ g + k = n ∧ RowKit.Hid ((l.drop k).all (fun o => shortR o.r) = q) ∧ RowKit.Hid (Below W.heap.size W wr))
       case atStart => exact ⟨0, rfl, rfl, HA, Below.refl _ _⟩
       case round =>
        clear HA
        obtain ⟨k, rfl, hgk, Ha, Hb⟩ := hrel
        by_cases hkk : k < n
        · have hkl : k < l.length := by rw [HN.out]; exact hkk
          have hlw := HL.out.mono Hb.out
          obtain ⟨b, o, c', e1, p0, p1, p2⟩ := op_cells hlw.sl k hkl
          obtain ⟨rfl, -, -⟩ := Value.slice.inj e1
          have hpl := World.block_lt_of_cell? wr _ p0
          have hrow := hlw.row _ (List.getElem_mem hkl)
          have Hst := Lib.hid (all_drop (fun o : Opr => shortR o.r) l k hkl)
          have hkn : (k : Int) < n := by omega
          have Hgk := Lib.hid hgk
          clear hgk e1 hlw
          generalize l[k] = x at *
          clear hkl
          obtain ⟨kd, id, xa, xn, xc, xr⟩ := x
          unfold Opr.v at p2 hrow
          simp only at p0 p1 p2 hrow Hst
          have HROW := Lib.hid hrow
          have hxn : xn = xr.length ∧ xn ≤ maxLen := by
           obtain ⟨a', n', c'', e, h, h'⟩ := hrow.shape
           obtain ⟨-, rfl, -⟩ := Value.slice.inj e
           exact ⟨h, h'⟩
          have HXN := Lib.hid hxn
          have hsh : shortR xr = (decide (xn ≤ 8) && xr.all fun v => decide (v.text.size ≤ 40)) := by rw [hxn.1]; rfl
          rw [hsh] at Hst
          have hx63 : xn ≤ 9223372036854775807 := by have := hxn.2; unfold maxLen at this; omega
          clear hrow hxn hsh
          have HO : RowKit.Hid (Below wr.heap.size wr (wr.alloc (.cells #[.int .u8 kd, .int .i64 id, .slice xa xn xc] 58))) := (Below.refl _ _).alloc (Nat.le_refl _) _
          have v2 := World.cell?_alloc_new wr #[.int .u8 kd, .int .i64 id, .slice xa xn xc] 58 2
          simp only [List.getElem?_toArray, List.getElem?_cons_zero, List.getElem?_cons_succ] at v2
          by_cases h8 : xn ≤ 8
          · have z8 : decide (8 < (xn : Int)) = false := by simp; omega
            go_upto_region 6 with (fail)
            generalize hW2 : wr.alloc _ = W2 at *
            clear hW2
            have vl := World.block_lt_of_cell? W2 _ v2
            go_upto_region 9 with (fail)
            have HI : RowKit.Hid ((((xr.drop 0).all fun v => decide (v.text.size ≤ 40)) && (l.drop (k + 1)).all (fun o => shortR o.r)) = q) := by
             show _ = _
             rw [← Ha.out, Hst.out, decide_eq_true h8, List.drop_zero]
             rfl
            clear v2 vl h8 Ha Hst
            obtain ⟨wr0, rfl⟩ : ∃ x, x = wr := ⟨_, rfl⟩
            obtain ⟨gk0, rfl⟩ : ∃ x, x = gk := ⟨_, rfl⟩
            go_loopg [40] xn (fun g z w3 => ∃ j : Nat, z = .int .i64 j ∧ g + j = xn ∧ RowKit.Hid ((((xr.drop j).all fun v => decide (v.text.size ≤ 40)) && (l.drop (k + 1)).all (fun o => shortR o.r)) = q) ∧ RowKit.Hid (Below W2.heap.size W2 w3))
            case atStart => exact ⟨0, rfl, rfl, HI, Below.refl _ _⟩
            case round =>
             clear HI
             obtain ⟨j, rfl, hgj, Hi, Hb3⟩ := hrel
             have HBW := Lib.hid (HO.out.trans (Hb3.out.mono HO.out.size))
             by_cases hjj : j < xn
             · have hjl : j < xr.length := by rw [← HXN.out.1]; exact hjj
               have hrwr := HROW.out.mono HBW.out
               obtain ⟨bb, oo, rfl⟩ := hrwr.has j hjj
               obtain ⟨p0, p1, p2⟩ := hrwr.cell j hjl
               have pl := World.block_lt_of_cell? wr _ p0
               have Hst2 := Lib.hid (all_drop (fun v : Vl => decide (v.text.size ≤ 40)) xr j hjl)
               have hjn : (j : Int) < xn := by omega
               have Hgj := Lib.hid hgj
               clear hgj hrwr
               generalize xr[j] = y at *
               clear hjl
               obtain ⟨yk, yi, yt⟩ := y
               simp only at p0 p1 p2 Hst2
               have HO3 : RowKit.Hid (Below wr.heap.size wr (wr.alloc (.cells #[.int .i64 yk, .int .i64 yi, .string yt] 29))) := (Below.refl _ _).alloc (Nat.le_refl _) _
               have v2 := World.cell?_alloc_new wr #[.int .i64 yk, .int .i64 yi, .string yt] 29 2
               simp only [List.getElem?_toArray, List.getElem?_cons_zero, List.getElem?_cons_succ] at v2
               by_cases h40 : yt.size ≤ 40
               · have z40 : decide (40 < (yt.size : Int)) = false := by simp; omega
                 have HI2 : RowKit.Hid ((((xr.drop (j + 1)).all fun v => decide (v.text.size ≤ 40)) && (l.drop (k + 1)).all (fun o => shortR o.r)) = q) := by
                  show _ = _
                  rw [← Hi.out, Hst2.out, decide_eq_true h40]
                  rfl
                 clear h40 Hi Hst2
                 go_upto_region 11 with (fail)
                 generalize hW4 : wr.alloc _ = W4 at *
                 clear hW4
                 have vl := World.block_lt_of_cell? W4 _ v2
                 go_wp2
                 go_roundg (gk - 1)
                 case rel => exact ⟨j + 1, by go_num, by have := Hgj.out; omega, HI2, Hb3.out.trans (HO3.out.mono Hb3.out.size)⟩
                 case measure => have := Hgj.out; omega
               · have z40 : decide (40 < (yt.size : Int)) = true := by simp; omega
                 have hqt : RowKit.Hid (q = false) := by
                  show _ = _
                  rw [← Hi.out, Hst2.out, decide_eq_false h40]
                  rfl
                 obtain rfl := hqt.out
                 clear h40 Hi Hst2
                 go_upto_region 11 with (fail)
                 generalize hW4 : wr.alloc _ = W4 at *
                 clear hW4
                 have vl := World.block_lt_of_cell? W4 _ v2
                 go_wp2
                 go_ret
                 exact ⟨rfl, HB.out.trans ((Hb.out.trans ((HBW.out.trans (HO3.out.mono HBW.out.size)).mono Hb.out.size)).mono HB.out.size)⟩
             · obtain rfl : j = xn := by omega
               have HA2 : RowKit.Hid ((l.drop (k + 1)).all (fun o => shortR o.r) = q) := by
                show _ = _
                rw [← Hi.out, show xr.drop j = [] from List.drop_of_length_le (by rw [← HXN.out.1]; exact Nat.le_refl _)]
                rfl
               clear hgj Hi
               go_wp2
               go_roundg (gk0 - 1)
               case rel => exact ⟨k + 1, by go_num, by have := Hgk.out; omega, HA2, Hb.out.trans (HBW.out.mono Hb.out.size)⟩
               case measure => have := Hgk.out; omega
          · have z8 : decide (8 < (xn : Int)) = true := by simp; omega
            have hqt : RowKit.Hid (q = false) := by
             show _ = _
             rw [← Ha.out, Hst.out, decide_eq_false h8]
             rfl
            obtain rfl := hqt.out
            clear h8 Ha Hst
            go_upto_region 6 with (fail)
            generalize hW2 : wr.alloc _ = W2 at *
            clear hW2
            have vl := World.block_lt_of_cell? W2 _ v2
            go_wp2
            go_ret
            exact ⟨rfl, HB.out.trans ((Hb.out.trans (HO.out.mono Hb.out.size)).mono HB.out.size)⟩
        · obtain rfl : k = n := by omega
          have hqt : RowKit.Hid (q = true) := by
           show _ = _
           rw [← Ha.out, List.drop_of_length_le (by rw [HN.out]; exact Nat.le_refl _)]
           rfl
          obtain rfl := hqt.out
          clear hgk
          go_wp2
          go_ret
          exact ⟨rfl, HB.out.trans (Hb.out.mono HB.out.size)⟩
     · have z3 : decide (6 < (fn : Int)) = true := by simp; omega
       have hqt : RowKit.Hid (q = false) := by show _ = _; rw [← HQ.out, decide_eq_true h1, decide_eq_true h2, decide_eq_false h3]; rfl
       obtain rfl := hqt.out
       clear h1 h2 h3 HQ
       go_enter Tryz.func10, Tryz.ntmps10
       go_upto_region 1 with (fail)
       generalize hW : w.alloc _ = W at *
       clear hW
       have Vl := World.block_lt_of_cell? W _ V1
       go_wp2
       go_ret
       exact ⟨rfl, HB.out⟩
   · have z2 : decide (6 < (kn : Int)) = true := by simp; omega
     have hqt : RowKit.Hid (q = false) := by show _ = _; rw [← HQ.out, decide_eq_true h1, decide_eq_false h2]; rfl
     obtain rfl := hqt.out
     clear h1 h2 HQ
     go_enter Tryz.func10, Tryz.ntmps10
     go_upto_region 1 with (fail)
     generalize hW : w.alloc _ = W at *
     clear hW
     have Vl := World.block_lt_of_cell? W _ V1
     go_wp2
     go_ret
     exact ⟨rfl, HB.out⟩
 · have z1 : decide (most < (n : Int)) = true := by simp; omega
   have hqt : RowKit.Hid (q = false) := by show _ = _; rw [← HQ.out, decide_eq_false h1]; rfl
   obtain rfl := hqt.out
   clear h1 HQ
   go_enter Tryz.func10, Tryz.ntmps10
   go_upto_region 1 with (fail)
   generalize hW : w.alloc _ = W at *
   clear hW
   have Vl := World.block_lt_of_cell? W _ V1
   go_wp2
   go_ret
   exact ⟨rfl, HB.out⟩
end Go.Proofs.YtnefkkidfhmggaaGreat
/- play's drawn region. -/
namespace Go.Proofs.YtnefkkidfhmggaaGreat
open Go Go.RowKit
/-- A call that lays a piece; it may read the others. -/
theorem Rg.Ob.callNew2 (G : Rg) (i k : Nat) {ds : List Nat} {A : (Nat → Value) → Asn} (B : (Nat → Value) → Value → Asn) {f : Nat} {args : (Nat → Value) → Array Value}
 (hc : ∀ L a w, stP G (lk (closOf G.ops) i L) (slots a) w → Calls G.P f (args (slots a)) w fun e w2 => ∃ v f', e = .returned v ∧ G.shp i (slots a) v = v ∧ (B (slots a) v).p w2 f' ∧ Below w.heap.size w w2 ∧ ∀ k ∈ f', w.heap.size ≤ k)
 (hk : G.pcs[k]? = some (.new i ds A) := by rfl) (hA : ∀ g v, A (rv ds (sput g (dstOf G.ops i) v)) = B g v := by intro _ _; exact kr (by kernel_rfl)) (hr : ∀ a w, (execOp (G.env i a) (opAt G.ops i)).run G.P w = .ok (.enter f (args (slots a))) w := by intro _ _; exact kr (by kernel_rfl))
 (hself : ((closOf G.ops).getD i []).elem i = false := by exact kr (by kernel_rfl))
 (hq : G.quiet i k = true := by exact kr (by kernel_rfl)) (hw : ∀ a, wantE G.ops (opAt G.ops i) (G.env i a) = some true := by intro _; exact kr (by kernel_rfl)) : G.Ob i :=
 Rg.Ob.call G i k (args := fun a => args (slots a)) hr (fun L a w fp _ hS hp => by
  rw [new_before hself] at hp
  obtain rfl : fp = [] := hp
  refine (hc L a w hS).mono ?_
  rintro e w2 ⟨v, f', rfl, h1, h2, h3, h4⟩
  refine ⟨_, rfl, h1, f', ?_, ⟨h3.os, h3.tape, h3.output, h3.size, fun k hk _ => h3.block k hk, fun k hk => .inr (h4 k hk)⟩⟩
  rw [new_after, hA]
  exact h2) hk hq hw
/-- An operation that is carried out at once and turns one piece, whatever else was done. -/
theorem Rg.Ob.run1 (G : Rg) (i k : Nat) {p : Pc} (PB : (Nat → Value) → Asn) (PA : (Nat → Value) → Value → Asn)
 (h : ∀ L a w fp, stP G (lk (closOf G.ops) i L) (slots a) w → (PB (slots a)).p w fp → ∃ v w' f', (execOp (G.env i a) (opAt G.ops i)).run G.P w = .ok (.value v) w' ∧ G.shp i (slots a) v = v ∧ (PA (slots a) v).p w' f' ∧ Tr w w' fp f')
 (hk : G.pcs[k]? = some p := by rfl) (hB : ∀ L g, p.at (lk (closOf G.ops) i L) g = PB g := by intro _ _; exact kr (by kernel_rfl)) (hA : ∀ L g v, p.at (ln (closOf G.ops) i L) (sput g (dstOf G.ops i) v) = PA g v := by intro _ _ _; exact kr (by kernel_rfl))
 (hq : G.quiet i k = true := by exact kr (by kernel_rfl)) (hw : ∀ a, wantE G.ops (opAt G.ops i) (G.env i a) = some true := by intro _; exact kr (by kernel_rfl)) : G.Ob i :=
 Rg.Ob.eff G i k hk (fun L a w fp _ hS hp => by
  rw [hB] at hp
  obtain ⟨v, w', f', h1, h2, h3, h4⟩ := h L a w fp hS hp
  rw [h1]
  exact ⟨G.shp_of h2, f', by rw [hA]; exact h3, h4⟩) hq hw
/-- .. without a value. -/
theorem Rg.Ob.skip1 (G : Rg) (i k : Nat) {p : Pc} (PB PA : (Nat → Value) → Asn)
 (h : ∀ L a w fp, stP G (lk (closOf G.ops) i L) (slots a) w → (PB (slots a)).p w fp → ∃ w' f', (execOp (G.env i a) (opAt G.ops i)).run G.P w = .ok .skip w' ∧ (PA (slots a)).p w' f' ∧ Tr w w' fp f')
 (hk : G.pcs[k]? = some p := by rfl) (hB : ∀ L g, p.at (lk (closOf G.ops) i L) g = PB g := by intro _ _; exact kr (by kernel_rfl)) (hA : ∀ L g, p.at (ln (closOf G.ops) i L) g = PA g := by intro _ _; exact kr (by kernel_rfl))
 (hd : dstOf G.ops i = none := by exact kr (by kernel_rfl)) (hvo : (G.valOf i).isNone = true := by exact kr (by kernel_rfl)) (hq : G.quiet i k = true := by exact kr (by kernel_rfl)) (hw : ∀ a, wantE G.ops (opAt G.ops i) (G.env i a) = some true := by intro _; exact kr (by kernel_rfl)) : G.Ob i :=
 Rg.Ob.eff G i k hk (fun L a w fp _ hS hp => by
  have hvo' : G.valOf i = none := by simpa using hvo
  rw [hB] at hp
  obtain ⟨w', f', h1, h3, h4⟩ := h L a w fp hS hp
  rw [h1, hd, hvo']
  exact ⟨fun t h => (nomatch h), f', by rw [sput_none, hA]; exact h3, h4⟩) hq hw
/-- What table lays. -/
def tabA (v : Value) (n : Nat) (kv fv : Value) : Asn := exA fun q : (Option Addr × Nat) × Nat × Nat => starA [pureA (v = .agg #[.string ⟨#[116]⟩, .slice q.1.1 n q.1.2, .slice (some ⟨q.2.1, 0, none⟩) 1 1, .slice (some ⟨q.2.2, 0, none⟩) 1 1, .slice none 0 0]), blkA q.2.1 22 #[kv], blkA q.2.2 129 #[fv, .int .i64 0, .int .i64 0]]
theorem piece_of {w0 w : World} {_fp0 : List Nat} {A : Asn} (h : St w [] [A] w0) : ∃ f, A.p w0 f ∧ Below w.heap.size w w0 ∧ ∀ k ∈ f, w.heap.size ≤ k := by
 obtain ⟨fp, ⟨f, g, h3, hg, -, e⟩, ht⟩ := h
 obtain rfl : g = [] := hg
 rw [List.append_nil] at e
 subst e
 exact ⟨_, h3, ht.below (Nat.le_refl _) (fun k hk => nomatch hk), fun k hk => (ht.new k hk).resolve_left (by simp)⟩
theorem table_new (n : Nat) (hn : n ≤ 1000) (ka fa : Option Addr) (kn kc fn fc : Nat) (w : World) : Calls Tryz.prog 27 #[.int .i64 n, .slice ka kn kc, .slice fa fn fc] w fun e w' => ∃ v f, e = .returned v ∧ (tabA v n (.slice ka kn kc) (.slice fa fn fc)).p w' f ∧ Below w.heap.size w w' ∧ ∀ k ∈ f, w.heap.size ≤ k := by
 refine (table_calls n ka fa kn kc fn fc hn w w [] [] (St.start (L := []) (fp := []) rfl)).mono ?_
 rintro e w' ⟨ca, cc, kb, fb, rfl, h⟩
 have h1 : St w [] ([pureA (Value.agg #[.string ⟨#[116]⟩, .slice ca n cc, .slice (some ⟨kb, 0, none⟩) 1 1, .slice (some ⟨fb, 0, none⟩) 1 1, .slice none 0 0] = Value.agg #[.string ⟨#[116]⟩, .slice ca n cc, .slice (some ⟨kb, 0, none⟩) 1 1, .slice (some ⟨fb, 0, none⟩) 1 1, .slice none 0 0]), blkA kb 22 #[.slice ka kn kc], blkA fb 129 #[.slice fa fn fc, .int .i64 0, .int .i64 0]] ++ []) w' := St.pure.2 ⟨rfl, h⟩
 obtain ⟨f, h2, h3, h4⟩ := piece_of (_fp0 := []) (h1.fold (B := tabA _ n (.slice ka kn kc) (.slice fa fn fc)) fun f hf => ⟨((ca, cc), kb, fb), hf⟩)
 exact ⟨_, f, rfl, h2, h3, h4⟩
theorem new_new (v : Value) (n : Nat) (ka fa : Option Addr) (kn kc fn fc : Nat) (K F : List Int) (hK : K.length ≤ 1000) (hF : F.length ≤ 1000) (w : World) (ht : ∃ f, (tabA v n (.slice ka kn kc) (.slice fa fn fc)).p w f) (h1 : IntsX [] w K (.slice ka kn kc)) (h2 : IntsX [] w F (.slice fa fn fc)) :
 Calls Tryz.prog 26 #[v] w fun e w' => ∃ S f, e = .returned (ptrV S) ∧ (storeA S n (([K] ++ [F]).foldl (addI n) []) [] 1).p w' f ∧ Below w.heap.size w w' ∧ ∀ k ∈ f, w.heap.size ≤ k := by
 obtain ⟨f, ⟨⟨ca, cc⟩, kb, fb⟩, hf⟩ := ht
 obtain ⟨_, ⟨rfl, -⟩, -⟩ := Star.get 0 rfl (show Star w [pureA (v = .agg #[.string ⟨#[116]⟩, .slice ca n cc, .slice (some ⟨kb, 0, none⟩) 1 1, .slice (some ⟨fb, 0, none⟩) 1 1, .slice none 0 0]), blkA kb 22 #[.slice ka kn kc], blkA fb 129 #[.slice fa fn fc, .int .i64 0, .int .i64 0]] f from hf)
 obtain ⟨_, hb1, -⟩ := Star.get 1 rfl (show Star w [pureA _, blkA kb 22 #[.slice ka kn kc], blkA fb 129 #[.slice fa fn fc, .int .i64 0, .int .i64 0]] f from hf)
 obtain ⟨_, hb2, -⟩ := Star.get 2 rfl (show Star w [pureA _, blkA kb 22 #[.slice ka kn kc], blkA fb 129 #[.slice fa fn fc, .int .i64 0, .int .i64 0]] f from hf)
 have k1 : KeysX w [.slice ka kn kc] [K] (.slice (some ⟨kb, 0, none⟩) 1 1) := ⟨SlX.of_blk (X := []) hb1.1 (by simp) (by show 1 ≤ maxLen; unfold maxLen; omega) rfl, fun i hi => by
  obtain rfl : i = 0 := by simpa using hi
  exact ⟨_, rfl, h1⟩⟩
 have k2 : ForsX w [.slice fa fn fc, .int .i64 0, .int .i64 0] [F] (.slice (some ⟨fb, 0, none⟩) 1 1) := ⟨SlX.of_blk (X := []) hb2.1 (by simp) (by show 1 ≤ maxLen; unfold maxLen; omega) rfl, fun i hi => by
  obtain rfl : i = 0 := by simpa using hi
  exact ⟨_, 0, 0, rfl, rfl, rfl, h2⟩⟩
 have m : ∀ w' fp, Tr w w' [] fp → Below w.heap.size w w' := fun w' fp ht => ht.below (Nat.le_refl _) fun k hk => nomatch hk
 refine (SNew_calls _ ca none n cc 0 0 _ _ [K] [F] [.slice ka kn kc] [.slice fa fn fc, .int .i64 0, .int .i64 0] (by simpa using hK) (by simpa using hF) (by simp) (by simp) w w [] [] (Rd.of_tr fun w' fp ht => ?_) (Rd.of_tr fun w' fp ht => ?_) (St.start (L := []) (fp := []) rfl)).mono ?_
 · exact ⟨k1.1.mono (m _ _ ht), fun i hi => by
    obtain ⟨u, h3, h4⟩ := k1.2 i hi
    exact ⟨u, h3, h4.mono (m _ _ ht)⟩⟩
 · exact ⟨k2.1.mono (m _ _ ht), fun i hi => by
    obtain ⟨u, a, b, h3, h4, h5, h6⟩ := k2.2 i hi
    exact ⟨u, a, b, h3, h4, h5, h6.mono (m _ _ ht)⟩⟩
 · rintro e w' ⟨S, rfl, h⟩
   obtain ⟨f, h3, h4, h5⟩ := piece_of (_fp0 := []) h
   exact ⟨S, f, rfl, h3, h4, h5⟩
end Go.Proofs.YtnefkkidfhmggaaGreat
/- play's drawn region, by tables. -/
namespace Go.Proofs.YtnefkkidfhmggaaGreat
open Go Go.RowKit
set_option maxRecDepth 100000
theorem appIS : AppSrc Tryz.prog 22 22 3 1 := appSrc (z := .int .i64 0) (bytes := 8) (by kernel_rfl) (by kernel_rfl) rfl (by decide) (by decide)
theorem emptyI (w : World) : (slA 3 (.slice (some ⟨w.heap.size, 0, none⟩) 0 0) []).p (w.alloc (.cells #[] 3)) [w.heap.size] := row_empty (size := 1) ⟨heap_alloc_new w _, rfl⟩
theorem trNew {w : World} {fp : List Nat} (h : emp.p w fp) (o : Obj) : Tr w (w.alloc o) fp [w.heap.size] := by
 obtain rfl : fp = [] := h
 have hb : Below w.heap.size w (w.alloc o) := (Below.refl _ _).alloc (Nat.le_refl _) _
 exact ⟨hb.os, hb.tape, hb.output, hb.size, fun k hk _ => hb.block k hk, fun k hk => .inr (by rw [List.mem_singleton.1 hk]; exact Nat.le_refl _)⟩
theorem exec_app {P : Program} {o : Oper} {env : Operand → Value} {w w' : World} {s x : Operand} {t tx : TypeId} {v u r : Value} (hop : o.op = .call ⟨.builtin .append, #[s, x], #[t, tx]⟩) (hs : env s = v) (hx : env x = u) (h : (Builtin.append_ #[t, tx] o.type #[v, u]).run P w = .ok r w') : (execOp env o).run P w = .ok (.value r) w' := by
 unfold execOp
 simp only [hop, resolve, invoke, builtin, Sem.run_bind, Sem.run_pure, Result.andThen_ok, List.map_toArray, List.map_cons, List.map_nil, hs, hx, h]
theorem exec_store {P : Program} {o : Oper} {env : Operand → Value} {w w' : World} {ty : TypeId} {x y : Operand} {p u : Value} (hop : o.op = .store ty x y) (hx : env x = p) (hy : env y = u) (h : (Instr.storeAt ty p u).run P w = .ok () w') : (execOp env o).run P w = .ok .skip w' := by
 simp only [execOp, hop, hx, hy, Sem.run_bind, h, Result.andThen_ok, Sem.run_pure]
theorem store3 {P : Program} {w : World} {ty t : TypeId} {b : Nat} {o0 o1 o2 v0 v1 v2 : Value} {f : List Nat} (hb : (blkA b t #[o0, o1, o2]).p w f) (hz : (sizeOf ty).run P w = .ok 3 w) (h0 : v0.oneCell' = true) (h1 : v1.oneCell' = true) (h2 : v2.oneCell' = true) :
 ∃ w' f', (Instr.storeAt ty (.pointer (some ⟨b, 0, none⟩)) (.agg #[v0, v1, v2])).run P w = .ok () w' ∧ (blkA b t #[v0, v1, v2]).p w' f' ∧ Tr w w' f f' := by
 have c0 := (blk_get hb).1 0
 have f0 := (blk_get hb).2.1 0
 obtain ⟨hb1, t1⟩ := blk_set hb 0 v0
 have c1 := (blk_get hb1).1 1
 have f1 := (blk_get hb1).2.1 1
 obtain ⟨hb2, t2⟩ := blk_set hb1 1 v1
 have c2 := (blk_get hb2).1 2
 have f2 := (blk_get hb2).2.1 2
 obtain ⟨hb3, t3⟩ := blk_set hb2 2 v2
 have a0 : (⟨b, 0, none⟩ : Addr).add 0 = ⟨b, 0, none⟩ := by simp [Addr.add]
 have a1 : (⟨b, 0, none⟩ : Addr).add 1 = ⟨b, 1, none⟩ := by simp [Addr.add]
 have a2 : (⟨b, 0, none⟩ : Addr).add 2 = ⟨b, 2, none⟩ := by simp [Addr.add]
 have e : (Value.agg #[v0, v1, v2]).cells = #[v0, v1, v2] := rfl
 refine ⟨_, _, ?_, hb3, (t1.trans t2).trans t3⟩
 simp only [List.getElem?_toArray, List.getElem?_cons_zero, List.getElem?_cons_succ, List.setIfInBounds_toArray, List.set_cons_succ, List.set_cons_zero] at c0 c1 c2
 simp [Instr.storeAt, Instr.sureAddr, storeVar, hz, e, storeCells, a0, a1, a2, run_store P _ _ v0 .plain h0, run_store P _ _ v1 .plain h1, run_store P _ _ v2 .plain h2, c0, f0, c1, f1, c2, f2]
theorem slSelf {t : TypeId} {w : World} {v : Value} {xs : List Value} {f : List Nat} (h : (slA t v xs).p w f) : (slA t (.slice (sa v) (sn v) (sc v)) xs).p w f := by
 obtain ⟨a, n, c, rfl⟩ := sl_shape h
 exact h
theorem one_int (l : List Int) : ∀ u ∈ l.map intC, u.oneCell' = true := by
 intro u hu
 obtain ⟨z, -, rfl⟩ := List.mem_map.1 hu
 rfl
theorem slOf {w : World} {v : Value} {l : List Int} {f : List Nat} (h : (rowA 3 1 v l.length (l.map intC)).p w f) : (slA 3 v (l.map intC)).p w f := by
 have h1 : (rowA 3 1 v (l.map intC).length (l.map intC)).p w f := by rw [List.length_map]; exact h
 exact h1
noncomputable def gPl2 (b2 n kn kc fn fc : Nat) (u : Int) (ka fa : Option Addr) (K F : List Int) := rgx Tryz.prog Tryz.f11 2 160 [28, 29, 30, 31, 32, 33, 34, 35, 36, 37, 38, 39, 40, 9, 8] [(7, .int .i64 n), (2, pV b2 0)] (Vq 0 28 [Kv (.int .i64 n)] ++ Vq 2 30 [Kp b2 1, Kv (.slice ka kn kc), Vf.slice] ++ Vq 6 34 [Kp b2 2, Kv (.slice fa fn fc), Vf.slice] ++ Vq 10 38 [Vf.ptr, Kv (.int .i64 n), Kv (.agg #[.int .i64 n, .slice none 0 0, .int .i64 1])] ++ Vq 13 9 [Vf.ptr] ++ Vq 14 8 [Fv [38] fun g => .pointer (some ⟨pb (g 38), 0, none⟩)]) [Bk b2 (24) [.int .u8 u, .slice ka kn kc, .slice fa fn fc], .gen [1, 4] [29, 32] fun L g => match L 4 with | true => slA 3 (g 32) (K.map intC) | false => match L 1 with | true => slA 3 (g 29) [] | false => emp, .gen [5, 8] [33, 36] fun L g => match L 8 with | true => slA 3 (g 36) (F.map intC) | false => match L 5 with | true => slA 3 (g 33) [] | false => emp, .new 9 [37, 32, 36] fun g => tabA (g 37) n (.slice (sa (g 32)) (sn (g 32)) (sc (g 32))) (.slice (sa (g 36)) (sn (g 36)) (sc (g 36))), .new 10 [38] fun g => storeA (pb (g 38)) n (([K] ++ [F]).foldl (addI n) []) [] 1, .gen [13, 15] [9] fun L g => match L 15 with | true => atA 37 (g 9) #[.int .i64 n, .slice none 0 0, .int .i64 1] | false => match L 13 with | true => atA 37 (g 9) #[.int .i64 0, .slice none 0 0, .int .i64 0] | false => emp, .new 12 [40] fun _g => emp]
theorem rPl2 (b2 n kn kc fn fc : Nat) (u : Int) (ka fa : Option Addr) (K F : List Int) (w0 : World) (fp0 : List Nat) (R : List Asn) (hn : n ≤ 1000) (hK : K.length ≤ 1000) (hF : F.length ≤ 1000) (hkr : ∀ L w, St w0 fp0 (L ++ R) w → SlX [] w 1 K.length (K.map intC) (.slice ka kn kc)) (hfr : ∀ L w, St w0 fp0 (L ++ R) w → SlX [] w 1 F.length (F.map intC) (.slice fa fn fc)) {w : World} {c : Code} {a : Act} {Q : Exit → Act → World → Prop} (c1 : isReg c = true) (c2 : cops c = opsR Tryz.f11 2) (c3 : a.tmps.size = 160) (_c4 : a.defers = a.defers) (i7 : a.eval (.tmp 7) = .int .i64 n) (i2 : a.eval (.tmp 2) = .pointer (some ⟨b2, 0, none⟩))
 (hS : St w0 fp0 ([blkA b2 (24) #[.int .u8 u, .slice ka kn kc, .slice fa fn fc], emp, emp, emp, emp, emp, emp] ++ R) w)
 (hQ : ∀ (u8 u9 u29 u32 u33 u36 u37 u38 : Value) (w1 : World), (∃ a n c, u32 = .slice a n c) → (∃ a n c, u36 = .slice a n c) → (∃ b, u38 = .pointer (some ⟨b, 0, none⟩)) → (∃ b, u9 = .pointer (some ⟨b, 0, none⟩)) → u8 = .pointer (some ⟨pb (u38), 0, none⟩) → St w0 fp0 ([blkA b2 (24) #[.int .u8 u, .slice ka kn kc, .slice fa fn fc], slA 3 (u32) (K.map intC), slA 3 (u36) (F.map intC), tabA (u37) n (.slice (sa (u32)) (sn (u32)) (sc (u32))) (.slice (sa (u36)) (sn (u36)) (sc (u36))), storeA (pb (u38)) n (([K] ++ [F]).foldl (addI n) []) [] 1, atA 37 (u9) #[.int .i64 n, .slice none 0 0, .int .i64 1], emp] ++ R) w1 → Q .normal (putL a [(28, .int .i64 n), (29, u29), (30, .pointer (some ⟨b2, 1, none⟩)), (31, .slice ka kn kc), (32, u32), (33, u33), (34, .pointer (some ⟨b2, 2, none⟩)), (35, .slice fa fn fc), (36, u36), (37, u37), (38, u38), (39, .int .i64 n), (40, .agg #[.int .i64 n, .slice none 0 0, .int .i64 1]), (9, u9), (8, u8)]) w1) : c.wp Tryz.prog Q a w := by
 have ok : (gPl2 b2 n kn kc fn fc u ka fa K F w0 fp0 R).Ok 16 := Rg.ok _ 16 [1, 3, 4, 5, 7, 8, 9, 10, 12, 13, 15] ⟨.run1 _ 1 1 (fun _ => emp) (fun _ v => slA 3 v []) (fun L a w fp _ hp => ⟨.slice (some ⟨w.heap.size, 0, none⟩) 0 0, w.alloc (.cells #[] 3), [w.heap.size], kr (by kernel_rfl), rfl, emptyI w, trNew hp _⟩), .load _ 3 0 1, .run1 _ 4 1 (fun g => slA 3 (g 29) []) (fun _ v => slA 3 v (K.map intC)) (fun L a w fp hS hp => (by obtain ⟨v, w2, f2, h1, h2, h3⟩ := appIS (opAt (opsR Tryz.f11 2) 4).type w (slots a 29) 0 [] fp (.slice ka kn kc) K.length (K.map intC) hp ((hkr _ w hS).src (tx := 22) (e' := 3) (by kernel_rfl) (by decide) (one_int _)) (by omega); rw [Nat.zero_add, List.nil_append] at h2; have h4 : (slA 3 v (K.map intC)).p w2 f2 := slOf h2; obtain ⟨va, vn, vc, rfl⟩ := sl_shape h4; exact ⟨_, w2, f2, exec_app rfl (kr (by kernel_rfl)) (kr (by kernel_rfl)) h1, kr (by kernel_rfl), h4, h3⟩)), .run1 _ 5 2 (fun _ => emp) (fun _ v => slA 3 v []) (fun L a w fp _ hp => ⟨.slice (some ⟨w.heap.size, 0, none⟩) 0 0, w.alloc (.cells #[] 3), [w.heap.size], kr (by kernel_rfl), rfl, emptyI w, trNew hp _⟩), .load _ 7 0 2, .run1 _ 8 2 (fun g => slA 3 (g 33) []) (fun _ v => slA 3 v (F.map intC)) (fun L a w fp hS hp => (by obtain ⟨v, w2, f2, h1, h2, h3⟩ := appIS (opAt (opsR Tryz.f11 2) 8).type w (slots a 33) 0 [] fp (.slice fa fn fc) F.length (F.map intC) hp ((hfr _ w hS).src (tx := 22) (e' := 3) (by kernel_rfl) (by decide) (one_int _)) (by omega); rw [Nat.zero_add, List.nil_append] at h2; have h4 : (slA 3 v (F.map intC)).p w2 f2 := slOf h2; obtain ⟨va, vn, vc, rfl⟩ := sl_shape h4; exact ⟨_, w2, f2, exec_app rfl (kr (by kernel_rfl)) (kr (by kernel_rfl)) h1, kr (by kernel_rfl), h4, h3⟩)), .callNew2 _ 9 3 (f := 27) (args := fun g => #[.int .i64 n, .slice (sa (g 32)) (sn (g 32)) (sc (g 32)), .slice (sa (g 36)) (sn (g 36)) (sc (g 36))]) (fun g v => tabA v n (.slice (sa (g 32)) (sn (g 32)) (sc (g 32))) (.slice (sa (g 36)) (sn (g 36)) (sc (g 36)))) (fun L a w hS => (table_new n hn (sa (slots a 32)) (sa (slots a 36)) (sn (slots a 32)) (sc (slots a 32)) (sn (slots a 36)) (sc (slots a 36)) w).mono fun e w2 h => (by obtain ⟨v, f, e1, h2, h3, h4⟩ := h; exact ⟨v, f, e1, kr (by kernel_rfl), h2, h3, h4⟩)), .callNew2 _ 10 4 (f := 26) (args := fun g => #[g 37]) (fun g v => storeA (pb v) n (([K] ++ [F]).foldl (addI n) []) [] 1) (fun L a w hS => (by obtain ⟨_, t1⟩ := St.has (A := slA 3 (slots a 32) (K.map intC)) hS 1 (kr (by kernel_rfl)); obtain ⟨_, t2⟩ := St.has (A := slA 3 (slots a 36) (F.map intC)) hS 2 (kr (by kernel_rfl)); have t3 := St.has (A := tabA (slots a 37) n (.slice (sa (slots a 32)) (sn (slots a 32)) (sc (slots a 32))) (.slice (sa (slots a 36)) (sn (slots a 36)) (sc (slots a 36)))) hS 3 (kr (by kernel_rfl)); refine (new_new (slots a 37) n _ _ _ _ _ _ K F hK hF w t3 (intsX_of (slSelf t1)) (intsX_of (slSelf t2))).mono ?_; rintro e w2 ⟨S, f, e1, h2, h3, h4⟩; exact ⟨_, f, e1, kr (by kernel_rfl), h2, h3, h4⟩)), .callNew2 _ 12 6 (f := 31) (args := fun _ => #[.int .i64 n]) (fun _ _ => emp) (fun L a w hS => (RNew_calls n w).mono fun e w2 h => ⟨_, [], h.1, kr (by kernel_rfl), rfl, h.2, by simp⟩), .run1 _ 13 5 (fun _ => emp) (fun _ v => atA 37 v #[.int .i64 0, .slice none 0 0, .int .i64 0]) (fun L a w fp _ hp => ⟨.pointer (some ⟨w.heap.size, 0, none⟩), w.alloc (.cells #[.int .i64 0, .slice none 0 0, .int .i64 0] 37), [w.heap.size], kr (by kernel_rfl), kr (by kernel_rfl), ⟨w.heap.size, rfl, heap_alloc_new w _, rfl⟩, trNew hp _⟩), .skip1 _ 15 5 (fun g => atA 37 (g 9) #[.int .i64 0, .slice none 0 0, .int .i64 0]) (fun g => atA 37 (g 9) #[.int .i64 n, .slice none 0 0, .int .i64 1]) (fun L a w fp hS hp => (by obtain ⟨b, e, hb⟩ := hp; obtain ⟨w2, f2, h1, h2, h3⟩ := store3 (P := Tryz.prog) (ty := 37) (v0 := .int .i64 n) (v1 := .slice none 0 0) (v2 := .int .i64 1) hb (kr (by kernel_rfl)) rfl rfl rfl; exact ⟨w2, f2, exec_store rfl (Eq.trans (b := Value.pointer (some ⟨pb (slots a 9), 0, none⟩)) (kr (by kernel_rfl)) (by rw [e]; rfl)) (kr (by kernel_rfl)) h1, ⟨b, e, h2⟩, h3⟩)), trivial⟩
 refine wp_regD ok (by kernel_rfl) ⟨c1, c2⟩ ⟨c3, fun p hp => ?_⟩ hS fun A1 w1 N1 H1 => ?_
 · simp only [gPl2, rgx, List.map_nil, List.append_nil, List.mem_cons, List.not_mem_nil, or_false] at hp
   rcases hp with rfl | rfl
   · exact i7
   · exact i2
 have e28 := N1.val 0 rfl
 have e30 := N1.val 1 rfl
 have e31 := N1.val 2 rfl
 have e32 := N1.val 3 rfl
 have e34 := N1.val 4 rfl
 have e35 := N1.val 5 rfl
 have e36 := N1.val 6 rfl
 have e38 := N1.val 7 rfl
 have e39 := N1.val 8 rfl
 have e40 := N1.val 9 rfl
 have e9 := N1.val 10 rfl
 have e8 := N1.val 11 rfl
 have h := hQ (slots A1 8) (slots A1 9) (slots A1 29) (slots A1 32) (slots A1 33) (slots A1 36) (slots A1 37) (slots A1 38) w1 ⟨_, _, _, e32⟩ ⟨_, _, _, e36⟩ ⟨_, e38⟩ ⟨_, e9⟩ e8 H1
 rw [frame_eq N1.frame (cons_eq e28 (cons_eq rfl (cons_eq e30 (cons_eq e31 (cons_eq rfl (cons_eq rfl (cons_eq e34 (cons_eq e35 (cons_eq rfl (cons_eq rfl (cons_eq rfl (cons_eq e39 (cons_eq e40 (cons_eq rfl (cons_eq rfl rfl)))))))))))))))]
 exact h
end Go.Proofs.YtnefkkidfhmggaaGreat
/- play's last region. -/
namespace Go.Proofs.YtnefkkidfhmggaaGreat
open Go Go.RowKit
set_option maxRecDepth 100000
theorem Rg.Ob.eqlS (G : Rg) (i : Nat) (k : IntKind) (p : Int) {ty r : TypeId} {x y : Operand} (hop : (opAt G.ops i).op = .binOp .eql ty x y r := by rfl) (hx : ∀ a, G.env i a x = .int k p := by intro _; exact kr (by kernel_rfl)) (hy : ∀ a, G.env i a y = .int k p := by intro _; exact kr (by kernel_rfl)) (hv : ∀ g, G.valD i g = .bool true := by intro _; exact kr (by kernel_rfl))
 (hq : (G.quiet i G.pcs.length && G.okV i) = true := by exact kr (by kernel_rfl)) (hw : ∀ a, wantE G.ops (opAt G.ops i) (G.env i a) = some true := by intro _; exact kr (by kernel_rfl)) : G.Ob i := Rg.Ob.read G i hq hw fun L a w _ _ => by
 simp [execOp, hop, hx, hy, go_sem, hv]
noncomputable def gPn (S b9 b5 cols n lc : Nat) (la : Option Addr) (next : Int) (A : Asn) := rgx Tryz.prog Tryz.f11 30 160 [145, 146, 147, 148, 149, 150, 151, 152, 153, 154, 155, 156, 157, 158, 159, 4, 6] [(8, pV S 0), (9, pV b9 0), (5, pV b5 0)] (Vq 0 145 [Kp S 0, Kv (.agg #[.int .i64 cols, .slice la n lc, .int .i64 next]), Kp S 0, Kv (.int .i64 n), Kp b9 1, Kv (.slice la n lc), Kv (.int .i64 n), Kv (.bool true), Kv (.bool true), Kp S 0, Kv (.int .i64 next), Kp b9 2, Kv (.int .i64 next), Kv (.bool true), Kv (.bool true)] ++ Vq 15 4 [Kp S 0] ++ Vq 17 6 [Kv (.bool true)]) [.all (A), Bk b9 (37) [.int .i64 cols, .slice la n lc, .int .i64 next], .gen [16] [] fun L _g => match L 16 with | true => blkA b5 37 #[.int .i64 cols, .slice la n lc, .int .i64 next] | false => blkA b5 37 #[.int .i64 0, .slice none 0 0, .int .i64 0]]
theorem rPn (S b9 b5 cols n lc : Nat) (la : Option Addr) (next : Int) (A : Asn) (w0 : World) (fp0 : List Nat) (R : List Asn) (hLen : ∀ w f, A.p w f → Calls Tryz.prog 30 #[ptrV S] w fun e w' => e = .returned (.int .i64 n) ∧ Below w.heap.size w w') (hNext : ∀ w f, A.p w f → Calls Tryz.prog 28 #[ptrV S] w fun e w' => e = .returned (.int .i64 next) ∧ Below w.heap.size w w') {w : World} {c : Code} {a : Act} {Q : Exit → Act → World → Prop} (c1 : isReg c = true) (c2 : cops c = opsR Tryz.f11 30) (c3 : a.tmps.size = 160) (_c4 : a.defers = a.defers) (i8 : a.eval (.tmp 8) = .pointer (some ⟨S, 0, none⟩)) (i9 : a.eval (.tmp 9) = .pointer (some ⟨b9, 0, none⟩)) (i5 : a.eval (.tmp 5) = .pointer (some ⟨b5, 0, none⟩))
 (hS : St w0 fp0 ([A, blkA b9 (37) #[.int .i64 cols, .slice la n lc, .int .i64 next], blkA b5 37 #[.int .i64 0, .slice none 0 0, .int .i64 0]] ++ R) w)
 (hQ : ∀ (w1 : World), St w0 fp0 ([A, blkA b9 (37) #[.int .i64 cols, .slice la n lc, .int .i64 next], blkA b5 37 #[.int .i64 cols, .slice la n lc, .int .i64 next]] ++ R) w1 → Q .normal (putL a [(145, .pointer (some ⟨S, 0, none⟩)), (146, .agg #[.int .i64 cols, .slice la n lc, .int .i64 next]), (147, .pointer (some ⟨S, 0, none⟩)), (148, .int .i64 n), (149, .pointer (some ⟨b9, 1, none⟩)), (150, .slice la n lc), (151, .int .i64 n), (152, .bool true), (153, .bool true), (154, .pointer (some ⟨S, 0, none⟩)), (155, .int .i64 next), (156, .pointer (some ⟨b9, 2, none⟩)), (157, .int .i64 next), (158, .bool true), (159, .bool true), (4, .pointer (some ⟨S, 0, none⟩)), (6, .bool true)]) w1) : c.wp Tryz.prog Q a w := by
 have ok : (gPn S b9 b5 cols n lc la next A w0 fp0 R).Ok 18 := Rg.ok _ 18 [1, 3, 5, 7, 10, 12, 13, 16] ⟨.run1 _ 1 1 (fun _ => blkA b9 37 #[.int .i64 cols, .slice la n lc, .int .i64 next]) (fun _ _ => blkA b9 37 #[.int .i64 cols, .slice la n lc, .int .i64 next]) (fun L a w fp _ hp => (by have c0 := (blk_get hp).1 0; have c1 := (blk_get hp).1 1; have c2 := (blk_get hp).1 2; exact ⟨.agg #[.int .i64 cols, .slice la n lc, .int .i64 next], w, fp, load3 rfl (kr (by kernel_rfl)) (kr (by kernel_rfl)) (kr (by kernel_rfl)) c0 c1 c2, kr (by kernel_rfl), hp, Tr.refl _ _⟩)), .ask1 _ 3 0 hLen, .load _ 5 1 1, .eqlS _ 7 .i64 n, .ask1 _ 10 0 hNext, .load _ 12 1 2, .eqlS _ 13 .i64 next, .skip1 _ 16 2 (fun _ => blkA b5 37 #[.int .i64 0, .slice none 0 0, .int .i64 0]) (fun _ => blkA b5 37 #[.int .i64 cols, .slice la n lc, .int .i64 next]) (fun L a w fp hS hp => (by obtain ⟨w2, f2, h1, h2, h3⟩ := store3 (P := Tryz.prog) (ty := 37) (v0 := .int .i64 cols) (v1 := .slice la n lc) (v2 := .int .i64 next) hp (kr (by kernel_rfl)) rfl rfl rfl; exact ⟨w2, f2, exec_store rfl (kr (by kernel_rfl)) (kr (by kernel_rfl)) h1, h2, h3⟩)), trivial⟩
 refine wp_regD ok (by kernel_rfl) ⟨c1, c2⟩ ⟨c3, fun p hp => ?_⟩ hS fun A1 w1 N1 H1 => ?_
 · simp only [gPn, rgx, List.map_nil, List.append_nil, List.mem_cons, List.not_mem_nil, or_false] at hp
   rcases hp with rfl | rfl | rfl
   · exact i8
   · exact i9
   · exact i5
 have e145 := N1.val 0 rfl
 have e146 := N1.val 1 rfl
 have e147 := N1.val 2 rfl
 have e148 := N1.val 3 rfl
 have e149 := N1.val 4 rfl
 have e150 := N1.val 5 rfl
 have e151 := N1.val 6 rfl
 have e152 := N1.val 7 rfl
 have e153 := N1.val 8 rfl
 have e154 := N1.val 9 rfl
 have e155 := N1.val 10 rfl
 have e156 := N1.val 11 rfl
 have e157 := N1.val 12 rfl
 have e158 := N1.val 13 rfl
 have e159 := N1.val 14 rfl
 have e4 := N1.val 15 rfl
 have e6 := N1.val 16 rfl
 have h := hQ  w1  H1
 rw [frame_eq N1.frame (cons_eq e145 (cons_eq e146 (cons_eq e147 (cons_eq e148 (cons_eq e149 (cons_eq e150 (cons_eq e151 (cons_eq e152 (cons_eq e153 (cons_eq e154 (cons_eq e155 (cons_eq e156 (cons_eq e157 (cons_eq e158 (cons_eq e159 (cons_eq e4 (cons_eq e6 rfl)))))))))))))))))]
 exact h
end Go.Proofs.YtnefkkidfhmggaaGreat
