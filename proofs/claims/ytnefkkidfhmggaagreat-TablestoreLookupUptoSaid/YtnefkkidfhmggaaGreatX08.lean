/- Part 8 of the proof: Sb, Sw, Rf, Rg2, Rh2, Ri2 -/
import Derived.Test.YtnefkkidfhmggaaGreatX07
/- The store: add, New, Insert. -/
namespace Go.Proofs.YtnefkkidfhmggaaGreat
open Go Go.RowKit
theorem add1_calls (S cols vb : Nat) (c : Int) (w : World) (hv : w.cell? ⟨vb, 0, none⟩ = some (ptrV S)) (hc : w.cell? ⟨S, 0, none⟩ = some (.int .i64 cols)) :
 Calls Tryz.prog 103 #[.int .i64 c, .pointer (some ⟨vb, 0, none⟩)] w fun e w' => e = .returned (.bool (!decide (0 ≤ c ∧ c < cols))) ∧ Below w.heap.size w w' := by
 have HC := Lib.hid (has_calls S cols c w hc)
 have hl := World.block_lt_of_cell? w _ hv
 unfold ptrV at *
 generalize decide (0 ≤ c ∧ c < (cols : Int)) = q at *
 clear hc
 go_enter Tryz.func103, Tryz.ntmps103
 go_wp2_with fail
 (with_reducible refine HC.out.mono ?_)
 rintro e w1 ⟨rfl, rfl⟩
 clear HC
 go_wp2
 go_ret
 exact ⟨rfl, Below.refl _ _⟩
/-- Whether add adds an index; the columns of the indexes then. -/
def addB (cols : Nat) (I : List (List Int)) (cs : List Int) : Bool := !(cs.any fun c => !decide (0 ≤ c ∧ c < (cols : Int))) && (!(I.any fun x => decide (x = cs)) && decide (0 < cs.length))
def addI (cols : Nat) (I : List (List Int)) (cs : List Int) : List (List Int) := if addB cols I cs then I ++ [cs] else I
theorem findIx_some (ixs : List Ix) (cs : List Int) : (findIx ixs cs).isSome = (ixs.map (·.cs)).any fun x => decide (x = cs) := by
 unfold findIx
 rw [List.any_map, Bool.eq_iff_iff, List.find?_isSome, List.any_eq_true]
 rfl
theorem ix_ints {w : World} {f : List Nat} {S : Nat} {s : Sto} (h : Star w (stoL S s) f) {x : Ix} (hx : x ∈ s.ixs) : IntsX [] w x.cs x.cv := by
 obtain ⟨i, hi, rfl⟩ := List.mem_iff_getElem.1 hx
 obtain ⟨g, hg, -⟩ := Star.get (s.es.length + i + 3) (A := ixA s.ixs[i]) (by
  show (blkA _ _ _ :: _ :: _ :: (s.es.map reA ++ s.ixs.map ixA))[s.es.length + i + 3]? = _
  simp only [List.getElem?_cons_succ]
  rw [List.getElem?_append_right (by simp), List.length_map, Nat.add_sub_cancel_left, List.getElem?_map, List.getElem?_eq_getElem hi]
  rfl) h
 have hg' : Star w [slA 3 s.ixs[i].cv (s.ixs[i].cs.map intC), objA true 16 s.ixs[i].kh s.ixs[i].km s.ixs[i].kb] g := hg
 obtain ⟨g2, hg2, -⟩ := Star.get 0 rfl hg'
 exact intsX_of hg2
theorem sto_row {w : World} {f : List Nat} {S : Nat} {s : Sto} (h : Star w (stoL S s) f) : SlX [] w 2 s.ixs.length (ixV s.ixs) s.iv := by
 obtain ⟨g, hg, -⟩ := Star.get 2 (A := rowA 97 2 s.iv s.ixs.length (ixV s.ixs)) rfl h
 exact row_sl hg (ixV_len _)
theorem sto_blk {w : World} {f : List Nat} {S : Nat} {s : Sto} (h : Star w (stoL S s) f) : ∀ j, w.cell? ⟨S, j, none⟩ = #[Value.int .i64 s.cols, ptrV s.tb, .int .i64 s.next, s.iv][j]? := by
 obtain ⟨g, hg, -⟩ := Star.get 0 (A := blkA S 119 #[.int .i64 s.cols, ptrV s.tb, .int .i64 s.next, s.iv]) rfl h
 exact (blk_get hg).1
set_option maxHeartbeats 4000000 in
set_option maxRecDepth 20000 in
theorem SAdd_calls (S cols : Nat) (I : List (List Int)) (cs : List Int) (cv : Value) (hcl : cs.length ≤ 1000) (hI : I.length + 1 < 1099511627776) (w0 w : World) (fp0 : List Nat) (R : List Asn) (hv : Rd w0 fp0 R fun w => IntsX [] w cs cv) (hS : St w0 fp0 (storeA S cols I [] 1 :: R) w) :
 Calls Tryz.prog 71 #[ptrV S, cv] w fun e w' => e = .returned (.tuple #[]) ∧ St w0 fp0 (storeA S cols (addI cols I cs) [] 1 :: R) w' := by
 obtain ⟨s, hok, hs⟩ := hS.openS
 have hb1 : Below w.heap.size w (w.alloc (.cells #[ptrV S] 34)) := (Below.refl _ _).alloc (Nat.le_refl _) _
 have hs1 := (hs.newblk 34 #[ptrV S])
 obtain ⟨f1, hf1⟩ := (hs.mono hb1).star_of
 have hvb : (w.alloc (.cells #[ptrV S] 34)).cell? ⟨w.heap.size, 0, none⟩ = some (ptrV S) := World.cell?_alloc_new _ _ _ 0
 have hcell : (w.alloc (.cells #[ptrV S] 34)).cell? ⟨S, 0, none⟩ = some (.int .i64 cols) := by rw [sto_blk hf1 0, ← hok.ecols]; rfl
 have hrd : ∀ w', St w0 fp0 (blkA w.heap.size 34 #[ptrV S] :: (stoL S s ++ R)) w' → IntsX [] w' cs cv := fun w' h => hv.at (M := blkA w.heap.size 34 #[ptrV S] :: stoL S s) h
 obtain ⟨ca, cn, cc, rfl, hcn, -⟩ := (hrd _ hs1).shape
 have HC := Lib.hid (containsI_calls cs _ 103 (.pointer (some ⟨w.heap.size, 0, none⟩)) (fun c => !decide (0 ≤ c ∧ c < (cols : Int))) _ (enters_own Tryz.func103 (by kernel_rfl) rfl) (hrd _ hs1) fun i _ w' hb => add1_calls S cols w.heap.size i w' ((hb.cell (p := ⟨w.heap.size, 0, none⟩) (by simp)).trans hvb) ((hb.cell (p := ⟨S, 0, none⟩) (World.block_lt_of_cell? _ _ hcell)).trans hcell))
 have HF : RowKit.Hid (∀ w', St w0 fp0 (blkA w.heap.size 34 #[ptrV S] :: (stoL S s ++ R)) w' → Calls Tryz.prog 47 #[ptrV S, .slice ca cn cc] w' fun e w'' => e = .returned (.tuple #[findV (findIx s.ixs cs), .bool (findIx s.ixs cs).isSome]) ∧ Below w'.heap.size w' w'') := by
  intro w' h
  obtain ⟨f, hf⟩ := h.drop.star_of
  exact sfind_calls S s.ixs s.iv cs _ w' (by rw [sto_blk hf 3]; rfl) (sto_row hf) (fun x hx => ix_ints hf hx) (hrd _ h)
 have hfi := findIx_some s.ixs cs
 rw [hok.eixs] at hfi
 obtain ⟨q1, hq1⟩ : ∃ q, (cs.any fun c => !decide (0 ≤ c ∧ c < (cols : Int))) = q := ⟨_, rfl⟩
 rw [hq1] at HC
 have HQ : RowKit.Hid (addI cols I cs = if (!q1 && (!(findIx s.ixs cs).isSome && decide (0 < cs.length))) then I ++ [cs] else I) := by
  show _ = _
  rw [addI, addB, hq1, hfi]
 have HSH : RowKit.Hid (∀ x, findIx s.ixs cs = some x → x ∈ s.ixs) := fun x hx => List.mem_of_find?_eq_some hx
 have HS1 := Lib.hid hs1
 have HNO : RowKit.Hid (∀ w', St w0 fp0 (blkA w.heap.size 34 #[ptrV S] :: (stoL S s ++ R)) w' → St w0 fp0 (storeA S cols I [] 1 :: R) w') := fun w' h => St.shutS hok h.drop
 generalize findIx s.ixs cs = fo at *
 rw [← hcn] at HQ
 have HCN := Lib.hid hcn
 have HADD : RowKit.Hid (q1 = false → 0 < cn → ∀ (w' : World) (xa : Option Addr) (xn xc kb b : Nat) (bx : Asn), St w0 fp0 ([blkA w.heap.size 34 #[ptrV S], blkA S 119 #[.int .i64 s.cols, ptrV s.tb, .int .i64 s.next, .slice (some ⟨b, 0, none⟩) xn xc], bx] ++ R) w' → True) := fun _ _ _ _ _ _ _ _ _ _ => trivial
 clear HADD
 have hok' := hok
 have HOK := Lib.hid hok
 have HCL := Lib.hid hcl
 have HIL := Lib.hid hI
 have HV := Lib.hid hv
 have HQ1 := Lib.hid hq1
 have hixl : s.ixs.length = I.length := by rw [← hok.eixs, List.length_map]
 have HIXL := Lib.hid hixl
 clear hS hs hb1 hs1 hf1 hvb hcell hrd hv hok hok' hfi hq1 hcl hI hcn hixl
 obtain ⟨scl, snx, sh, stb, siv, ses, sixs⟩ := s
 simp only at *
 generalize addI cols I cs = I2 at *
 unfold ptrV at *
 go_enter Tryz.func71, Tryz.ntmps71
 go_wp2_with fail
 (with_reducible refine HC.out.mono ?_)
 rintro e w1 ⟨rfl, hb⟩
 have H1 := Lib.hid (HS1.out.mono hb)
 have HF1 := Lib.hid (HF.out w1 H1.out)
 obtain ⟨_, hbv⟩ := H1.out.has 0 rfl
 have v0 := (blk_get hbv).1 0
 have vl := (blk_get hbv).2.2
 simp only [List.getElem?_toArray, List.getElem?_cons_zero] at v0
 clear hb HC HS1 HF hbv
 generalize w.heap.size = vb at *
 go_wp2_with fail
 (with_reducible refine HF1.out.mono ?_)
 rintro e w2 ⟨rfl, hb⟩
 have H2 := Lib.hid (H1.out.mono hb)
 obtain ⟨_, hbv⟩ := H2.out.has 0 rfl
 have v0 := (blk_get hbv).1 0
 have vl := (blk_get hbv).2.2
 simp only [List.getElem?_toArray, List.getElem?_cons_zero] at v0
 clear hb HF1 H1 hbv
 cases fo with
 | some x =>
  have HE : RowKit.Hid (I2 = I) := by show _ = _; rw [HQ.out]; simp
  obtain ⟨_, hsx⟩ : ∃ f, IntsX [] w2 x.cs x.cv ∧ f = 0 := by
   obtain ⟨f, hf⟩ := H2.out.drop.star_of
   exact ⟨0, ix_ints hf (HSH.out x rfl), rfl⟩
  obtain ⟨xa, xn, xc, hxv, -⟩ := hsx.1.shape
  obtain ⟨xcv, xcs, xkb, xkh, xkm⟩ := x
  simp only at hxv
  subst hxv
  unfold findV ptrV
  have HFI : RowKit.Hid (∀ w', Below w2.heap.size w2 w' → St w0 fp0 (storeA S cols I2 [] 1 :: R) w') := fun w' hb => by rw [HE.out]; exact HNO.out w' (H2.out.mono hb)
  clear hsx HSH HNO H2
  cases q1
  all_goals
   go_wp2
   go_end0
   exact ⟨rfl, HFI.out _ ((Below.refl _ _).alloc (Nat.le_refl _) _)⟩
 | none =>
  unfold findV
  cases q1
  · by_cases h0 : 0 < cn
    · have h0' : (0 : Int) < cn := by omega
      have H0 := Lib.hid h0
      have HE : RowKit.Hid (I2 = I ++ [cs]) := by show _ = _; rw [HQ.out]; simp [h0]
      clear HQ h0 HNO
      go_upto_region 4 with (fail)
      refine rSa4 (w0 := w0) (fp0 := fp0) vb S stb sixs.length scl snx siv (.slice ca cn cc) (ixV sixs) (cs.map intC) (objA false 16 sh (reM ses) stb :: (ses.map reA ++ sixs.map ixA) ++ R) (fun L w' h => ?_) (by have := HIL.out; have := HIXL.out; omega) rfl (by kernel_rfl) rfl rfl rfl rfl ?_ ?_
      · have h1 : IntsX [] w' cs (.slice ca cn cc) := HV.out.at (M := L ++ (objA false 16 sh (reM ses) stb :: (ses.map reA ++ sixs.map ixA))) (by rw [List.append_assoc]; exact h)
        have h2 := cloneI (cs.map intC) cs.length _ w' h1 (by intro u hu; obtain ⟨b, _, rfl⟩ := List.mem_map.1 hu; rfl) (by have := HCL.out; omega)
        refine h2.mono fun e w3 ⟨v, f, e1, h3, h4, h5⟩ => ⟨v, f, e1, ?_, h4, h5⟩
        rw [← List.length_map (f := intC)] at h3
        exact h3
      · have h1 := H2.out.mono ((Below.refl _ w2).alloc (Nat.le_refl _) (.cells #[.slice none 0 0, .pointer none] 97))
        have h2 := St.emp.2 (St.emp.2 (St.emp.2 h1))
        refine h2.perm ?_
        classical
        exact List.perm_iff_count.2 fun a => by simp only [stoL, ptrV, List.cons_append, List.nil_append, List.count_append, List.count_cons]; omega
      · intro u33 u34 u35 u36 u37 w3 s33 s34 s35 s36 s37 h
        obtain ⟨xa, xn, xc, rfl⟩ := s33
        obtain ⟨xb, rfl⟩ := s34
        have HF : RowKit.Hid (St w0 fp0 (storeA S cols I2 [] 1 :: R) w3) := by
         have hok := HOK.out
         have h1 : St w0 fp0 (stoL S ⟨scl, snx, sh, stb, u37, ses, sixs ++ [⟨.slice xa xn xc, cs, xb, 0, []⟩]⟩ ++ R) w3 := by
          have h2 : St w0 fp0 ([blkA vb 34 #[.pointer (some ⟨S, 0, none⟩)], boxsA 97 u36 #[.slice xa xn xc, .pointer (some ⟨xb, 0, none⟩)]] ++ ([blkA S 119 #[.int .i64 scl, .pointer (some ⟨stb, 0, none⟩), .int .i64 snx, u37], slA 3 (.slice xa xn xc) (cs.map intC), objA true 16 0 [] xb, rowA 97 2 u37 (sixs.length + 1) (ixV sixs ++ [Value.slice xa xn xc, Value.pointer (some ⟨xb, 0, none⟩)])] ++ (objA false 16 sh (reM ses) stb :: (ses.map reA ++ sixs.map ixA) ++ R))) w3 := by
           refine h.perm ?_
           classical
           exact List.perm_iff_count.2 fun a => by simp only [sa, sn, sc, pb, List.cons_append, List.nil_append, List.count_append, List.count_cons]; omega
          have h3 := St.dropAll h2
          have h4 : St w0 fp0 (ixA ⟨.slice xa xn xc, cs, xb, 0, []⟩ :: (blkA S 119 #[.int .i64 scl, .pointer (some ⟨stb, 0, none⟩), .int .i64 snx, u37] :: rowA 97 2 u37 (sixs.length + 1) (ixV sixs ++ [Value.slice xa xn xc, Value.pointer (some ⟨xb, 0, none⟩)]) :: (objA false 16 sh (reM ses) stb :: (ses.map reA ++ sixs.map ixA) ++ R))) w3 := by
           refine St.star.2 (h3.perm ?_)
           classical
           exact List.perm_iff_count.2 fun a => by simp only [List.cons_append, List.nil_append, List.count_append, List.count_cons]; omega
          refine h4.perm ?_
          have e1 : ixV (sixs ++ [⟨.slice xa xn xc, cs, xb, 0, []⟩]) = ixV sixs ++ [Value.slice xa xn xc, Value.pointer (some ⟨xb, 0, none⟩)] := by simp [ixV, ptrV]
          classical
          exact List.perm_iff_count.2 fun a => by simp only [stoL, ptrV, e1, List.length_append, List.length_cons, List.length_nil, Nat.zero_add, List.map_append, List.map_cons, List.map_nil, List.cons_append, List.count_append, List.count_cons, List.count_nil]; omega
         rw [HE.out]
         refine St.shutS (s := ⟨scl, snx, sh, stb, u37, ses, sixs ++ [⟨.slice xa xn xc, cs, xb, 0, []⟩]⟩) ⟨?_, hok.ecols, hok.enext, hok.rows, hok.asc, hok.nx, hok.row, fun y hy => ?_⟩ h1
         · have := hok.eixs
           simp only at this
           simp only [List.map_append, List.map_cons, List.map_nil, this]
         · rcases List.mem_append.1 hy with hy | hy
           · exact hok.ixs y hy
           · rw [List.mem_singleton.1 hy]
             refine ⟨?_, HCL.out, ?_, IxOk.nil _, List.Pairwise.nil⟩
             · intro e
               have := H0.out
               rw [HCN.out, show cs = [] from e] at this
               exact absurd this (by simp)
             · have := HQ1.out
               rw [List.any_eq_false] at this
               intro c hc
               simpa using this c hc
        clear h HSH H2 HV HOK
        simp only [putL, List.foldl, Act.put, List.setIfInBounds_toArray, List.set_cons_succ, List.set_cons_zero]
        go_wp2
        go_end0
        exact ⟨rfl, HF.out⟩
    · have HE : RowKit.Hid (I2 = I) := by show _ = _; rw [HQ.out]; simp [h0]
      have HFI : RowKit.Hid (∀ w', Below w2.heap.size w2 w' → St w0 fp0 (storeA S cols I2 [] 1 :: R) w') := fun w' hb => by rw [HE.out]; exact HNO.out w' (H2.out.mono hb)
      have h0' : ¬ (0 : Int) < cn := by omega
      clear HSH HNO H2 HQ h0
      go_wp2
      go_end0
      exact ⟨rfl, HFI.out _ ((Below.refl _ _).alloc (Nat.le_refl _) _)⟩
  · have HE : RowKit.Hid (I2 = I) := by show _ = _; rw [HQ.out]; simp
    have HFI : RowKit.Hid (∀ w', Below w2.heap.size w2 w' → St w0 fp0 (storeA S cols I2 [] 1 :: R) w') := fun w' hb => by rw [HE.out]; exact HNO.out w' (H2.out.mono hb)
    clear HSH HNO H2 HQ
    go_wp2
    go_end0
    exact ⟨rfl, HFI.out _ ((Below.refl _ _).alloc (Nat.le_refl _) _)⟩
end Go.Proofs.YtnefkkidfhmggaaGreat
/- The store: New, Insert. -/
namespace Go.Proofs.YtnefkkidfhmggaaGreat
open Go Go.RowKit
/-- Lists of columns that are read: of keys; of foreign keys. -/
def KeysX (w : World) (vs : List Value) (ks : List (List Int)) (v : Value) : Prop := SlX [] w 1 ks.length vs v ∧ ∀ i (h : i < ks.length), ∃ u, vs[i]? = some u ∧ IntsX [] w ks[i] u
def ForsX (w : World) (vs : List Value) (ks : List (List Int)) (v : Value) : Prop := SlX [] w 3 ks.length vs v ∧ ∀ i (h : i < ks.length), ∃ u a b, vs[i * 3]? = some u ∧ vs[i * 3 + 1]? = some (.int .i64 a) ∧ vs[i * 3 + 2]? = some (.int .i64 b) ∧ IntsX [] w ks[i] u
theorem addI_len (n : Nat) : ∀ (l : List (List Int)) (I : List (List Int)), (l.foldl (addI n) I).length ≤ I.length + l.length
 | [], I => by simp
 | c :: l, I => by
  have h1 := addI_len n l (addI n I c)
  have h2 : (addI n I c).length ≤ I.length + 1 := by unfold addI; split <;> simp
  simp only [List.foldl_cons, List.length_cons]
  omega
theorem SlX.some {X : List Nat} {w : World} {size n : Nat} {xs : List Value} {v : Value} (h : SlX X w size n xs v) {j : Nat} {u : Value} (hj : xs[j]? = some u) : ∃ b o c, v = .slice (some ⟨b, o, none⟩) n c ∧ w.cell? ⟨b, o + j, none⟩ = some u := by
 obtain ⟨hl, rfl⟩ := List.getElem?_eq_some_iff.1 hj
 obtain ⟨_, _, a, c, rfl, h4⟩ := h
 obtain ⟨b, o, rfl, _, h7⟩ := h4 j hl
 exact ⟨b, o, c, rfl, h7⟩
set_option maxHeartbeats 4000000 in
set_option maxRecDepth 20000 in
theorem SNew_calls (nm : ByteArray) (ca xa : Option Addr) (n cc xn xc : Nat) (kv fv : Value) (K F : List (List Int)) (kvs fvs : List Value) (hK : ∀ c ∈ K, c.length ≤ 1000) (hF : ∀ c ∈ F, c.length ≤ 1000) (hKl : K.length ≤ 1000000) (hFl : F.length ≤ 1000000) (w0 w : World) (fp0 : List Nat) (R : List Asn)
 (hk : Rd w0 fp0 R fun w => KeysX w kvs K kv) (hf : Rd w0 fp0 R fun w => ForsX w fvs F fv) (hS : St w0 fp0 R w) :
 Calls Tryz.prog 26 #[.agg #[.string nm, .slice ca n cc, kv, fv, .slice xa xn xc]] w fun e w' => ∃ S, e = .returned (ptrV S) ∧ St w0 fp0 (storeA S n ((K ++ F).foldl (addI n) []) [] 1 :: R) w' := by
 obtain ⟨ka, kc, rfl⟩ := (hk.here hS).1.shape
 obtain ⟨fa, fc, rfl⟩ := (hf.here hS).1.shape
 have HS := Lib.hid (hS.newblk 75 #[.string nm, .slice ca n cc, .slice ka K.length kc, .slice fa F.length fc, .slice xa xn xc])
 have HK := Lib.hid hk
 have HF := Lib.hid hf
 have HKC := Lib.hid hK
 have HFC := Lib.hid hF
 have HKL := Lib.hid hKl
 have HFL := Lib.hid hFl
 obtain ⟨IF, hIF⟩ : ∃ IF, (K ++ F).foldl (addI n) [] = IF := ⟨_, rfl⟩
 have HIF := Lib.hid hIF
 rw [hIF]
 obtain ⟨kn, hkn⟩ : ∃ kn, K.length = kn := ⟨_, rfl⟩
 obtain ⟨fn, hfn⟩ : ∃ fn, F.length = fn := ⟨_, rfl⟩
 have HKN := Lib.hid hkn
 have HFN := Lib.hid hfn
 have hkn63 : kn ≤ 9223372036854775807 := by omega
 have hfn63 : fn ≤ 9223372036854775807 := by omega
 have hkn6 : kn ≤ 1000000 := by omega
 rw [hkn] at HK
 rw [hfn] at HF
 rw [hkn, hfn] at HS ⊢
 clear hk hf hS hK hF hIF hkn hfn hKl hFl
 go_enter Tryz.func26, Tryz.ntmps26
 go_upto_region 1 with (fail)
 obtain ⟨tv, htv⟩ : ∃ tv, w.heap.size = tv := ⟨_, rfl⟩
 rw [htv] at HS ⊢
 clear htv
 refine rSn1 (w0 := w0) (fp0 := fp0) tv n cc (.string nm) (.slice ka kn kc) (.slice fa fn fc) (.slice xa xn xc) ca R rfl (by kernel_rfl) rfl rfl rfl ?_ ?_
 · refine (St.emp.2 (St.emp.2 HS.out)).perm ?_
   classical
   exact List.perm_iff_count.2 fun a => by simp only [List.cons_append, List.nil_append, List.count_cons]; omega
 intro u3 u11 u12 u13 w1 s11 s12 s13 s3 h
 obtain ⟨tb, rfl⟩ := s11
 obtain ⟨S, rfl⟩ := s13
 obtain rfl : u3 = .pointer (some ⟨S, 0, none⟩) := s3
 have H1 : RowKit.Hid (St w0 fp0 (storeA S n ((K.take 0).foldl (addI n) []) [] 1 :: blkA tv 75 #[.string nm, .slice ca n cc, .slice ka kn kc, .slice fa fn fc, .slice xa xn xc] :: R) w1) := by
  have h2 : St w0 fp0 (atA 119 (.pointer (some ⟨S, 0, none⟩)) #[.int .i64 n, .pointer (some ⟨tb, 0, none⟩), .int .i64 1, .slice none 0 0] :: objA false 16 0 [] tb :: blkA tv 75 #[.string nm, .slice ca n cc, .slice ka kn kc, .slice fa fn fc, .slice xa xn xc] :: R) w1 := by
   refine h.perm ?_
   classical
   exact List.perm_iff_count.2 fun a => by simp only [pb, List.cons_append, List.nil_append, List.count_cons]; omega
  obtain ⟨b, e, h3⟩ := St.at_open h2
  injection e with e
  injection e with e
  injection e with e
  subst e
  have h4 := St.nilR 97 2 h3
  have h5 : St w0 fp0 (stoL S ⟨n, 1, 0, tb, .slice none 0 0, [], []⟩ ++ (blkA tv 75 #[.string nm, .slice ca n cc, .slice ka kn kc, .slice fa fn fc, .slice xa xn xc] :: R)) w1 := by
   refine h4.perm ?_
   classical
   exact List.perm_iff_count.2 fun a => by simp only [stoL, ptrV, reM, ixV, List.map_nil, List.flatMap_nil, List.length_nil, List.cons_append, List.nil_append, List.count_cons]; omega
  refine St.shutS ⟨rfl, rfl, rfl, rfl, List.Pairwise.nil, ⟨by omega, by omega⟩, fun x hx => absurd hx (by simp), fun x hx => absurd hx (by simp)⟩ h5
 clear h HS s12
 simp only [putL, List.foldl, Act.put, List.setIfInBounds_toArray, List.set_cons_succ, List.set_cons_zero]
 obtain ⟨_, hb⟩ := H1.out.has 1 rfl
 have c2 := (blk_get hb).1 2
 have hbl := (blk_get hb).2.2
 simp only [List.getElem?_toArray, List.getElem?_cons_zero, List.getElem?_cons_succ] at c2
 clear hb
 go_wp2
 go_loopg [17] kn (fun g z wr => ∃ k : Nat, z = .int .i64 k ∧ g + k = kn ∧ RowKit.Hid (St w0 fp0 (storeA S n ((K.take k).foldl (addI n) []) [] 1 :: blkA tv 75 #[.string nm, .slice ca n cc, .slice ka kn kc, .slice fa fn fc, .slice xa xn xc] :: R) wr))
 case atStart => exact ⟨0, rfl, rfl, H1⟩
 case round =>
  clear H1
  obtain ⟨k, rfl, hgk, Hs⟩ := hrel
  by_cases hk : k < kn
  · have hkl : k < K.length := by rw [HKN.out]; exact hk
    have hrd := HK.out.at (M := [_, _]) Hs.out
    obtain ⟨u, hu, -⟩ := hrd.2 k hkl
    have hrdk : Rd w0 fp0 (blkA tv 75 #[.string nm, .slice ca n cc, .slice ka kn kc, .slice fa fn fc, .slice xa xn xc] :: R) fun w => IntsX [] w K[k] u := (HK.out.imp fun w h => by
     obtain ⟨u', hu', h'⟩ := h.2 k hkl
     rw [hu] at hu'
     obtain rfl := Option.some.inj hu'
     exact h').cons _
    obtain ⟨b, o, c, e1, q1⟩ := hrd.1.some hu
    obtain ⟨rfl, -, rfl⟩ := Value.slice.inj e1
    have hql := World.block_lt_of_cell? wr _ q1
    have hA := SAdd_calls S n ((K.take k).foldl (addI n) []) K[k] u (HKC.out _ (List.getElem_mem hkl)) (by have := addI_len n (K.take k) []; rw [List.length_take, List.length_nil] at this; omega) w0 wr fp0 _ hrdk Hs.out
    have hst : addI n ((K.take k).foldl (addI n) []) K[k] = (K.take (k + 1)).foldl (addI n) [] := by
     rw [List.take_add_one, List.getElem?_eq_getElem hkl, List.foldl_append]
     rfl
    rw [hst] at hA
    have HA := Lib.hid hA
    have Hgk := Lib.hid hgk
    have hk' : (k : Int) < kn := by omega
    unfold ptrV at HA
    clear hrd hrdk hA hst hu e1 hkl hgk Hs
    go_wp2_with fail
    (with_reducible refine HA.out.mono ?_)
    rintro e w3 ⟨rfl, h3⟩
    have H3 := Lib.hid h3
    clear h3 HA
    go_wp2
    go_roundg (gk - 1)
    case rel => exact ⟨k + 1, by go_num, by have := Hgk.out; omega, H3⟩
    case measure => have := Hgk.out; omega
  · obtain rfl : k = kn := by omega
    have H1 : RowKit.Hid (St w0 fp0 (storeA S n ((K ++ F.take 0).foldl (addI n) []) [] 1 :: blkA tv 75 #[.string nm, .slice ca n cc, .slice ka k kc, .slice fa fn fc, .slice xa xn xc] :: R) wr) := by
     have h := Hs.out
     rw [List.take_of_length_le (by rw [HKN.out]; exact Nat.le_refl _)] at h
     rw [List.take_zero, List.append_nil]
     exact h
    obtain ⟨_, hb⟩ := H1.out.has 1 rfl
    have c3 := (blk_get hb).1 3
    have hbl := (blk_get hb).2.2
    simp only [List.getElem?_toArray, List.getElem?_cons_zero, List.getElem?_cons_succ] at c3
    clear hb Hs hgk hk
    go_wp2
    go_loopg [28] fn (fun g z wr => ∃ k2 : Nat, z = .int .i64 k2 ∧ g + k2 = fn ∧ RowKit.Hid (St w0 fp0 (storeA S n ((K ++ F.take k2).foldl (addI n) []) [] 1 :: blkA tv 75 #[.string nm, .slice ca n cc, .slice ka k kc, .slice fa fn fc, .slice xa xn xc] :: R) wr))
    case atStart => exact ⟨0, rfl, rfl, H1⟩
    case round =>
     clear H1
     obtain ⟨k2, rfl, hgk, Hs⟩ := hrel
     by_cases hk : k2 < fn
     · have hkl : k2 < F.length := by rw [HFN.out]; exact hk
       have hrd := HF.out.at (M := [_, _]) Hs.out
       obtain ⟨u, ua, ub, hu, hua, hub, -⟩ := hrd.2 k2 hkl
       have hrdk : Rd w0 fp0 (blkA tv 75 #[.string nm, .slice ca n cc, .slice ka k kc, .slice fa fn fc, .slice xa xn xc] :: R) fun w => IntsX [] w F[k2] u := (HF.out.imp fun w h => by
        obtain ⟨u', _, _, hu', _, _, h'⟩ := h.2 k2 hkl
        rw [hu] at hu'
        obtain rfl := Option.some.inj hu'
        exact h').cons _
       obtain ⟨b, o, c, e1, q1⟩ := hrd.1.some hu
       obtain ⟨_, _, _, e2, q2⟩ := hrd.1.some hua
       obtain ⟨_, _, _, e3, q3⟩ := hrd.1.some hub
       obtain ⟨rfl, -, rfl⟩ := Value.slice.inj e1
       obtain ⟨e2, -, -⟩ := Value.slice.inj e2
       obtain ⟨e3, -, -⟩ := Value.slice.inj e3
       injection e2 with e2
       injection e2 with e2 e2'
       injection e3 with e3
       injection e3 with e3 e3'
       subst e2 e2' e3 e3'
       rw [← Nat.add_assoc] at q2 q3
       obtain ⟨ua', un', uc', rfl, -⟩ := (hrdk.at (M := [_]) Hs.out).shape
       have hql := World.block_lt_of_cell? wr _ q1
       have hA := fun w' hb => SAdd_calls S n ((K ++ F.take k2).foldl (addI n) []) F[k2] (.slice ua' un' uc') (HFC.out _ (List.getElem_mem hkl)) (by have := addI_len n (K ++ F.take k2) []; rw [List.length_append, List.length_take, List.length_nil, HKN.out] at this; have := HFN.out; have := HKL.out; have := HFL.out; have := HKN.out; omega) w0 w' fp0 _ hrdk (Hs.out.mono hb)
       have hst : addI n ((K ++ F.take k2).foldl (addI n) []) F[k2] = (K ++ F.take (k2 + 1)).foldl (addI n) [] := by
        rw [List.take_add_one, List.getElem?_eq_getElem hkl, ← List.append_assoc, List.foldl_append (l := K ++ F.take k2)]
        rfl
       rw [hst] at hA
       have HA := Lib.hid hA
       have Hgk := Lib.hid hgk
       have hk' : (k2 : Int) < fn := by omega
       unfold ptrV at HA
       clear hrd hrdk hA hst hu hua hub e1 hkl hgk Hs
       go_wp2_with fail
       (with_reducible refine (HA.out _ ((Below.refl _ _).alloc (Nat.le_refl _) _)).mono ?_)
       rintro e w3 ⟨rfl, h3⟩
       have H3 := Lib.hid h3
       clear h3 HA
       go_wp2
       go_roundg (gk - 1)
       case rel => exact ⟨k2 + 1, by go_num, by have := Hgk.out; omega, H3⟩
       case measure => have := Hgk.out; omega
     · obtain rfl : k2 = fn := by omega
       have HR : RowKit.Hid (St w0 fp0 (storeA S n IF [] 1 :: R) wr) := by
        have h := Hs.out
        rw [List.take_of_length_le (by rw [HFN.out]; exact Nat.le_refl _), HIF.out] at h
        exact (h.perm (List.Perm.swap _ _ _)).drop
       clear Hs hgk hk
       go_wp2
       go_ret
       exact ⟨_, rfl, HR.out⟩
/-- The number that Insert returns. -/
def insV (cols : Nat) (r : Rw) (next : Int) : Int := if putOk cols next r then next else 0
set_option maxHeartbeats 4000000 in
theorem SInsert_calls (S cols : Nat) (I : List (List Int)) (L : LL) (next : Int) (r : Rw) (v : Value) (hri : ∀ v ∈ r, I64 v.int) (hc : cols ≤ 1000000) (hlen : L.length < 1099511627775) (w0 w : World) (fp0 : List Nat) (R : List Asn) (hv : Rd w0 fp0 R fun w => ValsAt w r v) (hS : St w0 fp0 (storeA S cols I L next :: R) w) :
 Calls Tryz.prog 23 #[ptrV S, v] w fun e w' => e = .returned (.int .i64 (insV cols r next)) ∧ St w0 fp0 (storeA S cols I (putLL cols next r L) (putN cols next r next) :: R) w' := by
 obtain ⟨s, hok, hs⟩ := hS.openS
 have hnx := hok.nx
 obtain ⟨f, hf⟩ := hs.star_of
 have c2 := sto_blk hf 2
 rw [show (#[Value.int .i64 s.cols, ptrV s.tb, .int .i64 s.next, s.iv] : Array Value)[2]? = some (.int .i64 s.next) from rfl, hok.enext] at c2
 have hl := World.block_lt_of_cell? w _ c2
 have HP := Lib.hid (SPut_calls S cols I L next next r v (by unfold I64; omega) hri hc hlen w0 w fp0 R hv hS)
 unfold insV
 obtain ⟨va, vn, vc, rfl, -⟩ := (hv.at (M := [_]) hS).shape
 obtain ⟨q, hq⟩ : ∃ q, putOk cols next r = q := ⟨_, rfl⟩
 rw [hq] at HP ⊢
 unfold errV at HP
 generalize putLL cols next r L = L2 at *
 generalize putN cols next r next = n2 at *
 clear hS hs hf hok hv hri hlen hc hq
 unfold ptrV at *
 cases q
 all_goals
  go_enter Tryz.func23, Tryz.ntmps23
  go_wp2_with fail
  (with_reducible refine HP.out.mono ?_)
  rintro e w1 ⟨rfl, h1⟩
  have H1 := Lib.hid h1
  clear h1 HP
  go_wp2
  go_ret
  exact ⟨rfl, H1.out⟩
end Go.Proofs.YtnefkkidfhmggaaGreat
/- The reference's store: New, Get, Delete. -/
namespace Go.Proofs.YtnefkkidfhmggaaGreat
open Go Go.RowKit
/-- A row with its number, in a list of the reference. -/
structure Ri where
 id : Int
 a : Option Addr
 n : Nat
 c : Nat
 r : Rw
def Ri.v (x : Ri) : Value := .slice x.a x.n x.c
def riV (l : List Ri) : List Value := l.flatMap fun x => [.int .i64 x.id, x.v]
def riA (v : Value) (l : List Ri) : Asn := rowA 56 2 v l.length (riV l)
def riL (l : List Ri) : LL := l.map fun x => (x.id, x.r)
theorem riV_len (l : List Ri) : (riV l).length = l.length * 2 := by
 induction l with
 | nil => rfl
 | cons x l ih => simp only [riV, List.flatMap_cons, List.length_append, List.length_cons, List.length_nil] at ih ⊢; omega
theorem riV_append (l m : List Ri) : riV (l ++ m) = riV l ++ riV m := List.flatMap_append
theorem riV_at (l : List Ri) (k : Nat) (hk : k < l.length) : (riV l)[k * 2]? = some (.int .i64 l[k].id) ∧ (riV l)[k * 2 + 1]? = some l[k].v := by
 induction l generalizing k with
 | nil => simp at hk
 | cons x l ih =>
  have e : riV (x :: l) = .int .i64 x.id :: x.v :: riV l := rfl
  cases k with
  | zero => exact ⟨rfl, rfl⟩
  | succ k =>
   have := ih k (by simpa using hk)
   rw [e, show (k + 1) * 2 = k * 2 + 1 + 1 by omega, show k * 2 + 1 + 1 + 1 = (k * 2 + 1) + 1 + 1 by omega]
   simpa using this
theorem ri_cells {X : List Nat} {w : World} {l : List Ri} {v : Value} (h : SlX X w 2 l.length (riV l) v) (k : Nat) (hk : k < l.length) : ∃ b o c, v = .slice (some ⟨b, o, none⟩) l.length c ∧ w.cell? ⟨b, o + k * 2, none⟩ = some (.int .i64 l[k].id) ∧ w.cell? ⟨b, o + k * 2 + 1, none⟩ = some l[k].v := by
 obtain ⟨e1, e2⟩ := riV_at l k hk
 obtain ⟨b, o, c, h1, h2⟩ := h.some e1
 obtain ⟨b', o', c', h3, h4⟩ := h.some e2
 rw [h1] at h3
 obtain ⟨h3, -, -⟩ := Value.slice.inj h3
 injection h3 with h3
 injection h3 with h3 h5
 subst h3 h5
 exact ⟨b, o, c, h1, h2, by rw [Nat.add_assoc]; exact h4⟩
theorem riA_sl {w : World} {v : Value} {l : List Ri} {f : List Nat} (h : (riA v l).p w f) : SlX [] w 2 l.length (riV l) v := row_sl h (riV_len l)
section
variable {P : Program}
theorem wpList_appR {w : World} {ops : Array Oper} {rest : List Oper} {o : Oper} {a : Act} {Q : Exit → Act → World → Prop} (hgd : o.guard = none) (s x : Operand) (t tx : TypeId)
 (ho : o.op = .call { callee := .builtin .append, args := #[s, x], argTypes := #[t, tx] }) {e : TypeId} {size : Nat} {v v2 : Value} (hs : a.eval s = v) (hx : a.eval x = v2) (hC : AppSrc P t tx e size) {w0 : World} {fp0 : List Nat} {L : List Asn} {n m : Nat} {xs news : List Value}
 (hS : St w0 fp0 (rowA e size v n xs :: L) w) (hsrc : Go.Src P size tx v2 m news w) (hl : n + m < 1099511627776)
 (h : ∀ v' w', RowKit.Hid (St w0 fp0 (rowA e size v' (n + m) (xs ++ news) :: L) w') → wpList P ops Q rest (a.put o.dst v') w') : wpList P ops Q (o :: rest) a w := by
 refine wpList_plain hgd fun K hK => ?_
 obtain ⟨v', w', hr, h2⟩ := St.appSrc hC o.type hS hsrc hl
 unfold Oper.wp execOp
 simp only [ho, resolve, invoke, builtin, Sem.run_bind, Sem.run_pure, Result.andThen_ok, List.map_toArray, List.map_cons, List.map_nil, hs, hx, hr]
 exact hK _ _ (h v' w' h2)
theorem src_litk {tx e' : TypeId} (hk : P.underlying tx = some (.slice e')) (w : World) (size b m c : Nat) (t : TypeId) (fr : Nat × Nat) (cs : Array Value) (h : w.heap[b]? = some (.cells cs t fr)) (hn : cs.size = m * size) (h1 : ∀ u ∈ cs.toList, u.oneCell' = true) : Go.Src P size tx (.slice (some ⟨b, 0, none⟩) m c) m cs.toList w :=
 Go.Src.ofSlice w hk _ m c _ (by simpa using hn) (fun j u hj => by
  rw [add_plain, Nat.zero_add, cell_of_row w b j cs t fr h]
  simpa using hj) h1
end
theorem appRI : AppSrc Tryz.prog 35 35 56 2 := appSrc (z := .agg #[.int .i64 0, .slice none 0 0]) (bytes := 32) (by kernel_rfl) (by kernel_rfl) rfl (by decide) (by decide)
/-- The reference's store as a value. -/
def rsV (cols : Nat) (lv : Value) (next : Int) : Value := .agg #[.int .i64 cols, lv, .int .i64 next]
set_option maxHeartbeats 4000000 in
theorem RNew_calls (cols : Nat) (w : World) : Calls Tryz.prog 31 #[.int .i64 cols] w fun e w' => e = .returned (rsV cols (.slice none 0 0) 1) ∧ Below w.heap.size w w' := by
 unfold rsV
 have hb : Below w.heap.size w (w.alloc (.cells #[.int .i64 0, .slice none 0 0, .int .i64 0] 37)) := (Below.refl _ _).alloc (Nat.le_refl _) _
 have Hb := Lib.hid hb
 obtain ⟨V0, V1, V2⟩ := VarIs.new w #[.int .i64 0, .slice none 0 0, .int .i64 0] 37
 clear hb
 go_enter Tryz.func31, Tryz.ntmps31
 go_wp2
 refine bodyPost_ret (v := .agg #[.int .i64 cols, .slice none 0 0, .int .i64 1]) (by simp [results, Tryz.results31, go_sem]) rfl ?_
 exact ⟨rfl, (Below.refl _ _).alloc (Nat.le_refl _) _⟩
/-- The item of a number. -/
def findRi (l : List Ri) (k : Int) : Option Ri := l.find? fun x => x.id == k
def riGet : Option Ri → Value
 | some x => x.v
 | none => .slice none 0 0
theorem findRi_step {l : List Ri} {k : Int} {i : Nat} (hi : i < l.length) : findRi (l.drop i) k = if l[i].id == k then some l[i] else findRi (l.drop (i + 1)) k := by
 rw [findRi, List.drop_eq_getElem_cons hi, List.find?_cons]
 cases h : (l[i].id == k) <;> rfl
set_option maxHeartbeats 4000000 in
theorem RGet_calls (cols : Nat) (lv : Value) (next k : Int) (l : List Ri) (w : World) (hs : SlX [] w 2 l.length (riV l) lv) :
 Calls Tryz.prog 32 #[rsV cols lv next, .int .i64 k] w fun e w' => e = .returned (.tuple #[riGet (findRi l k), .bool (findRi l k).isSome]) ∧ Below w.heap.size w w' := by
 obtain ⟨a, c, rfl⟩ := hs.shape
 obtain ⟨n, hn⟩ : ∃ n, l.length = n := ⟨_, rfl⟩
 have hb : Below w.heap.size w (w.alloc (.cells #[.int .i64 cols, .slice a n c, .int .i64 next] 37)) := (Below.refl _ _).alloc (Nat.le_refl _) _
 have HS := Lib.hid (hs.mono hb)
 have hn63 : n ≤ 9223372036854775807 := by have := hs.1; unfold maxLen at this; omega
 have HN := Lib.hid hn
 obtain ⟨fo, hfo⟩ : ∃ fo, findRi l k = fo := ⟨_, rfl⟩
 have HF : RowKit.Hid (findRi (l.drop 0) k = fo) := by show _ = _; rw [List.drop_zero]; exact hfo
 have V1 := World.cell?_alloc_new w #[.int .i64 cols, .slice a n c, .int .i64 next] 37 1
 simp only [List.getElem?_toArray, List.getElem?_cons_zero, List.getElem?_cons_succ] at V1
 have Hb := Lib.hid hb
 rw [hfo, hn]
 clear hs hfo hn hb
 unfold rsV
 go_enter Tryz.func32, Tryz.ntmps32
 go_upto_region 1 with (fail)
 generalize hW : w.alloc _ = W at *
 clear hW
 have Vl := World.block_lt_of_cell? W _ V1
 go_wp2
 go_loopg [6] n (fun g z wr => ∃ i : Nat, z = .int .i64 i ∧ g + i = n ∧ wr = W ∧ RowKit.Hid (findRi (l.drop i) k = fo))
 case atStart => exact ⟨0, rfl, rfl, rfl, HF⟩
 case round =>
  clear HF
  obtain ⟨i, rfl, hgi, rfl, Hf⟩ := hrel
  by_cases hi : i < n
  · have hil : i < l.length := by rw [HN.out]; exact hi
    have hst := findRi_step (k := k) hil
    have hs := HS.out
    obtain ⟨b, o, c', e1, q1, q2⟩ := ri_cells hs i hil
    obtain ⟨rfl, -, rfl⟩ := Value.slice.inj e1
    have hql := World.block_lt_of_cell? _ _ q1
    have hi' : (i : Int) < n := by omega
    have Hgi := Lib.hid hgi
    have Hst := Lib.hid hst
    clear e1 hgi hst hs
    generalize l[i] = x at *
    clear hil
    obtain ⟨xid, xa, xn, xc, xr⟩ := x
    unfold Ri.v at q2
    simp only at q1 q2 Hst
    by_cases hx : xid = k
    · subst hx
      have HE : RowKit.Hid (fo = some ⟨xid, xa, xn, xc, xr⟩) := by
       show _ = _
       rw [← Hf.out, Hst.out]
       simp
      obtain rfl := HE.out
      have hxx : (xid == xid) = true := by simp
      clear Hst HE Hf
      go_wp2
      refine bodyPost_ret (v := .tuple #[.slice xa xn xc, .bool true]) (by simp [results, Tryz.results32, go_sem]) rfl ?_
      exact ⟨rfl, Hb.out⟩
    · have hxk : (xid == k) = false := by simp [hx]
      have Hn : RowKit.Hid (findRi (l.drop (i + 1)) k = fo) := by
       show _ = _
       rw [← Hf.out, Hst.out, hxk]
       rfl
      clear Hst Hf hx
      go_wp2
      go_roundg (gk - 1)
      case rel => exact ⟨i + 1, by go_num, by have := Hgi.out; omega, rfl, Hn⟩
      case measure => have := Hgi.out; omega
  · obtain rfl : i = n := by omega
    have HE : RowKit.Hid (fo = none) := by
     show _ = _
     rw [← Hf.out, List.drop_of_length_le (by rw [HN.out]; exact Nat.le_refl _)]
     rfl
    obtain rfl := HE.out
    clear HE Hf hgi hi
    go_wp2
    refine bodyPost_ret (v := .tuple #[.slice none 0 0, .bool false]) (by simp [results, Tryz.results32, go_sem]) rfl ?_
    exact ⟨rfl, Hb.out⟩
/-- The items but one. -/
def delR (k : Int) (l : List Ri) : List Ri := l.filter fun x => x.id != k
theorem riL_delR (k : Int) (l : List Ri) : riL (delR k l) = delL k (riL l) := by
 unfold riL delR delL
 rw [List.filter_map]
 rfl
theorem delR_snoc (k : Int) (l : List Ri) (i : Nat) (hi : i < l.length) : delR k (l.take (i + 1)) = if l[i].id != k then delR k (l.take i) ++ [l[i]] else delR k (l.take i) := by
 rw [List.take_add_one, List.getElem?_eq_getElem hi, delR, List.filter_append]
 cases h : (l[i].id != k) <;> simp [h, delR]
theorem delR_len (k : Int) (l : List Ri) : (delR k l).length ≤ l.length := List.length_filter_le _ _
/-- The list is put into the store's variable, this one into the result. -/
theorem setRS {w0 w : World} {fp0 : List Nat} {R : List Asn} {A : Asn} {vb rb cols : Nat} {o : Value} {next : Int} {r0 r1 r2 : Value} (h : St w0 fp0 (A :: blkA vb 37 #[.int .i64 cols, o, .int .i64 next] :: blkA rb 37 #[r0, r1, r2] :: R) w) (v : Value) :
 St w0 fp0 (A :: R) ((((w.setCell ⟨vb, 1, none⟩ v).setCell ⟨rb, 0, none⟩ (.int .i64 cols)).setCell ⟨rb, 1, none⟩ v).setCell ⟨rb, 2, none⟩ (.int .i64 next)) := by
 have h1 := (h.perm (List.Perm.swap _ _ _)).setB 1 (by simp) v
 have h2 := ((h1.perm (List.Perm.swap _ _ _)).perm (List.Perm.cons _ (List.Perm.swap _ _ _))).perm (List.Perm.swap _ _ _)
 have h3 := ((h2.setB 0 (by simp) (.int .i64 cols)).setB 1 (by simp) v).setB 2 (by simp) (.int .i64 next)
 exact (h3.drop.perm (List.Perm.swap _ _ _)).drop
set_option maxHeartbeats 4000000 in
set_option maxRecDepth 20000 in
theorem RDelete_calls (cols : Nat) (lv : Value) (next k : Int) (l : List Ri) (hlen : l.length < 1099511627775) (w0 w : World) (fp0 : List Nat) (R : List Asn) (hS : St w0 fp0 (riA lv l :: R) w) :
 Calls Tryz.prog 34 #[rsV cols lv next, .int .i64 k] w fun e w' => ∃ lv2, e = .returned (rsV cols lv2 next) ∧ St w0 fp0 (riA lv2 (delR k l) :: riA lv l :: R) w' := by
 obtain ⟨_, hp⟩ := hS.has 0 rfl
 obtain ⟨a, c, rfl⟩ := (riA_sl hp).shape
 obtain ⟨n, hn⟩ : ∃ n, l.length = n := ⟨_, rfl⟩
 have hn63 : n ≤ 9223372036854775807 := by omega
 have HN := Lib.hid hn
 have HL := Lib.hid hlen
 have H0 : RowKit.Hid (St w0 fp0 (riA (.slice none 0 0) (delR k (l.take 0)) :: blkA w.heap.size 37 #[.int .i64 cols, .slice a n c, .int .i64 next] :: blkA (w.heap.size + 1) 37 #[.int .i64 0, .slice none 0 0, .int .i64 0] :: riA (.slice a n c) l :: R) ((w.alloc (.cells #[.int .i64 cols, .slice a n c, .int .i64 next] 37)).alloc (.cells #[.int .i64 0, .slice none 0 0, .int .i64 0] 37))) := by
  have h1 := ((hS.newblk 37 #[.int .i64 cols, .slice a n c, .int .i64 next]).newblk 37 #[.int .i64 0, .slice none 0 0, .int .i64 0]).nilR 56 2
  rw [hn] at h1
  simp only [World.size_alloc] at h1
  exact St_re (L := [_, _, _, _]) h1 [0, 2, 1, 3] [] (by kernel_rfl)
 rw [hn]
 clear hS hp hn hlen
 unfold rsV
 go_enter Tryz.func34, Tryz.ntmps34
 go_upto_region 1 with (fail)
 generalize hW : (w.alloc _).alloc _ = W at *
 clear hW
 obtain ⟨vb, hvb⟩ : ∃ vb, w.heap.size = vb := ⟨_, rfl⟩
 rw [hvb] at H0 ⊢
 clear hvb
 obtain ⟨_, hb1⟩ := H0.out.has 1 rfl
 have c1 := (blk_get hb1).1 1
 have bl1 := (blk_get hb1).2.2
 simp only [List.getElem?_toArray, List.getElem?_cons_zero, List.getElem?_cons_succ] at c1
 clear hb1
 go_wp2
 go_loopg [5, 6] n (fun g z5 z wr => ∃ i : Nat, z = .int .i64 i ∧ g + i = n ∧ RowKit.Hid (St w0 fp0 (riA z5 (delR k (l.take i)) :: blkA vb 37 #[.int .i64 cols, .slice a n c, .int .i64 next] :: blkA (vb + 1) 37 #[.int .i64 0, .slice none 0 0, .int .i64 0] :: riA (.slice a n c) l :: R) wr))
 case atStart => exact ⟨0, rfl, rfl, H0⟩
 case round =>
  clear H0 c1 bl1
  obtain ⟨i, rfl, hgi, Hs⟩ := hrel
  obtain ⟨_, hb1⟩ := Hs.out.has 1 rfl
  have c1 := (blk_get hb1).1 1
  have bl1 := (blk_get hb1).2.2
  simp only [List.getElem?_toArray, List.getElem?_cons_zero, List.getElem?_cons_succ] at c1
  by_cases hi : i < n
  · have hil : i < l.length := by rw [HN.out]; exact hi
    have hst := delR_snoc k l i hil
    obtain ⟨_, hp⟩ := Hs.out.has 3 rfl
    obtain ⟨b, o, c', e1, q1, q2⟩ := ri_cells (riA_sl hp) i hil
    obtain ⟨rfl, -, rfl⟩ := Value.slice.inj e1
    have hql := World.block_lt_of_cell? _ _ q1
    have hi' : (i : Int) < n := by omega
    have hlen : (delR k (l.take i)).length + 1 < 1099511627776 := by
     have h1 := delR_len k (l.take i)
     rw [List.length_take] at h1
     have := HL.out
     omega
    have Hlen := Lib.hid hlen
    have Hgi := Lib.hid hgi
    have Hst := Lib.hid hst
    clear e1 hgi hst hp hlen hb1
    generalize l[i] = x at *
    clear hil
    obtain ⟨xid, xa, xn, xc, xr⟩ := x
    unfold Ri.v at q2
    simp only at q1 q2 Hst
    by_cases hx : xid = k
    · have hxk : (xid != k) = false := by simp [hx]
      have Hn : RowKit.Hid (delR k (l.take (i + 1)) = delR k (l.take i)) := by
       show _ = _
       rw [Hst.out, hxk]
       rfl
      clear Hst hx
      go_wp2
      go_roundg (gk - 1)
      case rel => exact ⟨i + 1, by go_num, by have := Hgi.out; omega, by rw [Hn.out]; exact Hs.out⟩
      case measure => have := Hgi.out; omega
    · have hxk : (xid != k) = true := by simp [hx]
      have Hn : RowKit.Hid (delR k (l.take (i + 1)) = delR k (l.take i) ++ [⟨xid, xa, xn, xc, xr⟩]) := by
       show _ = _
       rw [Hst.out, hxk]
       rfl
      clear Hst hx
      go_wp2_with (first
       | (at_builtin; refine wpList_appR rfl _ _ _ _ rfl rfl rfl appRI (Hs.out.mono ((Below.refl _ _).alloc (Nat.le_refl _) _)) (src_litk (e' := 56) (by kernel_rfl) _ 2 _ 1 _ _ _ #[.int .i64 xid, .slice xa xn xc] (heap_alloc_new _ _) rfl (by simp; exact ⟨rfl, rfl⟩)) Hlen.out ?_; intro v3 w3 h3))
      go_roundg (gk - 1)
      case rel =>
       refine ⟨i + 1, by go_num, by have := Hgi.out; omega, ?_⟩
       rw [Hn.out]
       have h4 := h3.out
       show St w0 fp0 (rowA 56 2 v3 (delR k (l.take i) ++ [(⟨xid, xa, xn, xc, xr⟩ : Ri)]).length (riV (delR k (l.take i) ++ [(⟨xid, xa, xn, xc, xr⟩ : Ri)])) :: _) _
       rw [riV_append, List.length_append]
       exact h4
      case measure => have := Hgi.out; omega
  · obtain rfl : i = n := by omega
    have hs := Hs.out
    rw [List.take_of_length_le (by rw [HN.out]; exact Nat.le_refl _)] at hs
    obtain ⟨_, hrow⟩ := hs.has 0 rfl
    obtain ⟨ya, yc, rfl⟩ := (riA_sl hrow).shape
    obtain ⟨m, hm⟩ : ∃ m, (delR k l).length = m := ⟨_, rfl⟩
    rw [hm] at hs
    have H2 := Lib.hid (setRS hs (.slice ya m yc))
    obtain ⟨_, hb3⟩ := hs.has 2 rfl
    have f1 := (blk_get hb1).2.1 1
    have c0 := (blk_get hb1).1 0
    have c2 := (blk_get hb1).1 2
    have d0 := (blk_get hb3).1 0
    have d1 := (blk_get hb3).1 1
    have d2 := (blk_get hb3).1 2
    have g0 := (blk_get hb3).2.1 0
    have g1 := (blk_get hb3).2.1 1
    have g2 := (blk_get hb3).2.1 2
    have bl2 := (blk_get hb3).2.2
    simp only [List.getElem?_toArray, List.getElem?_cons_zero, List.getElem?_cons_succ] at c0 c2 d0 d1 d2
    rw [hm]
    clear hs hrow hb1 hb3 Hs hgi hi hm
    go_wp2
    refine bodyPost_ret (v := .agg #[.int .i64 cols, .slice ya m yc, .int .i64 next]) (by simp [results, Tryz.results34, go_sem, *]) rfl ?_
    exact ⟨_, rfl, H2.out⟩
end Go.Proofs.YtnefkkidfhmggaaGreat
/- The reference's store: Storable, Put, Insert. -/
namespace Go.Proofs.YtnefkkidfhmggaaGreat
open Go Go.RowKit
set_option maxHeartbeats 4000000 in
theorem RStorable_calls (cols : Nat) (r : Rw) (v : Value) (w : World) (hv : ValsAt w r v) :
 Calls Tryz.prog 75 #[.int .i64 cols, v] w fun e w' => e = .returned (.bool (storB cols r)) ∧ Below w.heap.size w w' := by
 obtain ⟨a, n, c, rfl, hn, hm⟩ := hv.shape
 have HV := Lib.hid hv
 have HN := Lib.hid hn
 have hm2 : n ≤ 9223372036854775807 := by unfold maxLen at hm; omega
 obtain ⟨q, hq⟩ : ∃ q, storB cols r = q := ⟨_, rfl⟩
 have HQ : RowKit.Hid ((decide (r.length = cols) && r.all okV) = q) := hq
 rw [hq]
 clear hv hn hm hq
 go_enter Tryz.func75, Tryz.ntmps75
 go_wp2
 go_loopg [5] n (fun g z wr => ∃ k : Nat, z = .int .i64 k ∧ g + k = n ∧ RowKit.Hid (r.all okV = (r.drop k).all okV) ∧ RowKit.Hid (Below w.heap.size w wr))
 case atStart => exact ⟨0, rfl, rfl, (by show _ = _; rw [List.drop_zero]), Below.refl _ _⟩
 case round =>
  obtain ⟨k, rfl, hgk, Hp, Hb⟩ := hrel
  by_cases hk : k < n
  · have hkl : k < r.length := by rw [← HN.out]; exact hk
    obtain ⟨b, o, rfl⟩ := HV.out.has k hk
    obtain ⟨c0, c1, c2⟩ := (HV.out.mono Hb.out).cell k hkl
    have hlt := World.block_lt_of_cell? wr _ c0
    have hk' : (k : Int) < n := by omega
    have HC := Lib.hid (rvalid_calls r[k] wr (HV.out.txt _ (List.getElem_mem hkl)))
    have hst : (r.drop k).all okV = (okV r[k] && (r.drop (k + 1)).all okV) := by rw [List.drop_eq_getElem_cons hkl, List.all_cons]
    have Hst := Lib.hid hst
    have Hgk := Lib.hid hgk
    clear hst hgk
    generalize r[k] = x at *
    clear hkl
    unfold Vl.val at HC
    cases hq : okV x
    · rw [hq] at HC Hst
      have HQF : RowKit.Hid (q = false) := by show _ = _; rw [← HQ.out, Hp.out, Hst.out]; simp
      obtain rfl := HQF.out
      clear hq
      go_wp2_with fail
      (with_reducible refine HC.out.mono ?_)
      rintro e w1 ⟨rfl, hb1⟩
      have Hb1 := Lib.hid (Hb.out.trans (hb1.mono Hb.out.size))
      clear hb1
      go_wp2
      go_ret
      exact ⟨rfl, Hb1.out⟩
    · rw [hq] at HC Hst
      clear hq
      go_wp2_with fail
      (with_reducible refine HC.out.mono ?_)
      rintro e w1 ⟨rfl, hb1⟩
      have Hb1 := Lib.hid (Hb.out.trans (hb1.mono Hb.out.size))
      clear hb1
      go_wp2
      go_roundg (gk - 1)
      case rel => exact ⟨k + 1, by go_num, by have := Hgk.out; omega, (by show _ = _; rw [Hp.out, Hst.out, Bool.true_and]), Hb1⟩
      case measure => have := Hgk.out; omega
  · obtain rfl : k = n := by omega
    have HE : RowKit.Hid (((k : Int) == cols) = q) := by
     show _ = _
     rw [← HQ.out, Hp.out, List.drop_of_length_le (by rw [← HN.out]; exact Nat.le_refl _), List.all_nil, Bool.and_true, ← HN.out, Bool.eq_iff_iff]
     simp
     omega
    clear hgk hk
    go_wp2
    go_ret
    exact ⟨by rw [← HE.out]; rfl, Hb.out⟩
/-- One item in Put's loop. -/
def stepP (k : Int) (x : Ri) (s : List Ri × Bool) (y : Ri) : List Ri × Bool :=
 let s1 := if s.2 = false ∧ k ≤ y.id then (s.1 ++ [x], true) else s
 if y.id = k then s1 else (s1.1 ++ [y], s1.2)
def putR (k : Int) (x : Ri) (l : List Ri) : List Ri := (l.filter fun e => decide (e.id < k)) ++ x :: l.filter fun e => decide (k < e.id)
theorem riL_putR (k : Int) (x : Ri) (hx : x.id = k) (l : List Ri) : riL (putR k x l) = putL' k x.r (riL l) := by
 unfold riL putR putL'
 rw [List.map_append, List.map_cons, List.filter_map, List.filter_map, hx]
 rfl
theorem stepP_lt {k : Int} {x : Ri} : ∀ (A : List Ri) (o : List Ri), (∀ a ∈ A, a.id < k) → A.foldl (stepP k x) (o, false) = (o ++ A, false)
 | [], o, _ => by simp
 | a :: A, o, h => by
  have ha := h a (by simp)
  have h1 : ¬ k ≤ a.id := by omega
  have h2 : a.id ≠ k := by omega
  rw [List.foldl_cons, show stepP k x (o, false) a = (o ++ [a], false) by simp [stepP, h1, h2], stepP_lt A _ (fun b hb => h b (by simp [hb]))]
  simp
theorem stepP_gt {k : Int} {x : Ri} : ∀ (B : List Ri) (o : List Ri), (∀ b ∈ B, k < b.id) → B.foldl (stepP k x) (o, true) = (o ++ B, true)
 | [], o, _ => by simp
 | b :: B, o, h => by
  have hb := h b (by simp)
  have h2 : b.id ≠ k := by omega
  rw [List.foldl_cons, show stepP k x (o, true) b = (o ++ [b], true) by simp [stepP, h2], stepP_gt B _ (fun c hc => h c (by simp [hc]))]
  simp
theorem filt_id {A B : List Ri} {k : Int} (hA : ∀ a ∈ A, a.id < k) (hB : ∀ b ∈ B, k < b.id) : (A ++ B).filter (fun e => decide (e.id < k)) = A ∧ (A ++ B).filter (fun e => decide (k < e.id)) = B := by
 constructor
 · rw [List.filter_append, List.filter_eq_self.2 (fun a ha => decide_eq_true (hA a ha)), List.filter_eq_nil_iff.2 (fun b hb => by have := hB b hb; simp; omega), List.append_nil]
 · rw [List.filter_append, List.filter_eq_self.2 (fun b hb => decide_eq_true (hB b hb)), List.filter_eq_nil_iff.2 (fun a ha => by have := hA a ha; simp; omega), List.nil_append]
/-- What Put's loop builds. -/
theorem stepP_all {k : Int} {x : Ri} {l : List Ri} (h : l.Pairwise fun a b => a.id < b.id) : (let s := l.foldl (stepP k x) ([], false); if s.2 then s.1 else s.1 ++ [x]) = putR k x l := by
 have key : ∀ (A B : List Ri), (∀ a ∈ A, a.id < k) → (∀ b ∈ B, k < b.id) → (let s := B.foldl (stepP k x) (A, false); if s.2 then s.1 else s.1 ++ [x]) = A ++ x :: B := by
  intro A B hA hB
  cases B with
  | nil => simp
  | cons b B =>
   have hb := hB b (by simp)
   have h2 : b.id ≠ k := by omega
   have h3 : k ≤ b.id := by omega
   rw [List.foldl_cons, show stepP k x (A, false) b = (A ++ [x] ++ [b], true) by simp [stepP, h2, h3], stepP_gt B _ (fun c hc => hB c (by simp [hc]))]
   simp
 rcases split_id (fun e : Ri => e.id) l h k with ⟨A, e, B, rfl, he, hA, hB⟩ | ⟨A, B, rfl, hA, hB⟩
 · have h4 : putR k x (A ++ e :: B) = A ++ x :: B := by
    have := filt_id hA hB
    unfold putR
    rw [List.filter_append, List.filter_append] at *
    rw [List.filter_cons, List.filter_cons, if_neg (by simp [he]), if_neg (by simp [he]), this.1, this.2]
   rw [h4, List.foldl_append, stepP_lt A [] hA, List.nil_append, List.foldl_cons]
   rw [show stepP k x (A, false) e = (A ++ [x], true) by simp [stepP, he], stepP_gt B _ hB]
   simp
 · have h4 : putR k x (A ++ B) = A ++ x :: B := by
    unfold putR
    rw [(filt_id hA hB).1, (filt_id hA hB).2]
   rw [h4, List.foldl_append, stepP_lt A [] hA, List.nil_append]
   exact key A B hA hB
theorem stepP_len (k : Int) (x : Ri) : ∀ (l : List Ri) (s : List Ri × Bool), (l.foldl (stepP k x) s).1.length ≤ s.1.length + 2 * l.length
 | [], s => by simp
 | y :: l, s => by
  have h1 := stepP_len k x l (stepP k x s y)
  have h2 : (stepP k x s y).1.length ≤ s.1.length + 2 := by
   unfold stepP
   split <;> split <;> simp
  simp only [List.foldl_cons, List.length_cons]
  omega
end Go.Proofs.YtnefkkidfhmggaaGreat
/- The reference's store: Put. -/
namespace Go.Proofs.YtnefkkidfhmggaaGreat
open Go Go.RowKit
theorem limit_calls (w : World) : Calls Tryz.prog 74 #[] w fun e w' => e = .returned (.int .i64 4611686018427387904) ∧ w = w' := by
 go_enter Tryz.func74, Tryz.ntmps74
 go_wp2
 go_ret
 exact ⟨rfl, rfl⟩
/-- A store is put into the result. -/
theorem cpRS {w0 w : World} {fp0 : List Nat} {R : List Asn} {A : Asn} {vb rb : Nat} {c0 c1 c2 r0 r1 r2 : Value} (h : St w0 fp0 (A :: blkA vb 37 #[c0, c1, c2] :: blkA rb 37 #[r0, r1, r2] :: R) w) :
 St w0 fp0 (A :: R) (((w.setCell ⟨rb, 0, none⟩ c0).setCell ⟨rb, 1, none⟩ c1).setCell ⟨rb, 2, none⟩ c2) := by
 have h2 := (h.perm (List.Perm.cons _ (List.Perm.swap _ _ _))).perm (List.Perm.swap _ _ _)
 have h3 := ((h2.setB 0 (by simp) c0).setB 1 (by simp) c1).setB 2 (by simp) c2
 exact (h3.drop.perm (List.Perm.swap _ _ _)).drop
theorem riA_snoc {w0 w : World} {fp0 : List Nat} {R : List Asn} {v : Value} {l : List Ri} (x : Ri) (h : St w0 fp0 (rowA 56 2 v (l.length + 1) (riV l ++ [.int .i64 x.id, x.v]) :: R) w) : St w0 fp0 (riA v (l ++ [x]) :: R) w := by
 unfold riA
 rw [riV_append, List.length_append]
 exact h
/-- List and number are put into the store's variable, this one into the result. -/
theorem setRN {w0 w : World} {fp0 : List Nat} {R : List Asn} {A : Asn} {vb rb cols : Nat} {o : Value} {next : Int} {r0 r1 r2 : Value} (h : St w0 fp0 (A :: blkA vb 37 #[.int .i64 cols, o, .int .i64 next] :: blkA rb 37 #[r0, r1, r2] :: R) w) (v : Value) (nx : Int) :
 St w0 fp0 (A :: R) (((((w.setCell ⟨vb, 1, none⟩ v).setCell ⟨vb, 2, none⟩ (.int .i64 nx)).setCell ⟨rb, 0, none⟩ (.int .i64 cols)).setCell ⟨rb, 1, none⟩ v).setCell ⟨rb, 2, none⟩ (.int .i64 nx)) := by
 have h1 := ((h.perm (List.Perm.swap _ _ _)).setB 1 (by simp) v).setB 2 (by simp) (.int .i64 nx)
 exact cpRS (h1.perm (List.Perm.swap _ _ _))
theorem rp_cells {w0 w : World} {fp0 : List Nat} {R : List Asn} {A B : Asn} {vb lb lo n c i : Nat} {c0 c2 : Value} {l : List Ri} {y : Ri} (h : St w0 fp0 (A :: blkA vb 37 #[c0, .slice (some ⟨lb, lo, none⟩) n c, c2] :: B :: riA (.slice (some ⟨lb, lo, none⟩) n c) l :: R) w) (hy : l[i]? = some y) :
 w.cell? ⟨vb, 1, none⟩ = some (.slice (some ⟨lb, lo, none⟩) n c) ∧ vb < w.heap.size ∧ w.cell? ⟨lb, lo + i * 2, none⟩ = some (.int .i64 y.id) ∧ w.cell? ⟨lb, lo + i * 2 + 1, none⟩ = some y.v ∧ lb < w.heap.size := by
 obtain ⟨_, hb⟩ := h.has 1 rfl
 obtain ⟨_, hp⟩ := h.has 3 rfl
 obtain ⟨hi, rfl⟩ := List.getElem?_eq_some_iff.1 hy
 obtain ⟨b, o, c', e1, q1, q2⟩ := ri_cells (riA_sl hp) i hi
 obtain ⟨e1, -, -⟩ := Value.slice.inj e1
 injection e1 with e1
 injection e1 with e1 e2
 subst e1 e2
 exact ⟨(blk_get hb).1 1, (blk_get hb).2.2, q1, q2, World.block_lt_of_cell? w _ q1⟩
/-- The lists behind Put. -/
def PutPost (w0 : World) (fp0 : List Nat) (R : List Asn) (q : Bool) (lv lv2 : Value) (x : Ri) (l : List Ri) (w : World) : Prop := (q = true ∧ St w0 fp0 (riA lv2 (putR x.id x l) :: riA lv l :: R) w) ∨ (q = false ∧ lv2 = lv ∧ St w0 fp0 (riA lv l :: R) w)
set_option maxHeartbeats 8000000 in
set_option maxRecDepth 20000 in
theorem RPut_calls (cols : Nat) (lv : Value) (next : Int) (x : Ri) (l : List Ri) (hasc : l.Pairwise fun a b => a.id < b.id) (hlen : l.length < 400000000000) (w0 w : World) (fp0 : List Nat) (R : List Asn) (hv : Rd w0 fp0 R fun w => ValsAt w x.r x.v) (hS : St w0 fp0 (riA lv l :: R) w) :
 Calls Tryz.prog 33 #[rsV cols lv next, .int .i64 x.id, x.v] w fun e w' => ∃ lv2, e = .returned (.tuple #[rsV cols lv2 (putN cols x.id x.r next), errV (putOk cols x.id x.r)]) ∧ PutPost w0 fp0 R (putOk cols x.id x.r) lv lv2 x l w' := by
 obtain ⟨_, hp⟩ := hS.has 0 rfl
 obtain ⟨a, c, rfl⟩ := (riA_sl hp).shape
 obtain ⟨n, hn⟩ : ∃ n, l.length = n := ⟨_, rfl⟩
 have hn63 : n ≤ 9223372036854775807 := by omega
 have HN := Lib.hid hn
 have HL := Lib.hid hlen
 have H0 : RowKit.Hid (St w0 fp0 (riA (.slice a n c) l :: blkA w.heap.size 37 #[.int .i64 cols, .slice a n c, .int .i64 next] :: blkA (w.heap.size + 1) 37 #[.int .i64 0, .slice none 0 0, .int .i64 0] :: R) ((w.alloc (.cells #[.int .i64 cols, .slice a n c, .int .i64 next] 37)).alloc (.cells #[.int .i64 0, .slice none 0 0, .int .i64 0] 37))) := by
  have h1 := ((hS.newblk 37 #[.int .i64 cols, .slice a n c, .int .i64 next]).newblk 37 #[.int .i64 0, .slice none 0 0, .int .i64 0])
  rw [hn] at h1
  simp only [World.size_alloc] at h1
  exact St_re (L := [_, _, _]) h1 [2, 1, 0] [] (by kernel_rfl)
 have HV : RowKit.Hid (∀ M w', St w0 fp0 (M ++ R) w' → ValsAt w' x.r x.v) := fun M w' h => hv.at h
 have HAL := Lib.hid (stepP_all (k := x.id) (x := x) hasc)
 have HSL := Lib.hid (fun m => stepP_len x.id x (l.take m) ([], false))
 have HST : RowKit.Hid (∀ i (hi : i < l.length), (l.take (i + 1)).foldl (stepP x.id x) ([], false) = stepP x.id x ((l.take i).foldl (stepP x.id x) ([], false)) l[i]) := fun i hi => by
  rw [List.take_add_one, List.getElem?_eq_getElem hi, List.foldl_append]
  rfl
 unfold putN
 obtain ⟨q, hq⟩ : ∃ q, putOk cols x.id x.r = q := ⟨_, rfl⟩
 have HQ : RowKit.Hid ((decide (1 ≤ x.id ∧ x.id ≤ 4611686018427387904) && storB cols x.r) = q) := hq
 rw [hq, hn]
 clear hS hp hn hlen hv hasc hq
 obtain ⟨k, xa, xn, xc, xr⟩ := x
 unfold Ri.v at *
 unfold rsV
 simp only at *
 obtain ⟨X, hX⟩ : ∃ X : Ri, (⟨k, xa, xn, xc, xr⟩ : Ri) = X := ⟨_, rfl⟩
 have HX := Lib.hid hX
 rw [hX] at HAL HSL HST ⊢
 clear hX
 obtain ⟨vb, hvb⟩ : ∃ vb, w.heap.size = vb := ⟨_, rfl⟩
 have H0' : RowKit.Hid (∃ W, (w.alloc (.cells #[.int .i64 cols, .slice a n c, .int .i64 next] 37)).alloc (.cells #[.int .i64 0, .slice none 0 0, .int .i64 0] 37) = W ∧ St w0 fp0 (riA (.slice a n c) l :: blkA vb 37 #[.int .i64 cols, .slice a n c, .int .i64 next] :: blkA (vb + 1) 37 #[.int .i64 0, .slice none 0 0, .int .i64 0] :: R) W) := ⟨_, rfl, by rw [← hvb]; exact H0.out⟩
 clear H0
 go_enter Tryz.func33, Tryz.ntmps33
 go_upto_region 1 with (fail)
 obtain ⟨W, hW, hs⟩ := H0'.out
 rw [hW]
 have H1 := Lib.hid hs
 obtain ⟨_, hb1⟩ := hs.has 1 rfl
 obtain ⟨_, hb2⟩ := hs.has 2 rfl
 have c0 := (blk_get hb1).1 0
 have c1 := (blk_get hb1).1 1
 have c2 := (blk_get hb1).1 2
 have d0 := (blk_get hb2).1 0
 have d1 := (blk_get hb2).1 1
 have d2 := (blk_get hb2).1 2
 have g0 := (blk_get hb2).2.1 0
 have g1 := (blk_get hb2).2.1 1
 have g2 := (blk_get hb2).2.1 2
 have bl1 := (blk_get hb1).2.2
 have bl2 := (blk_get hb2).2.2
 simp only [List.getElem?_toArray, List.getElem?_cons_zero, List.getElem?_cons_succ] at c0 c1 c2 d0 d1 d2
 have HEND : RowKit.Hid (St w0 fp0 (riA (.slice a n c) l :: R) (((W.setCell ⟨vb + 1, 0, none⟩ (.int .i64 cols)).setCell ⟨vb + 1, 1, none⟩ (.slice a n c)).setCell ⟨vb + 1, 2, none⟩ (.int .i64 next))) := cpRS hs
 clear hW hvb H0' hs hb1 hb2
 by_cases h1 : k < 1
 · have HE : RowKit.Hid (q = false) := by show _ = _; rw [← HQ.out, decide_eq_false (by omega)]; rfl
   obtain rfl := HE.out
   go_wp2
   refine bodyPost_ret (v := .tuple #[.agg #[.int .i64 cols, .slice a n c, .int .i64 next], .int .i64 1]) (by clear HV HAL HSL HST HEND; simp [results, Tryz.results33, go_sem, *]) rfl ?_
   exact ⟨_, rfl, .inr ⟨rfl, rfl, HEND.out⟩⟩
 · by_cases h2 : 4611686018427387904 < k
   · have HE : RowKit.Hid (q = false) := by show _ = _; rw [← HQ.out, decide_eq_false (by omega)]; rfl
     obtain rfl := HE.out
     go_wp2_with (first | (go_at_call 74; (with_reducible refine (limit_calls _).mono ?_); rintro e w1 ⟨rfl, rfl⟩))
     refine bodyPost_ret (v := .tuple #[.agg #[.int .i64 cols, .slice a n c, .int .i64 next], .int .i64 1]) (by clear HV HAL HSL HST HEND; simp [results, Tryz.results33, go_sem, *]) rfl ?_
     exact ⟨_, rfl, .inr ⟨rfl, rfl, HEND.out⟩⟩
   · have HSTO := Lib.hid (RStorable_calls cols xr (.slice xa xn xc) W (HV.out [_, _, _] W H1.out))
     have HQ2 : RowKit.Hid (storB cols xr = q) := by show _ = _; rw [← HQ.out, decide_eq_true (by omega), Bool.true_and]
     rw [HQ2.out] at HSTO
     have HQ3 : RowKit.Hid (q = true → decide (1 ≤ k ∧ k ≤ 4611686018427387904) = true) := fun _ => decide_eq_true (by omega)
     cases q
     · go_wp2_with (first
        | (go_at_call 74; (with_reducible refine (limit_calls _).mono ?_); rintro e w1 ⟨rfl, rfl⟩))
       (with_reducible refine HSTO.out.mono ?_)
       rintro e w1 ⟨rfl, hb⟩
       have hs := H1.out.mono hb
       clear HEND c0 c1 c2 d0 d1 d2 g0 g1 g2 bl1 bl2 hb
       obtain ⟨_, hb1⟩ := hs.has 1 rfl
       obtain ⟨_, hb2⟩ := hs.has 2 rfl
       have c0 := (blk_get hb1).1 0
       have c1 := (blk_get hb1).1 1
       have c2 := (blk_get hb1).1 2
       have f1 := (blk_get hb1).2.1 1
       have f2 := (blk_get hb1).2.1 2
       have d0 := (blk_get hb2).1 0
       have d1 := (blk_get hb2).1 1
       have d2 := (blk_get hb2).1 2
       have g0 := (blk_get hb2).2.1 0
       have g1 := (blk_get hb2).2.1 1
       have g2 := (blk_get hb2).2.1 2
       have bl1 := (blk_get hb1).2.2
       have bl2 := (blk_get hb2).2.2
       simp only [List.getElem?_toArray, List.getElem?_cons_zero, List.getElem?_cons_succ] at c0 c1 c2 d0 d1 d2
       have HEND : RowKit.Hid (St w0 fp0 (riA (.slice a n c) l :: R) (((w1.setCell ⟨vb + 1, 0, none⟩ (.int .i64 cols)).setCell ⟨vb + 1, 1, none⟩ (.slice a n c)).setCell ⟨vb + 1, 2, none⟩ (.int .i64 next))) := cpRS hs
       clear hb1 hb2 hs H1 HSTO
       go_wp2
       refine bodyPost_ret (v := .tuple #[.agg #[.int .i64 cols, .slice a n c, .int .i64 next], .int .i64 1]) (by clear HV HAL HSL HST HEND; simp [results, Tryz.results33, go_sem, *]) rfl ?_
       exact ⟨_, rfl, .inr ⟨rfl, rfl, HEND.out⟩⟩
     · go_wp2_with (first
        | (go_at_call 74; (with_reducible refine (limit_calls _).mono ?_); rintro e w1 ⟨rfl, rfl⟩))
       (with_reducible refine HSTO.out.mono ?_)
       rintro e w1 ⟨rfl, hb⟩
       have H2 : RowKit.Hid (∃ s, s = (l.take 0).foldl (stepP k X) ([], false) ∧ St w0 fp0 (riA (.slice none 0 0) s.1 :: blkA vb 37 #[.int .i64 cols, .slice a n c, .int .i64 next] :: blkA (vb + 1) 37 #[.int .i64 0, .slice none 0 0, .int .i64 0] :: riA (.slice a n c) l :: R) w1) := by
        refine ⟨_, rfl, ?_⟩
        rw [List.take_zero]
        have h := (H1.out.mono hb).nilR 56 2
        exact St_re (L := [_, _, _, _]) h [0, 2, 3, 1] [] (by kernel_rfl)
       clear HEND c0 c1 c2 d0 d1 d2 g0 g1 g2 bl1 bl2 hb H1 HSTO
       obtain ⟨s0, hs0, hs⟩ := H2.out
       obtain ⟨_, hb1⟩ := hs.has 1 rfl
       have c1 := (blk_get hb1).1 1
       have bl1 := (blk_get hb1).2.2
       simp only [List.getElem?_toArray, List.getElem?_cons_zero, List.getElem?_cons_succ] at c1
       clear hs hs0 hb1
       go_wp2
       go_loopg [8, 9, 10] n (fun g z8 z9 z wr => ∃ (i : Nat) (b : Bool), z = .int .i64 i ∧ z9 = .bool b ∧ g + i = n ∧ RowKit.Hid (∃ s, s = (l.take i).foldl (stepP k X) ([], false) ∧ b = s.2 ∧ St w0 fp0 (riA z8 s.1 :: blkA vb 37 #[.int .i64 cols, .slice a n c, .int .i64 next] :: blkA (vb + 1) 37 #[.int .i64 0, .slice none 0 0, .int .i64 0] :: riA (.slice a n c) l :: R) wr))
       case atStart =>
        obtain ⟨s0, hs0, hs⟩ := H2.out
        exact ⟨0, false, rfl, rfl, rfl, s0, hs0, by rw [hs0]; rfl, hs⟩
       case round =>
        clear H2 c1 bl1
        obtain ⟨i, b, rfl, rfl, hgi, Hs⟩ := hrel
        obtain ⟨s, hs0, hbs, hs⟩ := Hs.out
        obtain ⟨_, hb1⟩ := hs.has 1 rfl
        obtain ⟨_, hb2⟩ := hs.has 2 rfl
        have c0 := (blk_get hb1).1 0
        have c1 := (blk_get hb1).1 1
        have c2 := (blk_get hb1).1 2
        have f1 := (blk_get hb1).2.1 1
        have f2 := (blk_get hb1).2.1 2
        have d0 := (blk_get hb2).1 0
        have d1 := (blk_get hb2).1 1
        have d2 := (blk_get hb2).1 2
        have g0 := (blk_get hb2).2.1 0
        have g1 := (blk_get hb2).2.1 1
        have g2 := (blk_get hb2).2.1 2
        have bl1 := (blk_get hb1).2.2
        have bl2 := (blk_get hb2).2.2
        simp only [List.getElem?_toArray, List.getElem?_cons_zero, List.getElem?_cons_succ] at c0 c1 c2 d0 d1 d2
        by_cases hi : i < n
        · have hil : i < l.length := by rw [HN.out]; exact hi
          have hst := HST.out i hil
          rw [← hs0] at hst
          obtain ⟨_, hp⟩ := hs.has 3 rfl
          obtain ⟨lb, lo, c', e1, q1, q2⟩ := ri_cells (riA_sl hp) i hil
          obtain ⟨rfl, -, rfl⟩ := Value.slice.inj e1
          have hql := World.block_lt_of_cell? _ _ q1
          have hi' : (i : Int) < n := by omega
          have hlen : s.1.length + 2 < 1099511627776 := by
           have h1 := HSL.out i
           rw [← hs0, List.length_take, List.length_nil] at h1
           have := HL.out
           omega
          have Hlen := Lib.hid hlen
          have Hgi := Lib.hid hgi
          have Hst := Lib.hid hst
          have HS := Lib.hid hs
          have HY := Lib.hid (List.getElem?_eq_getElem hil)
          clear e1 hgi hst hp hlen hb1 hb2 hs hs0 Hs d0 d1 d2 g0 g1 g2 bl2 f1 f2
          generalize l[i] = y at *
          clear hil
          obtain ⟨yid, ya, yn, yc, yr⟩ := y
          obtain ⟨out, pl⟩ := s
          unfold Ri.v at q2
          simp only at q1 q2 Hst hbs HS Hlen
          subst hbs
          cases b
          · by_cases hge : k ≤ yid
            · by_cases hx : yid = k
              · have hxk : (yid != k) = false := by simp [hx]
                have hx2 := Lib.hid hx
                have hge2 := Lib.hid hge
                clear hx
                go_wp2_with (first | (at_builtin; refine wpList_appR rfl _ _ _ _ rfl rfl rfl appRI (HS.out.mono ((Below.refl _ _).alloc (Nat.le_refl _) _)) (src_litk (e' := 56) (by kernel_rfl) _ 2 _ 1 _ _ _ #[.int .i64 k, .slice xa xn xc] (heap_alloc_new _ _) rfl (by simp; exact ⟨rfl, rfl⟩)) (by have := Hlen.out; omega) ?_; intro v3 w3 h3; obtain ⟨k1, k2, k3, k4, k5⟩ := rp_cells h3.out HY.out; unfold Ri.v at k4; simp only at k3 k4))
                go_roundg (gk - 1)
                case rel => exact ⟨i + 1, true, by go_num, rfl, by have := Hgi.out; omega, (out ++ [X], true), by rw [Hst.out]; simp [stepP, hx2.out], rfl, (by have h4 := riA_snoc (⟨k, xa, xn, xc, xr⟩ : Ri) h3.out; rw [HX.out] at h4; exact h4)⟩
                case measure => have := Hgi.out; omega
              · have hxk : (yid != k) = true := by simp [hx]
                have hx2 := Lib.hid hx
                have hge2 := Lib.hid hge
                clear hx
                go_wp2_with (first
                 | (at_builtin; refine wpList_appR rfl _ _ _ _ rfl rfl rfl appRI (HS.out.mono ((Below.refl _ _).alloc (Nat.le_refl _) _)) (src_litk (e' := 56) (by kernel_rfl) _ 2 _ 1 _ _ _ #[.int .i64 k, .slice xa xn xc] (heap_alloc_new _ _) rfl (by simp; exact ⟨rfl, rfl⟩)) (by have := Hlen.out; omega) ?_; intro v3 w3 h3; obtain ⟨k1, k2, k3, k4, k5⟩ := rp_cells h3.out HY.out; unfold Ri.v at k4; simp only at k3 k4)
                 | (at_builtin; refine wpList_appR rfl _ _ _ _ rfl rfl rfl appRI ((riA_snoc (⟨k, xa, xn, xc, xr⟩ : Ri) h3.out).mono ((Below.refl _ _).alloc (Nat.le_refl _) _)) (src_litk (e' := 56) (by kernel_rfl) _ 2 _ 1 _ _ _ #[.int .i64 yid, .slice ya yn yc] (heap_alloc_new _ _) rfl (by simp; exact ⟨rfl, rfl⟩)) (by have := Hlen.out; simp; omega) ?_; intro v4 w4 h4))
                go_roundg (gk - 1)
                case rel => exact ⟨i + 1, true, by go_num, rfl, by have := Hgi.out; omega, (out ++ [X] ++ [⟨yid, ya, yn, yc, yr⟩], true), by rw [Hst.out]; simp [stepP, hx2.out, hge2.out], rfl, (by have h5 := riA_snoc (⟨yid, ya, yn, yc, yr⟩ : Ri) h4.out; rw [HX.out] at h5; exact h5)⟩
                case measure => have := Hgi.out; omega
            · have hx : ¬ yid = k := by omega
              have hxk : (yid != k) = true := by simp [hx]
              have hx2 := Lib.hid hx
              have hge2 := Lib.hid hge
              clear hx
              go_wp2_with (first | (at_builtin; refine wpList_appR rfl _ _ _ _ rfl rfl rfl appRI (HS.out.mono ((Below.refl _ _).alloc (Nat.le_refl _) _)) (src_litk (e' := 56) (by kernel_rfl) _ 2 _ 1 _ _ _ #[.int .i64 yid, .slice ya yn yc] (heap_alloc_new _ _) rfl (by simp; exact ⟨rfl, rfl⟩)) (by have := Hlen.out; omega) ?_; intro v3 w3 h3; obtain ⟨k1, k2, k3, k4, k5⟩ := rp_cells h3.out HY.out; unfold Ri.v at k4; simp only at k3 k4))
              go_roundg (gk - 1)
              case rel => exact ⟨i + 1, false, by go_num, rfl, by have := Hgi.out; omega, (out ++ [⟨yid, ya, yn, yc, yr⟩], false), by rw [Hst.out]; have h9 : ¬ k ≤ yid := (by have := hge2.out; omega); simp [stepP, hx2.out, if_neg h9], rfl, riA_snoc (⟨yid, ya, yn, yc, yr⟩ : Ri) h3.out⟩
              case measure => have := Hgi.out; omega
          · by_cases hx : yid = k
            · have hxk : (yid != k) = false := by simp [hx]
              have hx2 := Lib.hid hx
              clear hx
              go_wp2
              go_roundg (gk - 1)
              case rel => exact ⟨i + 1, true, by go_num, rfl, by have := Hgi.out; omega, (out, true), by rw [Hst.out]; simp [stepP, hx2.out], rfl, HS.out⟩
              case measure => have := Hgi.out; omega
            · have hxk : (yid != k) = true := by simp [hx]
              have hx2 := Lib.hid hx
              clear hx
              go_wp2_with (first | (at_builtin; refine wpList_appR rfl _ _ _ _ rfl rfl rfl appRI (HS.out.mono ((Below.refl _ _).alloc (Nat.le_refl _) _)) (src_litk (e' := 56) (by kernel_rfl) _ 2 _ 1 _ _ _ #[.int .i64 yid, .slice ya yn yc] (heap_alloc_new _ _) rfl (by simp; exact ⟨rfl, rfl⟩)) (by have := Hlen.out; omega) ?_; intro v3 w3 h3; obtain ⟨k1, k2, k3, k4, k5⟩ := rp_cells h3.out HY.out; unfold Ri.v at k4; simp only at k3 k4))
              go_roundg (gk - 1)
              case rel => exact ⟨i + 1, true, by go_num, rfl, by have := Hgi.out; omega, (out ++ [⟨yid, ya, yn, yc, yr⟩], true), by rw [Hst.out]; simp [stepP, hx2.out], rfl, riA_snoc (⟨yid, ya, yn, yc, yr⟩ : Ri) h3.out⟩
              case measure => have := Hgi.out; omega
        · obtain rfl : i = n := by omega
          rw [List.take_of_length_le (by rw [HN.out]; exact Nat.le_refl _)] at hs0
          obtain ⟨out, pl⟩ := s
          simp only at hbs hs
          subst hbs
          have hal := HAL.out
          rw [← hs0] at hal
          have hlen : out.length + 2 < 1099511627776 := by
           have h1 := HSL.out i
           rw [List.take_of_length_le (by rw [HN.out]; exact Nat.le_refl _), ← hs0, List.length_nil] at h1
           have := HL.out
           simp only at h1
           omega
          have Hlen := Lib.hid hlen
          have HS := Lib.hid hs
          have hw : IntKind.i64.wrap (k + 1) = k + 1 := IntWalk.i64_in _ (by omega)
          simp only at hal
          have HALL := Lib.hid hal
          clear hs0 hgi hi hlen Hs hal hs hb1 hb2
          cases b
          · go_upto_region 15 with (first | (at_builtin; refine wpList_appR rfl _ _ _ _ rfl rfl rfl appRI (HS.out.mono ((Below.refl _ _).alloc (Nat.le_refl _) _)) (src_litk (e' := 56) (by kernel_rfl) _ 2 _ 1 _ _ _ #[.int .i64 k, .slice xa xn xc] (heap_alloc_new _ _) rfl (by simp; exact ⟨rfl, rfl⟩)) (by have := Hlen.out; omega) ?_; intro v3 w3 h3))
            have H3 : RowKit.Hid (St w0 fp0 (riA v3 (putR k X l) :: blkA vb 37 #[.int .i64 cols, .slice a i c, .int .i64 next] :: blkA (vb + 1) 37 #[.int .i64 0, .slice none 0 0, .int .i64 0] :: riA (.slice a i c) l :: R) w3) := by
             have h4 := riA_snoc (⟨k, xa, xn, xc, xr⟩ : Ri) h3.out
             rw [HX.out] at h4
             have h5 := HALL.out
             rw [if_neg (by simp)] at h5
             rw [h5] at h4
             exact h4
            clear HS h3 c0 c1 c2 d0 d1 d2 f1 f2 g0 g1 g2 bl1 bl2 Hlen
            have hs := H3.out
            obtain ⟨_, hb1⟩ := hs.has 1 rfl
            obtain ⟨_, hb2⟩ := hs.has 2 rfl
            have c0 := (blk_get hb1).1 0
            have c1 := (blk_get hb1).1 1
            have c2 := (blk_get hb1).1 2
            have f1 := (blk_get hb1).2.1 1
            have f2 := (blk_get hb1).2.1 2
            have d0 := (blk_get hb2).1 0
            have d1 := (blk_get hb2).1 1
            have d2 := (blk_get hb2).1 2
            have g0 := (blk_get hb2).2.1 0
            have g1 := (blk_get hb2).2.1 1
            have g2 := (blk_get hb2).2.1 2
            have bl1 := (blk_get hb1).2.2
            have bl2 := (blk_get hb2).2.2
            simp only [List.getElem?_toArray, List.getElem?_cons_zero, List.getElem?_cons_succ] at c0 c1 c2 d0 d1 d2
            obtain ⟨_, hrow⟩ := hs.has 0 rfl
            obtain ⟨ya, yc, hyy⟩ := (riA_sl hrow).shape
            subst hyy
            obtain ⟨m, hm⟩ : ∃ m, (putR k X l).length = m := ⟨_, rfl⟩
            rw [hm] at hs
            have HF1 := Lib.hid (setRS hs (.slice ya m yc))
            have HF2 := Lib.hid (setRN hs (.slice ya m yc) (k + 1))
            rw [hm]
            clear hs hrow hb1 hb2 hm H3
            by_cases hnx : next ≤ k
            · have hmx : max next (k + 1) = k + 1 := by omega
              have HMX := Lib.hid hmx
              clear hmx
              go_wp2
              refine bodyPost_ret (v := .tuple #[.agg #[.int .i64 cols, .slice ya m yc, .int .i64 (k + 1)], .int .i64 0]) (by clear HV HAL HSL HST HF1 HF2; simp [results, Tryz.results33, go_sem, *]) rfl ?_
              refine ⟨.slice ya m yc, ?_, .inl ⟨rfl, ?_⟩⟩
              · rw [HMX.out]; rfl
              · rw [show X.id = k by rw [← HX.out]]
                exact HF2.out
            · have hmx : max next (k + 1) = next := by omega
              have HMX := Lib.hid hmx
              clear hmx
              go_wp2
              refine bodyPost_ret (v := .tuple #[.agg #[.int .i64 cols, .slice ya m yc, .int .i64 next], .int .i64 0]) (by clear HV HAL HSL HST HF1 HF2; simp [results, Tryz.results33, go_sem, *]) rfl ?_
              refine ⟨.slice ya m yc, ?_, .inl ⟨rfl, ?_⟩⟩
              · rw [HMX.out]; rfl
              · rw [show X.id = k by rw [← HX.out]]
                exact HF1.out
          · have H3 : RowKit.Hid (St w0 fp0 (riA u8 (putR k X l) :: blkA vb 37 #[.int .i64 cols, .slice a i c, .int .i64 next] :: blkA (vb + 1) 37 #[.int .i64 0, .slice none 0 0, .int .i64 0] :: riA (.slice a i c) l :: R) wr) := by
             have h5 := HALL.out
             rw [if_pos rfl] at h5
             have h4 := HS.out
             rw [h5] at h4
             exact h4
            clear HS c0 c1 c2 d0 d1 d2 f1 f2 g0 g1 g2 bl1 bl2 Hlen
            have hs := H3.out
            obtain ⟨_, hb1⟩ := hs.has 1 rfl
            obtain ⟨_, hb2⟩ := hs.has 2 rfl
            have c0 := (blk_get hb1).1 0
            have c1 := (blk_get hb1).1 1
            have c2 := (blk_get hb1).1 2
            have f1 := (blk_get hb1).2.1 1
            have f2 := (blk_get hb1).2.1 2
            have d0 := (blk_get hb2).1 0
            have d1 := (blk_get hb2).1 1
            have d2 := (blk_get hb2).1 2
            have g0 := (blk_get hb2).2.1 0
            have g1 := (blk_get hb2).2.1 1
            have g2 := (blk_get hb2).2.1 2
            have bl1 := (blk_get hb1).2.2
            have bl2 := (blk_get hb2).2.2
            simp only [List.getElem?_toArray, List.getElem?_cons_zero, List.getElem?_cons_succ] at c0 c1 c2 d0 d1 d2
            obtain ⟨_, hrow⟩ := hs.has 0 rfl
            obtain ⟨ya, yc, hyy⟩ := (riA_sl hrow).shape
            subst hyy
            obtain ⟨m, hm⟩ : ∃ m, (putR k X l).length = m := ⟨_, rfl⟩
            rw [hm] at hs
            have HF1 := Lib.hid (setRS hs (.slice ya m yc))
            have HF2 := Lib.hid (setRN hs (.slice ya m yc) (k + 1))
            rw [hm]
            clear hs hrow hb1 hb2 hm H3
            by_cases hnx : next ≤ k
            · have hmx : max next (k + 1) = k + 1 := by omega
              have HMX := Lib.hid hmx
              clear hmx
              go_wp2
              refine bodyPost_ret (v := .tuple #[.agg #[.int .i64 cols, .slice ya m yc, .int .i64 (k + 1)], .int .i64 0]) (by clear HV HAL HSL HST HF1 HF2; simp [results, Tryz.results33, go_sem, *]) rfl ?_
              refine ⟨.slice ya m yc, ?_, .inl ⟨rfl, ?_⟩⟩
              · rw [HMX.out]; rfl
              · rw [show X.id = k by rw [← HX.out]]
                exact HF2.out
            · have hmx : max next (k + 1) = next := by omega
              have HMX := Lib.hid hmx
              clear hmx
              go_wp2
              refine bodyPost_ret (v := .tuple #[.agg #[.int .i64 cols, .slice ya m yc, .int .i64 next], .int .i64 0]) (by clear HV HAL HSL HST HF1 HF2; simp [results, Tryz.results33, go_sem, *]) rfl ?_
              refine ⟨.slice ya m yc, ?_, .inl ⟨rfl, ?_⟩⟩
              · rw [HMX.out]; rfl
              · rw [show X.id = k by rw [← HX.out]]
                exact HF1.out
end Go.Proofs.YtnefkkidfhmggaaGreat
/- The reference's store: Insert; Same. -/
namespace Go.Proofs.YtnefkkidfhmggaaGreat
open Go Go.RowKit
set_option maxHeartbeats 4000000 in
set_option maxRecDepth 20000 in
theorem RInsert_calls (cols : Nat) (lv : Value) (x : Ri) (l : List Ri) (hasc : l.Pairwise fun a b => a.id < b.id) (hlen : l.length < 400000000000) (w0 w : World) (fp0 : List Nat) (R : List Asn) (hv : Rd w0 fp0 R fun w => ValsAt w x.r x.v) (hS : St w0 fp0 (riA lv l :: R) w) :
 Calls Tryz.prog 22 #[rsV cols lv x.id, x.v] w fun e w' => ∃ lv2, e = .returned (.tuple #[rsV cols lv2 (putN cols x.id x.r x.id), .int .i64 (insV cols x.r x.id)]) ∧ PutPost w0 fp0 R (putOk cols x.id x.r) lv lv2 x l w' := by
 obtain ⟨_, hp⟩ := hS.has 0 rfl
 obtain ⟨a, c, rfl⟩ := (riA_sl hp).shape
 obtain ⟨n, hn⟩ : ∃ n, l.length = n := ⟨_, rfl⟩
 rw [hn] at hS ⊢
 have h1 := (hS.newblk 37 #[.int .i64 cols, .slice a n c, .int .i64 x.id]).newblk 37 #[.int .i64 0, .slice none 0 0, .int .i64 0]
 simp only [World.size_alloc] at h1
 have h2 : St w0 fp0 (riA (.slice a n c) l :: (blkA (w.heap.size + 1) 37 #[.int .i64 0, .slice none 0 0, .int .i64 0] :: blkA w.heap.size 37 #[.int .i64 cols, .slice a n c, .int .i64 x.id] :: R)) _ := St_re (L := [_, _, _]) h1 [2, 0, 1] [] (by kernel_rfl)
 have HP := Lib.hid (RPut_calls cols (.slice a n c) x.id x l hasc hlen w0 _ fp0 _ ((hv.cons _).cons _) h2)
 have H1 := Lib.hid h2
 unfold insV
 obtain ⟨N2, hN2⟩ : ∃ N2, putN cols x.id x.r x.id = N2 := ⟨_, rfl⟩
 obtain ⟨q, hq⟩ : ∃ q, putOk cols x.id x.r = q := ⟨_, rfl⟩
 rw [hq, hN2] at HP ⊢
 have HQF : RowKit.Hid (q = false → N2 = x.id) := fun e => by rw [← hN2, putN, hq, e]; rfl
 unfold rsV at *
 unfold Ri.v at *
 clear hS h1 h2 hp hv hasc hlen hn hq hN2
 have hb : True := trivial
 clear hb
 go_enter Tryz.func22, Tryz.ntmps22
 go_upto_region 1 with (fail)
 generalize hW : (w.alloc _).alloc _ = W at *
 clear hW
 obtain ⟨vb, hvb⟩ : ∃ vb, w.heap.size = vb := ⟨_, rfl⟩
 rw [hvb] at HP H1 ⊢
 clear hvb
 obtain ⟨_, hb1⟩ := H1.out.has 2 rfl
 have c0 := (blk_get hb1).1 0
 have c1 := (blk_get hb1).1 1
 have c2 := (blk_get hb1).1 2
 have bl1 := (blk_get hb1).2.2
 simp only [List.getElem?_toArray, List.getElem?_cons_zero, List.getElem?_cons_succ] at c0 c1 c2
 clear hb1 H1
 go_wp2_with fail
 (with_reducible refine HP.out.mono ?_)
 rintro e w1 ⟨lv2, rfl, hpp⟩
 cases q with
 | true =>
  obtain ⟨-, hs⟩ : True ∧ St w0 fp0 (riA lv2 (putR x.id x l) :: riA (.slice a n c) l :: blkA (vb + 1) 37 #[.int .i64 0, .slice none 0 0, .int .i64 0] :: blkA vb 37 #[.int .i64 cols, .slice a n c, .int .i64 x.id] :: R) w1 := by
   rcases hpp with ⟨_, h⟩ | ⟨h, _⟩
   · exact ⟨trivial, h⟩
   · cases h
  obtain ⟨_, hrow⟩ := hs.has 0 rfl
  obtain ⟨ya, yc, hyy⟩ := (riA_sl hrow).shape
  subst hyy
  obtain ⟨m, hm⟩ : ∃ m, (putR x.id x l).length = m := ⟨_, rfl⟩
  rw [hm] at hs ⊢
  have hs' := hs.mono ((Below.refl _ w1).alloc (Nat.le_refl _) (.cells #[.int .i64 cols, .slice ya m yc, .int .i64 N2] 37))
  obtain ⟨_, hb2⟩ := hs'.has 2 rfl
  have d0 := (blk_get hb2).1 0
  have d1 := (blk_get hb2).1 1
  have d2 := (blk_get hb2).1 2
  have g0 := (blk_get hb2).2.1 0
  have g1 := (blk_get hb2).2.1 1
  have g2 := (blk_get hb2).2.1 2
  have bl2 := (blk_get hb2).2.2
  simp only [List.getElem?_toArray, List.getElem?_cons_zero, List.getElem?_cons_succ] at d0 d1 d2
  have HF : RowKit.Hid (PutPost w0 fp0 R true (.slice a n c) (.slice ya m yc) x l ((((w1.alloc (.cells #[.int .i64 cols, .slice ya m yc, .int .i64 N2] 37)).setCell ⟨vb + 1, 0, none⟩ (.int .i64 cols)).setCell ⟨vb + 1, 1, none⟩ (.slice ya m yc)).setCell ⟨vb + 1, 2, none⟩ (.int .i64 N2))) := by
   have h5 := ((((St_re (L := [_, _, _, _]) hs' [2, 3, 0, 1] [] (by kernel_rfl)).setB 0 (by simp) (.int .i64 cols)).setB 1 (by simp) (.slice ya m yc)).setB 2 (by simp) (.int .i64 N2)).drop.drop
   exact .inl ⟨rfl, h5⟩
  clear hs hs' hb2 hrow hm hpp HP c0 c1 c2 bl1
  unfold errV
  go_upto_region 3 with (fail)
  generalize hW : w1.alloc _ = W3 at *
  have k0 := World.cell?_alloc_new w1 #[.int .i64 cols, .slice ya m yc, .int .i64 N2] 37 0
  have k1 := World.cell?_alloc_new w1 #[.int .i64 cols, .slice ya m yc, .int .i64 N2] 37 1
  have k2 := World.cell?_alloc_new w1 #[.int .i64 cols, .slice ya m yc, .int .i64 N2] 37 2
  rw [hW] at k0 k1 k2
  simp only [List.getElem?_toArray, List.getElem?_cons_zero, List.getElem?_cons_succ] at k0 k1 k2
  have kl := World.block_lt_of_cell? W3 _ k0
  clear hW
  go_wp2
  refine bodyPost_ret (v := .tuple #[.agg #[.int .i64 cols, .slice ya m yc, .int .i64 N2], .int .i64 x.id]) (by clear HF; simp [results, Tryz.results22, go_sem, *]) rfl ?_
  exact ⟨_, rfl, HF.out⟩
 | false =>
  obtain ⟨hlv, hs⟩ : lv2 = .slice a n c ∧ St w0 fp0 (riA (.slice a n c) l :: blkA (vb + 1) 37 #[.int .i64 0, .slice none 0 0, .int .i64 0] :: blkA vb 37 #[.int .i64 cols, .slice a n c, .int .i64 x.id] :: R) w1 := by
   rcases hpp with ⟨h, _⟩ | ⟨_, h1, h⟩
   · cases h
   · exact ⟨h1, h⟩
  subst hlv
  have hN2 := HQF.out rfl
  subst hN2
  have hs' := hs.mono ((Below.refl _ w1).alloc (Nat.le_refl _) (.cells #[.int .i64 cols, .slice a n c, .int .i64 x.id] 37))
  obtain ⟨_, hb1⟩ := hs'.has 2 rfl
  obtain ⟨_, hb2⟩ := hs'.has 1 rfl
  have k0 := (blk_get hb1).1 0
  have k1 := (blk_get hb1).1 1
  have k2 := (blk_get hb1).1 2
  have kl := (blk_get hb1).2.2
  have d0 := (blk_get hb2).1 0
  have d1 := (blk_get hb2).1 1
  have d2 := (blk_get hb2).1 2
  have g0 := (blk_get hb2).2.1 0
  have g1 := (blk_get hb2).2.1 1
  have g2 := (blk_get hb2).2.1 2
  have bl2 := (blk_get hb2).2.2
  simp only [List.getElem?_toArray, List.getElem?_cons_zero, List.getElem?_cons_succ] at d0 d1 d2 k0 k1 k2
  have HF : RowKit.Hid (PutPost w0 fp0 R false (.slice a n c) (.slice a n c) x l ((((w1.alloc (.cells #[.int .i64 cols, .slice a n c, .int .i64 x.id] 37)).setCell ⟨vb + 1, 0, none⟩ (.int .i64 cols)).setCell ⟨vb + 1, 1, none⟩ (.slice a n c)).setCell ⟨vb + 1, 2, none⟩ (.int .i64 x.id))) := by
   have h5 := ((((St_re (L := [_, _, _]) hs' [1, 2, 0] [] (by kernel_rfl)).setB 0 (by simp) (.int .i64 cols)).setB 1 (by simp) (.slice a n c)).setB 2 (by simp) (.int .i64 x.id)).drop.drop
   exact .inr ⟨rfl, rfl, h5⟩
  clear hs hs' hb1 hb2 hpp HP c0 c1 c2 bl1
  unfold errV
  go_upto_region 3 with (fail)
  generalize hW : w1.alloc _ = W3 at *
  clear hW
  go_wp2
  refine bodyPost_ret (v := .tuple #[.agg #[.int .i64 cols, .slice a n c, .int .i64 x.id], .int .i64 0]) (by clear HF; simp [results, Tryz.results22, go_sem, *]) rfl ?_
  exact ⟨_, rfl, HF.out⟩
end Go.Proofs.YtnefkkidfhmggaaGreat
