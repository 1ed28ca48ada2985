/- Part 12 of the proof: Awk, Lx, Lz, Kr, Ly, Lm2 -/
import Derived.Test.YtnefkkidfhmggaaGreatZ11
import Derived.Test.YtnefkkidfhmggaaGreatZ00
/- awake. -/
namespace Go.Proofs.YtnefkkidfhmggaaGreat
open Go Go.RowKit
theorem St.lay {w0 w w' : World} {fp0 : List Nat} {L : List Asn} {A : Asn} {f : List Nat} (h : St w0 fp0 L w) (ha : A.p w' f) (hb : Below w.heap.size w w') (hn : ∀ k ∈ f, w.heap.size ≤ k) : St w0 fp0 (A :: L) w' :=
 (h.add hb ha hn).perm (by
  classical
  refine List.perm_iff_count.2 fun a => ?_
  simp only [List.count_append, List.count_cons, List.count_nil]
  omega)
theorem rowBlk {b c : Nat} {r : Rw} {w : World} {f : List Nat} (h : (blkA b 29 (flat r).toArray).p w f) (hl : r.length ≤ maxLen) (htx : ∀ v ∈ r, v.text.size ≤ maxLen) : ValsAt w r (.slice (some ⟨b, 0, none⟩) r.length c) := by
 have h1 := SlX.of_blk (X := []) (size := 3) (n := r.length) (c := c) h.1 (by simp) hl (by simpa using length_flat r)
 exact ⟨h1, htx⟩
def txA : ByteArray := ⟨#[97]⟩
def txB : ByteArray := ⟨#[98]⟩
def txC : ByteArray := ⟨#[99]⟩
def tx0 : ByteArray := ⟨#[]⟩
def rwA : Rw := [⟨1, 1, tx0⟩, ⟨2, 0, txA⟩]
def rwB : Rw := [⟨1, 2, tx0⟩, ⟨2, 0, txB⟩]
def rwC : Rw := [⟨1, 2, tx0⟩, ⟨2, 0, txC⟩]
def ixsA : List (List Int) := [[0], [1]]
theorem ixsA_eq : ([[(0 : Int)]] ++ [[1]]).foldl (addI 2) [] = ixsA := by kernel_rfl
theorem awA : insV 2 rwA 1 = 1 ∧ putLL 2 1 rwA [] = [(1, rwA)] ∧ putN 2 1 rwA 1 = 2 := ⟨by kernel_rfl, by kernel_rfl, by kernel_rfl⟩
theorem awB : insV 2 rwB 2 = 2 ∧ putLL 2 2 rwB [(1, rwA)] = [(1, rwA), (2, rwB)] ∧ putN 2 2 rwB 2 = 3 := ⟨by kernel_rfl, by kernel_rfl, by kernel_rfl⟩
theorem awD : getL [(1, rwA), (2, rwB)] 1 = some rwA ∧ delL 1 [(1, rwA), (2, rwB)] = [(2, rwB)] := ⟨by kernel_rfl, by kernel_rfl⟩
theorem awC : putOk 2 7 rwC = true ∧ putLL 2 7 rwC [(2, rwB)] = [(2, rwB), (7, rwC)] ∧ putN 2 7 rwC 3 = 8 := ⟨by kernel_rfl, by kernel_rfl, by kernel_rfl⟩
theorem awL : takeL 9 (lookL 2 [0] [⟨1, 2, tx0⟩] [(2, rwB), (7, rwC)]) = [(2, rwB), (7, rwC)] := by kernel_rfl
theorem awR : takeL 9 (rngL (1 : Nat) ⟨2, 0, txB⟩ ⟨0, 0, tx0⟩ [(2, rwB), (7, rwC)]) = [(2, rwB), (7, rwC)] := by kernel_rfl
theorem rwI (r : Rw) (h : (r.all fun v => decide (-9223372036854775808 ≤ v.int ∧ v.int < 9223372036854775808)) = true) : ∀ v ∈ r, I64 v.int := fun v hv => by simpa [I64] using List.all_eq_true.1 h v hv
theorem rwTx (r : Rw) (h : (r.all fun v => decide (v.text.size ≤ 1000)) = true) : ∀ v ∈ r, v.text.size ≤ maxLen := fun v hv => by
 have := of_decide_eq_true (List.all_eq_true.1 h v hv)
 unfold maxLen
 omega
set_option maxHeartbeats 4000000 in
set_option maxRecDepth 20000 in
theorem awake_calls (w : World) : Calls Tryz.prog 9 #[] w fun e w' => e = .returned (.bool true) ∧ Below w.heap.size w w' := by
 have H0 := Lib.hid (((St.start (w := w) (L := []) (fp := []) rfl).newblk 3 #[.int .i64 0]).newblk 3 #[.int .i64 1])
 go_enter Tryz.func9, Tryz.ntmps9
 go_wp2_with fail
 generalize hW : (w.alloc _).alloc _ = W1 at *
 simp only [World.size_alloc] at H0
 clear hW
 obtain ⟨b0, hb0⟩ : ∃ b0, w.heap.size = b0 := ⟨_, rfl⟩
 rw [hb0] at H0 ⊢
 have HB := Lib.hid hb0
 clear hb0
 refine (table_new 2 (by decide) (some ⟨b0, 0, none⟩) (some ⟨b0 + 1, 0, none⟩) 1 1 1 1 W1).mono ?_
 rintro e w2 ⟨tv, tf, rfl, h1, h2, h3⟩
 have HN := Lib.hid (by
  obtain ⟨_, k0⟩ := (H0.out.mono h2).has 1 rfl
  obtain ⟨_, k1⟩ := (H0.out.mono h2).has 0 rfl
  exact new_new tv 2 (some ⟨b0, 0, none⟩) (some ⟨b0 + 1, 0, none⟩) 1 1 1 1 [0] [1] (by decide) (by decide) w2 ⟨_, h1⟩ (SlX.of_blk (X := []) k0.1 (by simp) (by decide) rfl) (SlX.of_blk (X := []) k1.1 (by simp) (by decide) rfl))
 have H2 := Lib.hid (H0.out.mono h2).drop.drop
 clear h1 h2 h3 H0
 go_wp2_with fail
 (with_reducible refine HN.out.mono ?_)
 rintro e w3 ⟨S, sf, rfl, h1, h2, h3⟩
 rw [ixsA_eq] at h1
 have H3 := Lib.hid (H2.out.lay h1 h2 h3)
 unfold ptrV
 clear h1 h2 h3 H2 HN
 have HX := Lib.hid (by
  obtain ⟨_, h⟩ := H3.out.has 0 rfl
  exact Next_calls h)
 unfold ptrV at HX
 go_wp2_with fail
 (with_reducible refine HX.out.mono ?_)
 rintro e w4 ⟨rfl, rfl⟩
 clear HX
 go_wp2_with fail
 (with_reducible refine (number39_calls 1 _).mono ?_)
 rintro e w4 ⟨rfl, hb⟩
 replace H3 := Lib.hid (H3.out.mono hb)
 clear hb
 unfold Vl.val
 go_wp2_with fail
 refine (text39_calls ⟨#[97]⟩ _).mono ?_
 rintro e w5 ⟨rfl, hb⟩
 replace H3 := Lib.hid ((H3.out.mono hb).newblk 29 #[.int .i64 1, .int .i64 1, .string ⟨#[]⟩, .int .i64 2, .int .i64 0, .string ⟨#[97]⟩])
 clear hb
 unfold Vl.val
 go_wp2_with fail
 generalize hW : w5.alloc _ = w6 at *
 clear hW
 obtain ⟨bb, hbb⟩ : ∃ bb, w5.heap.size = bb := ⟨_, rfl⟩
 rw [hbb] at H3 ⊢
 clear hbb
 have HI := Lib.hid (SInsert_calls S 2 ixsA [] 1 rwA (.slice (some ⟨bb, 0, none⟩) 2 2) (rwI rwA (by kernel_rfl)) (by decide) (by decide) w w6 [] _ (Rd.of_piece 0 rfl fun w f h => rowBlk (b := bb) (c := 2) (r := rwA) h (by decide) (rwTx rwA (by kernel_rfl))) (H3.out.perm (List.Perm.swap _ _ _)))
 unfold ptrV at HI
 rw [awA.1, awA.2.1, awA.2.2] at HI
 (with_reducible refine HI.out.mono ?_)
 rintro e w7 ⟨rfl, h1⟩
 replace H3 := Lib.hid (h1.perm (List.Perm.swap _ _ _)).drop
 clear h1 HI
 go_wp2_with fail
 (with_reducible refine (number39_calls 2 _).mono ?_)
 rintro e w4 ⟨rfl, hb⟩
 replace H3 := Lib.hid (H3.out.mono hb)
 clear hb
 unfold Vl.val
 go_wp2_with fail
 refine (text39_calls ⟨#[98]⟩ _).mono ?_
 rintro e w5 ⟨rfl, hb⟩
 replace H3 := Lib.hid ((H3.out.mono hb).newblk 29 #[.int .i64 1, .int .i64 2, .string ⟨#[]⟩, .int .i64 2, .int .i64 0, .string ⟨#[98]⟩])
 clear hb
 unfold Vl.val
 go_wp2_with fail
 generalize hW : w5.alloc _ = w6 at *
 clear hW
 obtain ⟨bb, hbb⟩ : ∃ bb, w5.heap.size = bb := ⟨_, rfl⟩
 rw [hbb] at H3 ⊢
 clear hbb
 have HI := Lib.hid (SInsert_calls S 2 ixsA [(1, rwA)] 2 rwB (.slice (some ⟨bb, 0, none⟩) 2 2) (rwI rwB (by kernel_rfl)) (by decide) (by decide) w w6 [] _ (Rd.of_piece 0 rfl fun w f h => rowBlk (b := bb) (c := 2) (r := rwB) h (by decide) (rwTx rwB (by kernel_rfl))) (H3.out.perm (List.Perm.swap _ _ _)))
 unfold ptrV at HI
 rw [awB.1, awB.2.1, awB.2.2] at HI
 (with_reducible refine HI.out.mono ?_)
 rintro e w7 ⟨rfl, h1⟩
 replace H3 := Lib.hid (h1.perm (List.Perm.swap _ _ _)).drop
 clear h1 HI
 go_wp2_with fail
 have HP := Lib.hid (SDelete_calls S 2 ixsA [(1, rwA), (2, rwB)] 3 1 (by unfold I64; decide) (by decide) (by decide) w w7 [] [] H3.out)
 rw [awD.1, awD.2] at HP
 unfold ptrV at HP
 simp only [Option.isSome_some, Option.getD_some] at HP
 (with_reducible refine HP.out.mono ?_)
 rintro e w7 ⟨dv, rfl, h1⟩
 replace H3 := Lib.hid h1
 clear h1 HP
 go_wp2_with fail
 have HX := Lib.hid (by
  obtain ⟨_, h⟩ := H3.out.has 1 rfl
  exact Next_calls h)
 unfold ptrV at HX
 (with_reducible refine HX.out.mono ?_)
 rintro e w8 ⟨rfl, rfl⟩
 clear HX
 go_wp2_with fail
 (with_reducible refine (number39_calls 2 _).mono ?_)
 rintro e w4 ⟨rfl, hb⟩
 replace H3 := Lib.hid (H3.out.mono hb)
 clear hb
 unfold Vl.val
 go_wp2_with fail
 refine (text39_calls ⟨#[99]⟩ _).mono ?_
 rintro e w5 ⟨rfl, hb⟩
 replace H3 := Lib.hid (H3.out.mono hb)
 clear hb
 unfold Vl.val
 go_wp2_with fail
 replace H3 := Lib.hid (H3.out.newblk 29 #[.int .i64 1, .int .i64 2, .string ⟨#[]⟩, .int .i64 2, .int .i64 0, .string ⟨#[99]⟩])
 generalize hW : w5.alloc _ = w6 at *
 clear hW
 obtain ⟨bb, hbb⟩ : ∃ bb, w5.heap.size = bb := ⟨_, rfl⟩
 rw [hbb] at H3 ⊢
 clear hbb
 have HI := Lib.hid (SPut_calls S 2 ixsA [(2, rwB)] 3 7 rwC (.slice (some ⟨bb, 0, none⟩) 2 2) (by unfold I64; decide) (rwI rwC (by kernel_rfl)) (by decide) (by decide) w w6 [] _ (Rd.of_piece 0 rfl fun w f h => rowBlk (b := bb) (c := 2) (r := rwC) h (by decide) (rwTx rwC (by kernel_rfl))) (St_re (L := [_, _, _]) H3.out [2, 0, 1] [] (by kernel_rfl)))
 unfold ptrV at HI
 rw [awC.1, awC.2.1, awC.2.2] at HI
 (with_reducible refine HI.out.mono ?_)
 rintro e w7 ⟨rfl, h1⟩
 replace H3 := Lib.hid (St_re (L := [_, _, _]) h1 [1, 2, 0] [] (by kernel_rfl)).drop
 clear h1 HI
 unfold errV
 go_wp2_with fail
 replace H3 := Lib.hid (H3.out.newblk 3 #[.int .i64 0])
 generalize hW : w7.alloc _ = w9 at *
 clear hW
 obtain ⟨bi, hbb⟩ : ∃ bi, w7.heap.size = bi := ⟨_, rfl⟩
 rw [hbb] at H3 ⊢
 clear hbb
 (with_reducible refine (number39_calls 2 _).mono ?_)
 rintro e w4 ⟨rfl, hb⟩
 replace H3 := Lib.hid (H3.out.mono hb)
 clear hb
 unfold Vl.val
 go_wp2_with fail
 replace H3 := Lib.hid (H3.out.newblk 29 #[.int .i64 1, .int .i64 2, .string ⟨#[]⟩])
 generalize hW : w4.alloc _ = w10 at *
 clear hW
 obtain ⟨bw, hbb⟩ : ∃ bw, w4.heap.size = bw := ⟨_, rfl⟩
 rw [hbb] at H3 ⊢
 clear hbb
 have HL := Lib.hid (Lookup_it S 2 ixsA [(2, rwB), (7, rwC)] 8 (by decide) (.slice (some ⟨bi, 0, none⟩) 1 1) (.slice (some ⟨bw, 0, none⟩) 1 1) (cs := [0]) (vals := [⟨1, 2, tx0⟩]) (by decide) (by decide) (fun v hv => by obtain rfl := List.mem_singleton.1 hv; exact ⟨by unfold I64; decide, by decide⟩) w w10 [] _
  (Rd.of_piece 1 (A := blkA bi 3 #[.int .i64 0]) rfl fun w f h => SlX.of_blk (X := []) h.1 (by simp) (by decide) rfl) (Rd.of_piece 0 rfl fun w f h => rowBlk (b := bw) (c := 1) (r := [⟨1, 2, tx0⟩]) h (by decide) (rwTx _ (by kernel_rfl))) (St_re (L := [_, _, _, _]) H3.out [3, 0, 1, 2] [] (by kernel_rfl)))
 unfold ptrV at HL
 (with_reducible refine HL.out.mono ?_)
 rintro e w11 ⟨iv, rfl, h1⟩
 have HT := Lib.hid (taken_it (by decide) (by decide) 9 w w11 [] _ h1)
 rw [awL] at HT
 clear HL h1 H3
 go_wp2_with fail
 (with_reducible refine HT.out.mono ?_)
 rintro e w12 ⟨lu, rfl, h1⟩
 have H3 := Lib.hid (St_re (L := [_, _, _, _, _, _]) h1 [1, 3, 4, 0, 2, 5] [] (by kernel_rfl)).drop.drop.drop
 clear h1 HT
 go_wp2_with fail
 refine (text39_calls ⟨#[98]⟩ _).mono ?_
 rintro e w5 ⟨rfl, hb⟩
 replace H3 := Lib.hid (H3.out.mono hb)
 clear hb
 unfold Vl.val
 go_wp2_with fail
 have HL := Lib.hid (Range_it1 S 2 ixsA (by decide) 1 (by decide) (by decide) ⟨2, 0, txB⟩ ⟨0, 0, tx0⟩ (by kernel_rfl) (by unfold I64; decide) w w5 [] _ H3.out)
 unfold ptrV Vl.val at HL
 refine HL.out.mono ?_
 rintro e w11 ⟨iv2, rfl, h1⟩
 have HT := Lib.hid (taken_it (next := 8) (by decide) (by decide) 9 w w11 [] _ (St_re (L := [_, _, _, _]) h1 [0, 2, 1, 3] [] (by kernel_rfl)))
 rw [awR] at HT
 clear HL h1 H3
 go_wp2_with fail
 (with_reducible refine HT.out.mono ?_)
 rintro e w12 ⟨mu, rfl, h1⟩
 have H3 := Lib.hid (St_re (L := [_, _, _, _, _]) h1 [1, 0, 2, 3, 4] [] (by kernel_rfl)).drop
 clear h1 HT
 go_wp2_with fail
 (with_reducible refine (number39_calls 1 _).mono ?_)
 rintro e w4 ⟨rfl, hb⟩
 replace H3 := Lib.hid (H3.out.mono hb)
 clear hb
 unfold Vl.val
 go_wp2_with fail
 refine (text39_calls ⟨#[97]⟩ _).mono ?_
 rintro e w5 ⟨rfl, hb⟩
 replace H3 := Lib.hid (H3.out.mono hb)
 clear hb
 unfold Vl.val
 go_wp2_with fail
 replace H3 := Lib.hid (H3.out.newblk 29 #[.int .i64 1, .int .i64 1, .string ⟨#[]⟩, .int .i64 2, .int .i64 0, .string ⟨#[97]⟩])
 generalize hW : w5.alloc _ = w6 at *
 clear hW
 obtain ⟨bb, hbb⟩ : ∃ bb, w5.heap.size = bb := ⟨_, rfl⟩
 rw [hbb] at H3 ⊢
 clear hbb
 have HS := Lib.hid (by
  obtain ⟨_, h⟩ := H3.out.has 4 rfl
  obtain ⟨_, k⟩ := H3.out.has 0 rfl
  exact rsame_calls rwA rwA dv (.slice (some ⟨bb, 0, none⟩) 2 2) w6 ⟨SlX.of_row (X := []) h (length_flat _) (by simp), rwTx rwA (by kernel_rfl)⟩ (rowBlk (b := bb) (c := 2) (r := rwA) k (by decide) (rwTx rwA (by kernel_rfl))))
 rw [decide_eq_true rfl] at HS
 (with_reducible refine HS.out.mono ?_)
 rintro e w7 ⟨rfl, hb⟩
 replace H3 := Lib.hid (H3.out.mono hb)
 clear hb HS
 go_wp2_with fail
 have HX := Lib.hid (by
  obtain ⟨_, h⟩ := H3.out.has 2 rfl
  exact Next_calls h)
 unfold ptrV at HX
 (with_reducible refine HX.out.mono ?_)
 rintro e w8 ⟨rfl, rfl⟩
 clear HX
 go_wp2_with fail
 have HX := Lib.hid (by
  obtain ⟨_, h⟩ := H3.out.has 2 rfl
  exact SLen_calls h)
 unfold ptrV at HX
 have e2 : (([(2, rwB), (7, rwC)] : LL).length : Int) = 2 := rfl
 rw [e2] at HX
 (with_reducible refine HX.out.mono ?_)
 rintro e w8 ⟨rfl, rfl⟩
 clear HX
 have HR := Lib.hid (res_rix (L := [(2, rwB), (7, rwC)]) (St_re (L := [_, _, _, _, _]) H3.out [3, 0, 1, 2, 4] [] (by kernel_rfl)) (fun x hx => by
  simp only [List.mem_cons, List.not_mem_nil, or_false] at hx
  rcases hx with rfl | rfl
  · exact rwTx rwB (by kernel_rfl)
  · exact rwTx rwC (by kernel_rfl)))
 have HR2 := Lib.hid (res_rix (L := [(2, rwB), (7, rwC)]) (St_re (L := [_, _, _, _, _]) H3.out [1, 0, 2, 3, 4] [] (by kernel_rfl)) (fun x hx => by
  simp only [List.mem_cons, List.not_mem_nil, or_false] at hx
  rcases hx with rfl | rfl
  · exact rwTx rwB (by kernel_rfl)
  · exact rwTx rwC (by kernel_rfl)))
 obtain ⟨out, ho, hr⟩ := HR.out
 obtain ⟨out2, ho2, hr2⟩ := HR2.out
 have HQ := Lib.hid (RSameI_calls out out2 lu mu _ hr hr2)
 rw [ho, ho2, decide_eq_true rfl] at HQ
 have hlen : out.length = 2 := by rw [← riL_len, ho]; rfl
 obtain ⟨o1, o2, rfl⟩ : ∃ x y, out = [x, y] := by
  match out, hlen with
  | [x, y], _ => exact ⟨x, y, rfl⟩
 obtain ⟨⟨i1, -⟩, i2, -⟩ : (o1.id = 2 ∧ o1.r = rwB) ∧ o2.id = 7 ∧ o2.r = rwC := by simpa [riL] using ho
 obtain ⟨b3, o3, c3, rfl, p0, -⟩ := ri_cells hr.sl 0 (by simp)
 obtain ⟨b4, o4, c4, e4, q0, -⟩ := ri_cells hr.sl 1 (by simp)
 obtain ⟨e5, -, -⟩ := Value.slice.inj e4
 obtain ⟨rfl, rfl, -⟩ : b4 = b3 ∧ o4 = o3 ∧ True := by simpa [eq_comm] using e5
 have p0' : w7.cell? ⟨b4, o4, none⟩ = some (.int .i64 2) := by rw [← i1]; simpa using p0
 have q0' : w7.cell? ⟨b4, o4 + 2, none⟩ = some (.int .i64 7) := by rw [← i2]; simpa using q0
 have pl := World.block_lt_of_cell? _ _ p0'
 have HZ := Lib.hid H3.out
 clear H3 HR HR2 ho ho2 hr hr2 hlen i1 i2 e4 e5 p0 q0
 simp only [List.length_cons, List.length_nil] at HQ ⊢
 go_wp2_with fail
 (with_reducible refine HQ.out.mono ?_)
 rintro e w9 ⟨rfl, hb⟩
 obtain ⟨fp, -, ht⟩ := HZ.out.mono hb
 have HF := Lib.hid (ht.below (Nat.le_refl _) (fun k hk => nomatch hk))
 clear ht HQ HZ hb
 go_wp2
 go_ret
 exact ⟨rfl, HF.out⟩
end Go.Proofs.YtnefkkidfhmggaaGreat
/- The laws' last regions: all rows, taken, against the reference's. -/
namespace Go.Proofs.YtnefkkidfhmggaaGreat
open Go Go.RowKit
set_option maxRecDepth 100000
theorem All_new (S cols : Nat) (I : List (List Int)) (hc : cols ≤ 1000000) (w : World) : Calls Tryz.prog 16 #[ptrV S] w fun e w' => ∃ v f, e = .returned v ∧ (iterA v S cols I fun L => L).p w' f ∧ Below w.heap.size w w' ∧ ∀ k ∈ f, w.heap.size ≤ k := by
 refine (All_it S cols I hc w w [] [] (St.start (L := []) (fp := []) rfl)).mono ?_
 rintro e w' ⟨v, rfl, h⟩
 obtain ⟨f, h1, h2, h3⟩ := piece_of (_fp0 := []) h
 exact ⟨v, f, rfl, h1, h2, h3⟩
theorem takeL_all (L : LL) {n : Nat} (h : L.length = n) : takeL ((n : Int) + 1) L = L := by
 unfold takeL
 rw [if_neg (by omega), List.take_of_length_le (by omega)]
noncomputable def gLx6 (S b6 cols n lc : Nat) (la : Option Addr) (next : Int) (I : List (List Int)) (L : LL) := rgx Tryz.prog Tryz.f5 6 34 [21, 22, 23, 24, 25, 26, 27, 28, 29, 30, 31, 32, 33, 4] [(7, .bool true), (5, pV S 0), (6, pV b6 0)] (Vq 0 21 [Kv (.bool true), Kv (.bool true), Kp S 0] ++ Vq 4 25 [Kp b6 1, Kv (.slice la n lc), Kv (.int .i64 n), Kn (n + 1)] ++ Vq 9 30 [Kp b6 1, Kv (.slice la n lc), Kv (.bool true), Kv (.bool true)] ++ Vq 13 4 [Kv (.bool true)]) [Bk b6 (37) [.int .i64 cols, .slice la n lc, .int .i64 next], .new 3 [24] fun g => iterA (g 24) S cols I fun L => L, .all (storeA S cols I L next), .new 8 [29] fun g => resA (g 29) L]
theorem rLx6 (S b6 cols n lc : Nat) (la : Option Addr) (next : Int) (I : List (List Int)) (L : LL) (w0 : World) (fp0 : List Nat) (R : List Asn) (hc : cols ≤ 1000000) (hl : L.length + 1 < 1099511627776) (hn : L.length = n) (hsame : ∀ A w u, St w0 fp0 ([blkA b6 37 #[.int .i64 cols, .slice la n lc, .int .i64 next], A, storeA S cols I L next, resA u L] ++ R) w → Calls Tryz.prog 13 #[u, .slice la n lc] w fun e w' => e = .returned (.bool true) ∧ Below w.heap.size w w') {w : World} {c : Code} {a : Act} {Q : Exit → Act → World → Prop} (c1 : isReg c = true) (c2 : cops c = opsR Tryz.f5 6) (c3 : a.tmps.size = 34) (c4 : a.defers = []) (i7 : a.eval (.tmp 7) = .bool true) (i5 : a.eval (.tmp 5) = .pointer (some ⟨S, 0, none⟩)) (i6 : a.eval (.tmp 6) = .pointer (some ⟨b6, 0, none⟩))
 (hS : St w0 fp0 ([blkA b6 (37) #[.int .i64 cols, .slice la n lc, .int .i64 next], emp, storeA S cols I L next, emp] ++ R) w)
 (hQ : ∀ (u24 u29 : Value) (w1 : World), St w0 fp0 ([blkA b6 (37) #[.int .i64 cols, .slice la n lc, .int .i64 next], iterA (u24) S cols I fun L => L, storeA S cols I L next, resA (u29) L] ++ R) w1 → Q .normal (putL a [(21, .bool true), (22, .bool true), (23, .pointer (some ⟨S, 0, none⟩)), (24, u24), (25, .pointer (some ⟨b6, 1, none⟩)), (26, .slice la n lc), (27, .int .i64 n), (28, .int .i64 ((n + 1 : Nat) : Int)), (29, u29), (30, .pointer (some ⟨b6, 1, none⟩)), (31, .slice la n lc), (32, .bool true), (33, .bool true), (4, .bool true)]) w1) : c.wp Tryz.prog Q a w := by
 have ok : (gLx6 S b6 cols n lc la next I L w0 fp0 R).Ok 14 := Rg.ok _ 14 [3, 5, 7, 8, 10, 11] ⟨.callNew2 _ 3 1 (f := 16) (args := fun _ => #[ptrV S]) (fun _ v => iterA (v) S cols I fun L => L) (fun _ a w _ => (All_new S cols I hc w).mono fun e w2 ⟨v, f, e1, h2, h3⟩ => ⟨v, f, e1, rfl, h2, h3⟩), .load _ 5 0 1, .add _ 7 (n) (1) ((n + 1 : Nat) : Int), .callG _ 8 (f := 14) (args := fun g => #[g 24, .int .i64 ((n + 1 : Nat) : Int)]) (fun g => [blkA b6 37 #[.int .i64 cols, .slice la n lc, .int .i64 next], iterA (g 24) S cols I fun L => L, storeA S cols I L next, emp]) (fun g v => [blkA b6 37 #[.int .i64 cols, .slice la n lc, .int .i64 next], iterA (g 24) S cols I fun L => L, storeA S cols I L next, resA v L]) (fun g w h => (by have h1 := taken_it hc hl ((n : Int) + 1) w0 w fp0 _ (St_re (L := [_, _, _, _]) h [1, 2, 0, 3] [] (by kernel_rfl)); rw [takeL_all L hn] at h1; exact h1.mono fun e w2 ⟨u, e1, h2⟩ => ⟨u, e1, rfl, St.emp.1 (St_re (L := [_, _, _, _, _]) h2 [4, 3, 1, 2, 0] [] (by kernel_rfl))⟩)), .load _ 10 0 1, .callG _ 11 (f := 13) (args := fun g => #[g 29, .slice la n lc]) (fun g => [blkA b6 37 #[.int .i64 cols, .slice la n lc, .int .i64 next], iterA (g 24) S cols I fun L => L, storeA S cols I L next, resA (g 29) L]) (fun g _ => [blkA b6 37 #[.int .i64 cols, .slice la n lc, .int .i64 next], iterA (g 24) S cols I fun L => L, storeA S cols I L next, resA (g 29) L]) (fun g w h => (hsame _ w _ h).mono fun e w2 ⟨e1, h2⟩ => ⟨_, e1, rfl, h.mono h2⟩), trivial⟩
 refine wp_regT ok (by kernel_rfl) ⟨c1, c2⟩ ⟨c3, c4, fun p hp => ?_⟩ hS fun A1 w1 N1 H1 => ?_
 · simp only [gLx6, rgx, List.map_nil, List.append_nil, List.mem_cons, List.not_mem_nil, or_false] at hp
   rcases hp with rfl | rfl | rfl
   · exact i7
   · exact i5
   · exact i6
 have e21 := N1.val 0 rfl
 have e22 := N1.val 1 rfl
 have e23 := N1.val 2 rfl
 have e25 := N1.val 3 rfl
 have e26 := N1.val 4 rfl
 have e27 := N1.val 5 rfl
 have e28 := N1.val 6 rfl
 have e30 := N1.val 7 rfl
 have e31 := N1.val 8 rfl
 have e32 := N1.val 9 rfl
 have e33 := N1.val 10 rfl
 have e4 := N1.val 11 rfl
 have h := hQ (slots A1 24) (slots A1 29) w1  H1
 rw [frame_eq N1.frame (cons_eq e21 (cons_eq e22 (cons_eq e23 (cons_eq rfl (cons_eq e25 (cons_eq e26 (cons_eq e27 (cons_eq e28 (cons_eq rfl (cons_eq e30 (cons_eq e31 (cons_eq e32 (cons_eq e33 (cons_eq e4 rfl))))))))))))))]
 exact h
noncomputable def gLy9 (S b6 cols n lc : Nat) (la : Option Addr) (next : Int) (I : List (List Int)) (L : LL) := rgx Tryz.prog Tryz.f4 9 46 [30, 31, 32, 33, 34, 35, 36, 37, 38, 39, 40, 41, 42, 43, 44] [(8, .bool true), (6, pV S 0), (7, pV b6 0)] (Vq 0 30 [Kv (.bool true), Kv (.bool false), Kv (.bool false), Kp S 0] ++ Vq 5 35 [Kp b6 1, Kv (.slice la n lc), Kv (.int .i64 n), Kn (n + 1)] ++ Vq 10 40 [Kp b6 1, Kv (.slice la n lc), Kv (.bool true), Kv (.bool false), Kv (.bool false)]) [Bk b6 (37) [.int .i64 cols, .slice la n lc, .int .i64 next], .new 4 [34] fun g => iterA (g 34) S cols I fun L => L, .all (storeA S cols I L next), .new 9 [39] fun g => resA (g 39) L]
theorem rLy9 (S b6 cols n lc : Nat) (la : Option Addr) (next : Int) (I : List (List Int)) (L : LL) (w0 : World) (fp0 : List Nat) (R : List Asn) (hc : cols ≤ 1000000) (hl : L.length + 1 < 1099511627776) (hn : L.length = n) (hsame : ∀ A w u, St w0 fp0 ([blkA b6 37 #[.int .i64 cols, .slice la n lc, .int .i64 next], A, storeA S cols I L next, resA u L] ++ R) w → Calls Tryz.prog 13 #[u, .slice la n lc] w fun e w' => e = .returned (.bool true) ∧ Below w.heap.size w w') {w : World} {c : Code} {a : Act} {Q : Exit → Act → World → Prop} (c1 : isReg c = true) (c2 : cops c = opsR Tryz.f4 9) (c3 : a.tmps.size = 46) (c4 : a.defers = []) (i8 : a.eval (.tmp 8) = .bool true) (i6 : a.eval (.tmp 6) = .pointer (some ⟨S, 0, none⟩)) (i7 : a.eval (.tmp 7) = .pointer (some ⟨b6, 0, none⟩))
 (hS : St w0 fp0 ([blkA b6 (37) #[.int .i64 cols, .slice la n lc, .int .i64 next], emp, storeA S cols I L next, emp] ++ R) w)
 (hQ : ∀ (u34 u39 : Value) (w1 : World), St w0 fp0 ([blkA b6 (37) #[.int .i64 cols, .slice la n lc, .int .i64 next], iterA (u34) S cols I fun L => L, storeA S cols I L next, resA (u39) L] ++ R) w1 → Q .normal (putL a [(30, .bool true), (31, .bool false), (32, .bool false), (33, .pointer (some ⟨S, 0, none⟩)), (34, u34), (35, .pointer (some ⟨b6, 1, none⟩)), (36, .slice la n lc), (37, .int .i64 n), (38, .int .i64 ((n + 1 : Nat) : Int)), (39, u39), (40, .pointer (some ⟨b6, 1, none⟩)), (41, .slice la n lc), (42, .bool true), (43, .bool false), (44, .bool false)]) w1) : c.wp Tryz.prog Q a w := by
 have ok : (gLy9 S b6 cols n lc la next I L w0 fp0 R).Ok 15 := Rg.ok _ 15 [4, 6, 8, 9, 11, 12] ⟨.callNew2 _ 4 1 (f := 16) (args := fun _ => #[ptrV S]) (fun _ v => iterA (v) S cols I fun L => L) (fun _ a w _ => (All_new S cols I hc w).mono fun e w2 ⟨v, f, e1, h2, h3⟩ => ⟨v, f, e1, rfl, h2, h3⟩), .load _ 6 0 1, .add _ 8 (n) (1) ((n + 1 : Nat) : Int), .callG _ 9 (f := 14) (args := fun g => #[g 34, .int .i64 ((n + 1 : Nat) : Int)]) (fun g => [blkA b6 37 #[.int .i64 cols, .slice la n lc, .int .i64 next], iterA (g 34) S cols I fun L => L, storeA S cols I L next, emp]) (fun g v => [blkA b6 37 #[.int .i64 cols, .slice la n lc, .int .i64 next], iterA (g 34) S cols I fun L => L, storeA S cols I L next, resA v L]) (fun g w h => (by have h1 := taken_it hc hl ((n : Int) + 1) w0 w fp0 _ (St_re (L := [_, _, _, _]) h [1, 2, 0, 3] [] (by kernel_rfl)); rw [takeL_all L hn] at h1; exact h1.mono fun e w2 ⟨u, e1, h2⟩ => ⟨u, e1, rfl, St.emp.1 (St_re (L := [_, _, _, _, _]) h2 [4, 3, 1, 2, 0] [] (by kernel_rfl))⟩)), .load _ 11 0 1, .callG _ 12 (f := 13) (args := fun g => #[g 39, .slice la n lc]) (fun g => [blkA b6 37 #[.int .i64 cols, .slice la n lc, .int .i64 next], iterA (g 34) S cols I fun L => L, storeA S cols I L next, resA (g 39) L]) (fun g _ => [blkA b6 37 #[.int .i64 cols, .slice la n lc, .int .i64 next], iterA (g 34) S cols I fun L => L, storeA S cols I L next, resA (g 39) L]) (fun g w h => (hsame _ w _ h).mono fun e w2 ⟨e1, h2⟩ => ⟨_, e1, rfl, h.mono h2⟩), trivial⟩
 refine wp_regT ok (by kernel_rfl) ⟨c1, c2⟩ ⟨c3, c4, fun p hp => ?_⟩ hS fun A1 w1 N1 H1 => ?_
 · simp only [gLy9, rgx, List.map_nil, List.append_nil, List.mem_cons, List.not_mem_nil, or_false] at hp
   rcases hp with rfl | rfl | rfl
   · exact i8
   · exact i6
   · exact i7
 have e30 := N1.val 0 rfl
 have e31 := N1.val 1 rfl
 have e32 := N1.val 2 rfl
 have e33 := N1.val 3 rfl
 have e35 := N1.val 4 rfl
 have e36 := N1.val 5 rfl
 have e37 := N1.val 6 rfl
 have e38 := N1.val 7 rfl
 have e40 := N1.val 8 rfl
 have e41 := N1.val 9 rfl
 have e42 := N1.val 10 rfl
 have e43 := N1.val 11 rfl
 have e44 := N1.val 12 rfl
 have h := hQ (slots A1 34) (slots A1 39) w1  H1
 rw [frame_eq N1.frame (cons_eq e30 (cons_eq e31 (cons_eq e32 (cons_eq e33 (cons_eq rfl (cons_eq e35 (cons_eq e36 (cons_eq e37 (cons_eq e38 (cons_eq rfl (cons_eq e40 (cons_eq e41 (cons_eq e42 (cons_eq e43 (cons_eq e44 rfl)))))))))))))))]
 exact h
end Go.Proofs.YtnefkkidfhmggaaGreat
/- TablestoreLarge: its walk. -/
namespace Go.Proofs.YtnefkkidfhmggaaGreat
open Go Go.RowKit
/-- What is asked of operations that are passed. -/
def OpsOk (l : List Opr) : Prop := ∀ o ∈ l, o.kd < 256 ∧ I64 o.id ∧ ∀ v ∈ o.r, I64 v.int
theorem OpsOk.play {l : List Opr} {kl fl : Nat} {most : Int} (h : OpsOk l) (hf : fairB kl fl l most = true) : ∀ o ∈ l, o.kd < 256 ∧ I64 o.id ∧ o.r.length ≤ 1000 ∧ ∀ v ∈ o.r, I64 v.int := fun o ho => by
 have h1 := h o ho
 have h2 := (fair_ok hf).2.2.2 o ho
 exact ⟨h1.1, h1.2.1, by omega, h1.2.2⟩
theorem st_below {W w : World} {L : List Asn} (h : St W [] L w) : Below W.heap.size W w := by
 obtain ⟨fp, -, ht⟩ := h
 exact ht.below (Nat.le_refl _) fun k hk => nomatch hk
/-- Rows of a store are short. -/
theorem sto_text {w0 w : World} {fp0 : List Nat} {R : List Asn} {S cols : Nat} {I : List (List Int)} {L : LL} {next : Int} (h : St w0 fp0 (storeA S cols I L next :: R) w) : ∀ x ∈ L, ∀ y ∈ x.2, y.text.size ≤ maxLen := by
 obtain ⟨s, hok, -⟩ := h.openS
 intro x hx y hy
 have := ((hok.row x hx).2.2.s y hy).2
 unfold maxLen
 omega
/-- The rows of the reference's list are read. -/
theorem of_rix {w : World} {l : List Opr} {v lv : Value} {m : List Ri} (hl : OpsX w l v) (hm : ∀ x ∈ m, Of l x) (hs : SlX [] w 2 m.length (riV m) lv) : RiX w m lv := ⟨hs, fun x hx => by
 obtain ⟨o, ho, e1, e2⟩ := hm x hx
 rw [← e1, ← e2]
 exact hl.row o ho⟩
theorem same_res {w0 w : World} {fp0 : List Nat} {R : List Asn} {u lv : Value} {L : LL} {m : List Ri} (h : St w0 fp0 (resA u L :: R) w) (hx : ∀ x ∈ L, ∀ y ∈ x.2, y.text.size ≤ maxLen) (hm : RiX w m lv) (he : riL m = L) :
 Calls Tryz.prog 13 #[u, lv] w fun e w' => e = .returned (.bool true) ∧ Below w.heap.size w w' := by
 obtain ⟨out, ho, hr⟩ := res_rix h hx
 have := RSameI_calls out m u lv w hr hm
 rwa [ho, he, decide_eq_true rfl] at this
set_option maxHeartbeats 4000000 in
set_option maxRecDepth 20000 in
theorem large_calls (u : Nat) (hu : u < 256) (ka fa : Option Addr) (kn kc fn fc : Nat) (K F : List Int) (l : List Opr) (v : Value) (W : World) (hk : IntsX [] W K (.slice ka kn kc)) (hf : IntsX [] W F (.slice fa fn fc)) (hl : OpsX W l v) (ho : OpsOk l) :
 Calls Tryz.prog 5 #[.agg #[.int .u8 u, .slice ka kn kc, .slice fa fn fc], v] W fun e w' => e = .returned (.bool true) ∧ Below W.heap.size W w' := by
 have H0 := Lib.hid ((St.start (w := W) (L := []) (fp := []) rfl).newblk 24 #[.int .u8 u, .slice ka kn kc, .slice fa fn fc])
 have HK := Lib.hid hk
 have HF := Lib.hid hf
 have HL := Lib.hid hl
 have HO := Lib.hid ho
 clear hk hf hl ho
 go_enter Tryz.func5, Tryz.ntmps5
 go_wp2_with fail
 generalize hW : W.alloc _ = w1 at *
 obtain ⟨b2, hb2⟩ : ∃ b2, W.heap.size = b2 := ⟨_, rfl⟩
 rw [hb2] at H0 ⊢
 have HB := Lib.hid hb2
 clear hW hb2
 (with_reducible refine (awake_calls w1).mono ?_)
 rintro e w2 ⟨rfl, hb⟩
 replace H0 := Lib.hid (H0.out.mono hb)
 clear hb
 obtain ⟨q0, q1, q2, r0, r1, r2, ql⟩ := cells3 H0.out 0 rfl
 go_wp2_with fail
 have HQ := Lib.hid (fair_calls u ka fa kn kc fn fc l v 200 w2 (by have := SlX.len HK.out; omega) (by have := SlX.len HF.out; omega) (HL.out.mono (st_below H0.out)))
 obtain ⟨q, hq⟩ : ∃ q, fairB kn fn l 200 = q := ⟨_, rfl⟩
 rw [hq] at HQ
 (with_reducible refine HQ.out.mono ?_)
 rintro e w3 ⟨rfl, hb⟩
 replace H0 := Lib.hid (H0.out.mono hb)
 clear hb HQ q0 q1 q2 r0 r1 r2 ql
 cases q with
 | false =>
  rw [← HB.out]
  have HE := Lib.hid (st_below H0.out)
  clear H0 hq
  go_wp2
  go_ret
  exact ⟨rfl, HE.out⟩
 | true =>
  have HFQ := Lib.hid (fair_ok hq)
  have HOP := Lib.hid (HO.out.play hq)
  clear hq
  have HP := Lib.hid (by
   have hr : ∀ {Q : World → Prop}, (∀ w', Below W.heap.size W w' → Q w') → Rd W [] [blkA b2 24 #[.int .u8 u, .slice ka kn kc, .slice fa fn fc]] Q := fun h L w hs => h w (st_below hs)
   have h2 := SlX.len HK.out
   have h3 := SlX.len HF.out
   exact play_calls u hu ka fa kn kc fn fc K F (by have := HFQ.out.2.1; omega) (by have := HFQ.out.2.2.1; omega) l v W w3 [] _ (hr fun w' hb => HK.out.mono hb) (hr fun w' hb => HF.out.mono hb) (hr fun w' hb => HL.out.mono hb) (by have := HFQ.out.1; omega) HOP.out H0.out)
  obtain ⟨q0, q1, q2, r0, r1, r2, ql⟩ := cells3 H0.out 0 rfl
  clear H0
  go_wp2_with fail
  (with_reducible refine HP.out.mono ?_)
  rintro e w4 ⟨S, I, next, lv, m, rfl, hml, hasc, hof, h4⟩
  obtain ⟨la, lc, rfl⟩ : ∃ a c, lv = .slice a m.length c := by
   obtain ⟨_, hr⟩ := h4.has 1 rfl
   exact (riA_sl hr).shape
  have HM := Lib.hid (And.intro hml (And.intro hasc hof))
  have H4 := Lib.hid (h4.newblk 37 #[.int .i64 (colsN u), .slice la m.length lc, .int .i64 next])
  clear hml hasc hof h4 HP q0 q1 q2 r0 r1 r2 ql
  unfold rsV ptrV
  go_upto_region 6 with (fail)
  generalize hW4 : w4.alloc _ = w5 at *
  obtain ⟨b6, hb6⟩ : ∃ b6, w4.heap.size = b6 := ⟨_, rfl⟩
  rw [hb6] at H4 ⊢
  clear hW4 hb6
  refine rLx6 (w0 := W) (fp0 := []) S b6 (colsN u) m.length lc la next I (riL m) (riA (.slice la m.length lc) m :: [blkA b2 24 #[.int .u8 u, .slice ka kn kc, .slice fa fn fc]]) (by unfold colsN; omega) (by rw [riL_len]; have := HM.out.1; have := HFQ.out.1; omega) (riL_len m) (fun A w x h => same_res (St_re (L := [_, _, _, _]) h [3, 0, 1, 2] [] (by kernel_rfl)) (sto_text (St_re (L := [_, _, _, _]) h [2, 0, 1, 3] [] (by kernel_rfl))) (by
   obtain ⟨_, hr⟩ := h.has 4 rfl
   exact of_rix (HL.out.mono (st_below h)) HM.out.2.2 (riA_sl hr)) rfl) rfl (by kernel_rfl) rfl rfl rfl rfl rfl ?_ ?_
  · exact St_re (L := [_, _, _, _, _]) (St.emp.2 (St.emp.2 H4.out)) [2, 0, 3, 1, 4] [] (by kernel_rfl)
  · intro u24 u29 w6 h6
    have HE := Lib.hid (st_below h6)
    clear h6 H4
    rw [← HB.out]
    simp only [putL, List.foldl, Act.put, List.setIfInBounds_toArray, List.set_cons_succ, List.set_cons_zero]
    go_wp2
    go_ret
    exact ⟨rfl, HE.out⟩
end Go.Proofs.YtnefkkidfhmggaaGreat
/- How shapes, operations and rows that came in are read. -/
namespace Go.Proofs.YtnefkkidfhmggaaGreat
open Go Go.ChangeShapes Go.ChangeAt Go.RowKit Go.WideShapes
set_option maxRecDepth 100000
theorem flatMap_get {α : Type} {g : α → List Value} {sz : Nat} (hg : ∀ y, (g y).length = sz) : ∀ (l : List α) (i r : Nat), r < sz → (l.flatMap g)[i * sz + r]? = (l[i]?).bind fun y => (g y)[r]?
 | [], i, r, _ => by simp
 | x :: l, 0, r, h => by
  rw [Nat.zero_mul, Nat.zero_add, List.flatMap_cons, List.getElem?_append_left (by rw [hg]; exact h)]
  rfl
 | x :: l, i + 1, r, h => by
  have := flatMap_get hg l i r h
  rw [List.flatMap_cons, List.getElem?_append_right (by rw [hg, Nat.add_mul]; omega), hg, Nat.add_mul, Nat.one_mul, show i * sz + sz + r - sz = i * sz + r by omega, this]
  rfl
theorem flatMap_len {α : Type} {g : α → List Value} {sz : Nat} (hg : ∀ y, (g y).length = sz) (l : List α) : (l.flatMap g).length = l.length * sz := by
 induction l with
 | nil => simp
 | cons x l ih => rw [List.flatMap_cons, List.length_append, ih, hg, List.length_cons, Nat.add_mul]; omega
theorem slx_read {α : Type} [Inhabited α] {w : World} {sz : Nat} (h0 : 0 < sz) (g : α → List Value) (hg : ∀ y, (g y).length = sz) {P : α → Prop} {b o len cap : Nat} (hcm : len ≤ maxLen) (hall : ∀ i, i < len → ∃ y, (∀ j, j < sz → w.cell? ⟨b, o + i * sz + j, none⟩ = (g y)[j]?) ∧ P y) :
 ∃ l : List α, SlX [] w sz l.length (l.flatMap g) (.slice (some ⟨b, o, none⟩) len cap) ∧ ∀ y ∈ l, P y := by
 obtain ⟨f, hf⟩ := Deep.choose_lt hall
 have hl : ((List.range len).map f).length = len := by simp
 refine ⟨(List.range len).map f, ⟨by rw [hl]; exact hcm, flatMap_len hg _, some ⟨b, o, none⟩, cap, by rw [hl], fun j hj => ⟨b, o, rfl, by simp, ?_⟩⟩, fun y hy => ?_⟩
 · rw [flatMap_len hg, hl] at hj
   have hi : j / sz < len := (Nat.div_lt_iff_lt_mul h0).2 hj
   have e := flatMap_get hg ((List.range len).map f) (j / sz) (j % sz) (Nat.mod_lt _ h0)
   have ej : j / sz * sz + j % sz = j := by rw [Nat.mul_comm]; exact Nat.div_add_mod _ _
   rw [ej] at e
   have h1 := (hf (j / sz) hi).1 (j % sz) (Nat.mod_lt _ h0)
   rw [Nat.add_assoc, ej] at h1
   rw [h1]
   rw [List.getElem?_map, List.getElem?_range hi] at e
   rw [← List.getElem?_eq_getElem, e]
   rfl
 · obtain ⟨i, hi, rfl⟩ := List.mem_map.1 hy
   exact (hf i (by simpa using hi)).2
theorem flat_int (l : List Int) : l.flatMap (fun n : Int => [intC n]) = l.map intC := by
 induction l with
 | nil => rfl
 | cons x l ih => rw [List.flatMap_cons, ih]; rfl
theorem wf64 {n : Int} (h : (Lit.int .i64 n).wf = true) : I64 n := by
 unfold Lit.wf at h
 simp [IntKind.min, IntKind.max, IntKind.bits, IntKind.signed] at h
 unfold I64
 omega
theorem cV : Tryz.prog.cellsOf 29 = 3 := by kernel_rfl
theorem cSTR : Tryz.prog.cellsOf 9 = 1 := by kernel_rfl
theorem cRW : Tryz.prog.cellsOf 27 = 1 := by kernel_rfl
theorem cI64 : Tryz.prog.cellsOf 2 = 1 := by kernel_rfl
theorem cINT : Tryz.prog.cellsOf 3 = 1 := by kernel_rfl
theorem cU8 : Tryz.prog.cellsOf 5 = 1 := by kernel_rfl
theorem cIS : Tryz.prog.cellsOf 22 = 1 := by kernel_rfl
theorem cOP : Tryz.prog.cellsOf 58 = 3 := by kernel_rfl
theorem cSHAPE : Tryz.prog.cellsOf 24 = 3 := by kernel_rfl
instance : Inhabited Vl := ⟨⟨0, 0, ⟨#[]⟩⟩⟩
instance : Inhabited Opr := ⟨⟨0, 0, none, 0, 0, []⟩⟩
section
variable {H : Type} {enc : TypeId × Value → H} {w : World}
def VlOk (v : Vl) : Prop := v.text.size ≤ maxLen ∧ I64 v.int
theorem read_vl {fuel : Nat} {cs : List Value} {x : DataW H × List MemPlace} (h : DataW.trod enc Tryz.prog w 0 (fun _ => true) true fuel 29 cs = some x) : ∃ v : Vl, cs = v.cells ∧ VlOk v := by
 obtain ⟨xs, n, -, rfl, hl, hxl, hx⟩ := DataW.trod_struct Tryz.underlying29 h
 rw [cV] at hl
 match cs, hl, hx with
 | [a, b, c], _, hx =>
  match xs, hxl, hx with
  | [x0, x1, x2], _, hx =>
   have h0 := hx 0 _ rfl
   have h1 := hx 1 _ rfl
   have h2 := hx 2 _ rfl
   simp only [List.getElem_toArray, List.getElem_cons_zero, List.getElem_cons_succ, cINT, cI64, cSTR] at h0 h1 h2
   obtain ⟨k, e0, -, -⟩ := DataW.trod_int Tryz.underlying3 (by simpa using h0)
   obtain ⟨i, e1, -, hi⟩ := DataW.trod_int Tryz.underlying2 (by simpa using h1)
   obtain ⟨t, e2, -, hm⟩ := DataW.trod_string Tryz.underlying9 (by simpa using h2)
   cases e0
   cases e1
   cases e2
   exact ⟨⟨k, i, t⟩, rfl, hm, wf64 hi⟩
theorem read_row {fuel : Nat} {s : Value} {x : DataW H × List MemPlace} (h : DataW.trod enc Tryz.prog w 0 (fun _ => true) true fuel 27 [s] = some x) : ∃ R : Rw, ValsAt w R s ∧ ∀ v ∈ R, I64 v.int := by
 rcases slice_read Tryz.underlying27 cV (by omega) h with ⟨a, e⟩ | ⟨b, o, len, cap, k, D, R, e, hb, hlc, hcm, rfl, hxD, hDl, hel⟩
 · cases e
   exact ⟨[], ValsX.nil _ _ _ _, by simp⟩
 · cases e
   obtain ⟨l, h1, h2⟩ := slx_read (w := w) (cap := cap) (sz := 3) (by omega) Vl.cells (fun _ => rfl) (P := VlOk) (b := b) (o := o) (len := len) (Nat.le_trans hlc hcm) (fun i hi => by
    obtain ⟨cs', pl, -, hc, ht⟩ := hel i (by rw [hDl]; exact hi)
    obtain ⟨v, rfl, hv⟩ := read_vl ht
    exact ⟨v, hc, hv⟩)
   exact ⟨l, ⟨h1, fun v hv => (h2 v hv).1⟩, fun v hv => (h2 v hv).2⟩
theorem read_ints {fuel : Nat} {s : Value} {x : DataW H × List MemPlace} (h : DataW.trod enc Tryz.prog w 0 (fun _ => true) true fuel 22 [s] = some x) : ∃ l : List Int, IntsX [] w l s ∧ ∀ v ∈ l, I64 v := by
 rcases slice_read Tryz.underlying22 cINT (by omega) h with ⟨a, e⟩ | ⟨b, o, len, cap, k, D, R, e, hb, hlc, hcm, rfl, hxD, hDl, hel⟩
 · cases e
   exact ⟨[], SlX.nil _ _ _ _ _, by simp⟩
 · cases e
   obtain ⟨l, h1, h2⟩ := slx_read (w := w) (cap := cap) (sz := 1) (by omega) (fun n : Int => [intC n]) (fun _ => rfl) (P := I64) (b := b) (o := o) (len := len) (Nat.le_trans hlc hcm) (fun i hi => by
    obtain ⟨cs', pl, -, hc, ht⟩ := hel i (by rw [hDl]; exact hi)
    obtain ⟨n, rfl, -, hn⟩ := DataW.trod_int Tryz.underlying3 ht
    exact ⟨n, hc, wf64 hn⟩)
   refine ⟨l, ?_, h2⟩
   rw [flat_int] at h1
   exact h1
theorem read_op {fuel : Nat} {cs : List Value} {x : DataW H × List MemPlace} (h : DataW.trod enc Tryz.prog w 0 (fun _ => true) true fuel 58 cs = some x) : ∃ y : Opr, cs = [.int .u8 y.kd, .int .i64 y.id, y.v] ∧ ValsAt w y.r y.v ∧ y.kd < 256 ∧ I64 y.id ∧ ∀ v ∈ y.r, I64 v.int := by
 obtain ⟨xs, n, -, rfl, hl, hxl, hx⟩ := DataW.trod_struct Tryz.underlying58 h
 rw [cOP] at hl
 match cs, hl, hx with
 | [a, b, c], _, hx =>
  match xs, hxl, hx with
  | [x0, x1, x2], _, hx =>
   have h0 := hx 0 _ rfl
   have h1 := hx 1 _ rfl
   have h2 := hx 2 _ rfl
   simp only [List.getElem_toArray, List.getElem_cons_zero, List.getElem_cons_succ, cU8, cI64, cRW] at h0 h1 h2
   obtain ⟨k, e0, -, hk⟩ := DataW.trod_int Tryz.underlying5 (by simpa using h0)
   obtain ⟨i, e1, -, hi⟩ := DataW.trod_int Tryz.underlying2 (by simpa using h1)
   obtain ⟨R, hR, hRi⟩ := read_row (s := c) (x := x2) (by simpa using h2)
   obtain ⟨ra, rn, rc, rfl, -, -⟩ := hR.shape
   cases e0
   cases e1
   have hk' : 0 ≤ k ∧ k < 256 := by
    unfold Lit.wf at hk
    simp [IntKind.min, IntKind.max, IntKind.bits, IntKind.signed] at hk
    omega
   refine ⟨⟨k.toNat, i, ra, rn, rc, R⟩, ?_, hR, by show k.toNat < 256; omega, wf64 hi, hRi⟩
   show _ = [Value.int .u8 (k.toNat : Int), _, _]
   rw [Int.toNat_of_nonneg hk'.1]
   rfl
theorem read_ops {fuel : Nat} {s : Value} {x : DataW H × List MemPlace} (h : DataW.trod enc Tryz.prog w 0 (fun _ => true) true fuel 25 [s] = some x) : ∃ l : List Opr, OpsX w l s ∧ OpsOk l ∧ ∀ a n c, s = .slice a n c → n ≤ c := by
 rcases slice_read Tryz.underlying25 cOP (by omega) h with ⟨a, e⟩ | ⟨b, o, len, cap, k, D, R, e, hb, hlc, hcm, rfl, hxD, hDl, hel⟩
 · cases e
   exact ⟨[], ⟨SlX.nil _ _ _ _ _, by simp⟩, (by intro o ho; cases ho), (by intro a n c e; cases e; exact Nat.le_refl _)⟩
 · cases e
   obtain ⟨l, h1, h2⟩ := slx_read (w := w) (cap := cap) (sz := 3) (by omega) (fun y : Opr => [.int .u8 y.kd, .int .i64 y.id, y.v]) (fun _ => rfl) (P := fun y => ValsAt w y.r y.v ∧ y.kd < 256 ∧ I64 y.id ∧ ∀ v ∈ y.r, I64 v.int) (b := b) (o := o) (len := len) (Nat.le_trans hlc hcm) (fun i hi => by
    obtain ⟨cs', pl, -, hc, ht⟩ := hel i (by rw [hDl]; exact hi)
    obtain ⟨y, rfl, hy⟩ := read_op ht
    exact ⟨y, hc, hy⟩)
   exact ⟨l, ⟨h1, fun y hy => (h2 y hy).1⟩, fun y hy => (h2 y hy).2, (by intro a n c e; cases e; exact hlc)⟩
/-- A shape. -/
theorem open_shape {W : World} {base : Nat} {v : Value} {d : DataW H} {p : List MemPlace} (hok : Value.okWide Tryz.prog W .any base 24 v) (h : DataW.Trod enc Tryz.prog W 0 (fun _ => true) true 24 v d p) :
 ∃ u ka kn kc fa fn fc K F, v = .agg #[.int .u8 (u : Nat), .slice ka kn kc, .slice fa fn fc] ∧ u < 256 ∧ IntsX [] W K (.slice ka kn kc) ∧ IntsX [] W F (.slice fa fn fc) := by
 obtain ⟨cs, rfl, -⟩ := okWide_struct Tryz.underlying24 hok
 obtain ⟨fuel, h⟩ := h
 obtain ⟨xs, n, -, -, hl, hxl, hx⟩ := DataW.trod_struct Tryz.underlying24 h
 rw [cSHAPE] at hl
 obtain ⟨cl⟩ := cs
 have hcl : (Value.agg ⟨cl⟩).cells.toList = cl := rfl
 rw [hcl] at hl hx
 match cl, hl, hx with
 | [a, b, c], _, hx =>
  match xs, hxl, hx with
  | [x0, x1, x2], _, hx =>
   have h0 := hx 0 _ rfl
   have h1 := hx 1 _ rfl
   have h2 := hx 2 _ rfl
   simp only [List.getElem_toArray, List.getElem_cons_zero, List.getElem_cons_succ, cU8, cIS] at h0 h1 h2
   obtain ⟨k, e0, -, hk⟩ := DataW.trod_int Tryz.underlying5 (by simpa using h0)
   obtain ⟨K, hK, -⟩ := read_ints (s := b) (x := x1) (by simpa using h1)
   obtain ⟨F, hF, -⟩ := read_ints (s := c) (x := x2) (by simpa using h2)
   obtain ⟨ka, kn, kc, rfl, -, -⟩ := hK.shape
   obtain ⟨fa, fn, fc, rfl, -, -⟩ := hF.shape
   cases e0
   have hk' : 0 ≤ k ∧ k < 256 := by
    unfold Lit.wf at hk
    simp [IntKind.min, IntKind.max, IntKind.bits, IntKind.signed] at hk
    omega
   refine ⟨k.toNat, ka, kn, kc, fa, fn, fc, K, F, ?_, by omega, hK, hF⟩
   rw [Int.toNat_of_nonneg hk'.1]
theorem open_ops {W : World} {base : Nat} {v : Value} {d : DataW H} {p : List MemPlace} (hok : Value.okWide Tryz.prog W .any base 25 v) (h : DataW.Trod enc Tryz.prog W 0 (fun _ => true) true 25 v d p) : ∃ l, OpsX W l v ∧ OpsOk l ∧ ∀ a n c, v = .slice a n c → n ≤ c := by
 obtain ⟨fuel, h⟩ := h
 rw [cell_of_one_slice W Tryz.underlying25 hok] at h
 exact read_ops h
end
end Go.Proofs.YtnefkkidfhmggaaGreat
/- MatchesList's drawn region: play on the first operations. -/
namespace Go.Proofs.YtnefkkidfhmggaaGreat
open Go Go.RowKit
set_option maxRecDepth 100000
def tu : Value → Nat → Value
 | .tuple a, i => a.getD i undef
 | _, _ => undef
def ag : Value → Nat → Value
 | .agg a, i => a.getD i undef
 | _, _ => undef
def iv : Value → Int
 | .int _ n => n
 | _ => 0
/-- The result of play. -/
def plV (cols : Nat) (v : Value) : Value := .tuple #[.pointer (some ⟨pb (tu v 0), 0, none⟩), .agg #[.int .i64 cols, .slice (sa (ag (tu v 1) 1)) (sn (ag (tu v 1) 1)) (sc (ag (tu v 1) 1)), .int .i64 (iv (ag (tu v 1) 2))], .bool true]
def plOk (l : List Opr) (m : List Ri) : Prop := m.length ≤ l.length ∧ (m.Pairwise fun a b => a.id < b.id) ∧ ∀ x ∈ m, Of l x
def plA (l : List Opr) (cols : Nat) (v : Value) : Asn := exA fun q : (Nat × List (List Int)) × Int × Value × List Ri => starA [pureA (v = .tuple #[ptrV q.1.1, rsV cols q.2.2.1 q.2.1, .bool true] ∧ plOk l q.2.2.2), storeA q.1.1 cols q.1.2 (riL q.2.2.2) q.2.1, riA q.2.2.1 q.2.2.2]
theorem St.pl {w0 w : World} {fp0 : List Nat} {R : List Asn} {l : List Opr} {cols : Nat} {v : Value} : St w0 fp0 (plA l cols v :: R) w ↔ ∃ S I next lv m, v = .tuple #[ptrV S, rsV cols lv next, .bool true] ∧ plOk l m ∧ St w0 fp0 (storeA S cols I (riL m) next :: riA lv m :: R) w := by
 constructor
 · intro h
   obtain ⟨⟨⟨S, I⟩, next, lv, m⟩, h1⟩ := St.exE h
   obtain ⟨⟨h2, h3⟩, h4⟩ := St.pure.1 (St.star.1 h1)
   exact ⟨S, I, next, lv, m, h2, h3, h4⟩
 · rintro ⟨S, I, next, lv, m, h2, h3, h4⟩
   exact St.exI ((S, I), next, lv, m) (St.star.2 (St.pure.2 ⟨⟨h2, h3⟩, h4⟩))
theorem play_new (u : Nat) (hu : u < 256) (ka fa : Option Addr) (kn kc fn fc : Nat) (K F : List Int) (hK : K.length ≤ 6) (hF : F.length ≤ 6) (l : List Opr) (v : Value) (w : World)
 (hk : IntsX [] w K (.slice ka kn kc)) (hf : IntsX [] w F (.slice fa fn fc)) (hl : OpsX w l v) (hlen : l.length ≤ 100000) (hops : ∀ o ∈ l, o.kd < 256 ∧ I64 o.id ∧ o.r.length ≤ 1000 ∧ ∀ v ∈ o.r, I64 v.int) :
 Calls Tryz.prog 11 #[.agg #[.int .u8 u, .slice ka kn kc, .slice fa fn fc], v] w fun e w' => ∃ r f, e = .returned r ∧ plV (colsN u) r = r ∧ (plA l (colsN u) r).p w' f ∧ Below w.heap.size w w' ∧ ∀ k ∈ f, w.heap.size ≤ k := by
 have hr : ∀ {Q : World → Prop}, (∀ w', Below w.heap.size w w' → Q w') → Rd w [] [] Q := fun h L w' hs => h w' (st_below hs)
 refine (play_calls u hu ka fa kn kc fn fc K F hK hF l v w w [] [] (hr fun w' hb => hk.mono hb) (hr fun w' hb => hf.mono hb) (hr fun w' hb => hl.mono hb) hlen hops (St.start (L := []) (fp := []) rfl)).mono ?_
 rintro e w' ⟨S, I, next, lv, m, rfl, h1, h2, h3, h4⟩
 obtain ⟨f, h5, h6, h7⟩ := piece_of (_fp0 := []) (St.pl.2 ⟨S, I, next, lv, m, rfl, ⟨h1, h2, h3⟩, h4⟩)
 refine ⟨_, f, rfl, ?_, h5, h6, h7⟩
 obtain ⟨_, hr⟩ := h4.has 1 rfl
 obtain ⟨a, c, rfl⟩ := (riA_sl hr).shape
 rfl
theorem run_uptoN {P : Program} {w : World} {t e : TypeId} {b o n c l s : Nat} (hu : P.underlying t = some (.slice e)) (hz : (sizeOf e).run P w = .ok s w) (h2 : l ≤ c) : (Instr.sliceAt t (.slice (some ⟨b, o, none⟩) n c) none (some (.int .i64 l)) none).run P w = .ok (.slice (some ⟨b, o, none⟩) l c) w := by
 simp [Instr.sliceAt, Instr.slice, Instr.sliceBounds, run_underlying hu, hz, run_sliceBound, h2, Addr.add]
theorem Rg.Ob.uptoN (G : Rg) (i b o n c l s : Nat) (h2 : l ≤ c) {t e : TypeId} {x y : Operand} (hop : (opAt G.ops i).op = .slice t x none (some y) none := by rfl) (hu : G.P.underlying t = some (.slice e) := by rfl) (hz : ∀ w, (sizeOf e).run G.P w = .ok s w := by intro _; exact kr (by kernel_rfl)) (hx : ∀ a, G.env i a x = .slice (some ⟨b, o, none⟩) n c := by intro _; exact kr (by kernel_rfl)) (hy : ∀ a, G.env i a y = .int .i64 l := by intro _; exact kr (by kernel_rfl)) (hv : ∀ g, G.valD i g = .slice (some ⟨b, o, none⟩) l c := by intro _; exact kr (by kernel_rfl))
 (hq : (G.quiet i G.pcs.length && G.okV i) = true := by exact kr (by kernel_rfl)) (hw : ∀ a, wantE G.ops (opAt G.ops i) (G.env i a) = some true := by intro _; exact kr (by kernel_rfl)) : G.Ob i := Rg.Ob.read G i hq hw fun L a w _ _ => by
 simp only [execOp, hop, hx, hy, Option.map_some, Option.map_none, Sem.run_bind, run_uptoN hu (hz w) h2, Result.andThen_ok, Sem.run_pure, hv]
theorem OpsX.take {w : World} {l : List Opr} {b o n c : Nat} (h : OpsX w l (.slice (some ⟨b, o, none⟩) n c)) (k : Nat) (hk : k ≤ n) : OpsX w (l.take k) (.slice (some ⟨b, o, none⟩) k c) := by
 obtain ⟨rfl, hm, h2⟩ := SlX.len h.sl
 have hl : (l.take k).length = k := by rw [List.length_take]; omega
 have e : opV (l.take k) = (opV l).take (k * 3) := by
  have e1 : l = l.take k ++ l.drop k := (List.take_append_drop k l).symm
  have e2 : opV l = opV (l.take k) ++ opV (l.drop k) := by
   conv => lhs; rw [e1]
   exact List.flatMap_append
  have e3 := opV_len (l.take k)
  rw [hl] at e3
  rw [e2, ← e3, List.take_left]
 refine ⟨⟨by omega, by rw [opV_len], some ⟨b, o, none⟩, c, by rw [hl], fun j hj => ⟨b, o, rfl, by simp, ?_⟩⟩, fun x hx => h.row x (List.mem_of_mem_take hx)⟩
 have hj2 : j < (opV l).length := by
  rw [opV_len, hl] at hj
  rw [opV_len]
  omega
 rw [h.sl.cell j hj2]
 congr 1
 simp only [e, List.getElem_take]
/-- An operation without a value, of which all pieces are told. -/
theorem Rg.Ob.skipG (G : Rg) (i : Nat) (PL PN : (Nat → Value) → List Asn)
 (hr : ∀ a w, St G.w0 G.fp0 (PL (slots a) ++ G.R) w → ∃ w', (execOp (G.env i a) (opAt G.ops i)).run G.P w = .ok .skip w' ∧ St G.w0 G.fp0 (PN (slots a) ++ G.R) w')
 (hL : ∀ L g, (G.pcs.map fun p => p.at (lk (closOf G.ops) i L) g) = PL g := by intro _ _; exact kr (by kernel_rfl)) (hN : ∀ L g, (G.pcs.map fun p => p.at (ln (closOf G.ops) i L) g) = PN g := by intro _ _; exact kr (by kernel_rfl))
 (hd : dstOf G.ops i = none := by exact kr (by kernel_rfl)) (hvo : (G.valOf i).isNone = true := by exact kr (by kernel_rfl)) (hw : ∀ a, wantE G.ops (opAt G.ops i) (G.env i a) = some true := by intro _; exact kr (by kernel_rfl)) : G.Ob i := by
 intro o ho L a w hsz he hS
 have hd' : o.dst = none := by
  rw [← hd, dstOf, ho]
  rfl
 have hvo' : G.valOf i = none := by simpa using hvo
 have hw' := hw a
 have h' := hr a w
 rw [opAt_eq ho] at hw' h'
 unfold stP at hS
 rw [hL] at hS
 obtain ⟨w', h1, h3⟩ := h' hS
 rw [hw', h1, hd']
 refine ⟨fun t ht => (by rw [hvo'] at ht; cases ht), ?_⟩
 unfold stP
 rw [sput_none, hN]
 exact h3
noncomputable def gLy8 (b2 u lb lo n lc k kn kc fn fc : Nat) (ka fa : Option Addr) (l : List Opr) := rgx Tryz.prog Tryz.f4 8 46 [21, 22, 23, 24, 25, 26, 20, 27, 28, 29, 7, 6, 8] [(2, pV b2 0), (1, .slice (some ⟨lb, lo, none⟩) n lc), (5, .int .i64 k)] (Vq 0 21 [Kv (.agg #[.int .u8 u, .slice ka kn kc, .slice fa fn fc]), Kv (.slice (some ⟨lb, lo, none⟩) n lc), Kv (.int .i64 k), Kv (.int .i64 ((k + 1 : Nat) : Int)), Kv (.slice (some ⟨lb, lo, none⟩) (k + 1) lc), Fv [26] fun g => .tuple #[.pointer (some ⟨pb (tu (g 26) 0), 0, none⟩), .agg #[.int .i64 (colsN u), .slice (sa (ag (tu (g 26) 1) 1)) (sn (ag (tu (g 26) 1) 1)) (sc (ag (tu (g 26) 1) 1)), .int .i64 (iv (ag (tu (g 26) 1) 2))], .bool true]] ++ Vq 6 20 [Fv [26] fun g => .tuple #[.pointer (some ⟨pb (tu (g 26) 0), 0, none⟩), .agg #[.int .i64 (colsN u), .slice (sa (ag (tu (g 26) 1) 1)) (sn (ag (tu (g 26) 1) 1)) (sc (ag (tu (g 26) 1) 1)), .int .i64 (iv (ag (tu (g 26) 1) 2))], .bool true]] ++ Vq 7 27 [Fv [26] fun g => .pointer (some ⟨pb (tu (g 26) 0), 0, none⟩), Fv [26] fun g => .agg #[.int .i64 (colsN u), .slice (sa (ag (tu (g 26) 1) 1)) (sn (ag (tu (g 26) 1) 1)) (sc (ag (tu (g 26) 1) 1)), .int .i64 (iv (ag (tu (g 26) 1) 2))], Kv (.bool true)] ++ Vq 10 7 [Vf.ptr] ++ Vq 11 6 [Fv [26] fun g => .pointer (some ⟨pb (tu (g 26) 0), 0, none⟩)] ++ Vq 13 8 [Kv (.bool true)]) [Bk b2 (24) [.int .u8 u, .slice ka kn kc, .slice fa fn fc], .new 5 [26] fun g => plA l (colsN u) (g 26), .gen [10, 12] [7] fun L g => match L 12 with | true => emp | false => match L 10 with | true => atA 37 (g 7) #[.int .i64 0, .slice none 0 0, .int .i64 0] | false => emp, .new 12 [7, 26] fun g => atA 37 (g 7) #[.int .i64 (colsN u), .slice (sa (ag (tu (g 26) 1) 1)) (sn (ag (tu (g 26) 1) 1)) (sc (ag (tu (g 26) 1) 1)), .int .i64 (iv (ag (tu (g 26) 1) 2))]]
theorem rLy8 (b2 u lb lo n lc k kn kc fn fc : Nat) (ka fa : Option Addr) (l : List Opr) (w0 : World) (fp0 : List Nat) (R : List Asn) (hkn : k < n) (hnl : n ≤ lc) (hn6 : n < 1000000) (hplay : ∀ L w, St w0 fp0 (L ++ R) w → Calls Tryz.prog 11 #[.agg #[.int .u8 u, .slice ka kn kc, .slice fa fn fc], .slice (some ⟨lb, lo, none⟩) (k + 1) lc] w fun e w' => ∃ r f, e = .returned r ∧ plV (colsN u) r = r ∧ (plA l (colsN u) r).p w' f ∧ Below w.heap.size w w' ∧ ∀ k ∈ f, w.heap.size ≤ k) {w : World} {c : Code} {a : Act} {Q : Exit → Act → World → Prop} (c1 : isReg c = true) (c2 : cops c = opsR Tryz.f4 8) (c3 : a.tmps.size = 46) (c4 : a.defers = []) (i2 : a.eval (.tmp 2) = .pointer (some ⟨b2, 0, none⟩)) (i1 : a.eval (.tmp 1) = .slice (some ⟨lb, lo, none⟩) n lc) (i5 : a.eval (.tmp 5) = .int .i64 k)
 (hS : St w0 fp0 ([blkA b2 (24) #[.int .u8 u, .slice ka kn kc, .slice fa fn fc], emp, emp, emp] ++ R) w)
 (hQ : ∀ (u6 u7 u20 u26 u27 u28 : Value) (w1 : World), u26 = .tuple #[.pointer (some ⟨pb (tu (u26) 0), 0, none⟩), .agg #[.int .i64 (colsN u), .slice (sa (ag (tu (u26) 1) 1)) (sn (ag (tu (u26) 1) 1)) (sc (ag (tu (u26) 1) 1)), .int .i64 (iv (ag (tu (u26) 1) 2))], .bool true] → u20 = .tuple #[.pointer (some ⟨pb (tu (u26) 0), 0, none⟩), .agg #[.int .i64 (colsN u), .slice (sa (ag (tu (u26) 1) 1)) (sn (ag (tu (u26) 1) 1)) (sc (ag (tu (u26) 1) 1)), .int .i64 (iv (ag (tu (u26) 1) 2))], .bool true] → u27 = .pointer (some ⟨pb (tu (u26) 0), 0, none⟩) → u28 = .agg #[.int .i64 (colsN u), .slice (sa (ag (tu (u26) 1) 1)) (sn (ag (tu (u26) 1) 1)) (sc (ag (tu (u26) 1) 1)), .int .i64 (iv (ag (tu (u26) 1) 2))] → (∃ b, u7 = .pointer (some ⟨b, 0, none⟩)) → u6 = .pointer (some ⟨pb (tu (u26) 0), 0, none⟩) → St w0 fp0 ([blkA b2 (24) #[.int .u8 u, .slice ka kn kc, .slice fa fn fc], plA l (colsN u) (u26), emp, atA 37 (u7) #[.int .i64 (colsN u), .slice (sa (ag (tu (u26) 1) 1)) (sn (ag (tu (u26) 1) 1)) (sc (ag (tu (u26) 1) 1)), .int .i64 (iv (ag (tu (u26) 1) 2))]] ++ R) w1 → Q .normal (putL a [(21, .agg #[.int .u8 u, .slice ka kn kc, .slice fa fn fc]), (22, .slice (some ⟨lb, lo, none⟩) n lc), (23, .int .i64 k), (24, .int .i64 ((k + 1 : Nat) : Int)), (25, .slice (some ⟨lb, lo, none⟩) (k + 1) lc), (26, u26), (20, u20), (27, u27), (28, u28), (29, .bool true), (7, u7), (6, u6), (8, .bool true)]) w1) : c.wp Tryz.prog Q a w := by
 have ok : (gLy8 b2 u lb lo n lc k kn kc fn fc ka fa l w0 fp0 R).Ok 14 := Rg.ok _ 14 [0, 3, 4, 5, 10, 12] ⟨.run1 _ 0 0 (fun _ => blkA b2 24 #[.int .u8 u, .slice ka kn kc, .slice fa fn fc]) (fun _ _ => blkA b2 24 #[.int .u8 u, .slice ka kn kc, .slice fa fn fc]) (fun L a w fp _ hp => (by have c0 := (blk_get hp).1 0; have c1 := (blk_get hp).1 1; have c2 := (blk_get hp).1 2; exact ⟨.agg #[.int .u8 u, .slice ka kn kc, .slice fa fn fc], w, fp, load3 rfl (kr (by kernel_rfl)) (kr (by kernel_rfl)) (kr (by kernel_rfl)) c0 c1 c2, kr (by kernel_rfl), hp, Tr.refl _ _⟩)), .add _ 3 (k) (1) ((k + 1 : Nat) : Int), .uptoN _ 4 lb lo n lc (k + 1) 3 (by omega), .callNew2 _ 5 1 (f := 11) (args := fun _ => #[.agg #[.int .u8 u, .slice ka kn kc, .slice fa fn fc], .slice (some ⟨lb, lo, none⟩) (k + 1) lc]) (fun _ v => plA l (colsN u) v) (fun L a w hS => (hplay _ w hS).mono fun e w2 ⟨v, f, e1, h0, h2, h3, h4⟩ => ⟨v, f, e1, h0, h2, h3, h4⟩), .run1 _ 10 2 (fun _ => emp) (fun _ v => atA 37 v #[.int .i64 0, .slice none 0 0, .int .i64 0]) (fun L a w fp _ hp => ⟨.pointer (some ⟨w.heap.size, 0, none⟩), w.alloc (.cells #[.int .i64 0, .slice none 0 0, .int .i64 0] 37), [w.heap.size], kr (by kernel_rfl), kr (by kernel_rfl), ⟨w.heap.size, rfl, heap_alloc_new w _, rfl⟩, trNew hp _⟩), .skipG _ 12 (fun g => [blkA b2 24 #[.int .u8 u, .slice ka kn kc, .slice fa fn fc], plA l (colsN u) (g 26), atA 37 (g 7) #[.int .i64 0, .slice none 0 0, .int .i64 0], emp]) (fun g => [blkA b2 24 #[.int .u8 u, .slice ka kn kc, .slice fa fn fc], plA l (colsN u) (g 26), emp, atA 37 (g 7) #[.int .i64 (colsN u), .slice (sa (ag (tu (g 26) 1) 1)) (sn (ag (tu (g 26) 1) 1)) (sc (ag (tu (g 26) 1) 1)), .int .i64 (iv (ag (tu (g 26) 1) 2))]]) (fun a w h => (by obtain ⟨b, e, h2⟩ := St.at_open (St_re (L := [_, _, _, _]) h [2, 0, 1, 3] [] (by kernel_rfl)); obtain ⟨_, hb, hk⟩ := h2.get 0 rfl; obtain ⟨w2, f2, h3, h4, h5⟩ := store3 (P := Tryz.prog) (ty := 37) (v0 := .int .i64 (colsN u)) (v1 := .slice (sa (ag (tu (slots a 26) 1) 1)) (sn (ag (tu (slots a 26) 1) 1)) (sc (ag (tu (slots a 26) 1) 1))) (v2 := .int .i64 (iv (ag (tu (slots a 26) 1) 2))) hb (kr (by kernel_rfl)) rfl rfl rfl; exact ⟨w2, exec_store rfl (Eq.trans (b := Value.pointer (some ⟨pb (slots a 7), 0, none⟩)) (kr (by kernel_rfl)) (by rw [e]; rfl)) (kr (by kernel_rfl)) h3, St_re (L := [_, _, _, _]) (hk (atA 37 (slots a 7) #[.int .i64 (colsN u), .slice (sa (ag (tu (slots a 26) 1) 1)) (sn (ag (tu (slots a 26) 1) 1)) (sc (ag (tu (slots a 26) 1) 1)), .int .i64 (iv (ag (tu (slots a 26) 1) 2))]) w2 f2 ⟨b, e, h4⟩ h5) [1, 2, 3, 0] [] (by kernel_rfl)⟩)), trivial⟩
 refine wp_regT ok (by kernel_rfl) ⟨c1, c2⟩ ⟨c3, c4, fun p hp => ?_⟩ hS fun A1 w1 N1 H1 => ?_
 · simp only [gLy8, rgx, List.map_nil, List.append_nil, List.mem_cons, List.not_mem_nil, or_false] at hp
   rcases hp with rfl | rfl | rfl
   · exact i2
   · exact i1
   · exact i5
 have e21 := N1.val 0 rfl
 have e22 := N1.val 1 rfl
 have e23 := N1.val 2 rfl
 have e24 := N1.val 3 rfl
 have e25 := N1.val 4 rfl
 have e26 := N1.val 5 rfl
 have e20 := N1.val 6 rfl
 have e27 := N1.val 7 rfl
 have e28 := N1.val 8 rfl
 have e29 := N1.val 9 rfl
 have e7 := N1.val 10 rfl
 have e6 := N1.val 11 rfl
 have e8 := N1.val 12 rfl
 have h := hQ (slots A1 6) (slots A1 7) (slots A1 20) (slots A1 26) (slots A1 27) (slots A1 28) w1 e26 e20 e27 e28 ⟨_, e7⟩ e6 H1
 rw [frame_eq N1.frame (cons_eq e21 (cons_eq e22 (cons_eq e23 (cons_eq e24 (cons_eq e25 (cons_eq rfl (cons_eq rfl (cons_eq rfl (cons_eq rfl (cons_eq e29 (cons_eq rfl (cons_eq rfl (cons_eq e8 rfl)))))))))))))]
 exact h
end Go.Proofs.YtnefkkidfhmggaaGreat
/- TablestoreMatchesList: its walk. -/
namespace Go.Proofs.YtnefkkidfhmggaaGreat
open Go Go.RowKit
set_option maxHeartbeats 4000000 in
set_option maxRecDepth 20000 in
theorem matches_calls (u : Nat) (hu : u < 256) (ka fa : Option Addr) (kn kc fn fc : Nat) (K F : List Int) (l : List Opr) (v : Value) (W : World) (hk : IntsX [] W K (.slice ka kn kc)) (hf : IntsX [] W F (.slice fa fn fc)) (hl : OpsX W l v) (ho : OpsOk l) (hcap : ∀ a n c, v = .slice a n c → n ≤ c) :
 Calls Tryz.prog 4 #[.agg #[.int .u8 u, .slice ka kn kc, .slice fa fn fc], v] W fun e w' => e = .returned (.bool true) ∧ Below W.heap.size W w' := by
 have H0 := Lib.hid ((St.start (w := W) (L := []) (fp := []) rfl).newblk 24 #[.int .u8 u, .slice ka kn kc, .slice fa fn fc])
 have HK := Lib.hid hk
 have HF := Lib.hid hf
 have HL := Lib.hid hl
 have HO := Lib.hid ho
 clear hk hf hl ho
 go_enter Tryz.func4, Tryz.ntmps4
 go_wp2_with fail
 generalize hW : W.alloc _ = w1 at *
 obtain ⟨b2, hb2⟩ : ∃ b2, W.heap.size = b2 := ⟨_, rfl⟩
 rw [hb2] at H0 ⊢
 have HB := Lib.hid hb2
 clear hW hb2
 (with_reducible refine (awake_calls w1).mono ?_)
 rintro e w2 ⟨rfl, hb⟩
 replace H0 := Lib.hid (H0.out.mono hb)
 clear hb
 obtain ⟨q0, q1, q2, r0, r1, r2, ql⟩ := cells3 H0.out 0 rfl
 go_wp2_with fail
 have HQ := Lib.hid (fair_calls u ka fa kn kc fn fc l v 40 w2 (by have := SlX.len HK.out; omega) (by have := SlX.len HF.out; omega) (HL.out.mono (st_below H0.out)))
 obtain ⟨q, hq⟩ : ∃ q, fairB kn fn l 40 = q := ⟨_, rfl⟩
 rw [hq] at HQ
 (with_reducible refine HQ.out.mono ?_)
 rintro e w3 ⟨rfl, hb⟩
 replace H0 := Lib.hid (H0.out.mono hb)
 clear hb HQ q0 q1 q2 r0 r1 r2 ql
 cases q with
 | false =>
  rw [← HB.out]
  have HE := Lib.hid (st_below H0.out)
  clear H0 hq
  go_wp2
  go_ret
  exact ⟨rfl, HE.out⟩
 | true =>
  have HFQ := Lib.hid (fair_ok hq)
  have HOP := Lib.hid (HO.out.play hq)
  clear hq
  obtain ⟨va, vc, rfl⟩ : ∃ a c, v = .slice a l.length c := HL.out.sl.shape
  have hvc := hcap _ _ _ rfl
  clear hcap
  obtain ⟨N, hN⟩ : ∃ N, l.length = N := ⟨_, rfl⟩
  rw [hN] at HL hvc ⊢
  have HVC := Lib.hid hvc
  clear hvc
  have HN := Lib.hid hN
  have hn63 : N ≤ 40 := by have := HFQ.out.1; omega
  clear hN
  go_upto_region 6 with (fail)
  go_loopg [17] N (fun g z wr => ∃ k : Nat, z = .int .i64 k ∧ g + k = N ∧ RowKit.Hid (St W [] [blkA b2 24 #[.int .u8 u, .slice ka kn kc, .slice fa fn fc]] wr))
  case atStart => exact ⟨0, rfl, rfl, H0⟩
  case round =>
   clear H0
   obtain ⟨k, rfl, hgk, Hi⟩ := hrel
   have Hgk := Lib.hid hgk
   by_cases hkk : k < N
   · have hkn : (k : Int) < N := by omega
     clear hgk
     go_upto_region 8 with (fail)
     obtain ⟨lb, lo, rfl⟩ : ∃ b o, va = some ⟨b, o, none⟩ := by
      obtain ⟨b, o, h, -⟩ := HL.out.sl.has (by rw [opV_len]; have := HN.out; omega)
      exact ⟨b, o, h⟩
     refine rLy8 (w0 := W) (fp0 := []) b2 u lb lo N vc k kn kc fn fc ka fa (l.take (k + 1)) [] hkk HVC.out (by omega) (fun L w hs => play_new u hu ka fa kn kc fn fc K F (by have h2 := SlX.len HK.out; have := HFQ.out.2.1; omega) (by have h2 := SlX.len HF.out; have := HFQ.out.2.2.1; omega) (l.take (k + 1)) _ w (HK.out.mono (st_below hs)) (HF.out.mono (st_below hs)) ((HL.out.mono (st_below hs)).take (k + 1) hkk) (by rw [List.length_take]; omega) fun o ho => HOP.out o (List.mem_of_mem_take ho)) rfl (by kernel_rfl) rfl rfl rfl rfl rfl (St_re (L := [_, _, _, _]) (St.emp.2 (St.emp.2 (St.emp.2 Hi.out))) [3, 0, 1, 2] [] (by kernel_rfl)) ?_
     intro u6 u7 u20 u26 u27 u28 w5 e26 e20 e27 e28 ⟨b7, e7⟩ e6 h5
     have h6 := St_re (L := [_, _, _, _]) h5 [1, 3, 0, 2] [] (by kernel_rfl)
     obtain ⟨S, I, next, lv, m, ev, hok, h7⟩ := St.pl.1 h6
     obtain ⟨la, lc, rfl⟩ : ∃ a c, lv = .slice a m.length c := by
      obtain ⟨_, hr⟩ := h7.has 1 rfl
      exact (riA_sl hr).shape
     subst ev
     replace e20 : u20 = .tuple #[.pointer (some ⟨S, 0, none⟩), .agg #[.int .i64 (colsN u), .slice la m.length lc, .int .i64 next], .bool true] := e20
     replace e27 : u27 = .pointer (some ⟨S, 0, none⟩) := e27
     replace e28 : u28 = .agg #[.int .i64 (colsN u), .slice la m.length lc, .int .i64 next] := e28
     replace e6 : u6 = .pointer (some ⟨S, 0, none⟩) := e6
     subst e20 e27 e28 e6 e7
     obtain ⟨b, eb, h8⟩ := St.at_open (St_re (L := [_, _, _, _, _]) h7 [2, 0, 1, 3, 4] [] (by kernel_rfl))
     obtain rfl : b = b7 := by simpa using eb.symm
     have H5 : RowKit.Hid (St W [] (blkA b 37 #[.int .i64 (colsN u), .slice la m.length lc, .int .i64 next] :: storeA S (colsN u) I (riL m) next :: riA (.slice la m.length lc) m :: [blkA b2 24 #[.int .u8 u, .slice ka kn kc, .slice fa fn fc]]) w5) := (St_re (L := [_, _, _, _, _]) h8 [4, 0, 1, 2, 3] [] (by kernel_rfl)).drop
     have HM := Lib.hid hok
     clear h5 h6 h7 h8 e26 eb Hi hok
     simp only [putL, List.foldl, Act.put, List.setIfInBounds_toArray, List.set_cons_succ, List.set_cons_zero, ptrV, rsV]
     go_upto_region 9 with (fail)
     refine rLy9 (w0 := W) (fp0 := []) S b (colsN u) m.length lc la next I (riL m) (riA (.slice la m.length lc) m :: [blkA b2 24 #[.int .u8 u, .slice ka kn kc, .slice fa fn fc]]) (by unfold colsN; omega) (by rw [riL_len]; have h1 := HM.out.1; rw [List.length_take] at h1; omega) (riL_len m) (fun A w x h => same_res (St_re (L := [_, _, _, _]) h [3, 0, 1, 2] [] (by kernel_rfl)) (sto_text (St_re (L := [_, _, _, _]) h [2, 0, 1, 3] [] (by kernel_rfl))) (by
      obtain ⟨_, hr⟩ := h.has 4 rfl
      exact of_rix (HL.out.mono (st_below h)) (fun x hx => by
       obtain ⟨o, ho, e⟩ := HM.out.2.2 x hx
       exact ⟨o, List.mem_of_mem_take ho, e⟩) (riA_sl hr)) rfl) rfl (by kernel_rfl) rfl rfl rfl rfl rfl (St_re (L := [_, _, _, _, _, _]) (St.emp.2 (St.emp.2 H5.out)) [2, 0, 3, 1, 4, 5] [] (by kernel_rfl)) ?_
     intro u34 u39 w6 h6
     have HI : RowKit.Hid (St W [] [blkA b2 24 #[.int .u8 u, .slice ka kn kc, .slice fa fn fc]] w6) := h6.drop.drop.drop.drop.drop
     clear h6 H5
     simp only [putL, List.foldl, Act.put, List.setIfInBounds_toArray, List.set_cons_succ, List.set_cons_zero]
     go_wp2
     go_roundg (gk - 1)
     case rel => exact ⟨k + 1, by go_num, by have := Hgk.out; omega, HI⟩
     case measure => have := Hgk.out; omega
   · obtain rfl : k = N := by omega
     have HE := Lib.hid (st_below Hi.out)
     clear hgk Hi
     rw [← HB.out]
     go_wp2
     go_ret
     exact ⟨rfl, HE.out⟩
end Go.Proofs.YtnefkkidfhmggaaGreat
