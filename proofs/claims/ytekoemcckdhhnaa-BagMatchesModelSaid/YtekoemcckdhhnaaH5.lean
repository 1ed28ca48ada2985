/- awake: the examples hold. -/
import Derived.Test.YtekoemcckdhhnaaH4
import Derived.Test.YtekoemcckdhhnaaE4
namespace Go.Proofs.Ytekoemcckdhhnaa
open Go.RowKit

def r1 : Rw := [⟨1, 1, ⟨#[]⟩⟩]
def r2 : Rw := [⟨1, 2, ⟨#[]⟩⟩]
theorem ex1 : [r1, r2, r2] = ofL [r2, r1, r2] := by decide
theorem ex2 : minusL (ofL [r2, r1, r2]) (ofL [r2]) = [r1, r2] := by decide

theorem RowsAt.built {w : World} {L : List Rw} {xs : List Value} (h : RowVs w L xs) (n : Nat) (hn : n = L.length) (hm : n ≤ maxLen) : RowsAt (w.alloc (.cells xs.toArray 33)) L (.slice (some ⟨w.heap.size, 0, none⟩) n n) := by
  refine .lie L xs w.heap.size 0 n n hn (by simp) hm (fun i x hi => ?_) (h.mono ((Below.refl _ _).alloc (Nat.le_refl _) _))
  rw [Nat.zero_add, World.cell?_alloc_new]
  simpa using hi
theorem rows_len {l : List Rw} (h : ∀ r ∈ l, r.length < 1099511627776) : ∀ e ∈ newB l, e.1.length < 1099511627776 := by
  intro e he
  have hw := newB_all l
  have hp := hw.1.pos e he
  have : e.1 ∈ rowsB (newB l) := by
    simp only [rowsB, List.mem_flatMap]
    exact ⟨e, he, List.mem_replicate.2 ⟨by omega, rfl⟩⟩
  rw [hw.2, ← List.count_pos_iff, count_ofL, List.count_pos_iff] at this
  exact h _ this

set_option maxHeartbeats 2000000 in
set_option maxRecDepth 20000 in
theorem awake_calls (w : World) : Calls Try.prog 10 #[] w fun e w' => e = .returned (.bool true) ∧ Below w.heap.size w w' := by
  go_enter Try.func10, Try.ntmps10
  go_wp2_with fail
  (with_reducible refine (num_calls 2 w).mono ?_)
  rintro e w1 ⟨x1, rfl, h1, b1⟩
  obtain ⟨a1, n1, c1, rfl, -, -⟩ := h1.vals.shape
  have H1 := Lib.hid h1.vals
  have B1 := Lib.hid b1
  clear h1 b1
  go_wp2_with fail
  (with_reducible refine (num_calls 1 w1).mono ?_)
  rintro e w2 ⟨x2, rfl, h2, b2⟩
  obtain ⟨a2, n2, c2, rfl, -, -⟩ := h2.vals.shape
  have H2 := Lib.hid h2.vals
  have B2 := Lib.hid b2
  clear h2 b2
  go_wp2_with fail
  (with_reducible refine (num_calls 2 w2).mono ?_)
  rintro e w3 ⟨x3, rfl, h3, b3⟩
  obtain ⟨a3, n3, c3, rfl, -, -⟩ := h3.vals.shape
  have B3 : RowKit.Hid (Below w.heap.size w w3) := B1.out.trans ((B2.out.trans (b3.mono B2.out.size)).mono B1.out.size)
  have hrow : RowsAt (w3.alloc (.cells #[.slice a1 n1 c1, .slice a2 n2 c2, .slice a3 n3 c3] 33)) [r2, r1, r2] (.slice (some ⟨w3.heap.size, 0, none⟩) 3 3) :=
    RowsAt.built (.cons (H1.out.mono (B2.out.trans (b3.mono B2.out.size))) (.cons (H2.out.mono b3) (.cons h3.vals .nil))) 3 rfl (by decide)
  have HC := Lib.hid (bnew_calls _ _ _ hrow (by decide) (by decide))
  have B4 : RowKit.Hid (Below w.heap.size w (w3.alloc (.cells #[.slice a1 n1 c1, .slice a2 n2 c2, .slice a3 n3 c3] 33))) := B3.out.alloc B3.out.size _
  clear H1 H2 B1 B2 h3 b3 hrow
  go_wp2_with fail
  (with_reducible refine HC.out.mono ?_)
  rintro e w4 ⟨pb, sb, rfl, hbag, b4⟩
  have Hbag := Lib.hid (hbag.base B4.out.size)
  have B5 := Lib.hid (B4.out.trans (b4.mono B4.out.size))
  have HL : RowKit.Hid (Calls Try.prog 26 #[.pointer (some ⟨pb, 0, none⟩)] w4 fun e w' => e = .returned (.int .i64 3) ∧ w4 = w') := blen_calls _ _ _ _ w4 hbag
  clear hbag b4 HC B3 B4
  go_wp2_with fail
  (with_reducible refine HL.out.mono ?_)
  rintro e w5 ⟨rfl, rfl⟩
  clear HL
  go_wp2_with fail
  (with_reducible refine (num_calls 2 w4).mono ?_)
  rintro e w6 ⟨x6, rfl, h6, b6⟩
  obtain ⟨a6, n6, c6, rfl, -, -⟩ := h6.vals.shape
  have hrow : RowsAt (w6.alloc (.cells #[.slice a6 n6 c6] 33)) [r2] (.slice (some ⟨w6.heap.size, 0, none⟩) 1 1) := RowsAt.built (.cons h6.vals .nil) 1 rfl (by decide)
  have HC := Lib.hid (bnew_calls _ _ _ hrow (by decide) (by decide))
  have B6 : RowKit.Hid (Below w4.heap.size w4 (w6.alloc (.cells #[.slice a6 n6 c6] 33))) := b6.alloc b6.size _
  clear h6 b6 hrow
  go_wp2_with fail
  (with_reducible refine HC.out.mono ?_)
  rintro e w7 ⟨pc, sc, rfl, hc, b7⟩
  have B7 := Lib.hid (B6.out.trans (b7.mono B6.out.size))
  have HC2 := Lib.hid (bminus_calls _ pb _ pc sb sc _ _ w7 (Hbag.out.mono B7.out) hc (by rw [lenB_newB]; decide) (by rw [lenB_newB]; decide) (rows_len (by decide)))
  clear hc b7 HC B6
  go_wp2_with fail
  (with_reducible refine HC2.out.mono ?_)
  rintro e w8 ⟨pd, sd, rfl, hd, b8⟩
  have B8 := Lib.hid (B7.out.trans (b8.mono B7.out.size))
  have Hd : RowKit.Hid (BagAt w8 w4.heap.size pd sd (diffB (newB [r2, r1, r2]) (newB [r2]))) := hd.base B7.out.size
  have HR1 := Lib.hid (brows_calls _ pb sb _ w8 (Hbag.out.mono B8.out) (by have h := lenB_newB [r2, r1, r2]; unfold lenB at h; rw [h]; decide) (rows_len (by decide)))
  clear hd b8 HC2 B7
  go_wp2_with fail
  (with_reducible refine HR1.out.mono ?_)
  rintro e w9 ⟨v9, rfl, h9, b9⟩
  obtain ⟨a9, c9, rfl⟩ := h9.own.shape
  have H9 := Lib.hid h9.own.at
  have B9 := Lib.hid b9
  clear h9 b9 HR1
  go_wp2_with fail
  (with_reducible refine (num_calls 1 w9).mono ?_)
  rintro e w10 ⟨y1, rfl, k1, b10⟩
  obtain ⟨d1, m1, f1, rfl, -, -⟩ := k1.vals.shape
  have K1 := Lib.hid k1.vals
  have B10 := Lib.hid b10
  clear k1 b10
  go_wp2_with fail
  (with_reducible refine (num_calls 2 w10).mono ?_)
  rintro e w11 ⟨y2, rfl, k2, b11⟩
  obtain ⟨d2, m2, f2, rfl, -, -⟩ := k2.vals.shape
  have K2 := Lib.hid k2.vals
  have B11 := Lib.hid b11
  clear k2 b11
  go_wp2_with fail
  (with_reducible refine (num_calls 2 w11).mono ?_)
  rintro e w12 ⟨y3, rfl, k3, b12⟩
  obtain ⟨d3, m3, f3, rfl, -, -⟩ := k3.vals.shape
  have B12 : RowKit.Hid (Below w9.heap.size w9 w12) := B10.out.trans ((B11.out.trans (b12.mono B11.out.size)).mono B10.out.size)
  have hrow : RowsAt (w12.alloc (.cells #[.slice d1 m1 f1, .slice d2 m2 f2, .slice d3 m3 f3] 33)) [r1, r2, r2] (.slice (some ⟨w12.heap.size, 0, none⟩) 3 3) :=
    RowsAt.built (.cons (K1.out.mono (B11.out.trans (b12.mono B11.out.size))) (.cons (K2.out.mono b12) (.cons k3.vals .nil))) 3 rfl (by decide)
  have B13 : RowKit.Hid (Below w9.heap.size w9 (w12.alloc (.cells #[.slice d1 m1 f1, .slice d2 m2 f2, .slice d3 m3 f3] 33))) := B12.out.alloc B12.out.size _
  have HS : RowKit.Hid (Calls Try.prog 15 #[.slice a9 (rowsB (newB [r2, r1, r2])).length c9, .slice (some ⟨w12.heap.size, 0, none⟩) 3 3] (w12.alloc (.cells #[.slice d1 m1 f1, .slice d2 m2 f2, .slice d3 m3 f3] 33)) fun e w' => e = .returned (.bool true) ∧ Below (w12.alloc (.cells #[.slice d1 m1 f1, .slice d2 m2 f2, .slice d3 m3 f3] 33)).heap.size (w12.alloc (.cells #[.slice d1 m1 f1, .slice d2 m2 f2, .slice d3 m3 f3] 33)) w') := by
    have h := same_calls _ _ _ _ _ (H9.out.mono B13.out) hrow
    have e : decide (rowsB (newB [r2, r1, r2]) = [r1, r2, r2]) = true := by rw [(newB_all _).2]; decide
    rw [e] at h
    exact h
  clear K1 K2 B10 B11 b12 k3 hrow B12 H9
  go_wp2_with fail
  (with_reducible refine HS.out.mono ?_)
  rintro e w14 ⟨rfl, b14⟩
  have B14 := Lib.hid (B9.out.trans ((B13.out.trans (b14.mono B13.out.size)).mono B9.out.size))
  have HR2 := Lib.hid (brows_calls _ pd sd _ w14 (Hd.out.mono B14.out) (by
    have h := lenB_diffB (newB [r2, r1, r2]) (newB [r2])
    rw [lenB_newB] at h
    exact Nat.lt_of_le_of_lt h (by decide)) (by
    intro e he
    obtain ⟨x, hx, he2, _⟩ := mem_diffB he
    rw [← he2]
    exact rows_len (l := [r2, r1, r2]) (by decide) x hx))
  clear b14 HS B13 B9
  go_wp2_with fail
  (with_reducible refine HR2.out.mono ?_)
  rintro e w15 ⟨v9, rfl, h9, b9⟩
  obtain ⟨a9, c9, rfl⟩ := h9.own.shape
  have H9 := Lib.hid h9.own.at
  have B9 := Lib.hid b9
  clear h9 b9 HR2
  go_wp2_with fail
  (with_reducible refine (num_calls 1 w15).mono ?_)
  rintro e w16 ⟨y1, rfl, k1, b10⟩
  obtain ⟨d1, m1, f1, rfl, -, -⟩ := k1.vals.shape
  have K1 := Lib.hid k1.vals
  have B10 := Lib.hid b10
  clear k1 b10
  go_wp2_with fail
  (with_reducible refine (num_calls 2 w16).mono ?_)
  rintro e w17 ⟨y2, rfl, k2, b11⟩
  obtain ⟨d2, m2, f2, rfl, -, -⟩ := k2.vals.shape
  have hrow : RowsAt (w17.alloc (.cells #[.slice d1 m1 f1, .slice d2 m2 f2] 33)) [r1, r2] (.slice (some ⟨w17.heap.size, 0, none⟩) 2 2) :=
    RowsAt.built (.cons (K1.out.mono b11) (.cons k2.vals .nil)) 2 rfl (by decide)
  have B12 : RowKit.Hid (Below w15.heap.size w15 w17) := B10.out.trans (b11.mono B10.out.size)
  have B13 : RowKit.Hid (Below w15.heap.size w15 (w17.alloc (.cells #[.slice d1 m1 f1, .slice d2 m2 f2] 33))) := B12.out.alloc B12.out.size _
  have HS : RowKit.Hid (Calls Try.prog 15 #[.slice a9 (rowsB (diffB (newB [r2, r1, r2]) (newB [r2]))).length c9, .slice (some ⟨w17.heap.size, 0, none⟩) 2 2] (w17.alloc (.cells #[.slice d1 m1 f1, .slice d2 m2 f2] 33)) fun e w' => e = .returned (.bool true) ∧ Below (w17.alloc (.cells #[.slice d1 m1 f1, .slice d2 m2 f2] 33)).heap.size (w17.alloc (.cells #[.slice d1 m1 f1, .slice d2 m2 f2] 33)) w') := by
    have h := same_calls _ _ _ _ _ (H9.out.mono B13.out) hrow
    have e : decide (rowsB (diffB (newB [r2, r1, r2]) (newB [r2])) = [r1, r2]) = true := by rw [rows_diffB (newB_all _).1 (newB_all _).1, (newB_all _).2, (newB_all _).2]; decide
    rw [e] at h
    exact h
  have B16 := Lib.hid (B8.out.trans ((B14.out.trans ((B9.out.trans (B13.out.mono B9.out.size)).mono B14.out.size)).mono B8.out.size))
  have B17 := Lib.hid (B5.out.trans (B16.out.mono B5.out.size))
  clear K1 B10 b11 k2 hrow B12 H9 Hd Hbag B16 B13 B9 B14 B8 B5
  go_wp2_with fail
  (with_reducible refine HS.out.mono ?_)
  rintro e w18 ⟨rfl, b18⟩
  have B18 := Lib.hid (B17.out.trans (b18.mono B17.out.size))
  clear b18 HS B17
  go_wp2
  go_ret
  exact ⟨rfl, B18.out⟩
end Go.Proofs.Ytekoemcckdhhnaa
