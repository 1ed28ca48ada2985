import Derived.Test.YtgaeabodofabmaaDoorC3
namespace Go.Proofs.YtgaeabodofabmaaDoor
open Go.RowKit

theorem cond_isnull (op : Int) (table name : ByteArray) (index : Int) (v0 : Vl) (A : Ex) (l : List Ex) (hop : op = 17) (R : List Vl) (a : Option Addr) (n c : Nat) (r : Value) (w : World) (v : Vl)
    (hs : ArgsAt w (A :: l) (.slice a n c)) (hr : ValsAt w R r) (hx : Ex.value R A = some v) :
    Calls Tryd.prog 15 #[.agg #[.int .i64 op, .string table, .string name, .int .i64 index, .int .i64 v0.kind, .int .i64 v0.int, .string v0.text, .slice a n c], r] w fun e w' => e = .returned (T3.of (v.kind == 0)).val ∧ Below w.heap.size w w' := by
  subst hop
  obtain ⟨b, o, rfl, hlt, hn⟩ : ∃ b o, a = some ⟨b, o, none⟩ ∧ b < w.heap.size ∧ 1 ≤ n := by
    cases hs with
    | lie _ b o _ _ _ hn hlt => exact ⟨b, o, rfl, hlt, by simp at hn; omega⟩
  have hb0 : Below w.heap.size w (w.alloc (.cells #[.int .i64 17, .string table, .string name, .int .i64 index, .int .i64 v0.kind, .int .i64 v0.int, .string v0.text, .slice (some ⟨b, o, none⟩) n c] 26)) := (Below.refl _ _).alloc (Nat.le_refl _) _
  have hv := VarIs.new w #[.int .i64 17, .string table, .string name, .int .i64 index, .int .i64 v0.kind, .int .i64 v0.int, .string v0.text, .slice (some ⟨b, o, none⟩) n c] 26
  go_enter Tryd.func15, Tryd.ntmps15
  obtain ⟨s0, hs0, c0, c1, c2, c3, c4, c5, c6, c7⟩ := hs.cell 0 (by simp)
  simp only [List.getElem_cons_zero, Nat.zero_mul, Nat.add_zero] at c0 c1 c2 c3 c4 c5 c6 c7 hs0
  obtain ⟨a0, n0, e0, rfl, -, -⟩ := hs0.shape
  have HA := Lib.hid (fun w' h1 h2 => value_calls _ A (Nat.le_refl _) R (.slice a0 n0 e0) r w' v h1 h2 hx)
  simp only [Ex.val, Vl.val] at HA
  have Hb0 := Lib.hid hb0
  have Hv := Lib.hid hv
  clear hs hx hb0 hv
  go_wp2_with fail
  refine (HA.out _ (hs0.mono Hb0.out) (hr.mono Hb0.out)).mono ?_
  rintro e w1 ⟨rfl, hb1⟩
  have hbw := Hb0.out.trans (hb1.mono Hb0.out.size)
  obtain ⟨v1, v2, -⟩ := Hv.out.below hb1 Hv.out.lt
  clear hb1 Hb0 Hv c0 c1 c2 c3 c4 c5 c6 c7 HA
  go_wp2_with fail
  refine (of_calls _ _).mono ?_
  rintro e w2 ⟨rfl, rfl⟩
  go_wp2
  go_ret
  exact ⟨rfl, hbw.alloc hbw.size _⟩

set_option maxHeartbeats 1000000 in
theorem cond_comp (op : Int) (table name : ByteArray) (index : Int) (v0 : Vl) (A B : Ex) (l : List Ex) (h1 : op ≠ 1) (h18 : op ≠ 18) (h19 : op ≠ 19) (h20 : op ≠ 20) (h17 : op ≠ 17) (R : List Vl) (a : Option Addr) (n c : Nat) (r : Value) (w : World) (v u : Vl) (x : T3)
    (hs : ArgsAt w (A :: B :: l) (.slice a n c)) (hr : ValsAt w R r) (hv : Ex.value R A = some v) (hu : Ex.value R B = some u) (hx : compS op v u = some x) :
    Calls Tryd.prog 15 #[.agg #[.int .i64 op, .string table, .string name, .int .i64 index, .int .i64 v0.kind, .int .i64 v0.int, .string v0.text, .slice a n c], r] w fun e w' => e = .returned x.val ∧ Below w.heap.size w w' := by
  have b1 : (op == 1) = false := by simp [h1]
  have b17 : (op == 17) = false := by simp [h17]
  have b18 : (op == 18) = false := by simp [h18]
  have b19 : (op == 19) = false := by simp [h19]
  have b20 : (op == 20) = false := by simp [h20]
  obtain ⟨b, o, rfl, hlt, hn⟩ : ∃ b o, a = some ⟨b, o, none⟩ ∧ b < w.heap.size ∧ 2 ≤ n := by
    cases hs with
    | lie _ b o _ _ _ hn hlt => exact ⟨b, o, rfl, hlt, by simp at hn; omega⟩
  have hb0 : Below w.heap.size w (w.alloc (.cells #[.int .i64 op, .string table, .string name, .int .i64 index, .int .i64 v0.kind, .int .i64 v0.int, .string v0.text, .slice (some ⟨b, o, none⟩) n c] 26)) := (Below.refl _ _).alloc (Nat.le_refl _) _
  have hvv := VarIs.new w #[.int .i64 op, .string table, .string name, .int .i64 index, .int .i64 v0.kind, .int .i64 v0.int, .string v0.text, .slice (some ⟨b, o, none⟩) n c] 26
  have k0 : (0 : Int) < (n : Int) := by omega
  have k1 : (1 : Int) < (n : Int) := by omega
  go_enter Tryd.func15, Tryd.ntmps15
  obtain ⟨s0, hs0, c0, c1, c2, c3, c4, c5, c6, c7⟩ := hs.cell 0 (by simp)
  obtain ⟨s1, hs1, d0, d1, d2, d3, d4, d5, d6, d7⟩ := hs.cell 1 (by simp)
  simp only [List.getElem_cons_zero, List.getElem_cons_succ, Nat.zero_mul, Nat.add_zero, Nat.one_mul] at c0 c1 c2 c3 c4 c5 c6 c7 d0 d1 d2 d3 d4 d5 d6 d7 hs0 hs1
  obtain ⟨a0, n0, e0, rfl, -, -⟩ := hs0.shape
  obtain ⟨a1, n1, e1, rfl, -, -⟩ := hs1.shape
  have HA := Lib.hid (fun w' h1 h2 => value_calls _ A (Nat.le_refl _) R (.slice a0 n0 e0) r w' v h1 h2 hv)
  have HB := Lib.hid (fun w' h1 h2 => value_calls _ B (Nat.le_refl _) R (.slice a1 n1 e1) r w' u h1 h2 hu)
  simp only [Ex.val, Vl.val] at HA HB
  have Hb0 := Lib.hid hb0
  have Hv := Lib.hid hvv
  have Hx := Lib.hid hx
  clear hs hv hu hb0 hvv h1 h17 h18 h19 h20 hx
  go_wp2_with fail
  refine (HA.out _ (hs0.mono Hb0.out) (hr.mono Hb0.out)).mono ?_
  rintro e w1 ⟨rfl, hb1⟩
  have Hbw := Lib.hid (Hb0.out.trans (hb1.mono Hb0.out.size))
  have Hv1 := Lib.hid (Hv.out.below hb1 Hv.out.lt)
  obtain ⟨v1, v2, -⟩ := Hv1.out
  have hlt1 : b < w1.heap.size := Nat.lt_of_lt_of_le hlt Hbw.out.size
  have hc := (bcell Hbw.out).1
  have f0 := (hc b (o + 8) hlt).trans d0
  have f1 := (hc b (o + 8 + 1) hlt).trans d1
  have f2 := (hc b (o + 8 + 2) hlt).trans d2
  have f3 := (hc b (o + 8 + 3) hlt).trans d3
  have f4 := (hc b (o + 8 + 4) hlt).trans d4
  have f5 := (hc b (o + 8 + 5) hlt).trans d5
  have f6 := (hc b (o + 8 + 6) hlt).trans d6
  have f7 := (hc b (o + 8 + 7) hlt).trans d7
  clear hb1 Hb0 Hv c0 c1 c2 c3 c4 c5 c6 c7 HA hc d0 d1 d2 d3 d4 d5 d6 d7
  have Hbn : RowKit.Hid (∀ o, Below w1.heap.size w1 (w1.alloc o)) := fun o => (Below.refl _ _).alloc (Nat.le_refl _) o
  go_wp2_with fail
  refine (HB.out _ ((hs1.mono Hbw.out).mono (Hbn.out _)) ((hr.mono Hbw.out).mono (Hbn.out _))).mono ?_
  rintro e w2 ⟨rfl, hb2⟩
  have Hbw2 := Lib.hid (Hbw.out.trans (((Hbn.out _).trans (hb2.mono (Hbn.out _).size)).mono Hbw.out.size))
  have Ha := Lib.hid ((VarIs.new w1 _ _).below hb2 (by simp))
  have Hv2 := Lib.hid ((Hv1.out.alloc _).below hb2 (by have := Hv1.out.lt; simp; omega))
  clear hb2 Hbw Hbn HB f0 f1 f2 f3 f4 f5 f6 f7 v1 v2
  have Hb3 : RowKit.Hid (∀ o, Below w.heap.size w (w2.alloc o)) := fun o => Hbw2.out.alloc Hbw2.out.size o
  by_cases hn0 : v.kind = 0 ∨ u.kind = 0
  · have Hr : RowKit.Hid (x = .u) := by
      have := Hx.out
      rw [compS, if_pos hn0] at this
      exact (Option.some.inj this).symm
    by_cases hv0 : v.kind = 0
    · have m0 : (v.kind == 0) = true := by simp [hv0]
      clear hn0 hv0
      obtain ⟨x1, x2, -⟩ := Ha.out
      obtain ⟨v1, v2, -⟩ := Hv2.out
      go_wp2
      go_ret
      exact ⟨by rw [Hr.out]; rfl, Hb3.out _⟩
    · have m0 : (v.kind == 0) = false := by simp [hv0]
      have m1 : (u.kind == 0) = true := by simp; exact hn0.resolve_left hv0
      clear hn0 hv0
      obtain ⟨x1, x2, -⟩ := Ha.out
      obtain ⟨v1, v2, -⟩ := Hv2.out
      go_wp2
      go_ret
      exact ⟨by rw [Hr.out]; rfl, Hb3.out _⟩
  · have m0 : (v.kind == 0) = false := by simp; exact fun h => hn0 (.inl h)
    have m1 : (u.kind == 0) = false := by simp; exact fun h => hn0 (.inr h)
    by_cases h16 : op = 16
    · subst h16
      obtain ⟨ht1, ht2, Hr⟩ : v.text.size ≤ 2000000000000 ∧ u.text.size ≤ 2000000000000 ∧ RowKit.Hid (x = T3.of (likeS v.text.data.toList u.text.data.toList)) := by
        have := Hx.out
        rw [compS, if_neg hn0, if_pos rfl] at this
        split at this
        · rename_i h; exact ⟨h.1, h.2, (Option.some.inj this).symm⟩
        · cases this
      clear hn0
      obtain ⟨x1, x2, -⟩ := Ha.out
      obtain ⟨v1, v2, -⟩ := Hv2.out
      have HL := Lib.hid (fun w' => like_calls v.text u.text w' ht1 ht2)
      clear ht1 ht2
      go_wp2_with fail
      refine (HL.out _).mono ?_
      rintro e w3 ⟨rfl, hb3⟩
      have Hb4 := Lib.hid ((Hb3.out _).trans (hb3.mono (Hb3.out _).size))
      clear hb3
      go_wp2_with fail
      refine (of_calls _ _).mono ?_
      rintro e w4 ⟨rfl, rfl⟩
      go_wp2
      go_ret
      exact ⟨by rw [Hr.out]; rfl, Hb4.out⟩
    · have b16 : (op == 16) = false := by simp [h16]
      have Hr : RowKit.Hid (x = T3.of (holdsS op (orS (cmpS v.int u.int) (Lib.compareBytes v.text.data.toList u.text.data.toList)))) := by
        have := Hx.out
        rw [compS, if_neg hn0, if_neg h16] at this
        exact (Option.some.inj this).symm
      clear hn0 h16
      obtain ⟨x1, x2, -⟩ := Ha.out
      obtain ⟨v1, v2, -⟩ := Hv2.out
      go_wp2
      have hy := VarIs.new w2 #[.int .i64 u.kind, .int .i64 u.int, .string u.text] 23
      have hx2 := (VarIs.mk x1 x2 (Ha.out.free)).alloc (.cells #[.int .i64 u.kind, .int .i64 u.int, .string u.text] 23)
      have hv2 := (VarIs.mk v1 v2 (Hv2.out.free)).alloc (.cells #[.int .i64 u.kind, .int .i64 u.int, .string u.text] 23)
      have hb5 := Hb3.out (.cells #[.int .i64 u.kind, .int .i64 u.int, .string u.text] 23)
      clear x1 x2 v1 v2
      generalize w2.alloc (.cells #[.int .i64 u.kind, .int .i64 u.int, .string u.text] 23) = W at *
      have Hb5 := Lib.hid hb5
      clear hb5
      obtain ⟨y1, y2, -⟩ := hy
      obtain ⟨x1, x2, -⟩ := hx2
      obtain ⟨v1, v2, -⟩ := hv2
      go_region_held3 (fun w' => Below W.heap.size W w' ∧ ∀ b o, b < W.heap.size → w'.cell? ⟨b, o, none⟩ = W.cell? ⟨b, o, none⟩)
        (first | assumption | exact S_of (Below.drew (Below.refl _ _)) | exact S_step (by assumption) ((Below.refl _ _).alloc (Nat.le_refl _) _))
        (first
          | (go_at_call 39; (with_reducible refine (compare_calls _ _ _).mono ?_); rintro e w1 ⟨rfl, rfl⟩)
          | (go_at_call 40; (with_reducible refine (scompare_calls _ _ _).mono ?_); rintro e w1 ⟨rfl, rfl⟩)
          | (go_at_call 38; (with_reducible refine (or_calls2 (cmpS v.int u.int) (Lib.compareBytes v.text.data.toList u.text.data.toList) _ _ ?_ ?_).mono ?_); (go_simp); (go_simp); rintro e w1 ⟨rfl, rfl⟩)
          | (go_at_call 37; (with_reducible refine (holds_calls _ _ _).mono ?_); rintro e w1 ⟨rfl, rfl⟩)
          | (go_at_call 36; (with_reducible refine (of_calls _ _).mono ?_); rintro e w1 ⟨rfl, rfl⟩))
      go_wp2
      go_ret
      exact ⟨by rw [Hr.out]; rfl, Hb5.out.trans (Below.mono (And.left (by assumption)) Hb5.out.size)⟩
end Go.Proofs.YtgaeabodofabmaaDoor
