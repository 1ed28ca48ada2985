/- The bag's Minus, Copy. -/
import Derived.Test.YtekoemcckdhhnaaH3
import Derived.Test.YtekoemcckdhhnaaF7
namespace Go.Proofs.Ytekoemcckdhhnaa
open Go.RowKit

theorem putB_last {d : List Ent} {r : Rw} (h : ∀ x ∈ d, ltR x.1 r) (n : Nat) : putB d r n = d ++ [(r, n)] := by
  induction d with
  | nil => rfl
  | cons x d ih => rw [putB, if_pos (h x (by simp)), ih fun y hy => h y (List.mem_cons_of_mem _ hy)]; rfl
theorem diffB_append (b b' c : List Ent) : diffB (b ++ b') c = diffB b c ++ diffB b' c := by simp [diffB]
theorem diffB_take {b : List Ent} (hw : Wf b) (c : List Ent) (k : Nat) (hk : k < b.length) :
    diffB (b.take (k + 1)) c = if cntB c b[k].1 < b[k].2 then putB (diffB (b.take k) c) b[k].1 (b[k].2 - cntB c b[k].1) else diffB (b.take k) c := by
  rw [List.take_succ_eq_append_getElem hk, diffB_append, diffB_cons]
  have hl : ∀ x ∈ diffB (b.take k) c, ltR x.1 b[k].1 := by
    intro x hx
    obtain ⟨z, hz, e, _⟩ := mem_diffB hx
    rw [← e]
    obtain ⟨j, hj, rfl⟩ := List.mem_iff_getElem.1 hz
    rw [List.getElem_take]
    simp at hj
    exact (List.pairwise_iff_getElem.1 hw.asc) j k (by omega) hk (by omega)
  split
  · rw [putB_last hl]; rfl
  · simp [diffB]
theorem lenB_cons (x : Ent) (b : List Ent) : lenB (x :: b) = x.2 + lenB b := by unfold lenB; rw [rowsB_cons]; simp
theorem lenB_append (b c : List Ent) : lenB (b ++ c) = lenB b + lenB c := by unfold lenB; rw [rowsB_append]; simp
theorem lenB_diffB (b c : List Ent) : lenB (diffB b c) ≤ lenB b := by
  induction b with
  | nil => simp [diffB]
  | cons x b ih =>
    rw [diffB_cons, lenB_cons]
    split
    · rw [lenB_cons]; simp only; omega
    · omega
theorem lenB_take (b : List Ent) (k : Nat) : lenB (b.take k) ≤ lenB b := by
  have : b = b.take k ++ b.drop k := (List.take_append_drop _ _).symm
  conv => rhs; rw [this]
  rw [lenB_append]; omega

set_option maxHeartbeats 4000000 in
set_option maxRecDepth 20000 in
theorem bminus_calls (B pb C pc : Nat) (s t : Value) (b c : List Ent) (w : World) (hb : BagAt w B pb s b) (hc : BagAt w C pc t c) (hlen : lenB b < 1099511627776) (hlenc : lenB c < 1099511627776) (hR : ∀ e ∈ b, e.1.length < 1099511627776) :
    Calls Try.prog 13 #[.pointer (some ⟨pb, 0, none⟩), .pointer (some ⟨pc, 0, none⟩)] w fun e w' => ∃ pd sd, e = .returned (.pointer (some ⟨pd, 0, none⟩)) ∧ BagAt w' w.heap.size pd sd (diffB b c) ∧ Below w.heap.size w w' := by
  have hs := hb.ents
  obtain ⟨a, n, cp, rfl, hn, hm⟩ := hs.shape
  obtain ⟨c0, c1⟩ := hb.cell
  have hlt := hb.lt
  have Hs := Lib.hid hs
  have Hn := Lib.hid hn
  have HR := Lib.hid hR
  have Hc := Lib.hid hc
  have Hlen := Lib.hid hlen
  have Hlenc := Lib.hid hlenc
  have Hwf := Lib.hid hb.wf
  have Hll : RowKit.Hid (c.length < 1099511627776) := by show _ < _; have := length_le_len hc.wf; omega
  unfold maxLen at hm
  have Hb0 : RowKit.Hid (Below w.heap.size w (w.alloc (.cells #[.slice none 0 0, .int .i64 0] 55))) := (Below.refl _ _).alloc (Nat.le_refl _) _
  have HN := Lib.hid (BagAt.new w)
  clear hs hn hR hb hlen hlenc c1 hc
  go_enter Try.func13, Try.ntmps13
  go_wp2
  go_loopw [16] (fun i wr => ∃ (k : Nat), k ≤ n ∧ i = .int .i64 k ∧ RowKit.Hid (∃ sd, BagAt wr w.heap.size w.heap.size sd (diffB (b.take k) c)) ∧ RowKit.Hid (Below w.heap.size w wr)) (fun i _ => n - (intOf i).toNat)
  case atStart => exact ⟨0, Nat.zero_le _, rfl, ⟨_, HN.out⟩, Hb0⟩
  case round =>
    obtain ⟨k, hk, rfl, Ho, Hb⟩ := hrel
    by_cases hlt' : k < n
    · obtain ⟨W, rfl⟩ : ∃ W : World, W = wr := ⟨_, rfl⟩
      have hk1 : k < b.length := by have := Hn.out; omega
      obtain ⟨g, o, rfl⟩ := Hs.out.has k hlt'
      obtain ⟨ax, nx, cx, Hcell⟩ := Hs.out.entry k hk1
      have Htk := Lib.hid (diffB_take Hwf.out c k hk1)
      have Hle : RowKit.Hid (cntB c b[k].1 < b[k].2 → lenB (diffB (b.take k) c) + (b[k].2 - cntB c b[k].1) < 1099511627776) := by
        intro h
        have h1 := Htk.out
        rw [if_pos h] at h1
        have h2 := congrArg lenB h1
        rw [len_putB] at h2
        rw [← h2]
        exact Nat.lt_of_le_of_lt (Nat.le_trans (lenB_diffB _ _) (lenB_take _ _)) Hlen.out
      have hN : (b[k].2 : Int) < 1099511627776 := by
        have h1 := lenB_take b (k + 1)
        rw [List.take_succ_eq_append_getElem hk1, lenB_append, lenB_cons] at h1
        have := Hlen.out
        omega
      have hM : (cntB c b[k].1 : Int) < 1099511627776 := by have := cnt_le_len Hc.out.wf b[k].1; have := Hlenc.out; omega
      obtain ⟨d0, d1, hx, hbl⟩ := Hcell.out _ Hb.out
      have HXl := Lib.hid (HR.out b[k] (List.getElem_mem hk1))
      have Hx := Lib.hid hx
      have Hbs := Lib.hid Hb.out.size
      generalize b[k].1 = X at *
      generalize b[k].2 = N at *
      have i1 : (0 : Int) ≤ k := by omega
      have i2 : (k : Int) < n := by omega
      have Hb1 : RowKit.Hid (Below w.heap.size w (W.alloc (.cells #[.slice ax nx cx, .int .i64 N] 57))) := Hb.out.alloc Hbs.out _
      have Ho1 : RowKit.Hid (∃ sd, BagAt (W.alloc (.cells #[.slice ax nx cx, .int .i64 N] 57)) w.heap.size w.heap.size sd (diffB (b.take k) c)) := by
        obtain ⟨sd, h⟩ := Ho.out
        exact ⟨sd, h.mono ((Below.refl _ _).alloc (Nat.le_refl _) _)⟩
      have Hvar : RowKit.Hid (VarIs (W.alloc (.cells #[.slice ax nx cx, .int .i64 N] 57)) W.heap.size #[.slice ax nx cx, .int .i64 N]) := VarIs.new _ _ _
      have Hbc : RowKit.Hid (Below w.heap.size w W) := Hb
      clear hk1 hx Ho
      go_wp2
      generalize W.alloc (.cells #[.slice ax nx cx, .int .i64 N] 57) = W1 at *
      obtain ⟨v1, v2, -⟩ := Hvar.out
      have v20 := v2 0
      have v21 := v2 1
      simp only [List.getElem?_toArray, List.getElem?_cons_zero, List.getElem?_cons_succ] at v20 v21
      have HC := Lib.hid (fun w' (h : Below W1.heap.size W1 w') => bcount_calls C pc t c X (.slice ax nx cx) w' (Hc.out.mono (Hb1.out.trans (h.mono Hb1.out.size))) ((Hcell.out _ (Hb1.out.trans (h.mono Hb1.out.size))).2.2.1) Hll.out)
      clear v2 d0 d1 hbl
      go_cut [8] (fun z wx => ∃ d : Int, z = .int .i64 d ∧ RowKit.Hid (d = (N : Int) - (cntB c X : Int)) ∧ RowKit.Hid (Below W1.heap.size W1 wx))
      case first =>
        go_region_held3 (fun w' => Below W1.heap.size W1 w' ∧ ∀ b o, b < W1.heap.size → w'.cell? ⟨b, o, none⟩ = W1.cell? ⟨b, o, none⟩)
          (first | assumption | exact S_of (Below.drew (Below.refl _ _)) | exact S_step (by assumption) (by assumption))
          (first | (go_at_call 27; (with_reducible refine (HC.out _ (by first | assumption | exact And.left (by assumption))).mono ?_); rintro e w1 ⟨rfl, hb1⟩))
        all_goals
          rename_i hH
          have Hb2 := Lib.hid hH.1
          clear hH
          go_wp2
          go_meet
          exact ⟨_, rfl, by show _ = _; rw [IntKind.wrap_i64]; omega, Hb2⟩
      obtain ⟨d, rfl, Hd, Hb2⟩ := hcut
      have Ho2 : RowKit.Hid (∃ sd, BagAt wc w.heap.size w.heap.size sd (diffB (b.take k) c)) := by
        obtain ⟨sd, h⟩ := Ho1.out
        exact ⟨sd, h.mono Hb2.out⟩
      have Hvar2 := Lib.hid (Hvar.out.below Hb2.out Hvar.out.lt)
      have Hb3 := Lib.hid (Hb1.out.trans (Hb2.out.mono Hb1.out.size))
      have Hx3 := Lib.hid (Hcell.out _ Hb3.out).2.2.1
      generalize cntB c X = M at *
      clear v1 v20 v21 Hvar Ho1 Hb2 Hb1 HC Hbs Hb Hbc Hx Hcell
      by_cases hMN : M < N
      · have hg : decide ((0 : Int) < d) = true := by have := Hd.out; simp; omega
        have Hz : RowKit.Hid (d = ((N - M : Nat) : Int)) := by show _ = _; have := Hd.out; omega
        have Htk1 := Htk.out
        rw [if_pos hMN] at Htk1
        have Htk2 := Lib.hid Htk1
        obtain ⟨sd, hbag⟩ := Ho2.out
        have HC0 := bput_calls w.heap.size w.heap.size sd _ X (N - M) _ wc hbag Hx3.out (by omega) HXl.out (Hle.out hMN)
        rw [← Hz.out] at HC0
        have HC := Lib.hid HC0
        have Hbag := Lib.hid hbag
        obtain ⟨v1, v2, -⟩ := Hvar2.out
        have v20 := v2 0
        have v21 := v2 1
        simp only [List.getElem?_toArray, List.getElem?_cons_zero, List.getElem?_cons_succ] at v20 v21
        clear hbag Htk Htk1 HC0 v2 hMN
        go_wp2_with fail
        (with_reducible refine HC.out.mono ?_)
        rintro e w1 ⟨rfl, hM⟩
        have Hb4 := Lib.hid (Hb3.out.trans (hM.below Hbag.out))
        have Ho4 : RowKit.Hid (∃ sd, BagAt w1 w.heap.size w.heap.size sd (diffB (b.take (k + 1)) c)) := by
          obtain ⟨s', h1, _⟩ := hM
          exact ⟨s', by rw [Htk2.out]; exact h1⟩
        clear hM HC v1 v20 v21
        go_wp2
        go_roundw
        case rel => exact ⟨k + 1, by omega, by go_num, Ho4, Hb4⟩
        case measure => simp [intOf]; omega
      · have hg : decide ((0 : Int) < d) = false := by have := Hd.out; simp; omega
        have Ho4 : RowKit.Hid (∃ sd, BagAt wc w.heap.size w.heap.size sd (diffB (b.take (k + 1)) c)) := by
          have h := Htk.out
          rw [if_neg hMN] at h
          show ∃ sd, _
          rw [h]
          exact Ho2.out
        clear hMN
        go_wp2
        go_roundw
        case rel => exact ⟨k + 1, by omega, by go_num, Ho4, Hb3⟩
        case measure => simp [intOf]; omega
    · obtain rfl : k = n := by omega
      have Hfin : RowKit.Hid (∃ sd, BagAt wr w.heap.size w.heap.size sd (diffB b c)) := by
        have h := Ho.out
        rwa [List.take_of_length_le (by have := Hn.out; omega)] at h
      go_wp2
      go_ret
      obtain ⟨sd, h⟩ := Hfin.out
      exact ⟨_, sd, rfl, h, Hb.out⟩

theorem bcopy_calls (B pb : Nat) (s : Value) (b : List Ent) (w : World) (hb : BagAt w B pb s b) (hlen : lenB b < 1099511627776) (hR : ∀ e ∈ b, e.1.length < 1099511627776) :
    Calls Try.prog 20 #[.pointer (some ⟨pb, 0, none⟩)] w fun e w' => ∃ pd sd, e = .returned (.pointer (some ⟨pd, 0, none⟩)) ∧ BagAt w' w.heap.size pd sd b ∧ Below w.heap.size w w' := by
  have hb0 : Below w.heap.size w (w.alloc (.cells #[.slice none 0 0, .int .i64 0] 55)) := (Below.refl _ _).alloc (Nat.le_refl _) _
  have HC := Lib.hid (bminus_calls B pb w.heap.size w.heap.size s _ b [] _ (hb.mono hb0) (BagAt.new w) hlen (by decide) hR)
  have hd : diffB b [] = b := by
    have hw := hb.wf
    clear hb hlen hR HC
    induction b with
    | nil => rfl
    | cons x b ih =>
      rw [diffB_cons, ih (wf_tail hw)]
      have := hw.pos x (by simp)
      simp [cntB, this]
  have Hd := Lib.hid hd
  have Hb0 := Lib.hid hb0
  clear hb hlen hR hd hb0
  go_enter Try.func20, Try.ntmps20
  go_wp2_with fail
  (with_reducible refine HC.out.mono ?_)
  rintro e w1 ⟨pd, sd, rfl, h1, h2⟩
  have H1 : RowKit.Hid (BagAt w1 w.heap.size pd sd b) := by
    show BagAt _ _ _ _ _
    rw [Hd.out] at h1
    exact h1.base Hb0.out.size
  have H2 := Lib.hid (Hb0.out.trans (h2.mono Hb0.out.size))
  clear h1 h2 HC
  go_wp2
  go_ret
  exact ⟨pd, sd, rfl, H1.out, H2.out⟩
end Go.Proofs.Ytekoemcckdhhnaa
