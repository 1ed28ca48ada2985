/- The bag's find, Count, Len. -/
import Derived.Test.YtekoemcckdhhnaaF1
namespace Go.Proofs.Ytekoemcckdhhnaa
open Go.RowKit

theorem find_calls (B pb : Nat) (s : Value) (b : List Ent) (R : Rw) (r : Value) (w : World) (hb : BagAt w B pb s b) (hr : ValsAt w R r) (hlen : b.length < 1099511627776) :
    Calls Try.prog 37 #[.pointer (some ⟨pb, 0, none⟩), r] w fun e w' => e = .returned (.tuple #[.int .i64 (posB b R), .bool (hasB b R)]) ∧ Below w.heap.size w w' := by
  obtain ⟨a, c, rfl, _, _⟩ := hb.shape
  obtain ⟨c0, c1⟩ := hb.cell
  have hlt := hb.lt
  have HC := Lib.hid (search_calls b R _ r w hb.ents hr hb.wf hlen)
  obtain ⟨ar, nr, cr, rfl, p3, p4⟩ := hr.shape
  clear hb hr hlen p3 p4 c1
  generalize b.length = n at *
  go_enter Try.func37, Try.ntmps37
  go_wp2_with fail
  (with_reducible refine HC.out.mono ?_)
  rintro e w1 ⟨rfl, hb1⟩
  have Hb1 := Lib.hid hb1
  clear hb1 c0 hlt
  go_wp2
  exact bodyPost_ret (v := .tuple #[.int .i64 (posB b R), .bool (hasB b R)]) (by simp [results, Try.results37, go_sem]) rfl ⟨rfl, Hb1.out⟩

theorem posB_le (b : List Ent) (R : Rw) : posB b R ≤ b.length := by
  unfold posB
  exact (List.takeWhile_sublist _).length_le
theorem hasB_pos {b : List Ent} (hw : Wf b) {R : Rw} (h : hasB b R = true) : ∃ h : posB b R < b.length, b[posB b R].1 = R ∧ b[posB b R].2 = cntB b R := by
  induction b with
  | nil => simp [hasB] at h
  | cons x b ih =>
    have hx := List.pairwise_cons.1 hw.asc
    by_cases e : x.1 = R
    · have h0 : posB (x :: b) R = 0 := by
        have : ¬ ltR x.1 R := by rw [e]; exact ltR_irrefl _
        simp [posB, this]
      simp [h0, e, cntB]
    · have h1 : hasB b R = true := by simpa [hasB, e] using h
      obtain ⟨h2, h3, h4⟩ := ih (wf_tail hw) h1
      have hlt : ltR x.1 R := by rw [← h3]; exact hx.1 _ (List.getElem_mem h2)
      have h0 : posB (x :: b) R = posB b R + 1 := by simp [posB, hlt]
      refine ⟨by rw [h0]; simpa using h2, ?_, ?_⟩
      · simp only [h0, List.getElem_cons_succ]; exact h3
      · simp only [h0, List.getElem_cons_succ, cntB, e, if_false]; exact h4
theorem hasB_not {b : List Ent} {R : Rw} (h : hasB b R = false) : cntB b R = 0 := by
  refine cntB_none fun x hx e => ?_
  have : hasB b R = true := by simp only [hasB, List.any_eq_true, decide_eq_true_eq]; exact ⟨x, hx, e⟩
  rw [h] at this
  cases this

set_option maxHeartbeats 1000000 in
theorem bcount_calls (B pb : Nat) (s : Value) (b : List Ent) (R : Rw) (r : Value) (w : World) (hb : BagAt w B pb s b) (hr : ValsAt w R r) (hlen : b.length < 1099511627776) :
    Calls Try.prog 27 #[.pointer (some ⟨pb, 0, none⟩), r] w fun e w' => e = .returned (.int .i64 (cntB b R)) ∧ Below w.heap.size w w' := by
  have HC := Lib.hid (find_calls B pb s b R r w hb hr hlen)
  have Hbag := Lib.hid hb
  obtain ⟨ar, nr, cr, rfl, p3, p4⟩ := hr.shape
  clear hb hr p3 p4
  go_enter Try.func27, Try.ntmps27
  go_wp2_with fail
  (with_reducible refine HC.out.mono ?_)
  rintro e w1 ⟨rfl, hb1⟩
  have Hb1 := Lib.hid hb1
  clear hb1 HC
  cases hh : hasB b R
  · have Hc := Lib.hid (hasB_not hh)
    clear hh
    go_wp2
    go_ret
    exact ⟨by rw [Hc.out]; rfl, Hb1.out⟩
  · obtain ⟨h1, _, h2⟩ := hasB_pos Hbag.out.wf hh
    have Hc := Lib.hid h2
    have Hbag1 := Lib.hid (Hbag.out.mono Hb1.out)
    obtain ⟨a, c, rfl, hg, _⟩ := Hbag.out.shape
    obtain ⟨g, rfl⟩ := hg (by omega)
    obtain ⟨c0, c1⟩ := Hbag1.out.cell
    have hlt := Hbag1.out.lt
    obtain ⟨ax, nx, cx, Hcell⟩ := Hbag1.out.ents.entry _ h1
    obtain ⟨d0, d1, _, hbl⟩ := Hcell.out _ (Below.refl _ _)
    have i1 : (0 : Int) ≤ posB b R := by omega
    have i2 : (posB b R : Int) < b.length := by omega
    clear hh hg h2
    generalize b[posB b R].1 = X at *
    generalize b[posB b R].2 = N at *
    generalize posB b R = p at *
    generalize b.length = n at *
    clear Hcell Hbag Hbag1 c1 h1
    simp only [Nat.zero_add] at d0 d1
    go_wp2
    go_ret
    exact ⟨by rw [← Hc.out]; rfl, Hb1.out⟩

theorem blen_calls (B pb : Nat) (s : Value) (b : List Ent) (w : World) (hb : BagAt w B pb s b) :
    Calls Try.prog 26 #[.pointer (some ⟨pb, 0, none⟩)] w fun e w' => e = .returned (.int .i64 (lenB b)) ∧ w = w' := by
  obtain ⟨a, c, rfl, _, _⟩ := hb.shape
  obtain ⟨c0, c1⟩ := hb.cell
  have hlt := hb.lt
  clear hb
  go_enter Try.func26, Try.ntmps26
  go_wp2
  go_ret
  exact ⟨rfl, rfl⟩
end Go.Proofs.Ytekoemcckdhhnaa
