import Derived.Test.YtgaeabodofabmaaDoorA5
namespace Go.Proofs.YtgaeabodofabmaaDoor
open Go.RowKit

/-- IndexFunc at the function columns: whether the answer is an index. -/
def IdxPost (b : Bool) (w : World) (e : Ending) (w' : World) : Prop := ∃ n : Int, e = .returned (.int .i64 n) ∧ decide (0 ≤ n) = b ∧ Below w.heap.size w w'

theorem index_calls (es : List Ex) (a : Option Addr) (n c : Nat) (w : World) (hs : ArgsAt w es (.slice a n c))
    (ih : ∀ E ∈ es, ∀ (s : Value) (w : World), ArgsAt w E.args s → Calls Tryd.prog 47 #[E.val s] w fun e w' => e = .returned (.bool E.cols) ∧ Below w.heap.size w w') :
    Calls Tryd.prog 61 #[.slice a n c, .func (.func 47) #[] #[]] w (IdxPost (Ex.colsL es) w) := by
  have Hih := Lib.hid ih
  clear ih
  obtain ⟨_, _, _, he, hn, hm⟩ := hs.shape
  cases he
  have Hn := Lib.hid hn
  have Hs := Lib.hid hs
  clear hn hs
  go_enter Tryd.func61, Tryd.ntmps61
  go_wp2
  go_loopw [8] (fun i wr => ∃ k : Nat, k ≤ n ∧ i = .int .i64 k ∧ RowKit.Hid (Ex.colsL (es.take k) = false) ∧ Below w.heap.size w wr) (fun i _ => n - (intOf i).toNat)
  case atStart => exact ⟨0, Nat.zero_le _, rfl, rfl, Below.refl _ _⟩
  case round =>
    obtain ⟨k, hk, rfl, hno, hb⟩ := hrel
    by_cases hlt : k < n
    · have hlen : k < es.length := by have := Hn.out; omega
      obtain ⟨b, o, rfl⟩ : ∃ b o, a = some ⟨b, o, none⟩ := by
        have := Hs.out
        cases this with
        | mt => omega
        | lie _ b o => exact ⟨b, o, rfl⟩
      obtain ⟨s', hs', c0, c1, c2, c3, c4, c5, c6, c7⟩ := (Hs.out.mono hb).cell k hlen
      obtain ⟨sa, sn, sc, rfl, -, -⟩ := hs'.shape
      have hmem : es[k] ∈ es := List.getElem_mem hlen
      have Htk := Lib.hid (take_succ_ex es k hlen)
      generalize es[k] = E' at *
      have Hmem := Lib.hid hmem
      clear hmem
      go_wp2_with fail
      refine (Hih.out E' Hmem.out _ _ hs').mono ?_
      rintro e w1 ⟨rfl, hb1⟩
      have hbw := hb.trans (hb1.mono hb.size)
      have Hc : RowKit.Hid (Ex.colsL (es.take (k + 1)) = E'.cols) := by
        show _ = _
        rw [Htk.out, colsL_append, hno.out]
        simp [Ex.colsL]
      have Hall : RowKit.Hid (E'.cols = true → Ex.colsL es = true) := by
        intro h
        have := Hc.out
        rw [← List.take_append_drop (k + 1) es, colsL_append, this, h]
        rfl
      clear hb1 hb c0 c1 c2 c3 c4 c5 c6 c7
      cases hcol : E'.cols
      · rw [hcol] at Hc
        clear hcol
        go_wp2
        go_round
        case rel => exact ⟨k + 1, by omega, by go_num, Hc, hbw⟩
        case measure => simp [intOf]; omega
      · have Hyes := Lib.hid (Hall.out hcol)
        clear Hall hcol
        go_wp2
        go_ret
        exact ⟨k, rfl, by rw [Hyes.out]; simp, hbw⟩
    · obtain rfl : k = n := by omega
      have Hres : RowKit.Hid (Ex.colsL es = false) := by
        have := hno.out
        rwa [List.take_of_length_le (by have := Hn.out; omega)] at this
      go_wp2
      go_ret
      exact ⟨-1, rfl, by rw [Hres.out]; rfl, hb⟩
end Go.Proofs.YtgaeabodofabmaaDoor
