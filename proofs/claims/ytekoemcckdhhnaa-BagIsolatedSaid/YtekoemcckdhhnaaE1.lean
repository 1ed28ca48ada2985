/- The reference's Put. -/
import Derived.Test.YtekoemcckdhhnaaE5
namespace Go.Proofs.Ytekoemcckdhhnaa
open Go.RowKit

/-- What Put has still to do. -/
def putF (d : Bool) (l : List Rw) (r : Rw) : List Rw := if d then l else putL l r

set_option maxHeartbeats 1000000 in
set_option maxRecDepth 20000 in
theorem put_calls0 (L : List Rw) (R : Rw) (s r : Value) (w0 w : World) (hb0 : Below w0.heap.size w0 w) (hs0 : RowsAt0 w0 w L s) (hr0 : ValsAt w0 R r) (hlen : L.length < 1099511627776) :
    Calls Try.prog 22 #[s, r] w fun e w' => ∃ v, e = .returned v ∧ RowsOwn0 w0 w' w.heap.size (putL L R) v ∧ Below w.heap.size w w' := by
  have hs := hs0.at hb0
  have hr := hr0.mono hb0
  obtain ⟨a, n, c, rfl, hn, hm⟩ := hs.shape
  obtain ⟨ar, nr, cr, rfl, hnr, hmr⟩ := hr.shape
  have Hs := Lib.hid hs
  have Hr := Lib.hid hr
  have Hn := Lib.hid hn
  have Hs0 := Lib.hid hs0
  have Hr0 := Lib.hid hr0
  have Hb00 := Lib.hid hb0
  clear hs hr hn hm hnr hmr hs0 hr0 hb0
  have hn40 : n < 1099511627776 := by have := Hn.out; omega
  clear hlen
  go_enter Try.func22, Try.ntmps22
  go_wp2
  go_loopw [5, 6, 7] (fun v d i wr => ∃ (k : Nat) (dn : Bool) (M : List Rw), k ≤ n ∧ i = .int .i64 k ∧ d = .bool dn ∧ RowKit.Hid (RowsOwn0 w0 wr w.heap.size M v) ∧ RowKit.Hid (Below w.heap.size w wr) ∧ RowKit.Hid (M.length = k + dn.toNat) ∧ RowKit.Hid (M ++ putF dn (L.drop k) R = putL L R)) (fun _ _ i _ => n - (intOf i).toNat)
  case atStart => exact ⟨0, false, [], Nat.zero_le _, rfl, rfl, RowsOwn0.nil _ _ _, Below.refl _ _, rfl, rfl⟩
  case round =>
    obtain ⟨k, dn, M, hk, rfl, rfl, Ho, Hb, Hl, He⟩ := hrel
    obtain ⟨am, cm, rfl⟩ := Ho.out.shape
    by_cases hlt : k < n
    · have hk1 : k < L.length := by have := Hn.out; omega
      obtain ⟨b, o, rfl⟩ := Hs.out.has k hlt
      obtain ⟨ax, nx, cx, Hcell, Hx0⟩ := Hs0.out.row Hb00.out k hk1
      obtain ⟨hc, hx, hbl⟩ := Hcell.out _ Hb.out
      have Hx := Lib.hid hx
      have Hd : RowKit.Hid (L.drop k = L[k] :: L.drop (k + 1)) := List.drop_eq_getElem_cons hk1
      have Hr1 := Lib.hid (Hr.out.mono Hb.out)
      have HC := Lib.hid (fun w' (hb : Below wr.heap.size wr w') => rrows_calls R L[k] _ _ w' (Hr1.out.mono hb) (Hx.out.mono hb))
      have Hbl := Lib.hid hbl
      clear hx
      generalize L[k] = X at *
      have i1 : (0 : Int) ≤ k := by omega
      have i2 : (k : Int) < n := by omega
      go_upto_region 6 with (fail)
      go_cut [24] (fun c wx => c = .bool (!dn && decide (cmpR R X < 0)) ∧ RowKit.Hid (Below wr.heap.size wr wx))
      case first =>
        cases dn
        · go_wp2_with (first | (go_at_call 33; (with_reducible refine (HC.out _ (Below.refl _ _)).mono ?_); rintro e w1 ⟨rfl, hb1⟩))
          all_goals
            go_meet
            exact ⟨by simp [*], hb1⟩
        · go_wp2_with fail
          go_meet
          exact ⟨rfl, Below.refl _ _⟩
      obtain ⟨rfl, Hb1⟩ := hcut
      clear hc hbl HC
      have Ho1 := Lib.hid (Ho.out.mono Hb1.out)
      have Hb2 := Lib.hid (Hb.out.trans (Hb1.out.mono Hb.out.size))
      have Hr2 := Lib.hid (Hr.out.mono Hb2.out)
      have hl := Hl.out
      go_upto_if 24 with (fail)
      go_cut [5, 6] (fun v d wx => ∃ (dn' : Bool) (M' : List Rw), d = .bool dn' ∧ RowKit.Hid (RowsOwn0 w0 wx w.heap.size M' v) ∧ RowKit.Hid (Below w.heap.size w wx) ∧ RowKit.Hid (M'.length = k + dn'.toNat) ∧ RowKit.Hid (M' ++ X :: putF dn' (L.drop (k + 1)) R = putL L R))
      case first =>
        cases hc : (!dn && decide (cmpR R X < 0))
        · have Hnext : RowKit.Hid (M ++ X :: putF dn (L.drop (k + 1)) R = putL L R) := by
            show _ = _
            rw [← He.out, Hd.out]
            cases dn
            · have : ¬ ltR R X := by simpa [ltR] using hc
              simp [putF, putL, this]
            · rfl
          have hcF : (!dn && decide (cmpR R X < 0)) = false := hc
          clear hc hl
          go_wp2
          go_meet
          exact ⟨dn, M, rfl, Ho1, Hb2, Hl, Hnext⟩
        · obtain ⟨rfl, hlt'⟩ : dn = false ∧ ltR R X := by
            rw [Bool.and_eq_true] at hc
            exact ⟨by simpa using hc.1, by simpa [ltR] using hc.2⟩
          have Hnext : RowKit.Hid ((M ++ [R]) ++ X :: putF true (L.drop (k + 1)) R = putL L R) := by
            show _ = _
            rw [← He.out, Hd.out]
            simp [putF, putL, hlt']
          have hcT : (!false && decide (cmpR R X < 0)) = true := hc
          have Hm : RowKit.Hid (M.length + 1 ≤ 1099511627776) := by show _ ≤ _; simp at hl; omega
          have Hm1 : RowKit.Hid ((M ++ [R]).length = k + true.toNat) := by show _ = _; simp at hl ⊢; omega
          have Hbs := Lib.hid Hb2.out.size
          clear hc hl hlt'
          go_wp2_with (at_builtin; refine wpList_row0 rfl _ _ rfl w.heap.size M R _ rfl (Ho1.out.alloc _) _ _ (.slice ar nr cr) rfl ?c0 Hr0.out Hm.out ?c2 ?_)
          case c0 => simp
          case c2 => have := Hbs.out; simp; omega
          intro v' w' ho' hb' _
          have Ho2 := Lib.hid ho'
          have Hb3 : RowKit.Hid (Below w.heap.size w w') := (Hb2.out.alloc Hbs.out _).trans hb'
          clear ho' hb'
          go_wp2
          go_meet
          exact ⟨true, M ++ [R], rfl, Ho2, Hb3, Hm1, Hnext⟩
      obtain ⟨dn', M', rfl, Ho2, Hb3, Hl2, He2⟩ := hcut
      clear Hb2 Hr2 Ho1 Hb1 hl Hr1
      have hcell := (Hcell.out _ Hb3.out).1
      have Hx2 := Lib.hid (Hcell.out _ Hb3.out).2.1
      have hbl := World.block_lt_of_cell? _ _ hcell
      have Hbs := Lib.hid Hb3.out.size
      have Hm : RowKit.Hid (M'.length + 1 ≤ 1099511627776) := by show _ ≤ _; have := Hl2.out; cases dn' <;> simp at this <;> omega
      have Hm1 : RowKit.Hid ((M' ++ [X]).length = (k + 1) + dn'.toNat) := by show _ = _; have := Hl2.out; simp; omega
      obtain ⟨am', cm', rfl⟩ := Ho2.out.shape
      go_wp2_with (at_builtin; refine wpList_row0 rfl _ _ rfl w.heap.size M' X _ rfl (Ho2.out.alloc _) _ _ (.slice ax nx cx) rfl ?d0 Hx0.out Hm.out ?d2 ?_)
      case d2 => have := Hbs.out; simp; omega
      intro v' w' ho' hb' _
      have Ho3 := Lib.hid ho'
      have Hb4 : RowKit.Hid (Below w.heap.size w w') := (Hb3.out.alloc Hbs.out _).trans hb'
      have He3 : RowKit.Hid ((M' ++ [X]) ++ putF dn' (L.drop (k + 1)) R = putL L R) := by show _ = _; rw [← He2.out]; simp
      clear ho' hb' hcell
      go_wp2
      go_roundw
      case rel => exact ⟨k + 1, dn', M' ++ [X], by omega, by go_num, rfl, Ho3, Hb4, Hm1, He3⟩
      case measure => simp [intOf]; omega
    · obtain rfl : k = n := by omega
      have Hdn : RowKit.Hid (L.drop k = []) := by show _ = _; rw [List.drop_eq_nil_iff]; have := Hn.out; omega
      cases dn
      · have Hr2 := Lib.hid (Hr.out.mono Hb.out)
        have Hbs := Lib.hid Hb.out.size
        have Hm : RowKit.Hid (M.length + 1 ≤ 1099511627776) := by show _ ≤ _; have := Hl.out; simp at this; omega
        go_wp2_with (at_builtin; go_loud (refine wpList_row0 rfl _ _ rfl w.heap.size M R _ rfl (Ho.out.alloc _) _ _ (.slice ar nr cr) rfl ?e0 Hr0.out Hm.out ?e2 ?_))
        case e0 => simp
        case e2 => have := Hbs.out; simp; omega
        intro v' w' ho' hb' _
        have Ho3 := Lib.hid ho'
        have Hb4 : RowKit.Hid (Below w.heap.size w w') := (Hb.out.alloc Hbs.out _).trans hb'
        clear ho' hb'
        go_wp2
        go_ret
        exact ⟨_, rfl, by rw [← He.out, Hdn.out]; exact Ho3.out, Hb4.out⟩
      · go_wp2
        go_ret
        exact ⟨_, rfl, by rw [← He.out, Hdn.out]; simp only [putF, if_true, List.append_nil]; exact Ho.out, Hb.out⟩
theorem put_calls (L : List Rw) (R : Rw) (s r : Value) (w : World) (hs : RowsAt w L s) (hr : ValsAt w R r) (hlen : L.length < 1099511627776) :
    Calls Try.prog 22 #[s, r] w fun e w' => ∃ v, e = .returned v ∧ RowsAt w' (putL L R) v ∧ Below w.heap.size w w' := by
  refine (put_calls0 L R s r w w (Below.refl _ _) hs.at0 hr hlen).mono ?_
  rintro e w' ⟨v, h1, h2, h3⟩
  exact ⟨v, h1, h2.at h3, h3⟩
end Go.Proofs.Ytekoemcckdhhnaa
