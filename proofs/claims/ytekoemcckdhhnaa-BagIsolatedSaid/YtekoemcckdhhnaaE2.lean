/- The reference's Drop. -/
import Derived.Test.YtekoemcckdhhnaaE5
namespace Go.Proofs.Ytekoemcckdhhnaa
open Go.RowKit

/-- What Drop has still to do. -/
def dropF (d : Bool) (l : List Rw) (r : Rw) : List Rw := if d then l else dropL l r

set_option maxHeartbeats 1000000 in
set_option maxRecDepth 20000 in
theorem drop_calls0 (L : List Rw) (R : Rw) (s r : Value) (w0 w : World) (hb0 : Below w0.heap.size w0 w) (hs0 : RowsAt0 w0 w L s) (hr : ValsAt w R r) (hlen : L.length < 1099511627776) :
    Calls Try.prog 24 #[s, r] w fun e w' => ∃ v, e = .returned (.tuple #[v, .bool (decide (R ∈ L))]) ∧ RowsOwn0 w0 w' w.heap.size (dropL L R) v ∧ Below w.heap.size w w' := by
  have hs := hs0.at hb0
  obtain ⟨a, n, c, rfl, hn, hm⟩ := hs.shape
  obtain ⟨ar, nr, cr, rfl, hnr, hmr⟩ := hr.shape
  have Hs := Lib.hid hs
  have Hr := Lib.hid hr
  have Hn := Lib.hid hn
  have Hs0 := Lib.hid hs0
  have Hb00 := Lib.hid hb0
  clear hs hr hn hm hnr hmr hs0 hb0
  have hn40 : n < 1099511627776 := by have := Hn.out; omega
  clear hlen
  go_enter Try.func24, Try.ntmps24
  go_wp2
  go_loopw [6, 7, 8] (fun v d i wr => ∃ (k : Nat) (dn : Bool) (M : List Rw), k ≤ n ∧ i = .int .i64 k ∧ d = .bool dn ∧ RowKit.Hid (RowsOwn0 w0 wr w.heap.size M v) ∧ RowKit.Hid (Below w.heap.size w wr) ∧ RowKit.Hid (M.length ≤ k) ∧ RowKit.Hid (M ++ dropF dn (L.drop k) R = dropL L R) ∧ RowKit.Hid (decide (R ∈ L) = (dn || decide (R ∈ L.drop k)))) (fun _ _ i _ => n - (intOf i).toNat)
  case atStart => exact ⟨0, false, [], Nat.zero_le _, rfl, rfl, RowsOwn0.nil _ _ _, Below.refl _ _, Nat.le_refl _, rfl, rfl⟩
  case round =>
    obtain ⟨k, dn, M, hk, rfl, rfl, Ho, Hb, Hl, He, Hf⟩ := hrel
    obtain ⟨am, cm, rfl⟩ := Ho.out.shape
    by_cases hlt : k < n
    · have hk1 : k < L.length := by have := Hn.out; omega
      obtain ⟨b, o, rfl⟩ := Hs.out.has k hlt
      obtain ⟨ax, nx, cx, Hcell, Hx0⟩ := Hs0.out.row Hb00.out k hk1
      have Hd : RowKit.Hid (L.drop k = L[k] :: L.drop (k + 1)) := List.drop_eq_getElem_cons hk1
      obtain ⟨hc, hx, hbl⟩ := Hcell.out _ Hb.out
      have Hx := Lib.hid hx
      have Hr1 := Lib.hid (Hr.out.mono Hb.out)
      have HC := Lib.hid (fun w' (hb : Below wr.heap.size wr w') => rsame_calls L[k] R _ _ w' (Hx.out.mono hb) (Hr1.out.mono hb))
      clear hx
      generalize L[k] = X at *
      have i1 : (0 : Int) ≤ k := by omega
      have i2 : (k : Int) < n := by omega
      go_upto_region 6 with (fail)
      go_cut [24] (fun c wx => c = .bool (!dn && decide (X = R)) ∧ RowKit.Hid (Below wr.heap.size wr wx))
      case first =>
        cases dn
        · go_wp2_with (first | (go_at_call 31; (with_reducible refine (HC.out _ (Below.refl _ _)).mono ?_); rintro e w1 ⟨rfl, hb1⟩))
          all_goals
            go_meet
            exact ⟨by simp [*], hb1⟩
        · go_wp2_with fail
          go_meet
          exact ⟨rfl, Below.refl _ _⟩
      obtain ⟨rfl, Hb1⟩ := hcut
      clear hc hbl HC
      have Ho1 := Lib.hid (Ho.out.mono Hb1.out)
      have Hb2 := Lib.hid (Hb.out.trans (Hb1.out.mono Hb.out.size))
      clear Hb1 Ho Hb Hr1 Hx
      cases hc : (!dn && decide (X = R))
      · have Hnext : RowKit.Hid ((M ++ [X]) ++ dropF dn (L.drop (k + 1)) R = dropL L R) := by
          show _ = _
          rw [← He.out, Hd.out]
          cases dn
          · have : ¬ X = R := by simpa using hc
            simp [dropF, dropL, this]
          · simp [dropF]
        have Hf1 : RowKit.Hid (decide (R ∈ L) = (dn || decide (R ∈ L.drop (k + 1)))) := by
          show _ = _
          rw [Hf.out, Hd.out]
          cases dn
          · have : ¬ R = X := fun e => by simp [e] at hc
            simp [this]
          · rfl
        clear He Hf Hd
        obtain ⟨hcell, hx2, hbl⟩ := Hcell.out _ Hb2.out
        have Hx2 := Lib.hid hx2
        have Hbs := Lib.hid Hb2.out.size
        have Hm : RowKit.Hid (M.length + 1 ≤ 1099511627776) := by show _ ≤ _; have := Hl.out; omega
        have Hm1 : RowKit.Hid ((M ++ [X]).length ≤ k + 1) := by show _ ≤ _; have := Hl.out; simp; omega
        clear hx2
        go_wp2_with (at_builtin; refine wpList_row0 rfl _ _ rfl w.heap.size M X _ rfl (Ho1.out.alloc _) _ _ (.slice ax nx cx) rfl (by simp) Hx0.out Hm.out ?c2 ?_)
        case c2 => have := Hbs.out; simp; omega
        intro v' w' ho' hb' _
        have Ho3 := Lib.hid ho'
        have Hb4 : RowKit.Hid (Below w.heap.size w w') := (Hb2.out.alloc Hbs.out _).trans hb'
        clear ho' hb' hcell
        go_wp2
        go_roundw
        case rel => exact ⟨k + 1, dn, M ++ [X], by omega, by go_num, rfl, Ho3, Hb4, Hm1, Hnext, Hf1⟩
        case measure => simp [intOf]; omega
      · obtain ⟨rfl, rfl⟩ : dn = false ∧ X = R := by
          rw [Bool.and_eq_true] at hc
          exact ⟨by simpa using hc.1, by simpa using hc.2⟩
        have Hnext : RowKit.Hid (M ++ dropF true (L.drop (k + 1)) X = dropL L X) := by
          show _ = _
          rw [← He.out, Hd.out]
          simp [dropF, dropL]
        have Hf1 : RowKit.Hid (decide (X ∈ L) = (true || decide (X ∈ L.drop (k + 1)))) := by
          show _ = _
          rw [Hf.out, Hd.out]
          simp
        have Hm1 : RowKit.Hid (M.length ≤ k + 1) := by show _ ≤ _; have := Hl.out; omega
        have hcT : (!false && decide (X = X)) = true := hc
        clear hc
        go_wp2
        go_roundw
        case rel => exact ⟨k + 1, true, M, by omega, by go_num, rfl, Ho1, Hb2, Hm1, Hnext, Hf1⟩
        case measure => simp [intOf]; omega
    · obtain rfl : k = n := by omega
      have Hdn : RowKit.Hid (L.drop k = []) := by show _ = _; rw [List.drop_eq_nil_iff]; have := Hn.out; omega
      have Hfin : ∃ v, Ending.returned (.tuple #[.slice am M.length cm, .bool dn]) = .returned (.tuple #[v, .bool (decide (R ∈ L))]) ∧ RowsOwn0 w0 wr w.heap.size (dropL L R) v ∧ Below w.heap.size w wr := by
        refine ⟨.slice am M.length cm, ?_, ?_, Hb.out⟩
        · rw [Hf.out, Hdn.out]
          simp
        · rw [← He.out, Hdn.out]
          cases dn
          · simp only [dropF, dropL, Bool.false_eq_true, if_false, List.append_nil]; exact Ho.out
          · simp only [dropF, if_true, List.append_nil]; exact Ho.out
      have Hfin := Lib.hid Hfin
      go_wp2
      exact bodyPost_ret (v := .tuple #[.slice am M.length cm, .bool dn]) (by simp [results, Try.results24, go_sem]) rfl Hfin.out
theorem drop_calls (L : List Rw) (R : Rw) (s r : Value) (w : World) (hs : RowsAt w L s) (hr : ValsAt w R r) (hlen : L.length < 1099511627776) :
    Calls Try.prog 24 #[s, r] w fun e w' => ∃ v, e = .returned (.tuple #[v, .bool (decide (R ∈ L))]) ∧ RowsAt w' (dropL L R) v ∧ Below w.heap.size w w' := by
  refine (drop_calls0 L R s r w w (Below.refl _ _) hs.at0 hr hlen).mono ?_
  rintro e w' ⟨v, h1, h2, h3⟩
  exact ⟨v, h1, h2.at h3, h3⟩
end Go.Proofs.Ytekoemcckdhhnaa
