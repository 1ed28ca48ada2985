/- The bag's New, made; num. -/
import Derived.Test.YtekoemcckdhhnaaH2
namespace Go.Proofs.Ytekoemcckdhhnaa
open Go.RowKit

theorem BagAt.new (w : World) : BagAt (w.alloc (.cells #[.slice none 0 0, .int .i64 0] 55)) w.heap.size w.heap.size (.slice none 0 0) [] :=
  ⟨Nat.le_refl _, heap_alloc_new w _, ⟨[], World.ownsRow_nil _ _ _ _, .nil⟩, wf_nil⟩
theorem EntVs.base {w : World} {B C : Nat} {b : List Ent} {cs : List Value} (h : EntVs w B b cs) (hb : C ≤ B) : EntVs w C b cs := by
  induction h with
  | nil => exact .nil
  | cons h1 _ ih => exact .cons (h1.base hb) ih
theorem BagAt.base {w : World} {B C pb : Nat} {s : Value} {b : List Ent} (h : BagAt w B pb s b) (hb : C ≤ B) : BagAt w C pb s b := by
  obtain ⟨h1, h2, ⟨cs, ⟨h3, h4⟩, h5⟩, h6⟩ := h
  refine ⟨Nat.le_trans hb h1, h2, ⟨cs, ⟨h3, ?_⟩, h5.base hb⟩, h6⟩
  rcases h4 with e | ⟨g, cap, cur, hv, hg, rest⟩
  · exact .inl e
  · exact .inr ⟨g, cap, cur, hv, Nat.le_trans hb hg, rest⟩
theorem BagAt.own {w : World} {B pb : Nat} {s : Value} {b : List Ent} (h : BagAt w B pb s b) : ∀ k, s.ownBlock = some k → B ≤ k := by
  obtain ⟨cs, h1, _⟩ := h.ent
  exact fun k hk => (h1.lt k hk).1
theorem Mut.below {w w' : World} {B pb : Nat} {s : Value} {b b' : List Ent} (h : BagAt w B pb s b) (hm : Mut w B pb s b' w') : Below B w w' := by
  obtain ⟨s', _, h2, _⟩ := hm
  exact h2.below (by have := h.ge; have := h.lt; omega) h.ge h.own

theorem length_ofL (l : List Rw) : (ofL l).length = l.length := by
  unfold ofL
  have : ∀ (l a : List Rw), (l.foldl putL a).length = a.length + l.length := by
    intro l
    induction l with
    | nil => intro a; rfl
    | cons x l ih => intro a; rw [List.foldl_cons, ih, length_putL, List.length_cons]; omega
  simpa using this l []
theorem lenB_newB (l : List Rw) : lenB (newB l) = l.length := by
  unfold lenB
  rw [(newB_all l).2, length_ofL]
theorem newB_take (l : List Rw) (k : Nat) (hk : k < l.length) : newB (l.take (k + 1)) = putB (newB (l.take k)) l[k] 1 := by
  unfold newB
  rw [List.take_succ_eq_append_getElem hk, List.foldl_append]
  rfl

set_option maxHeartbeats 1000000 in
theorem bnew_calls (L : List Rw) (s : Value) (w : World) (hs : RowsAt w L s) (hlen : L.length < 1099511627776) (hR : ∀ r ∈ L, r.length < 1099511627776) :
    Calls Try.prog 19 #[s] w fun e w' => ∃ pb sb, e = .returned (.pointer (some ⟨pb, 0, none⟩)) ∧ BagAt w' w.heap.size pb sb (newB L) ∧ Below w.heap.size w w' := by
  obtain ⟨a, n, c, rfl, hn, hm⟩ := hs.shape
  have Hs := Lib.hid hs
  have Hn := Lib.hid hn
  have HR := Lib.hid hR
  clear hs hn hm hR
  have hn40 : n < 1099511627776 := by have := Hn.out; omega
  have Hb0 : RowKit.Hid (Below w.heap.size w (w.alloc (.cells #[.slice none 0 0, .int .i64 0] 55))) := (Below.refl _ _).alloc (Nat.le_refl _) _
  have HN := Lib.hid (BagAt.new w)
  clear hlen
  go_enter Try.func19, Try.ntmps19
  go_wp2
  go_loopw [5, 10] (fun r i wr => ∃ (k : Nat), k ≤ n ∧ i = .int .i64 k ∧ RowKit.Hid (∃ sb, BagAt wr w.heap.size w.heap.size sb (newB (L.take k))) ∧ RowKit.Hid (Below w.heap.size w wr)) (fun _ i _ => n - (intOf i).toNat)
  case atStart => exact ⟨0, Nat.zero_le _, rfl, ⟨_, HN.out⟩, Hb0⟩
  case round =>
    obtain ⟨k, hk, rfl, Ho, Hb⟩ := hrel
    by_cases hlt : k < n
    · have hk1 : k < L.length := by have := Hn.out; omega
      obtain ⟨b, o, rfl⟩ := Hs.out.has k hlt
      obtain ⟨ax, nx, cx, Hcell, -⟩ := Hs.out.row k hk1
      obtain ⟨hc, hx, hbl⟩ := Hcell.out _ Hb.out
      obtain ⟨sb, hbag⟩ := Ho.out
      have Hl : RowKit.Hid (lenB (newB (L.take k)) = k) := by show _ = _; rw [lenB_newB, List.length_take]; omega
      have HC := Lib.hid (badd_calls w.heap.size w.heap.size sb _ L[k] _ wr hbag hx (HR.out _ (List.getElem_mem hk1)) (by rw [Hl.out]; omega))
      have Hbag := Lib.hid hbag
      have Htk := Lib.hid (newB_take L k hk1)
      clear hx hbag
      generalize L[k] = X at *
      have i1 : (0 : Int) ≤ k := by omega
      have i2 : (k : Int) < n := by omega
      go_wp2_with fail
      (with_reducible refine HC.out.mono ?_)
      rintro e w1 ⟨rfl, hM⟩
      have Hb1 := Lib.hid (Hb.out.trans (hM.below Hbag.out))
      have Ho1 : RowKit.Hid (∃ sb, BagAt w1 w.heap.size w.heap.size sb (newB (L.take (k + 1)))) := by
        obtain ⟨s', h1, _⟩ := hM
        exact ⟨s', by rw [Htk.out]; exact h1⟩
      clear hM hc hbl HC
      go_wp2
      go_roundw
      case rel => exact ⟨k + 1, by omega, by go_num, Ho1, Hb1⟩
      case measure => simp [intOf]; omega
    · obtain rfl : k = n := by omega
      have Hfin : RowKit.Hid (∃ sb, BagAt wr w.heap.size w.heap.size sb (newB L)) := by
        have h := Ho.out
        rwa [List.take_of_length_le (by have := Hn.out; omega)] at h
      go_wp2
      go_ret
      obtain ⟨sb, h⟩ := Hfin.out
      exact ⟨_, sb, rfl, h, Hb.out⟩

theorem made_calls (L : List Rw) (s : Value) (w : World) (hs : RowsAt w L s) (hlen : L.length < 1099511627776) (hR : ∀ r ∈ L, r.length < 1099511627776) :
    Calls Try.prog 12 #[s] w fun e w' => ∃ pb sb, e = .returned (.pointer (some ⟨pb, 0, none⟩)) ∧ BagAt w' w.heap.size pb sb (newB L) ∧ Below w.heap.size w w' := by
  have HC := Lib.hid (own_calls L s w hs hlen hR)
  obtain ⟨a, n, c, rfl, hn, hm⟩ := hs.shape
  have Hlen := Lib.hid hlen
  have HR := Lib.hid hR
  clear hs hn hm hlen hR
  go_enter Try.func12, Try.ntmps12
  go_wp2_with fail
  (with_reducible refine HC.out.mono ?_)
  rintro e w1 ⟨v, rfl, hv, hb1⟩
  obtain ⟨av, cv, rfl⟩ := hv.own.shape
  have HC2 := Lib.hid (bnew_calls L _ w1 hv.own.at Hlen.out HR.out)
  have Hb1 := Lib.hid hb1
  clear hv hb1
  go_wp2_with fail
  (with_reducible refine HC2.out.mono ?_)
  rintro e w2 ⟨pb, sb, rfl, hbag, hb2⟩
  have Hbag := Lib.hid (hbag.base Hb1.out.size)
  have Hb2 := Lib.hid (Hb1.out.trans (hb2.mono Hb1.out.size))
  clear hbag hb2 HC HC2
  go_wp2
  go_ret
  exact ⟨pb, sb, rfl, Hbag.out, Hb2.out⟩

theorem num_calls (n : Int) (w : World) :
    Calls Try.prog 29 #[.int .i64 n] w fun e w' => ∃ v, e = .returned v ∧ RowO w' w.heap.size [⟨1, n, ⟨#[]⟩⟩] v ∧ Below w.heap.size w w' := by
  have H1 : RowKit.Hid (RowO (w.alloc (.cells #[.int .i64 1, .int .i64 n, .string ⟨#[]⟩] 38)) w.heap.size [⟨1, n, ⟨#[]⟩⟩] (.slice (some ⟨w.heap.size, 0, none⟩) 1 1)) :=
    ⟨World.ownsRow_lit (e := 38) (size := 3) w #[.int .i64 1, .int .i64 n, .string ⟨#[]⟩] 1 (Nat.le_refl _) (by decide) rfl, by intro v hv; simp at hv; subst hv; exact Nat.zero_le _⟩
  have H2 : RowKit.Hid (Below w.heap.size w (w.alloc (.cells #[.int .i64 1, .int .i64 n, .string ⟨#[]⟩] 38))) := (Below.refl _ _).alloc (Nat.le_refl _) _
  go_enter Try.func29, Try.ntmps29
  go_wp2
  go_ret
  exact ⟨_, rfl, H1.out, H2.out⟩
end Go.Proofs.Ytekoemcckdhhnaa
