/- find: the place of a row in a bag. -/
import Derived.Test.YtekoemcckdhhnaaF0
namespace Go.Proofs.Ytekoemcckdhhnaa
open Go.RowKit

/-- Entries as they are read. -/
inductive EntsAt (w : World) : List Ent → Value → Prop where
  | mt {a : Option Addr} : EntsAt w [] (.slice a 0 0)
  | lie (es : List Ent) (b o n cap : Nat) (hn : n = es.length) (hlt : b < w.heap.size) (hm : n ≤ maxLen)
      (hc : ∀ i (h : i < es.length), ∃ x, w.cell? ⟨b, o + i * 2, none⟩ = some x ∧ w.cell? ⟨b, o + i * 2 + 1, none⟩ = some (.int .i64 es[i].2) ∧ ValsAt w es[i].1 x) : EntsAt w es (.slice (some ⟨b, o, none⟩) n cap)
theorem EntsAt.mono {w w' : World} {es : List Ent} {s : Value} (h : EntsAt w es s) (hb : Below w.heap.size w w') : EntsAt w' es s := by
  cases h with
  | mt => exact .mt
  | lie _ b o n cap hn hlt hm hc =>
    refine .lie _ b o n cap hn (Nat.lt_of_lt_of_le hlt hb.size) hm fun i hi => ?_
    obtain ⟨x, h1, h2, h3⟩ := hc i hi
    exact ⟨x, (hb.cell (p := ⟨b, o + i * 2, none⟩) hlt).trans h1, (hb.cell (p := ⟨b, o + i * 2 + 1, none⟩) hlt).trans h2, h3.mono hb⟩
theorem EntsAt.shape {w : World} {es : List Ent} {s : Value} (h : EntsAt w es s) : ∃ a n c, s = .slice a n c ∧ n = es.length ∧ n ≤ maxLen := by
  cases h with
  | mt => exact ⟨_, _, _, rfl, rfl, by simp⟩
  | lie _ b o n cap hn hlt hm hc => exact ⟨_, _, _, rfl, hn, hm⟩
theorem EntsAt.has {w : World} {es : List Ent} {a : Option Addr} {n c : Nat} (h : EntsAt w es (.slice a n c)) (i : Nat) (hi : i < n) : ∃ b o, a = some ⟨b, o, none⟩ := by
  cases h with
  | mt => omega
  | lie _ b o => exact ⟨b, o, rfl⟩
theorem EntsAt.entry {w : World} {es : List Ent} {b o n c : Nat} (h : EntsAt w es (.slice (some ⟨b, o, none⟩) n c)) (k : Nat) (hk : k < es.length) :
    ∃ ax nx cx, RowKit.Hid (∀ w', Below w.heap.size w w' → w'.cell? ⟨b, o + k * 2, none⟩ = some (.slice ax nx cx) ∧ w'.cell? ⟨b, o + k * 2 + 1, none⟩ = some (.int .i64 es[k].2) ∧ ValsAt w' es[k].1 (.slice ax nx cx) ∧ b < w'.heap.size) := by
  cases h with
  | mt => simp at hk
  | lie _ _ _ _ _ hn hlt hm hc =>
    obtain ⟨x, h1, h2, h3⟩ := hc k hk
    obtain ⟨ax, nx, cx, rfl, _, _⟩ := h3.shape
    exact ⟨ax, nx, cx, fun w' hb => ⟨(hb.cell (p := ⟨b, o + k * 2, none⟩) hlt).trans h1, (hb.cell (p := ⟨b, o + k * 2 + 1, none⟩) hlt).trans h2, h3.mono hb, Nat.lt_of_lt_of_le hlt hb.size⟩⟩
theorem BagAt.ents {w : World} {B pb : Nat} {s : Value} {b : List Ent} (h : BagAt w B pb s b) : EntsAt w b s := by
  obtain ⟨cs, ⟨hl, ⟨rfl, h0⟩ | ⟨g, cap, cur, rfl, hb, hg, hn, hc, hs, ht⟩⟩, he⟩ := h.ent
  · cases b with
    | nil => exact .mt
    | cons => simp at h0
  · refine .lie b g 0 _ cap rfl (Array.getElem?_eq_some_iff.1 hg).1 (Nat.le_trans hn hc) fun i hi => ?_
    obtain ⟨x, e1, e2, e3⟩ := he.get i hi
    refine ⟨x, ?_, ?_, e3.vals⟩
    · rw [Nat.zero_add, cell_of_row w g (i * 2) cur 57 (0, 0) hg]
      rw [← ht, List.getElem?_take, if_pos (by omega)] at e1
      simpa using e1
    · rw [Nat.zero_add, cell_of_row w g (i * 2 + 1) cur 57 (0, 0) hg]
      rw [← ht, List.getElem?_take, if_pos (by omega)] at e2
      simpa using e2

/-- The closure of find. -/
theorem find1_calls (X R : Rw) (n : Int) (x r : Value) (w : World) (hx : ValsAt w X x) (hr : ValsAt w R r) :
    Calls Try.prog 45 #[.agg #[x, .int .i64 n], r] w fun e w' => e = .returned (.int .i64 (cmpR X R)) ∧ Below w.heap.size w w' := by
  obtain ⟨ax, nx, cx, rfl, p1, p2⟩ := hx.shape
  obtain ⟨ar, nr, cr, rfl, p3, p4⟩ := hr.shape
  clear p1 p2 p3 p4
  have hb0 : ∀ o, Below w.heap.size w (w.alloc o) := fun o => (Below.refl _ _).alloc (Nat.le_refl _) o
  have HC := Lib.hid (fun o => compareRows_calls X R _ _ (w.alloc o) (hx.mono (hb0 o)) (hr.mono (hb0 o)))
  have Hb0 := Lib.hid hb0
  clear hx hr hb0
  go_enter Try.func45, Try.ntmps45
  go_wp2_with fail
  (with_reducible refine (HC.out _).mono ?_)
  rintro e w1 ⟨rfl, hb1⟩
  have Hb1 := Lib.hid ((Hb0.out _).trans (hb1.mono (Hb0.out _).size))
  clear hb1
  go_wp2
  go_ret
  exact ⟨rfl, Hb1.out⟩

/-! Where the row goes. -/
def hasB (b : List Ent) (r : Rw) : Bool := b.any fun x => decide (x.1 = r)
theorem posB_eq {b : List Ent} {r : Rw} {i : Nat} (hi : i ≤ b.length) (h1 : ∀ j (h : j < b.length), j < i → ltR b[j].1 r) (h2 : ∀ h : i < b.length, ¬ ltR b[i].1 r) : posB b r = i := by
  unfold posB
  induction b generalizing i with
  | nil => simp at hi; simp [hi]
  | cons x b ih =>
    cases i with
    | zero =>
      have := h2 (by simp)
      simp only [List.getElem_cons_zero] at this
      simp [this]
    | succ i =>
      have h0 := h1 0 (by simp) (by omega)
      simp only [List.getElem_cons_zero] at h0
      simp only [List.takeWhile_cons, h0, decide_true, if_true, List.length_cons]
      rw [ih (i := i) (by simpa using hi) (fun j h hj => by have := h1 (j + 1) (by simpa using h) (by omega); simpa using this) (fun h => by have := h2 (by simpa using h); simpa using this)]
theorem hasB_eq {b : List Ent} (hw : Wf b) {r : Rw} {i : Nat} (hi : i ≤ b.length) (h1 : ∀ j (h : j < b.length), j < i → ltR b[j].1 r) (h2 : ∀ h : i < b.length, ¬ ltR b[i].1 r) :
    hasB b r = if h : i < b.length then decide (cmpR b[i].1 r = 0) else false := by
  unfold hasB
  rw [Bool.eq_iff_iff]
  simp only [List.any_eq_true, decide_eq_true_eq]
  constructor
  · rintro ⟨x, hx, rfl⟩
    obtain ⟨j, hj, rfl⟩ := List.mem_iff_getElem.1 hx
    by_cases hji : j < i
    · exact absurd (h1 j hj hji) (ltR_irrefl _)
    · have hil : i < b.length := by omega
      rw [dif_pos hil]
      by_cases e : i = j
      · subst e; simp [cmpR_zero.2 rfl]
      · have := (List.pairwise_iff_getElem.1 hw.asc) i j hil hj (by omega)
        exact absurd this (h2 hil)
  · intro h
    split at h
    · rename_i hil
      exact ⟨_, List.getElem_mem hil, cmpR_zero.1 (by simpa using h)⟩
    · cases h

set_option maxHeartbeats 2000000 in
/-- slices.BinarySearchFunc at find's closure. -/
theorem search_calls (b : List Ent) (R : Rw) (s r : Value) (w : World) (hs : EntsAt w b s) (hr : ValsAt w R r) (hw : Wf b) (hlen : b.length < 1099511627776) :
    Calls Try.prog 44 #[s, r, .func (.func 45) #[] #[]] w fun e w' => e = .returned (.tuple #[.int .i64 (posB b R), .bool (hasB b R)]) ∧ Below w.heap.size w w' := by
  obtain ⟨a, n, c, rfl, hn, hm⟩ := hs.shape
  obtain ⟨ar, nr, cr, rfl, p3, p4⟩ := hr.shape
  have Hs := Lib.hid hs
  have Hr := Lib.hid hr
  have Hn := Lib.hid hn
  have Hw := Lib.hid hw
  clear hs hr hn hm p3 p4 hw
  have hn40 : n < 1099511627776 := by have := Hn.out; omega
  clear hlen
  go_enter Try.func44, Try.ntmps44
  go_wp2
  go_loopw [9, 10] (fun i j wr => ∃ (lo hi : Nat), lo ≤ hi ∧ hi ≤ n ∧ i = .int .i64 lo ∧ j = .int .i64 hi ∧ RowKit.Hid (Below w.heap.size w wr) ∧ RowKit.Hid (∀ j (h : j < b.length), j < lo → ltR b[j].1 R) ∧ RowKit.Hid (∀ j (h : j < b.length), hi ≤ j → ¬ ltR b[j].1 R)) (fun i j _ => (intOf j).toNat - (intOf i).toNat)
  case atStart => exact ⟨0, n, Nat.zero_le _, Nat.le_refl _, rfl, rfl, Below.refl _ _, fun j h h0 => by omega, fun j h h0 => by have := Hn.out; omega⟩
  case round =>
    obtain ⟨lo, hi, hlh, hhn, rfl, rfl, Hb, H1, H2⟩ := hrel
    by_cases hlt : lo < hi
    · obtain ⟨m, hm⟩ : ∃ m : Nat, m = (lo + hi) / 2 := ⟨_, rfl⟩
      have hm1 : lo ≤ m := by omega
      have hm2 : m < hi := by omega
      have hk1 : m < b.length := by have := Hn.out; omega
      have hmn : m < n := by omega
      obtain ⟨g, o, rfl⟩ := Hs.out.has m hmn
      obtain ⟨ax, nx, cx, Hcell⟩ := Hs.out.entry m hk1
      obtain ⟨hc0, hc1, hx, hbl⟩ := Hcell.out _ Hb.out
      have HC := Lib.hid (find1_calls b[m].1 R b[m].2 _ _ wr hx (Hr.out.mono Hb.out))
      have Hup : RowKit.Hid (ltR b[m].1 R → ∀ j (h : j < b.length), j < m + 1 → ltR b[j].1 R) := by
        intro h j hj hjm
        by_cases e : j = m
        · subst e; exact h
        · exact ltR_trans ((List.pairwise_iff_getElem.1 Hw.out.asc) j m hj hk1 (by omega)) h
      have Hdn : RowKit.Hid (¬ ltR b[m].1 R → ∀ j (h : j < b.length), m ≤ j → ¬ ltR b[j].1 R) := by
        intro h j hj hjm h2
        by_cases e : j = m
        · subst e; exact h h2
        · exact h (ltR_trans ((List.pairwise_iff_getElem.1 Hw.out.asc) m j hk1 hj (by omega)) h2)
      clear hx
      generalize b[m].1 = X at *
      generalize b[m].2 = N at *
      have i1 : (0 : Int) ≤ m := by omega
      have i2 : (m : Int) < n := by omega
      clear hk1
      have Hm := Lib.hid hm
      clear hm
      go_upto_region 4 with (fail)
      go_cut [11] (fun z wx => z = .int .i64 m ∧ wx = wr)
      case first =>
        go_wp2_with fail
        go_meet
        exact ⟨by have := Hm.out; congr 1; omega, rfl⟩
      obtain ⟨rfl, rfl⟩ := hcut
      go_upto_region 5 with (fail)
      go_cut [31] (fun z wx => ∃ q : Bool, z = .bool q ∧ RowKit.Hid (q = decide (ltR X R)) ∧ RowKit.Hid (Below w.heap.size w wx))
      case first =>
        go_wp2_with (go_at_call 45; (with_reducible refine HC.out.mono ?_); rintro e w1 ⟨rfl, hb1⟩)
        all_goals
          have Hb1 := Lib.hid (Hb.out.trans (hb1.mono Hb.out.size))
          go_meet
          exact ⟨_, rfl, by show _ = _; exact decide_eq_decide.2 Iff.rfl, Hb1⟩
      obtain ⟨q, rfl, Hq, Hb1⟩ := hcut
      clear hc0 hc1 hbl HC Hb
      cases q
      · have Hd1 := Lib.hid (Hdn.out (by have := Hq.out; simpa using this))
        clear Hup Hdn Hq
        go_wp2
        go_roundw
        case rel => exact ⟨lo, m, hm1, by omega, rfl, rfl, Hb1, H1, Hd1⟩
        case measure => simp [intOf]; omega
      · have Hd1 := Lib.hid (Hup.out (by have := Hq.out; simpa using this))
        clear Hup Hdn Hq
        go_wp2
        go_roundw
        case rel => exact ⟨m + 1, hi, by omega, hhn, by go_num, rfl, Hb1, Hd1, H2⟩
        case measure => simp [intOf]; omega
    · obtain rfl : lo = hi := by omega
      have Hp : RowKit.Hid (posB b R = lo) := posB_eq (by have := Hn.out; omega) H1.out (fun h => H2.out lo h (Nat.le_refl _))
      have Hh : RowKit.Hid (hasB b R = if h : lo < b.length then decide (cmpR b[lo].1 R = 0) else false) := hasB_eq Hw.out (by have := Hn.out; omega) H1.out (fun h => H2.out lo h (Nat.le_refl _))
      by_cases hlt' : lo < n
      · have hk1 : lo < b.length := by have := Hn.out; omega
        obtain ⟨g, o, rfl⟩ := Hs.out.has lo hlt'
        obtain ⟨ax, nx, cx, Hcell⟩ := Hs.out.entry lo hk1
        obtain ⟨hc0, hc1, hx, hbl⟩ := Hcell.out _ Hb.out
        have HC := Lib.hid (find1_calls b[lo].1 R b[lo].2 _ _ wr hx (Hr.out.mono Hb.out))
        have Hres : RowKit.Hid (hasB b R = (cmpR b[lo].1 R == 0)) := by show _ = _; rw [Hh.out, dif_pos hk1]; rfl
        clear hx Hh H1 H2
        generalize b[lo].1 = X at *
        generalize b[lo].2 = N at *
        have i1 : (0 : Int) ≤ lo := by omega
        have i2 : (lo : Int) < n := by omega
        clear hk1
        go_wp2_with (go_at_call 45; (with_reducible refine HC.out.mono ?_); rintro e w1 ⟨rfl, hb1⟩)
        all_goals
          have Hb1 := Lib.hid (Hb.out.trans (hb1.mono Hb.out.size))
          exact bodyPost_ret (v := .tuple #[.int .i64 lo, .bool (cmpR X R == 0)]) (by simp [results, Try.results44, go_sem, *]) rfl ⟨by rw [Hp.out, Hres.out], Hb1.out⟩
      · have Hres : RowKit.Hid (hasB b R = false) := by show _ = _; rw [Hh.out, dif_neg (by have := Hn.out; omega)]
        clear Hh H1 H2
        go_wp2
        exact bodyPost_ret (v := .tuple #[.int .i64 lo, .bool false]) (by simp [results, Try.results44, go_sem, *]) rfl ⟨by rw [Hp.out, Hres.out], Hb.out⟩
end Go.Proofs.Ytekoemcckdhhnaa
