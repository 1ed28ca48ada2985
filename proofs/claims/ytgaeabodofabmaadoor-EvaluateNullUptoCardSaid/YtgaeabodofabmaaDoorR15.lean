/- The reference's Type at any expression: what its answer says. -/
import Derived.Test.YtgaeabodofabmaaDoorR12
import Derived.Test.YtgaeabodofabmaaDoorR13
import Derived.Test.YtgaeabodofabmaaDoorR14
namespace Go.Proofs.YtgaeabodofabmaaDoor
open Go.RowKit

theorem ty_lit_args {L : List Int} (tb nm : ByteArray) (ix : Int) (v : Vl) (args : List Ex) (h : args ≠ []) : TyAt L (.mk 1 tb nm ix v args) := by
  intro a n c s w hs hl
  simp only [Ex.op, Ex.table, Ex.name, Ex.index, Ex.v]
  simp only [Ex.args] at hs
  have hn : 0 < n := by
    obtain ⟨_, _, _, he, hn, -⟩ := hs.shape
    cases he
    have := List.length_pos_iff.2 h
    omega
  have hn' : (0 : Int) < (n : Int) := by omega
  clear hs hl h
  go_enter Tryd.func55, Tryd.ntmps55
  go_wp2
  go_ret
  exact ⟨_, rfl, good_none _ _ _ (by decide), (Below.refl _ _).alloc (Nat.le_refl _) _⟩

theorem ty_lit {L : List Int} (tb nm : ByteArray) (ix : Int) (v : Vl) : TyAt L (.mk 1 tb nm ix v []) := by
  intro a n c s w hs hl
  simp only [Ex.op, Ex.table, Ex.name, Ex.index, Ex.v]
  simp only [Ex.args] at hs
  obtain ⟨_, _, _, he, hn, -⟩ := hs.shape
  cases he
  obtain rfl : n = 0 := by simpa using hn
  have Hb0 : RowKit.Hid (∀ o, Below w.heap.size w (w.alloc o)) := fun o => (Below.refl _ _).alloc (Nat.le_refl _) o
  clear hs hl hn
  go_enter Tryd.func55, Tryd.ntmps55
  go_wp2_with fail
  refine (literal_calls v _).mono ?_
  rintro e w1 ⟨t, rfl, ht, hb1⟩
  have Ht := Lib.hid ht
  have Hbw := Lib.hid ((Hb0.out _).trans (hb1.mono (Hb0.out _).size))
  clear ht hb1
  go_wp2
  go_ret
  refine ⟨t, rfl, ?_, Hbw.out⟩
  rcases Ht.out with ⟨rfl, h1, h2, h3⟩ | ⟨rfl, h1, h2⟩ | ⟨rfl, h1, h2⟩ | rfl
  · exact ⟨fun _ => ⟨.lit _ _ _ _ _ (.inl ⟨h1, h2, h3⟩), .lit _ _ _ _ _ (.inl ⟨h1, h2, h3⟩), .null _ _ _ _, rfl⟩, fun h => by omega, fun h => by omega, fun h => by omega, fun h => by omega⟩
  · exact ⟨fun h => by omega, fun _ => .lit _ _ _ _ _ h1, fun h => by omega, fun h => by omega, fun _ _ => by omega⟩
  · exact ⟨fun h => by omega, fun h => by omega, fun _ => .lit _ _ _ _ _ h1, fun h => by omega, fun _ _ => by omega⟩
  · exact good_none _ _ _ (by decide)

set_option maxHeartbeats 4000000 in
set_option maxRecDepth 20000 in
theorem ty_col_bad {L : List Int} (tb nm : ByteArray) (ix : Int) (v : Vl) (args : List Ex) (h : args ≠ [] ∨ ix < 0 ∨ (L.length : Int) ≤ ix) : TyAt L (.mk 2 tb nm ix v args) := by
  intro a n c s w hs hl
  simp only [Ex.op, Ex.table, Ex.name, Ex.index, Ex.v]
  simp only [Ex.args] at hs
  obtain ⟨_, _, _, he, hn, -⟩ := hs.shape
  cases he
  obtain ⟨a', n', c', rfl, hn', -⟩ := hl.shape
  have Hb0 : RowKit.Hid (∀ o, Below w.heap.size w (w.alloc o)) := fun o => (Below.refl _ _).alloc (Nat.le_refl _) o
  by_cases h0 : 0 < n
  · have h0' : (0 : Int) < (n : Int) := by omega
    clear hs hl h hn hn'
    go_enter Tryd.func55, Tryd.ntmps55
    go_wp2
    go_ret
    exact ⟨_, rfl, good_none _ _ _ (by decide), Hb0.out _⟩
  · obtain rfl : n = 0 := by omega
    have h2 : ix < 0 ∨ (n' : Int) ≤ ix := by
      rcases h with h | h
      · have := List.length_pos_iff.2 h; omega
      · omega
    clear hs hl h hn hn' h0
    by_cases h3 : ix < 0
    · clear h2
      go_enter Tryd.func55, Tryd.ntmps55
      go_wp2
      go_ret
      exact ⟨_, rfl, good_none _ _ _ (by decide), Hb0.out _⟩
    · have h4 : (n' : Int) ≤ ix := by omega
      have h5 : 0 ≤ ix := by omega
      clear h2 h3
      go_enter Tryd.func55, Tryd.ntmps55
      go_wp2
      go_ret
      exact ⟨_, rfl, good_none _ _ _ (by decide), Hb0.out _⟩

set_option maxHeartbeats 4000000 in
set_option maxRecDepth 20000 in
theorem ty_col {L : List Int} (tb nm : ByteArray) (i : Nat) (v : Vl) (t : Int) (h : L[i]? = some t) : TyAt L (.mk 2 tb nm i v []) := by
  intro a n c s w hs hl
  simp only [Ex.op, Ex.table, Ex.name, Ex.index, Ex.v]
  simp only [Ex.args] at hs
  obtain ⟨_, _, _, he, hn, -⟩ := hs.shape
  cases he
  obtain rfl : n = 0 := by simpa using hn
  obtain ⟨a', n', c', rfl, hn', hm⟩ := hl.shape
  obtain ⟨hi, hLi⟩ := List.getElem?_eq_some_iff.1 h
  obtain ⟨b, o, rfl⟩ := hl.has i (by omega)
  have Hb0 : RowKit.Hid (∀ o, Below w.heap.size w (w.alloc o)) := fun o => (Below.refl _ _).alloc (Nat.le_refl _) o
  have hc := hl.cell i hi
  rw [hLi] at hc
  have hb := hl.lt hi
  have H := Lib.hid h
  have hin : i < n' := by omega
  clear hs hl h hn hn' hLi hi
  by_cases h1 : t < 1
  · go_enter Tryd.func55, Tryd.ntmps55
    go_wp2
    go_ret
    exact ⟨_, rfl, good_none _ _ _ (by decide), Hb0.out _⟩
  · have h1' : 1 ≤ t := by omega
    clear h1
    by_cases h2 : 2 < t
    · go_enter Tryd.func55, Tryd.ntmps55
      go_wp2
      go_ret
      exact ⟨_, rfl, good_none _ _ _ (by decide), Hb0.out _⟩
    · have h2' : t ≤ 2 := by omega
      clear h2
      have Ht := Lib.hid (And.intro h1' h2')
      go_enter Tryd.func55, Tryd.ntmps55
      go_wp2
      go_ret
      have := Ht.out
      exact ⟨_, rfl, ⟨fun h => by omega, fun h => .col _ _ _ _ _ (by rw [H.out, h]), fun h => .col _ _ _ _ _ (by rw [H.out, h]), fun h => by omega, fun _ h => by simp [Ex.op] at h⟩, Hb0.out _⟩

set_option maxHeartbeats 4000000 in
set_option maxRecDepth 20000 in
theorem ty_un {L : List Int} (op : Int) (hop : op = 3 ∨ op = 9 ∨ op = 17 ∨ op = 20) (tb nm : ByteArray) (ix : Int) (v0 : Vl) (args : List Ex) (hA : ∀ A ∈ args, IsAt L A) : TyAt L (.mk op tb nm ix v0 args) := by
  intro a n c s w hs hl
  have HU := Lib.hid (un_all op hop tb nm ix v0 args hA a n c s)
  simp only [Ex.op, Ex.table, Ex.name, Ex.index, Ex.v] at HU ⊢
  have Hs := Lib.hid hs
  have Hl := Lib.hid hl
  clear hs hl
  have Hb0 : RowKit.Hid (∀ o, Below w.heap.size w (w.alloc o)) := fun o => (Below.refl _ _).alloc (Nat.le_refl _) o
  rcases hop with rfl | rfl | rfl | rfl
  all_goals
    go_enter Tryd.func55, Tryd.ntmps55
    go_wp2_with fail
    refine (HU.out _ (Hs.out.mono (Hb0.out _)) (Hl.out.mono (Hb0.out _))).mono ?_
    rintro e w1 ⟨t, rfl, ht, hb1⟩
    have Ht := Lib.hid ht
    have Hbw := Lib.hid ((Hb0.out _).trans (hb1.mono (Hb0.out _).size))
    clear ht hb1
    go_wp2
    go_ret
    exact ⟨t, rfl, Ht.out, Hbw.out⟩

set_option maxHeartbeats 4000000 in
set_option maxRecDepth 20000 in
theorem ty_len {L : List Int} (op : Int) (h1 : op ≠ 1) (h2 : op ≠ 2) (h3 : op ≠ 3) (h9 : op ≠ 9) (h17 : op ≠ 17) (h20 : op ≠ 20) (tb nm : ByteArray) (ix : Int) (v0 : Vl) (args : List Ex) (h : args.length ≠ 2) : TyAt L (.mk op tb nm ix v0 args) := by
  intro a n c s w hs hl
  simp only [Ex.op, Ex.table, Ex.name, Ex.index, Ex.v]
  simp only [Ex.args] at hs
  obtain ⟨_, _, _, he, hn, -⟩ := hs.shape
  cases he
  have b1 : (op == 1) = false := by simp [h1]
  have b2 : (op == 2) = false := by simp [h2]
  have b3 : (op == 3) = false := by simp [h3]
  have b9 : (op == 9) = false := by simp [h9]
  have b17 : (op == 17) = false := by simp [h17]
  have b20 : (op == 20) = false := by simp [h20]
  have bn : ((n : Int) == 2) = false := by simp; omega
  clear hs hl h hn h1 h2 h3 h9 h17 h20
  go_enter Tryd.func55, Tryd.ntmps55
  go_wp2
  go_ret
  exact ⟨_, rfl, good_none _ _ _ (by decide), (Below.refl _ _).alloc (Nat.le_refl _) _⟩

/-- **Type at any expression.** -/
theorem ty_all {L : List Int} (m : Nat) : ∀ E : Ex, SizeOf.sizeOf E ≤ m → TyAt L E := by
  induction m with
  | zero => intro E h; cases E; simp at h
  | succ m ih =>
    rintro ⟨op, tb, nm, ix, v, args⟩ hm
    have hmem : ∀ E ∈ args, TyAt L E := by
      intro E hE
      have h1 := List.sizeOf_lt_of_mem hE
      simp at hm
      exact ih E (by omega)
    by_cases h1 : op = 1
    · subst h1
      by_cases ha : args = []
      · subst ha; exact ty_lit tb nm ix v
      · exact ty_lit_args tb nm ix v args ha
    by_cases h2 : op = 2
    · subst h2
      by_cases hb : args ≠ [] ∨ ix < 0 ∨ (L.length : Int) ≤ ix
      · exact ty_col_bad tb nm ix v args hb
      · obtain rfl : args = [] := Classical.byContradiction fun h => hb (.inl h)
        obtain ⟨i, rfl⟩ : ∃ i : Nat, ix = i := ⟨ix.toNat, by omega⟩
        exact ty_col tb nm i v L[i] (List.getElem?_eq_getElem (by omega))
    by_cases hu : op = 3 ∨ op = 9 ∨ op = 17 ∨ op = 20
    · exact ty_un op hu tb nm ix v args fun A hA => is_calls (hmem A hA)
    by_cases hl : args.length = 2
    · match args, hl, hmem with
      | [A, B], _, hmem =>
        have hA := hmem A (by simp)
        have hB := hmem B (by simp)
        by_cases h4 : op = 4 ∨ op = 5 ∨ op = 6 ∨ op = 7 ∨ op = 8
        · exact ty_sum op h4 tb nm ix v A B hA hB
        by_cases h10 : op = 10 ∨ op = 11 ∨ op = 12 ∨ op = 13 ∨ op = 14 ∨ op = 15
        · exact ty_cmp op h10 tb nm ix v A B hA hB
        by_cases h16 : op = 16
        · exact ty_like op h16 tb nm ix v A B hA hB
        by_cases h18 : op = 18
        · exact ty_and op h18 tb nm ix v A B hA hB
        by_cases h19 : op = 19
        · exact ty_or op h19 tb nm ix v A B hA hB
        exact ty_other op (by omega) tb nm ix v A B hA hB
    · exact ty_len op h1 h2 (by omega) (by omega) (by omega) (by omega) tb nm ix v args hl
end Go.Proofs.YtgaeabodofabmaaDoor
