/- The walk of the reference's Row: true says that the row has values of the variables' types. -/
import Derived.Test.YtgaeabodofabmaaDoorR2
namespace Go.Proofs.YtgaeabodofabmaaDoor
open Go.RowKit

/-- Variables of the types L lie at the slice. -/
inductive VarsAt (w : World) : List Int → Value → Prop where
  | mt {a : Option Addr} : VarsAt w [] (.slice a 0 0)
  | lie (L : List Int) (b o n cap : Nat) (hn : n = L.length) (hlt : b < w.heap.size) (hm : n ≤ 4000000000000)
      (hc : ∀ i (h : i < L.length), w.cell? ⟨b, o + i * 5, none⟩ = some (.int .i64 L[i])) : VarsAt w L (.slice (some ⟨b, o, none⟩) n cap)

theorem VarsAt.mono {w w' : World} {L : List Int} {s : Value} (h : VarsAt w L s) (hb : Below w.heap.size w w') : VarsAt w' L s := by
  cases h with
  | mt => exact .mt
  | lie _ b o n cap hn hlt hm hc => exact .lie _ b o n cap hn (Nat.lt_of_lt_of_le hlt hb.size) hm (fun i h => (hb.cell hlt).trans (hc i h))
theorem VarsAt.shape {w : World} {L : List Int} {s : Value} (h : VarsAt w L s) : ∃ a n c, s = .slice a n c ∧ n = L.length ∧ n ≤ 4000000000000 := by
  cases h with
  | mt => exact ⟨_, _, _, rfl, rfl, by omega⟩
  | lie _ b o n cap hn hlt hm hc => exact ⟨_, _, _, rfl, hn, hm⟩
theorem VarsAt.cell {w : World} {L : List Int} {b o n c : Nat} (h : VarsAt w L (.slice (some ⟨b, o, none⟩) n c)) (i : Nat) (hi : i < L.length) : w.cell? ⟨b, o + i * 5, none⟩ = some (.int .i64 L[i]) := by
  cases h with
  | mt => simp at hi
  | lie _ b o n cap hn hlt hm hc => exact hc i hi
theorem VarsAt.has {w : World} {L : List Int} {a : Option Addr} {n c : Nat} (h : VarsAt w L (.slice a n c)) (i : Nat) (hi : i < n) : ∃ b o, a = some ⟨b, o, none⟩ := by
  cases h with
  | mt => omega
  | lie _ b o => exact ⟨b, o, rfl⟩
theorem VarsAt.lt {w : World} {L : List Int} {b o n c i : Nat} (h : VarsAt w L (.slice (some ⟨b, o, none⟩) n c)) (hi : i < L.length) : b < w.heap.size := by
  cases h with
  | mt => simp at hi
  | lie _ b o n cap hn hlt hm hc => exact hlt
theorem ValsAt.has {w : World} {L : List Vl} {a : Option Addr} {n c : Nat} (h : ValsAt w L (.slice a n c)) (i : Nat) (hi : i < n) : ∃ b o, a = some ⟨b, o, none⟩ := by
  cases h with
  | mt => omega
  | lie _ b o => exact ⟨b, o, rfl⟩

/-- What Row's answer says. -/
def RowPost (L : List Int) (R : List Vl) (w : World) (e : Ending) (w' : World) : Prop := ∃ b : Bool, e = .returned (.bool b) ∧ (b = true → RowOf L R) ∧ Below w.heap.size w w'

theorem row_calls (L : List Int) (R : List Vl) (s r : Value) (w : World) (hs : VarsAt w L s) (hr : ValsAt w R r) : Calls Tryd.prog 27 #[s, r] w (RowPost L R w) := by
  obtain ⟨a, n, c, rfl, hn, hn2⟩ := hs.shape
  obtain ⟨a', n', c', rfl, hn', hn2'⟩ := hr.shape
  unfold maxLen at hn2'
  have Hs := Lib.hid hs
  have Hr := Lib.hid hr
  have Hn := Lib.hid hn
  have Hn' := Lib.hid hn'
  have Hb0 : RowKit.Hid (∀ o, Below w.heap.size w (w.alloc o)) := fun o => (Below.refl _ _).alloc (Nat.le_refl _) o
  clear hs hr hn hn'
  by_cases hne : (n : Int) = n'
  · obtain rfl : n = n' := by omega
    clear hne
    go_enter Tryd.func27, Tryd.ntmps27
    go_wp2
    go_loopw [5] (fun i wr => ∃ k : Nat, k ≤ n ∧ i = .int .i64 k ∧ RowKit.Hid (∀ j, j < k → ∀ (h : j < R.length) (h' : j < L.length), R[j].Of L[j]) ∧ RowKit.Hid (Below w.heap.size w wr)) (fun i _ => n - (intOf i).toNat)
    case atStart => exact ⟨0, Nat.zero_le _, rfl, fun j hj => by omega, Below.refl _ _⟩
    case round =>
      obtain ⟨k, hk, rfl, Hof, Hb⟩ := hrel
      by_cases hlt : k < n
      · have hk1 : k < L.length := by have := Hn.out; omega
        have hk2 : k < R.length := by have := Hn'.out; omega
        obtain ⟨b, o, rfl⟩ := Hs.out.has k hlt
        obtain ⟨b', o', rfl⟩ := Hr.out.has k hlt
        have c0 := (Hs.out.mono Hb.out).cell k hk1
        obtain ⟨d0, d1, d2⟩ := (Hr.out.mono Hb.out).cell k hk2
        have Hnext : RowKit.Hid (R[k].Of L[k] → ∀ j, j < k + 1 → ∀ (h : j < R.length) (h' : j < L.length), R[j].Of L[j]) := by
          intro hof j hj h h'
          by_cases hjk : j = k
          · subst hjk; exact hof
          · exact Hof.out j (by omega) h h'
        have Hbs := Lib.hid Hb.out.size
        generalize R[k] = v at *
        generalize L[k] = t at *
        obtain ⟨vk, vi, vt⟩ := v
        simp only at d0 d1 d2
        have hbl : b < wr.heap.size := (Hs.out.mono Hb.out).lt hk1
        by_cases hk2 : vk = 2
        · subst hk2
          by_cases ht : t = 2
          · subst ht
            by_cases hi : vi = 0
            · subst hi
              go_wp2_with fail
              refine (literal_calls ⟨2, 0, vt⟩ _).mono ?_
              rintro e w1 ⟨x, rfl, hx, hb1⟩
              have Hx := Lib.hid hx
              have Hb1 := Lib.hid ((Hb.out.alloc Hbs.out _).trans (hb1.mono (by have := Hbs.out; simp; omega)))
              clear hx hb1
              by_cases hx2 : x = 2
              · subst hx2
                have Hof : RowKit.Hid (Vl.Of 2 ⟨2, 0, vt⟩) := by
                  rcases Hx.out with h | h | h | h
                  · exact absurd h.1 (by decide)
                  · exact absurd h.1 (by decide)
                  · exact h.2.1
                  · exact absurd h (by decide)
                go_wp2
                go_roundw
                case rel => exact ⟨k + 1, by omega, by go_num, Hnext.out Hof.out, Hb1⟩
                case measure => simp [intOf]; omega
              · have hx2' : (x == 2) = false := by simpa using hx2
                clear hx2
                go_wp2
                go_ret
                exact ⟨false, rfl, (fun h => nomatch h), Hb1.out⟩
            · go_wp2
              go_ret
              exact ⟨false, rfl, (fun h => nomatch h), Hb.out.alloc Hbs.out _⟩
          · go_wp2
            go_ret
            exact ⟨false, rfl, (fun h => nomatch h), Hb.out.alloc Hbs.out _⟩
        · have hk2' : (vk == 2) = false := by simpa using hk2
          clear hk2
          go_wp2_with fail
          all_goals go_ways
          all_goals first
            | (go_ret
               exact ⟨_, rfl, fun h => (nomatch h : False).elim, Hb.out.alloc Hbs.out _⟩)
            | skip
          · rename_i h1 h2 h3
            exact ⟨⟨k + 1, by omega, by go_num, Hnext.out (.inl ⟨by simpa using h1, h2, empty_of' (by simpa using h3)⟩), Hb.out.alloc Hbs.out _⟩, by simp [intOf]; omega⟩
          · rename_i h1 h2 h3 h4 h5 h6
            exact ⟨⟨k + 1, by omega, by go_num, Hnext.out (.inr (.inl ⟨by simpa using h2, h3, empty_of h4⟩)), Hb.out.alloc Hbs.out _⟩, by simp [intOf]; omega⟩
      · have Hall : RowKit.Hid (RowOf L R) := by
          have h1 := Hn.out
          have h2 := Hn'.out
          exact ⟨by omega, fun i h h' => Hof.out i (by omega) h h'⟩
        go_wp2
        go_ret
        exact ⟨_, rfl, fun _ => Hall.out, Hb.out⟩
  · have hne' : ((n : Int) == n') = false := by simpa using hne
    clear hne
    go_enter Tryd.func27, Tryd.ntmps27
    go_wp2
    go_ret
    exact ⟨false, rfl, (fun h => nomatch h), Below.refl _ _⟩
end Go.Proofs.YtgaeabodofabmaaDoor
