/- The walks of the reference's count (it returns some number) and literal (what its answer says of the value). -/
import Derived.Test.YtgaeabodofabmaaDoorR1
namespace Go.Proofs.YtgaeabodofabmaaDoor
open Go.RowKit

/-- Some number comes back, and nothing that was there has turned. -/
def SomeInt (w : World) (e : Ending) (w' : World) : Prop := ∃ t : Int, e = .returned (.int .i64 t) ∧ Below w.heap.size w w'

theorem count_calls (m : Nat) : ∀ E : Ex, SizeOf.sizeOf E ≤ m → ∀ (a : Option Addr) (n c : Nat) (w : World), ArgsAt w E.args (.slice a n c) →
    Calls Tryd.prog 44 #[.agg #[.int .i64 E.op, .string E.table, .string E.name, .int .i64 E.index, .int .i64 E.v.kind, .int .i64 E.v.int, .string E.v.text, .slice a n c]] w (SomeInt w) := by
  induction m with
  | zero => intro E h; cases E; simp at h
  | succ m ih =>
    rintro ⟨op, table, name, index, v0, args⟩ hm a n c w hs
    simp only [Ex.args] at hs
    simp only [Ex.op, Ex.table, Ex.name, Ex.index, Ex.v]
    have Hmem : RowKit.Hid (∀ E ∈ args, SizeOf.sizeOf E ≤ m) := by
      intro E hE
      have h1 := List.sizeOf_lt_of_mem hE
      simp at hm
      omega
    obtain ⟨_, _, _, he, hn, hlen⟩ := hs.shape
    cases he
    have Hn := Lib.hid hn
    have Hs := Lib.hid hs
    have Hih := Lib.hid ih
    have Hv := Lib.hid (VarIs.new w #[.int .i64 op, .string table, .string name, .int .i64 index, .int .i64 v0.kind, .int .i64 v0.int, .string v0.text, .slice a n c] 26)
    have Hb0 : RowKit.Hid (∀ o, Below w.heap.size w (w.alloc o)) := fun o => (Below.refl _ _).alloc (Nat.le_refl _) o
    clear hs hn ih hm
    go_enter Tryd.func44, Tryd.ntmps44
    go_wp2
    go_loopw [3, 4] (fun s i wr => ∃ (k : Nat) (x : Int), k ≤ n ∧ i = .int .i64 k ∧ s = .int .i64 x ∧ RowKit.Hid (Below (w.heap.size + 1) (w.alloc (.cells #[.int .i64 op, .string table, .string name, .int .i64 index, .int .i64 v0.kind, .int .i64 v0.int, .string v0.text, .slice a n c] 26)) wr)) (fun _ i _ => n - (intOf i).toNat)
    case atStart => exact ⟨0, 1, Nat.zero_le _, rfl, rfl, Below.refl _ _⟩
    case round =>
      obtain ⟨k, x, hk, rfl, rfl, Hb⟩ := hrel
      have Hbw := Lib.hid ((Hb0.out _).trans (Hb.out.mono (Nat.le_succ _)))
      obtain ⟨v1, v2, -⟩ := Hv.out.below Hb.out (Nat.lt_succ_self _)
      by_cases hlt : k < n ∧ x < 100
      · obtain ⟨hlt, hx⟩ := hlt
        have hlen : k < args.length := by have := Hn.out; omega
        obtain ⟨b, o, rfl⟩ : ∃ b o, a = some ⟨b, o, none⟩ := by
          have := Hs.out
          cases this with
          | mt => omega
          | lie _ b o => exact ⟨b, o, rfl⟩
        obtain ⟨s', hs', c0, c1, c2, c3, c4, c5, c6, c7⟩ := (Hs.out.mono Hbw.out).cell k hlen
        obtain ⟨sa, sn, sc, rfl, -, -⟩ := hs'.shape
        have Hsz := Lib.hid (Hmem.out _ (List.getElem_mem hlen))
        generalize args[k] = E' at *
        go_wp2_with fail
        refine (Hih.out E' Hsz.out _ _ _ _ hs').mono ?_
        rintro e w1 ⟨t, rfl, hb1⟩
        have Hb1 := Lib.hid (Hb.out.trans (hb1.mono (by have := Hb.out.size; simp at this; omega)))
        clear hb1 c0 c1 c2 c3 c4 c5 c6 c7 v1 v2
        obtain ⟨v1, v2, -⟩ := Hv.out.below Hb1.out (Nat.lt_succ_self _)
        go_wp2
        go_roundw
        case rel => exact ⟨k + 1, _, by omega, by go_num, rfl, Hb1⟩
        case measure => simp [intOf]; omega
      · by_cases hlt1 : k < n
        · have hx : 100 ≤ x := by omega
          clear hlt
          go_wp2
          go_ret
          exact ⟨_, rfl, Hbw.out⟩
        · clear hlt
          go_wp2
          go_ret
          exact ⟨_, rfl, Hbw.out⟩

/-- What literal's answer says of the value. -/
def LitPost (v : Vl) (w : World) (e : Ending) (w' : World) : Prop := ∃ t : Int, e = .returned (.int .i64 t) ∧ ((t = 0 ∧ v.kind = 0 ∧ v.int = 0 ∧ v.text = ⟨#[]⟩) ∨ (t = 1 ∧ v.Of 1 ∧ v.kind = 1) ∨ (t = 2 ∧ v.Of 2 ∧ v.kind = 2) ∨ t = -1) ∧ Below w.heap.size w w'
theorem empty_of {s : ByteArray} (h : s.toList = []) : s = ⟨#[]⟩ := (toList_nil_iff_emptyBytes s).1 h
theorem empty_of' {s : ByteArray} (h : s.toList.isEmpty = true) : s = ⟨#[]⟩ := empty_of (by simpa using h)
theorem literal_calls (v : Vl) (w : World) : Calls Tryd.prog 50 #[.agg #[.int .i64 v.kind, .int .i64 v.int, .string v.text]] w (LitPost v w) := by
  have Hb0 : RowKit.Hid (∀ o, Below w.heap.size w (w.alloc o)) := fun o => (Below.refl _ _).alloc (Nat.le_refl _) o
  obtain ⟨k, i, t⟩ := v
  simp only
  go_enter Tryd.func50, Tryd.ntmps50
  go_wp2_with fail
  all_goals go_ways
  · rename_i h1 h2 h3
    go_ret
    exact ⟨_, rfl, .inl ⟨rfl, h1, h2, empty_of' h3⟩, Hb0.out _⟩
  · go_ret
    exact ⟨_, rfl, .inr (.inr (.inr rfl)), Hb0.out _⟩
  · go_ret
    exact ⟨_, rfl, .inr (.inr (.inr rfl)), Hb0.out _⟩
  · rename_i h1 h2 h3 h4 h5
    go_ret
    exact ⟨_, rfl, .inr (.inl ⟨rfl, .inr (.inl ⟨h2, rfl, empty_of h3⟩), h2⟩), Hb0.out _⟩
  · go_ret
    exact ⟨_, rfl, .inr (.inr (.inr rfl)), Hb0.out _⟩
  · go_ret
    exact ⟨_, rfl, .inr (.inr (.inr rfl)), Hb0.out _⟩
  · go_ret
    exact ⟨_, rfl, .inr (.inr (.inr rfl)), Hb0.out _⟩
  · have H : RowKit.Hid (k = 2 ∧ i = 0 ∧ (t.size : Int) ≤ 16) := ⟨by assumption, by assumption, by assumption⟩
    have H16 : t.size ≤ 16 := by have := H.out.2.2; omega
    go_loopw [2, 3] (fun _ i wr => ∃ (k : Nat), k ≤ t.size ∧ i = .int .i64 k ∧ RowKit.Hid (wr = w.alloc (Obj.cells #[.int .i64 2, .int .i64 0, .string t] 23))) (fun _ i _ => t.size - (intOf i).toNat)
    case atStart => exact ⟨0, Nat.zero_le _, rfl, rfl⟩
    case round =>
      obtain ⟨j, hj, rfl, Hw⟩ := hrel
      obtain rfl := Hw.out
      by_cases hlt : j < t.size
      · by_cases hb : (t[j].toNat : Int) < 32
        · go_wp2
          go_ret
          exact ⟨_, rfl, .inr (.inr (.inr rfl)), Hb0.out _⟩
        · have hb' : 32 ≤ (t[j].toNat : Int) := by omega
          clear hb
          by_cases hc : 126 < (t[j].toNat : Int)
          · go_wp2
            go_ret
            exact ⟨_, rfl, .inr (.inr (.inr rfl)), Hb0.out _⟩
          · have hc' : (t[j].toNat : Int) ≤ 126 := by omega
            clear hc
            go_wp2
            go_roundw
            case rel => exact ⟨j + 1, by omega, by go_num⟩
            case measure => simp [intOf]; omega
      · go_wp2
        go_ret
        exact ⟨_, rfl, .inr (.inr (.inl ⟨rfl, .inr (.inr ⟨by first | exact H.out.1 | rfl, rfl, by first | exact H.out.2.1 | rfl, H16⟩), by first | exact H.out.1 | rfl⟩)), Hb0.out _⟩
  · go_ret
    exact ⟨_, rfl, .inr (.inr (.inr rfl)), Hb0.out _⟩
  · go_ret
    exact ⟨_, rfl, .inr (.inr (.inr rfl)), Hb0.out _⟩
  · go_ret
    exact ⟨_, rfl, .inr (.inr (.inr rfl)), Hb0.out _⟩
end Go.Proofs.YtgaeabodofabmaaDoor
