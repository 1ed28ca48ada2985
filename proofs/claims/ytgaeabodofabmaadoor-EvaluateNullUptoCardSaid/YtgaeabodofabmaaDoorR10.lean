/- The walks of the reference's is and unary, given Type's contract at the parts. -/
import Derived.Test.YtgaeabodofabmaaDoorR9
namespace Go.Proofs.YtgaeabodofabmaaDoor
open Go.RowKit

/-- What Type's answer says. -/
def TyPost (L : List Int) (E : Ex) (w : World) (e : Ending) (w' : World) : Prop := ∃ t : Int, e = .returned (.int .i64 t) ∧ Good L t E ∧ Below w.heap.size w w'
/-- What a yes of is says. -/
def IsYes (L : List Int) (t : Int) (E : Ex) : Prop := (t = 1 → VT L 1 E) ∧ (t = 2 → VT L 2 E) ∧ (t = 3 → CT L E)
def IsPost (L : List Int) (t : Int) (E : Ex) (w : World) (e : Ending) (w' : World) : Prop := ∃ b : Bool, e = .returned (.bool b) ∧ (b = true → IsYes L t E) ∧ Below w.heap.size w w'
def TyAt (L : List Int) (E : Ex) : Prop := ∀ (a : Option Addr) (n c : Nat) (s : Value) (w : World), ArgsAt w E.args (.slice a n c) → VarsAt w L s →
    Calls Tryd.prog 55 #[.agg #[.int .i64 E.op, .string E.table, .string E.name, .int .i64 E.index, .int .i64 E.v.kind, .int .i64 E.v.int, .string E.v.text, .slice a n c], s] w (TyPost L E w)
def IsAt (L : List Int) (E : Ex) : Prop := ∀ (t : Int) (a : Option Addr) (n c : Nat) (s : Value) (w : World), ArgsAt w E.args (.slice a n c) → VarsAt w L s →
    Calls Tryd.prog 45 #[.agg #[.int .i64 E.op, .string E.table, .string E.name, .int .i64 E.index, .int .i64 E.v.kind, .int .i64 E.v.int, .string E.v.text, .slice a n c], s, .int .i64 t] w (IsPost L t E w)

theorem good_none (L : List Int) (t : Int) (E : Ex) (h : t < 0) : Good L t E := ⟨fun _ => by omega, fun _ => by omega, fun _ => by omega, fun _ => by omega, fun _ => by omega⟩
theorem is_yes {L : List Int} {x t : Int} {E : Ex} (h : Good L x E) (hx : x = 0 ∨ x = t) : IsYes L t E := by
  rcases hx with rfl | rfl
  · obtain ⟨h1, h2, h3, _⟩ := h.1 rfl
    exact ⟨fun _ => h1, fun _ => h2, fun _ => h3⟩
  · exact ⟨h.2.1, h.2.2.1, h.2.2.2.1⟩

theorem is_calls {L : List Int} {E : Ex} (h : TyAt L E) : IsAt L E := by
  intro t a n c s w hs hl
  have Hb0 : RowKit.Hid (∀ o, Below w.heap.size w (w.alloc o)) := fun o => (Below.refl _ _).alloc (Nat.le_refl _) o
  have HT := Lib.hid (h a n c s)
  clear h
  go_enter Tryd.func45, Tryd.ntmps45
  go_wp2_with fail
  refine (HT.out _ (hs.mono (Hb0.out _)) (hl.mono (Hb0.out _))).mono ?_
  rintro e w1 ⟨x, rfl, hg, hb1⟩
  have Hg := Lib.hid hg
  have Hbw := Lib.hid ((Hb0.out _).trans (hb1.mono (Hb0.out _).size))
  clear hb1 hg
  by_cases hx : x = 0
  · have hx' : (x == 0) = true := by simp [hx]
    have Hx := Lib.hid hx
    clear hx
    go_wp2
    go_ret
    exact ⟨_, rfl, fun _ => is_yes Hg.out (.inl Hx.out), Hbw.out⟩
  · have hx' : (x == 0) = false := by simp [hx]
    clear hx
    cases hxt : (x == t)
    · go_wp2
      go_ret
      exact ⟨false, rfl, (fun h => nomatch h), Hbw.out⟩
    · have Hx : RowKit.Hid (x = t) := by show _ = _; simpa using hxt
      go_wp2
      go_ret
      exact ⟨_, rfl, fun _ => is_yes Hg.out (.inr Hx.out), Hbw.out⟩
end Go.Proofs.YtgaeabodofabmaaDoor
