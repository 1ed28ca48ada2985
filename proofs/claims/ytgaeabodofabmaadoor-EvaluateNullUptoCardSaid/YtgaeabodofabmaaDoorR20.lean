/- The walks of the reference's bounded and Fits, and of a case's fits: what a yes says. -/
import Derived.Test.YtgaeabodofabmaaDoorR15
namespace Go.Proofs.YtgaeabodofabmaaDoor
open Go.RowKit

/-- Some truth comes back, and nothing that was there has turned. -/
def SomeBool (w : World) (e : Ending) (w' : World) : Prop := ∃ b : Bool, e = .returned (.bool b) ∧ Below w.heap.size w w'

theorem bounded_calls {L : List Int} (m : Nat) : ∀ E : Ex, SizeOf.sizeOf E ≤ m → ∀ (a : Option Addr) (n c : Nat) (s : Value) (w : World), ArgsAt w E.args (.slice a n c) → VarsAt w L s →
    Calls Tryd.prog 46 #[.agg #[.int .i64 E.op, .string E.table, .string E.name, .int .i64 E.index, .int .i64 E.v.kind, .int .i64 E.v.int, .string E.v.text, .slice a n c], s] w (SomeBool w) := by
  induction m with
  | zero => intro E h; cases E; simp at h
  | succ m ih =>
    rintro ⟨op, table, name, index, v0, args⟩ hm a n c s w hs hl
    have HT := Lib.hid (fun w' h1 h2 => ty_all (L := L) _ (Ex.mk op table name index v0 args) (Nat.le_refl _) a n c s w' h1 h2)
    simp only [Ex.args] at hs HT
    simp only [Ex.op, Ex.table, Ex.name, Ex.index, Ex.v] at HT ⊢
    have Hmem : RowKit.Hid (∀ E ∈ args, SizeOf.sizeOf E ≤ m) := by
      intro E hE
      have h1 := List.sizeOf_lt_of_mem hE
      simp at hm
      omega
    obtain ⟨_, _, _, he, hn, hlen⟩ := hs.shape
    cases he
    have Hn := Lib.hid hn
    have Hs := Lib.hid hs
    have Hl := Lib.hid hl
    have Hih := Lib.hid ih
    have Hv := Lib.hid (VarIs.new w #[.int .i64 op, .string table, .string name, .int .i64 index, .int .i64 v0.kind, .int .i64 v0.int, .string v0.text, .slice a n c] 26)
    have Hb0 : RowKit.Hid (∀ o, Below w.heap.size w (w.alloc o)) := fun o => (Below.refl _ _).alloc (Nat.le_refl _) o
    clear hs hn hl ih hm
    go_enter Tryd.func46, Tryd.ntmps46
    go_upto_region 1 with (fail)
    go_cut [15] (fun x wx => ∃ q : Bool, x = .bool q ∧ RowKit.Hid (Below (w.heap.size + 1) (w.alloc (.cells #[.int .i64 op, .string table, .string name, .int .i64 index, .int .i64 v0.kind, .int .i64 v0.int, .string v0.text, .slice a n c] 26)) wx))
    case first =>
      go_wp2_with fail
      refine (HT.out _ (Hs.out.mono (Hb0.out _)) (Hl.out.mono (Hb0.out _))).mono ?_
      rintro e w1 ⟨t, rfl, hg, hb1⟩
      have Hg := Lib.hid hg
      have Hb1 := Lib.hid hb1
      clear hg hb1
      obtain ⟨v1, v2, -⟩ := Hv.out.below Hb1.out (by simp)
      by_cases ht : t = 1
      · have ht' : (t == 1) = true := by simp [ht]
        have HB := Lib.hid (bd_all (Hg.out.2.1 ht) rfl)
        clear ht
        go_wp2_with fail
        refine (HB.out _ _ _ _ _ (by simp only [Ex.args]; exact Hs.out.mono ((Hb0.out _).trans (Hb1.out.mono (by simp))))).mono ?_
        rintro e w2 ⟨u, rfl, hb2⟩
        have Hb2 := Lib.hid (Hb1.out.trans (hb2.mono Hb1.out.size))
        simp only [World.size_alloc] at Hb2
        clear hb2 v1 v2
        go_wp2
        go_meet
        exact ⟨_, rfl, Hb2⟩
      · have ht' : (t == 1) = false := by simp [ht]
        have Hb2 := Lib.hid Hb1.out
        simp only [World.size_alloc] at Hb2
        clear ht
        go_wp2
        go_meet
        exact ⟨_, rfl, Hb2⟩
    case rest =>
      obtain ⟨q, rfl, Hb2⟩ := hcut
      cases q
      · go_wp2
        go_loopw [5] (fun i wr => ∃ (k : Nat), k ≤ n ∧ i = .int .i64 k ∧ RowKit.Hid (Below (w.heap.size + 1) (w.alloc (.cells #[.int .i64 op, .string table, .string name, .int .i64 index, .int .i64 v0.kind, .int .i64 v0.int, .string v0.text, .slice a n c] 26)) wr)) (fun i _ => n - (intOf i).toNat)
        case atStart => exact ⟨0, Nat.zero_le _, rfl, Hb2⟩
        case round =>
          obtain ⟨k, hk, rfl, Hb⟩ := hrel
          have Hbw := Lib.hid ((Hb0.out _).trans (Hb.out.mono (Nat.le_succ _)))
          obtain ⟨v1, v2, -⟩ := Hv.out.below Hb.out (Nat.lt_succ_self _)
          by_cases hlt : k < n
          · have hlen : k < args.length := by have := Hn.out; omega
            obtain ⟨b, o, rfl⟩ : ∃ b o, a = some ⟨b, o, none⟩ := by
              have := Hs.out
              cases this with
              | mt => omega
              | lie _ b o => exact ⟨b, o, rfl⟩
            obtain ⟨s', hs', c0, c1, c2, c3, c4, c5, c6, c7⟩ := (Hs.out.mono Hbw.out).cell k hlen
            obtain ⟨sa, sn, sc, rfl, -, -⟩ := hs'.shape
            have Hsz := Lib.hid (Hmem.out _ (List.getElem_mem hlen))
            generalize args[k] = E' at *
            go_wp2_with fail
            refine (Hih.out E' Hsz.out _ _ _ _ _ hs' (Hl.out.mono Hbw.out)).mono ?_
            rintro e w2 ⟨u, rfl, hb3⟩
            have Hb3 := Lib.hid (Hb.out.trans (hb3.mono (by have := Hb.out.size; simp at this; omega)))
            clear hb3 c0 c1 c2 c3 c4 c5 c6 c7 v1 v2
            obtain ⟨v1, v2, -⟩ := Hv.out.below Hb3.out (Nat.lt_succ_self _)
            cases u
            · go_wp2
              go_ret
              exact ⟨_, rfl, (Hb0.out _).trans (Hb3.out.mono (Nat.le_succ _))⟩
            · go_wp2
              go_roundw
              case rel => exact ⟨k + 1, by omega, by go_num, Hb3⟩
              case measure => simp [intOf]; omega
          · go_wp2
            go_ret
            exact ⟨_, rfl, Hbw.out⟩
      · go_wp2
        go_ret
        exact ⟨_, rfl, (Hb0.out _).trans (Hb2.out.mono (Nat.le_succ _))⟩

/-- What a yes of Fits says. -/
def FitsPost (L : List Int) (t : Int) (E : Ex) (w : World) (e : Ending) (w' : World) : Prop := ∃ b : Bool, e = .returned (.bool b) ∧ (b = true → IsYes L t E ∧ L.length ≤ 12) ∧ Below w.heap.size w w'

theorem fits_calls {L : List Int} (t : Int) (E : Ex) (a : Option Addr) (n c : Nat) (s : Value) (w : World) (hs : ArgsAt w E.args (.slice a n c)) (hl : VarsAt w L s) :
    Calls Tryd.prog 19 #[.agg #[.int .i64 E.op, .string E.table, .string E.name, .int .i64 E.index, .int .i64 E.v.kind, .int .i64 E.v.int, .string E.v.text, .slice a n c], s, .int .i64 t] w (FitsPost L t E w) := by
  obtain ⟨al, nl, cl, rfl, hnl, hml⟩ := hl.shape
  have Hnl := Lib.hid hnl
  have Hs := Lib.hid hs
  have Hl := Lib.hid hl
  have Hv := Lib.hid (VarIs.new w #[.int .i64 E.op, .string E.table, .string E.name, .int .i64 E.index, .int .i64 E.v.kind, .int .i64 E.v.int, .string E.v.text, .slice a n c] 26)
  have Hb0 : RowKit.Hid (∀ o, Below w.heap.size w (w.alloc o)) := fun o => (Below.refl _ _).alloc (Nat.le_refl _) o
  clear hnl hs hl
  go_enter Tryd.func19, Tryd.ntmps19
  go_wp2_with fail
  refine (count_calls _ E (Nat.le_refl _) _ _ _ _ (Hs.out.mono (Hb0.out _))).mono ?_
  rintro e w1 ⟨q, rfl, hb1⟩
  have Hv1 := Lib.hid (Hv.out.below hb1 (by simp))
  have Hb1 := Lib.hid ((Hb0.out _).trans (hb1.mono (Hb0.out _).size))
  clear hb1
  obtain ⟨v1, v2, -⟩ := Hv1.out
  by_cases hq : q ≤ 40
  · by_cases hn : nl ≤ 12
    · have hn' : (nl : Int) ≤ 12 := by omega
      go_wp2_with fail
      refine (is_calls (ty_all _ E (Nat.le_refl _)) _ _ _ _ _ _ (Hs.out.mono Hb1.out) (Hl.out.mono Hb1.out)).mono ?_
      rintro e w2 ⟨u, rfl, hu, hb2⟩
      have Hu := Lib.hid hu
      have Hv2 := Lib.hid (Hv1.out.below hb2 Hv1.out.lt)
      have Hb2 := Lib.hid (Hb1.out.trans (hb2.mono Hb1.out.size))
      clear hb2 v1 v2 hu
      obtain ⟨v1, v2, -⟩ := Hv2.out
      cases u
      · go_wp2
        go_ret
        exact ⟨false, rfl, (fun h => nomatch h), Hb2.out⟩
      · go_wp2_with fail
        refine (bounded_calls _ E (Nat.le_refl _) _ _ _ _ _ (Hs.out.mono Hb2.out) (Hl.out.mono Hb2.out)).mono ?_
        rintro e w3 ⟨x, rfl, hb3⟩
        have Hb3 := Lib.hid (Hb2.out.trans (hb3.mono Hb2.out.size))
        clear hb3 v1 v2
        go_wp2
        go_ret
        exact ⟨_, rfl, fun _ => ⟨Hu.out (by simp), by have := Hnl.out; omega⟩, Hb3.out⟩
    · have hn' : ¬ (nl : Int) ≤ 12 := by omega
      have hn2 : (12 : Int) < nl := by omega
      clear hn
      go_wp2
      go_ret
      exact ⟨false, rfl, (fun h => nomatch h), Hb1.out⟩
  · have hq' : 40 < q := by omega
    clear hq
    go_wp2
    go_ret
    exact ⟨false, rfl, (fun h => nomatch h), Hb1.out⟩

/-- What a yes of a case's fits says. -/
def CasePost (L : List Int) (R : List Vl) (t : Int) (E : Ex) (w : World) (e : Ending) (w' : World) : Prop := ∃ b : Bool, e = .returned (.bool b) ∧ (b = true → IsYes L t E ∧ L.length ≤ 12 ∧ RowOf L R) ∧ Below w.heap.size w w'

theorem case_calls {L : List Int} {R : List Vl} (t : Int) (E : Ex) (a : Option Addr) (n c : Nat) (s r : Value) (w : World) (hs : ArgsAt w E.args (.slice a n c)) (hl : VarsAt w L s) (hr : ValsAt w R r) :
    Calls Tryd.prog 12 #[.agg #[.int .i64 E.op, .string E.table, .string E.name, .int .i64 E.index, .int .i64 E.v.kind, .int .i64 E.v.int, .string E.v.text, .slice a n c, s, r], .int .i64 t] w (CasePost L R t E w) := by
  have Hs := Lib.hid hs
  have Hl := Lib.hid hl
  have Hr := Lib.hid hr
  have Hv := Lib.hid (VarIs.new w #[.int .i64 E.op, .string E.table, .string E.name, .int .i64 E.index, .int .i64 E.v.kind, .int .i64 E.v.int, .string E.v.text, .slice a n c, s, r] 31)
  have Hb0 : RowKit.Hid (∀ o, Below w.heap.size w (w.alloc o)) := fun o => (Below.refl _ _).alloc (Nat.le_refl _) o
  clear hs hl hr
  go_enter Tryd.func12, Tryd.ntmps12
  go_wp2_with fail
  refine (fits_calls t E _ _ _ _ _ (Hs.out.mono (Hb0.out _)) (Hl.out.mono (Hb0.out _))).mono ?_
  rintro e w1 ⟨q, rfl, hq, hb1⟩
  have Hv1 := Lib.hid (Hv.out.below hb1 (by simp))
  have Hb1 := Lib.hid ((Hb0.out _).trans (hb1.mono (Hb0.out _).size))
  have Hq := Lib.hid hq
  clear hb1 hq
  obtain ⟨v1, v2, -⟩ := Hv1.out
  cases q
  · go_wp2
    go_ret
    exact ⟨false, rfl, (fun h => nomatch h), Hb1.out⟩
  · go_wp2_with fail
    refine (row_calls L R _ _ _ (Hl.out.mono Hb1.out) (Hr.out.mono Hb1.out)).mono ?_
    rintro e w2 ⟨x, rfl, hx, hb2⟩
    have Hx := Lib.hid hx
    have Hb2 := Lib.hid (Hb1.out.trans (hb2.mono Hb1.out.size))
    clear hb2 hx v1 v2
    go_wp2
    go_ret
    exact ⟨_, rfl, fun h => ⟨(Hq.out (by simp)).1, (Hq.out (by simp)).2, Hx.out h⟩, Hb2.out⟩
end Go.Proofs.YtgaeabodofabmaaDoor
