/- The frame of every law of this seat: from 'the call returns true and nothing that was there has turned' to the row's own words. -/
import Derived.Test.YtekoemcckdhhnaaRows
import Derived.Below
import Derived.WalkKit
import Derived.ProofKit
import Derived.OpenShut
import Derived.Carry
import Derived.Deep.DeepHandedRow
namespace Go.Proofs.Ytekoemcckdhhnaa
open Go.ChangeShapes Go.WideShapes Go.ChangeAt Go.RowKit Go.WideMaps Go.WideElems

section
variable {H : Type} {enc : TypeId × Value → H} {P : Program}

theorem trodAll_stays {W W' : World} {sp' : Nat → Bool} (hl : laidOutB P = true) : ∀ {ts : List TypeId} {vs : List Value} {ds : List (DataW H)} {ps : List MemPlace}, (∀ t ∈ ts, P.readableRec t = true ∧ t < P.types.size) →
    DataW.TrodAll enc P W 0 (fun _ => true) true ts vs ds ps → (∀ p ∈ ps, W.sameAt W' p) → (∀ p ∈ ps, sp' p.block = true) → DataW.TrodAll enc P W' 0 sp' true ts vs ds ps
  | [], vs, ds, ps, _, h, _, _ => by
    cases vs <;> cases ds <;> simp_all [DataW.TrodAll]
  | t :: ts, vs, ds, ps, hr, h, hsame, hs => by
    cases vs with
    | nil => cases ds <;> simp [DataW.TrodAll] at h
    | cons v vs =>
      cases ds with
      | nil => simp [DataW.TrodAll] at h
      | cons d ds =>
        obtain ⟨p, q, h1, h2, rfl⟩ := h
        exact ⟨p, q, Trod_stays hl (hr t (by simp)).1 (hr t (by simp)).2 h1 (fun x hx => hsame x (by simp [hx])) (fun x hx => hs x (by simp [hx])),
          trodAll_stays hl (fun t' ht' => hr t' (by simp [ht'])) h2 (fun x hx => hsame x (by simp [hx])) (fun x hx => hs x (by simp [hx])), rfl⟩

/-- **The law's post**: the call has returned true, and below the old heap nothing has turned. -/
theorem post_true {f : Func} {s : ChangeSpec} {W W' : World} {args : Array Value} {ds : List (DataW H)} {before : List MemPlace} (hl : laidOutB P = true) (hr : ∀ t ∈ f.params.toList, P.readableRec t = true ∧ t < P.types.size)
    (hres : f.resultTypes = #[4]) (h4 : P.underlying 4 = some .bool) (hv : s.vars = []) (hfn : s.fn H (ds ++ []) = { results := [.lit (.bool true)], args := ds })
    (hW : DataW.Whole enc P f.params.toList s.vars false W args.toList ds [] before) (hb : Below W.heap.size W W') : s.post enc P f false true false false W args (.bool true) W' := by
  have hlt : ∀ p ∈ before, p.block < W.heap.size := fun p hp => hW.lt p hp
  have hold : ∀ p ∈ before, (fun b => decide (b < W.heap.size)) p.block = true := fun p hp => by simpa using hlt p hp
  obtain ⟨p, q, hA, hV, hpq, _, _⟩ := id hW
  rw [hv] at hV
  obtain ⟨_, rfl⟩ := trodVars_none hV
  rw [List.append_nil] at hpq
  subst hpq
  refine ⟨ds, [], _, [], _, [], hW, ?_, ?_, ?_, World.keptBut_mono (fun x hx => ⟨hx, .inr (.inl hx)⟩) (hb.frame (· ∈ _)), fun h => by cases h⟩
  · rw [hfn, hres]
    exact trodAll_mk1 (shut_bool h4 true)
  · rw [hfn]
    exact trodAll_stays hl hr hA (fun x hx => hb.same (hlt x hx)) hold
  · rw [hfn, hv]
    exact (rfl : ([] : List MemPlace) = [])
end

section
variable {H : Type}
theorem weights_all {P : Program} {ts : List TypeId} {ds : List (DataW H)} (h : (DataW.weightsEach P ts ds).all (· ≤ reachBytes) = true) : ∀ z ∈ DataW.weightsEach P ts ds, z ≤ reachBytes := by
  intro z hz
  simpa using List.all_eq_true.1 h z hz
theorem weights_first {P : Program} {t : TypeId} {ts : List TypeId} {d : DataW H} {ds : List (DataW H)} (h : ∀ z ∈ DataW.weightsEach P (t :: ts) (d :: ds), z ≤ reachBytes) : (∀ z ∈ d.weights P t, z ≤ reachBytes) ∧ ∀ z ∈ DataW.weightsEach P ts ds, z ≤ reachBytes := by
  rw [DataW.weightsEach] at h
  exact ⟨fun z hz => h z (List.mem_append.2 (.inl hz)), fun z hz => h z (List.mem_append.2 (.inr hz))⟩

/-- A slice of rows or variables comes in as itself. -/
theorem cell_of_one_slice {v : Value} {t e : TypeId} (W : World) (ht : Try.prog.underlying t = some (.slice e)) {base : Nat} (hok : Value.okWide Try.prog W .any base t v) : v.cells.toList = [v] := by
  unfold Value.okWide at hok
  rw [ht] at hok
  simp only at hok
  cases v <;> simp [Value.cells]
  all_goals (unfold Cell.okWide at hok; rw [ht] at hok; simp at hok)
  all_goals (unfold Cell.ok at hok; rw [ht] at hok; simp at hok)
end
theorem own : ownKnob Try.prog.godebug = none := by kernel_rfl
theorem laidOut : laidOutB Try.prog = true := by kernel_rfl
end Go.Proofs.Ytekoemcckdhhnaa
