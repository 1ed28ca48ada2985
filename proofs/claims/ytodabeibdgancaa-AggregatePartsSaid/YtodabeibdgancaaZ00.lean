/- Part 0 of the proof: K0, K1, Row, So, Mem, C1, C2, D1, E0, F0, Sm, Ra, Rb -/
import Derived.ChangeArms
import Derived.ChangeAt
import Derived.Deep.Slices
import Derived.Laws.World
import GoSem.ClaimJoined
import Derived.Test.YtodabeibdgancaaRows
import Derived.Below
import Derived.WalkKit
import Derived.ProofKit
import Derived.OpenShut
import Derived.Carry
import Derived.Deep.DeepHandedRow
import Derived.Lib.Bytealg
import Derived.WalkSpells
import Derived.Outline
import Derived.RowKit3
import Derived.OwnWalk
import Derived.Laws.OwnMore
import Derived.LoopTactic
import Derived.Lib.Hide
import Derived.Deep.RegionHeld3
import Derived.IntWalk
import Derived.Deep.DeepCutAuto
import Derived.Laws.AppendOwn
import Derived.Laws.AppendOwnNone
import Derived.RegionTactic
import Derived.BigRegion
import Derived.ChangeAlike
/- Any slice of structs that is read as data: its address, its cells, its elements' data. (Over any program.) -/
namespace Go.Proofs.Ytodabeibdgancaa
open Go.ChangeShapes Go.ChangeAt

section
variable {H : Type} {enc : TypeId × Value → H} {P : Program} {w : World} {held : Bool}

theorem spotless {w : World} {a : Addr} {v : Value} (h : w.cell? a = some v) : a.spot = none ∧ a.block < w.heap.size := by
  refine ⟨?_, World.block_lt_of_cell? w a h⟩
  unfold World.cell? at h
  split at h
  · split at h
    · cases h
    · rename_i hs; simpa using hs
  · cases h

theorem cells_at {w : World} {b o i sz : Nat} {cs : List Value} (h : w.cells? 0 (Addr.add ⟨b, o, none⟩ (i * sz)) sz = some cs) : cs.length = sz ∧ ∀ j, j < sz → w.cell? ⟨b, o + i * sz + j, none⟩ = cs[j]? := by
  obtain ⟨_, hl, hc⟩ := World.cells?_some h
  refine ⟨hl, fun j hj => ?_⟩
  have := hc j hj
  rw [Deep.add_add] at this
  rw [← this]
  unfold Addr.add
  by_cases h0 : i * sz + j = 0
  · rw [if_pos h0]; simp [Nat.add_assoc, h0]
  · rw [if_neg h0]; simp [Nat.add_assoc]

/-- **A slice read as data.** -/
theorem slice_read {t e : TypeId} {fuel sz : Nat} {cs : List Value} {x : DataW H × List MemPlace} (ht : P.underlying t = some (.slice e)) (hsz : P.cellsOf e = sz) (h0 : 0 < sz) (h : DataW.trod enc P w 0 (fun _ => true) held fuel t cs = some x) :
    (∃ a, cs = [.slice a 0 0]) ∨
    ∃ (b o len cap n : Nat) (D : List (DataW H)) (R : List (DataW H)), cs = [.slice (some ⟨b, o, none⟩) len cap] ∧ b < w.heap.size ∧ len ≤ cap ∧ cap ≤ maxLen ∧ fuel = n + 1 ∧ x.1 = .slice D R ∧ D.length = len ∧
      ∀ i (hi : i < D.length), ∃ cs' pl, cs'.length = sz ∧ (∀ j, j < sz → w.cell? ⟨b, o + i * sz + j, none⟩ = cs'[j]?) ∧ DataW.trod enc P w 0 (fun _ => true) held n e cs' = some (D[i], pl) := by
  rcases DataW.trod_slice ht h with ⟨rfl, -⟩ | ⟨a, len, cap, elems, rest, n, rfl, rfl, rfl, -, hl, hm, hlen, hel, hsp, -⟩
  · exact .inl ⟨none, rfl⟩
  by_cases hc0 : cap = 0
  · subst hc0
    obtain rfl : len = 0 := by omega
    exact .inl ⟨some a, rfl⟩
  right
  -- the first element, or the first of the spare, is read: so the address has no spot
  have hcell : ∃ v, w.cell? a = some v := by
    have hread : ∃ cs', w.cells? 0 (a.add (0 * P.cellsOf e)) (P.cellsOf e) = some cs' := by
      by_cases hl0 : len = 0
      · subst hl0
        obtain ⟨hr, hj⟩ := hsp rfl
        have h1 := hj 0 (by omega)
        rw [List.getElem?_eq_getElem (by omega)] at h1
        obtain ⟨cs', h2, _⟩ := Option.bind_eq_some_iff.1 h1
        exact ⟨cs', by simpa using h2⟩
      · have h1 := hel 0 (by omega)
        rw [List.getElem?_eq_getElem (by omega)] at h1
        obtain ⟨cs', h2, _⟩ := Option.bind_eq_some_iff.1 h1
        exact ⟨cs', h2⟩
    obtain ⟨cs', h1⟩ := hread
    obtain ⟨_, hl', hc⟩ := World.cells?_some h1
    have h2 := hc 0 (by omega)
    rw [List.getElem?_eq_getElem (by omega)] at h2
    exact ⟨_, by simpa [Addr.add] using h2⟩
  obtain ⟨v, hv⟩ := hcell
  obtain ⟨hs, hb⟩ := spotless hv
  obtain ⟨b, o, sp⟩ := a
  simp only at hs hb
  subst hs
  refine ⟨b, o, len, cap, n, elems.map (·.1), rest.map (·.1), rfl, hb, hl, hm, rfl, rfl, by simpa using hlen, fun i hi => ?_⟩
  have hi' : i < elems.length := by simpa using hi
  have h1 := hel i (by omega)
  rw [List.getElem?_eq_getElem hi'] at h1
  obtain ⟨cs', h2, h3⟩ := Option.bind_eq_some_iff.1 h1
  rw [hsz] at h2
  obtain ⟨h4, h5⟩ := cells_at h2
  exact ⟨cs', (elems[i]).2, h4, h5, by rw [h3]; simp⟩

theorem mem_weightsAll {e : TypeId} {z : Nat} : ∀ {l : List (DataW H)} {d : DataW H}, d ∈ l → z ∈ d.weights P e → z ∈ DataW.weightsAll P e l
  | [], _, h, _ => by cases h
  | d' :: l, d, h, hz => by
    rw [DataW.weightsAll, List.mem_append]
    rcases List.mem_cons.1 h with rfl | h
    · exact .inl hz
    · exact .inr (mem_weightsAll h hz)
theorem weights_slice {t e : TypeId} (ht : P.underlying t = some (.slice e)) {D R : List (DataW H)} {B : Nat} (h : ∀ z ∈ (DataW.slice D R).weights P t, z ≤ B) :
    (D.length + R.length) * P.bytesOf e ≤ B ∧ ∀ d ∈ D, ∀ z ∈ d.weights P e, z ≤ B := by
  rw [DataW.weights] at h
  simp only [ht] at h
  exact ⟨h _ (by simp), fun d hd z hz => h z (by simp [mem_weightsAll hd hz])⟩
end
end Go.Proofs.Ytodabeibdgancaa
/- The frame of every law of this seat: from 'the call returns true and nothing that was there has turned' to the row's own words. -/
namespace Go.Proofs.Ytodabeibdgancaa
open Go.ChangeShapes Go.WideShapes Go.ChangeAt Go.RowKit Go.WideMaps Go.WideElems
set_option maxRecDepth 100000

section
variable {H : Type} {enc : TypeId × Value → H} {P : Program}

theorem trodAll_stays {W W' : World} {sp' : Nat → Bool} (hl : laidOutB P = true) : ∀ {ts : List TypeId} {vs : List Value} {ds : List (DataW H)} {ps : List MemPlace}, (∀ t ∈ ts, P.readableRec t = true ∧ t < P.types.size) →
    DataW.TrodAll enc P W 0 (fun _ => true) true ts vs ds ps → (∀ p ∈ ps, W.sameAt W' p) → (∀ p ∈ ps, sp' p.block = true) → DataW.TrodAll enc P W' 0 sp' true ts vs ds ps
  | [], vs, ds, ps, _, h, _, _ => by
    cases vs <;> cases ds <;> simp_all [DataW.TrodAll]
  | t :: ts, vs, ds, ps, hr, h, hsame, hs => by
    cases vs with
    | nil => cases ds <;> simp [DataW.TrodAll] at h
    | cons v vs =>
      cases ds with
      | nil => simp [DataW.TrodAll] at h
      | cons d ds =>
        obtain ⟨p, q, h1, h2, rfl⟩ := h
        exact ⟨p, q, Trod_stays hl (hr t (by simp)).1 (hr t (by simp)).2 h1 (fun x hx => hsame x (by simp [hx])) (fun x hx => hs x (by simp [hx])),
          trodAll_stays hl (fun t' ht' => hr t' (by simp [ht'])) h2 (fun x hx => hsame x (by simp [hx])) (fun x hx => hs x (by simp [hx])), rfl⟩

/-- **The law's post**: the call has returned true, and below the old heap nothing has turned. -/
theorem post_true {f : Func} {s : ChangeSpec} {W W' : World} {args : Array Value} {ds : List (DataW H)} {before : List MemPlace} (hl : laidOutB P = true) (hr : ∀ t ∈ f.params.toList, P.readableRec t = true ∧ t < P.types.size)
    (hres : f.resultTypes = #[4]) (h4 : P.underlying 4 = some .bool) (hv : s.vars = []) (hfn : s.fn H (ds ++ []) = { results := [.lit (.bool true)], args := ds })
    (hW : DataW.Whole enc P f.params.toList s.vars false W args.toList ds [] before) (hb : Below W.heap.size W W') : s.post enc P f false true false false W args (.bool true) W' := by
  have hlt : ∀ p ∈ before, p.block < W.heap.size := fun p hp => hW.lt p hp
  have hold : ∀ p ∈ before, (fun b => decide (b < W.heap.size)) p.block = true := fun p hp => by simpa using hlt p hp
  obtain ⟨p, q, hA, hV, hpq, _, _⟩ := id hW
  rw [hv] at hV
  obtain ⟨_, rfl⟩ := trodVars_none hV
  rw [List.append_nil] at hpq
  subst hpq
  refine ⟨ds, [], _, [], _, [], hW, ?_, ?_, ?_, World.keptBut_mono (fun x hx => ⟨hx, .inr (.inl hx)⟩) (hb.frame (· ∈ _)), fun h => by cases h⟩
  · rw [hfn, hres]
    exact trodAll_mk1 (shut_bool h4 true)
  · rw [hfn]
    exact trodAll_stays hl hr hA (fun x hx => hb.same (hlt x hx)) hold
  · rw [hfn, hv]
    exact (rfl : ([] : List MemPlace) = [])
end

section
variable {H : Type}
theorem weights_all {P : Program} {ts : List TypeId} {ds : List (DataW H)} (h : (DataW.weightsEach P ts ds).all (· ≤ reachBytes) = true) : ∀ z ∈ DataW.weightsEach P ts ds, z ≤ reachBytes := by
  intro z hz
  simpa using List.all_eq_true.1 h z hz
theorem weights_first {P : Program} {t : TypeId} {ts : List TypeId} {d : DataW H} {ds : List (DataW H)} (h : ∀ z ∈ DataW.weightsEach P (t :: ts) (d :: ds), z ≤ reachBytes) : (∀ z ∈ d.weights P t, z ≤ reachBytes) ∧ ∀ z ∈ DataW.weightsEach P ts ds, z ≤ reachBytes := by
  rw [DataW.weightsEach] at h
  exact ⟨fun z hz => h z (List.mem_append.2 (.inl hz)), fun z hz => h z (List.mem_append.2 (.inr hz))⟩

/-- A slice of rows or variables comes in as itself. -/
theorem cell_of_one_slice {v : Value} {t e : TypeId} (W : World) (ht : Try.prog.underlying t = some (.slice e)) {base : Nat} (hok : Value.okWide Try.prog W .any base t v) : v.cells.toList = [v] := by
  unfold Value.okWide at hok
  rw [ht] at hok
  simp only at hok
  cases v <;> simp [Value.cells]
  all_goals (unfold Cell.okWide at hok; rw [ht] at hok; simp at hok)
  all_goals (unfold Cell.ok at hok; rw [ht] at hok; simp at hok)
end
set_option maxRecDepth 100000 in
theorem own : ownKnob Try.prog.godebug = none := by kernel_rfl
set_option maxRecDepth 100000 in
theorem laidOut : laidOutB Try.prog = true := by kernel_rfl
end Go.Proofs.Ytodabeibdgancaa
/- Plain: values, rows, their total order; ascending lists of rows. -/
namespace Go.Proofs.Ytodabeibdgancaa

structure Vl where
  kind : Int
  int : Int
  text : ByteArray
  deriving DecidableEq

abbrev Rw := List Vl

def cmpS (a b : Int) : Int := if a < b then -1 else if b < a then 1 else 0
def orS (a b : Int) : Int := if a = 0 then b else a
def bytes (s : ByteArray) : List UInt8 := s.data.toList
theorem bytes_inj {a b : ByteArray} (h : bytes a = bytes b) : a = b := by
  obtain ⟨⟨a⟩⟩ := a
  obtain ⟨⟨b⟩⟩ := b
  simpa [bytes] using h

/-- The order of two values: kinds, numbers, texts. -/
def cmpV (a b : Vl) : Int := orS (cmpS a.kind b.kind) (orS (cmpS a.int b.int) (Lib.compareBytes (bytes a.text) (bytes b.text)))
/-- The lexicographic order of rows. -/
def cmpR : Rw → Rw → Int
  | [], [] => 0
  | [], _ :: _ => -1
  | _ :: _, [] => 1
  | a :: x, b :: y => if cmpV a b = 0 then cmpR x y else cmpV a b

theorem cmpS_range (a b : Int) : cmpS a b = -1 ∨ cmpS a b = 0 ∨ cmpS a b = 1 := by
  unfold cmpS; split
  · exact .inl rfl
  · split
    · exact .inr (.inr rfl)
    · exact .inr (.inl rfl)
theorem cmpS_swap (a b : Int) : cmpS b a = - cmpS a b := by
  unfold cmpS
  by_cases h1 : a < b
  · have : ¬ b < a := by omega
    simp [h1, this]
  · by_cases h2 : b < a <;> simp [h1, h2]
theorem cmpS_zero {a b : Int} : cmpS a b = 0 ↔ a = b := by
  unfold cmpS
  by_cases h1 : a < b
  · simp [h1]; omega
  · by_cases h2 : b < a
    · simp [h1, h2]; omega
    · simp [h1, h2]; omega
theorem cmpS_neg {a b : Int} : cmpS a b < 0 ↔ a < b := by
  unfold cmpS
  by_cases h1 : a < b
  · simp [h1]
  · by_cases h2 : b < a <;> simp [h1, h2]

theorem cmpB_range : ∀ a b : List UInt8, Lib.compareBytes a b = -1 ∨ Lib.compareBytes a b = 0 ∨ Lib.compareBytes a b = 1
  | [], [] => by simp [Lib.compareBytes]
  | [], _ :: _ => by simp [Lib.compareBytes]
  | _ :: _, [] => by simp [Lib.compareBytes]
  | a :: x, b :: y => by
    rw [Lib.compareBytes]
    split
    · exact .inl rfl
    · split
      · exact .inr (.inr rfl)
      · exact cmpB_range x y
theorem cmpB_zero : ∀ {a b : List UInt8}, Lib.compareBytes a b = 0 ↔ a = b
  | [], [] => by simp [Lib.compareBytes]
  | [], _ :: _ => by simp [Lib.compareBytes]
  | _ :: _, [] => by simp [Lib.compareBytes]
  | a :: x, b :: y => by
    rw [Lib.compareBytes]
    by_cases h : a < b
    · have hne : ¬ a = b := fun e => by subst e; exact UInt8.lt_irrefl _ h
      simp [h, hne]
    · by_cases h2 : b < a
      · have hne : ¬ a = b := fun e => by subst e; exact h h2
        simp [h, h2, hne]
      · have he : a = b := by
          rw [UInt8.lt_iff_toNat_lt] at h h2
          exact UInt8.toNat_inj.1 (by omega)
        subst he
        simp [cmpB_zero (a := x) (b := y)]
theorem cmpB_swap : ∀ a b : List UInt8, Lib.compareBytes b a = - Lib.compareBytes a b
  | [], [] => by simp [Lib.compareBytes]
  | [], _ :: _ => by simp [Lib.compareBytes]
  | _ :: _, [] => by simp [Lib.compareBytes]
  | a :: x, b :: y => by
    rw [Lib.compareBytes, Lib.compareBytes, cmpB_swap x y]
    by_cases h : a < b
    · have : ¬ b < a := by rw [UInt8.lt_iff_toNat_lt] at *; omega
      simp [h, this]
    · by_cases h2 : b < a <;> simp [h, h2]
theorem cmpB_trans : ∀ {a b c : List UInt8}, Lib.compareBytes a b < 0 → Lib.compareBytes b c < 0 → Lib.compareBytes a c < 0
  | [], [], _, h, _ => by simp [Lib.compareBytes] at h
  | _ :: _, [], _, h, _ => by simp [Lib.compareBytes] at h
  | _, _ :: _, [], _, h => by simp [Lib.compareBytes] at h
  | [], _ :: _, _ :: _, _, _ => by simp [Lib.compareBytes]
  | a :: x, b :: y, c :: z, h1, h2 => by
    rw [Lib.compareBytes] at h1 h2 ⊢
    by_cases hab : a < b
    · by_cases hbc : b < c
      · have : a < c := by rw [UInt8.lt_iff_toNat_lt] at *; omega
        simp [this]
      · by_cases hcb : c < b
        · simp [hbc, hcb] at h2
        · have : a < c := by rw [UInt8.lt_iff_toNat_lt] at *; omega
          simp [this]
    · by_cases hba : b < a
      · simp [hab, hba] at h1
      · simp only [hab, hba, if_false] at h1
        have e : a = b := by
          rw [UInt8.lt_iff_toNat_lt] at hab hba
          exact UInt8.toNat_inj.1 (by omega)
        subst e
        by_cases hbc : a < c
        · simp [hbc]
        · by_cases hcb : c < a
          · simp [hbc, hcb] at h2
          · simp only [hbc, hcb, if_false] at h2 ⊢
            exact cmpB_trans h1 h2

theorem cmpV_range (a b : Vl) : cmpV a b = -1 ∨ cmpV a b = 0 ∨ cmpV a b = 1 := by
  unfold cmpV orS
  split
  · split
    · exact cmpB_range _ _
    · exact cmpS_range _ _
  · exact cmpS_range _ _
theorem cmpV_zero {a b : Vl} : cmpV a b = 0 ↔ a = b := by
  obtain ⟨k, i, t⟩ := a
  obtain ⟨k', i', t'⟩ := b
  unfold cmpV orS
  by_cases h1 : cmpS k k' = 0
  · by_cases h2 : cmpS i i' = 0
    · simp only [h1, h2, if_true]
      rw [cmpB_zero]
      have e1 := cmpS_zero.1 h1
      have e2 := cmpS_zero.1 h2
      subst e1 e2
      constructor
      · intro h; rw [bytes_inj h]
      · intro h; cases h; rfl
    · simp only [h1, h2, if_true, if_false]
      have : ¬ i = i' := fun h => h2 (cmpS_zero.2 h)
      constructor
      · intro h; exact h.elim
      · intro h; cases h; exact this rfl
  · simp only [h1, if_false]
    constructor
    · intro h; exact absurd h (by simp)
    · intro h; cases h; exact h1 (cmpS_zero.2 rfl)
theorem cmpV_swap (a b : Vl) : cmpV b a = - cmpV a b := by
  unfold cmpV orS
  rw [cmpS_swap a.kind b.kind, cmpS_swap a.int b.int, cmpB_swap (bytes a.text) (bytes b.text)]
  by_cases h1 : cmpS a.kind b.kind = 0
  · by_cases h2 : cmpS a.int b.int = 0 <;> simp [h1, h2]
  · have : ¬ - cmpS a.kind b.kind = 0 := by omega
    simp [h1]
theorem cmpV_trans {a b c : Vl} (h1 : cmpV a b < 0) (h2 : cmpV b c < 0) : cmpV a c < 0 := by
  obtain ⟨k, i, t⟩ := a
  obtain ⟨k', i', t'⟩ := b
  obtain ⟨k'', i'', t''⟩ := c
  unfold cmpV orS at *
  simp only at *
  by_cases p1 : cmpS k k' = 0
  · have e1 := cmpS_zero.1 p1
    subst e1
    by_cases p2 : cmpS k k'' = 0
    · have e2 := cmpS_zero.1 p2
      subst e2
      simp only [p1, if_true] at *
      by_cases q1 : cmpS i i' = 0
      · have e3 := cmpS_zero.1 q1
        subst e3
        by_cases q2 : cmpS i i'' = 0
        · simp only [q1, q2, if_true] at *
          exact cmpB_trans h1 h2
        · simp only [q2, if_false] at *
          exact h2
      · simp only [q1, if_false] at h1
        rw [cmpS_neg] at h1
        by_cases q2 : cmpS i' i'' = 0
        · have e4 := cmpS_zero.1 q2
          subst e4
          simp only [q1, if_false]
          exact cmpS_neg.2 h1
        · simp only [q2, if_false] at h2
          rw [cmpS_neg] at h2
          have q3 : ¬ cmpS i i'' = 0 := fun h => by have := cmpS_zero.1 h; omega
          simp only [q3, if_false]
          exact cmpS_neg.2 (by omega)
    · simp only [p1, p2, if_true, if_false] at *
      exact h2
  · simp only [p1, if_false] at h1
    rw [cmpS_neg] at h1
    by_cases p2 : cmpS k' k'' = 0
    · have e2 := cmpS_zero.1 p2
      subst e2
      simp only [p1, if_false]
      exact cmpS_neg.2 h1
    · simp only [p2, if_false] at h2
      rw [cmpS_neg] at h2
      have p3 : ¬ cmpS k k'' = 0 := fun h => by have := cmpS_zero.1 h; omega
      simp only [p3, if_false]
      exact cmpS_neg.2 (by omega)

theorem cmpR_range : ∀ a b : Rw, cmpR a b = -1 ∨ cmpR a b = 0 ∨ cmpR a b = 1
  | [], [] => by simp [cmpR]
  | [], _ :: _ => by simp [cmpR]
  | _ :: _, [] => by simp [cmpR]
  | a :: x, b :: y => by
    rw [cmpR]
    split
    · exact cmpR_range x y
    · exact cmpV_range a b
theorem cmpR_zero : ∀ {a b : Rw}, cmpR a b = 0 ↔ a = b
  | [], [] => by simp [cmpR]
  | [], _ :: _ => by simp [cmpR]
  | _ :: _, [] => by simp [cmpR]
  | a :: x, b :: y => by
    rw [cmpR]
    split
    · rename_i h
      rw [cmpR_zero (a := x) (b := y)]
      have := cmpV_zero.1 h
      subst this
      simp
    · rename_i h
      have hne : ¬ a = b := fun e => h (cmpV_zero.2 e)
      simp [h, hne]
theorem cmpR_swap : ∀ a b : Rw, cmpR b a = - cmpR a b
  | [], [] => by simp [cmpR]
  | [], _ :: _ => by simp [cmpR]
  | _ :: _, [] => by simp [cmpR]
  | a :: x, b :: y => by
    rw [cmpR, cmpR, cmpR_swap x y, cmpV_swap a b]
    by_cases h : cmpV a b = 0
    · simp [h]
    · have : ¬ - cmpV a b = 0 := by omega
      simp [h]
theorem cmpR_trans : ∀ {a b c : Rw}, cmpR a b < 0 → cmpR b c < 0 → cmpR a c < 0
  | [], [], _, h, _ => by simp [cmpR] at h
  | _ :: _, [], _, h, _ => by simp [cmpR] at h
  | _, _ :: _, [], _, h => by simp [cmpR] at h
  | [], _ :: _, _ :: _, _, _ => by simp [cmpR]
  | a :: x, b :: y, c :: z, h1, h2 => by
    rw [cmpR] at h1 h2 ⊢
    by_cases p1 : cmpV a b = 0
    · have e := cmpV_zero.1 p1
      subst e
      by_cases p2 : cmpV a c = 0
      · simp only [p1, p2, if_true] at *
        exact cmpR_trans h1 h2
      · simp only [p2, if_false] at *
        exact h2
    · simp only [p1, if_false] at h1
      by_cases p2 : cmpV b c = 0
      · have e := cmpV_zero.1 p2
        subst e
        simp only [p1, if_false]
        exact h1
      · simp only [p2, if_false] at h2
        have h3 := cmpV_trans h1 h2
        have : ¬ cmpV a c = 0 := by omega
        simp only [this, if_false]
        exact h3

def ltR (a b : Rw) : Prop := cmpR a b < 0
instance (a b : Rw) : Decidable (ltR a b) := inferInstanceAs (Decidable (_ < _))
theorem ltR_irrefl (a : Rw) : ¬ ltR a a := by unfold ltR; rw [cmpR_zero.2 rfl]; omega
theorem ltR_trans {a b c : Rw} (h1 : ltR a b) (h2 : ltR b c) : ltR a c := cmpR_trans h1 h2
theorem ltR_asymm {a b : Rw} (h : ltR a b) : ¬ ltR b a := fun h' => ltR_irrefl _ (ltR_trans h h')
theorem ltR_tri (a b : Rw) : ltR a b ∨ a = b ∨ ltR b a := by
  unfold ltR
  rw [cmpR_swap a b]
  rcases cmpR_range a b with h | h | h
  · left; omega
  · right; left; exact cmpR_zero.1 h
  · right; right; omega
theorem ltR_of_not {a b : Rw} (h : ¬ ltR a b) (hne : a ≠ b) : ltR b a := by
  rcases ltR_tri a b with h1 | h1 | h1
  · exact absurd h1 h
  · exact absurd h1 hne
  · exact h1

/-- Ascending. -/
def Asc (l : List Rw) : Prop := l.Pairwise fun a b => ¬ ltR b a
theorem asc_ext : ∀ {l l' : List Rw}, Asc l → Asc l' → (∀ r, l.count r = l'.count r) → l = l'
  | [], [], _, _, _ => rfl
  | [], x :: l', _, _, h => by have := h x; simp at this
  | x :: l, [], _, _, h => by have := h x; simp at this
  | x :: l, y :: l', h1, h2, h => by
    have hx : x = y := by
      have a1 : x ∈ y :: l' := by
        apply Classical.byContradiction
        intro hn
        have := h x
        rw [List.count_eq_zero.2 hn] at this
        simp at this
      have a2 : y ∈ x :: l := by
        apply Classical.byContradiction
        intro hn
        have := h y
        rw [List.count_eq_zero.2 hn] at this
        simp at this
      rcases List.mem_cons.1 a1 with e | e
      · exact e
      · rcases List.mem_cons.1 a2 with e2 | e2
        · exact e2.symm
        · have p1 := (List.pairwise_cons.1 h2).1 x e
          have p2 := (List.pairwise_cons.1 h1).1 y e2
          apply Classical.byContradiction
          intro hne
          exact p1 (ltR_of_not p2 (fun e => hne e.symm))
    subst hx
    congr 1
    refine asc_ext (List.pairwise_cons.1 h1).2 (List.pairwise_cons.1 h2).2 fun r => ?_
    have := h r
    simp only [List.count_cons] at this
    omega

/-! The reference's lists. -/
/-- Put. -/
def putL : List Rw → Rw → List Rw
  | [], r => [r]
  | x :: l, r => if ltR r x then r :: x :: l else x :: putL l r
/-- Drop: the first occurrence goes. -/
def dropL : List Rw → Rw → List Rw
  | [], _ => []
  | x :: l, r => if x = r then l else x :: dropL l r
def ofL (l : List Rw) : List Rw := l.foldl putL []
def minusL (a b : List Rw) : List Rw := b.foldl dropL a

theorem count_putL (l : List Rw) (r x : Rw) : (putL l r).count x = l.count x + (if r = x then 1 else 0) := by
  induction l with
  | nil => simp [putL, List.count_cons]
  | cons y l ih =>
    rw [putL]
    split
    · simp [List.count_cons]
    · simp only [List.count_cons, ih]; omega
theorem mem_putL {l : List Rw} {r x : Rw} : x ∈ putL l r ↔ x = r ∨ x ∈ l := by
  induction l with
  | nil => simp [putL]
  | cons y l ih =>
    rw [putL]
    split
    · simp
    · simp only [List.mem_cons, ih]
      constructor
      · rintro (h | h | h)
        · exact .inr (.inl h)
        · exact .inl h
        · exact .inr (.inr h)
      · rintro (h | h | h)
        · exact .inr (.inl h)
        · exact .inl h
        · exact .inr (.inr h)
theorem asc_putL {l : List Rw} (h : Asc l) (r : Rw) : Asc (putL l r) := by
  induction l with
  | nil => simp [putL, Asc]
  | cons y l ih =>
    have hy := List.pairwise_cons.1 h
    rw [putL]
    split
    · rename_i hlt
      refine List.pairwise_cons.2 ⟨fun z hz => ?_, h⟩
      rcases List.mem_cons.1 hz with rfl | hz
      · exact ltR_asymm hlt
      · intro hzr
        exact hy.1 z hz (ltR_trans hzr hlt)
    · rename_i hn
      refine List.pairwise_cons.2 ⟨fun z hz => ?_, ih hy.2⟩
      rcases mem_putL.1 hz with rfl | hz
      · exact hn
      · exact hy.1 z hz
theorem length_putL (l : List Rw) (r : Rw) : (putL l r).length = l.length + 1 := by
  induction l with
  | nil => rfl
  | cons y l ih => rw [putL]; split <;> simp [ih]
theorem count_dropL (l : List Rw) (r x : Rw) : (dropL l r).count x = l.count x - (if r = x then 1 else 0) := by
  induction l with
  | nil => simp [dropL]
  | cons y l ih =>
    rw [dropL]
    split
    · rename_i h
      subst h
      simp only [List.count_cons, beq_iff_eq]
      split <;> omega
    · rename_i h
      simp only [List.count_cons, ih, beq_iff_eq]
      by_cases h1 : y = x
      · have : ¬ r = x := fun e => h (by rw [h1, e])
        simp [h1, this]
      · simp [h1]
theorem mem_dropL {l : List Rw} {r x : Rw} (h : x ∈ dropL l r) : x ∈ l := by
  induction l with
  | nil => exact h
  | cons y l ih =>
    rw [dropL] at h
    split at h
    · exact List.mem_cons_of_mem _ h
    · rcases List.mem_cons.1 h with h | h
      · exact List.mem_cons.2 (.inl h)
      · exact List.mem_cons.2 (.inr (ih h))
theorem asc_dropL {l : List Rw} (h : Asc l) (r : Rw) : Asc (dropL l r) := by
  induction l with
  | nil => exact h
  | cons y l ih =>
    have hy := List.pairwise_cons.1 h
    rw [dropL]
    split
    · exact hy.2
    · exact List.pairwise_cons.2 ⟨fun z hz => hy.1 z (mem_dropL hz), ih hy.2⟩
theorem asc_ofL (l : List Rw) : Asc (ofL l) := by
  unfold ofL
  have : ∀ (l a : List Rw), Asc a → Asc (l.foldl putL a) := by
    intro l
    induction l with
    | nil => intro a h; exact h
    | cons x l ih => intro a h; exact ih _ (asc_putL h x)
  exact this l [] List.Pairwise.nil
theorem count_foldPut (l a : List Rw) (x : Rw) : (l.foldl putL a).count x = a.count x + l.count x := by
  induction l generalizing a with
  | nil => simp
  | cons y l ih =>
    rw [List.foldl_cons, ih, count_putL, List.count_cons]
    simp only [beq_iff_eq]
    omega
theorem count_ofL (l : List Rw) (x : Rw) : (ofL l).count x = l.count x := by
  unfold ofL
  rw [count_foldPut]
  simp
theorem asc_minusL {a : List Rw} (h : Asc a) (b : List Rw) : Asc (minusL a b) := by
  unfold minusL
  induction b generalizing a with
  | nil => exact h
  | cons x b ih => exact ih (asc_dropL h x)
theorem count_minusL (a b : List Rw) (x : Rw) : (minusL a b).count x = a.count x - b.count x := by
  unfold minusL
  induction b generalizing a with
  | nil => simp
  | cons y b ih =>
    rw [List.foldl_cons, ih, count_dropL, List.count_cons]
    simp only [beq_iff_eq]
    omega
end Go.Proofs.Ytodabeibdgancaa
/- Sorting, in plain words: a total preorder, ascending lists, lists that agree class by class. -/
namespace Go.Proofs.Ytodabeibdgancaa
section
variable {α : Type}
/-- A comparison by sign: a total preorder. -/
structure Ord3 (c : α → α → Int) : Prop where
  anti : ∀ x y, c x y < 0 ↔ 0 < c y x
  trans : ∀ x y z, c x y ≤ 0 → c y z ≤ 0 → c x z ≤ 0
variable {c : α → α → Int}
theorem Ord3.self (h : Ord3 c) (x : α) : c x x = 0 := by have := h.anti x x; omega
theorem Ord3.le (h : Ord3 c) {x y : α} (hn : ¬ c x y < 0) : c y x ≤ 0 := by have := h.anti x y; omega
theorem Ord3.lt_le (h : Ord3 c) {x y z : α} (h1 : c x y < 0) (h2 : c y z ≤ 0) : c x z < 0 := by
  have h3 := h.trans x y z (by omega) h2
  refine Int.not_le.1 fun h4 => ?_
  have h5 : c x z = 0 := by omega
  have a1 := h.anti x z
  have a2 := h.anti z x
  have h6 : c z x ≤ 0 := by omega
  have h7 := h.trans y z x h2 h6
  have := h.anti x y
  omega
theorem Ord3.le_lt (h : Ord3 c) {x y z : α} (h1 : c x y ≤ 0) (h2 : c y z < 0) : c x z < 0 := by
  have h3 := h.trans x y z h1 (by omega)
  refine Int.not_le.1 fun h4 => ?_
  have h5 : c x z = 0 := by omega
  have a1 := h.anti x z
  have a2 := h.anti z x
  have h6 : c z x ≤ 0 := by omega
  have h7 := h.trans z x y h6 h1
  have := h.anti y z
  omega
theorem Ord3.eq_cases (h : Ord3 c) {x y z : α} (h1 : c x z = 0) (h2 : c y z = 0) : c y x = 0 := by
  have a1 := h.anti x z
  have a2 := h.anti z x
  have a3 := h.anti y z
  have a4 := h.anti z y
  have h3 := h.trans y z x (by omega) (by omega)
  have h4 := h.trans x z y (by omega) (by omega)
  have a5 := h.anti y x
  have a6 := h.anti x y
  omega
/-- Ascending. -/
def AscC (c : α → α → Int) (l : List α) : Prop := l.Pairwise fun x y => c x y ≤ 0
/-- Two lists that agree class by class: each one a rearrangement of the other that keeps the order of equals. -/
def StEq (c : α → α → Int) (l m : List α) : Prop := ∀ z, l.filter (fun x => c x z == 0) = m.filter (fun x => c x z == 0)
theorem StEq.refl (l : List α) : StEq c l l := fun _ => rfl
theorem StEq.symm {l m : List α} (h : StEq c l m) : StEq c m l := fun z => (h z).symm
theorem StEq.trans {l m n : List α} (h : StEq c l m) (h' : StEq c m n) : StEq c l n := fun z => (h z).trans (h' z)
theorem StEq.app {l m l' m' : List α} (h : StEq c l m) (h' : StEq c l' m') : StEq c (l ++ l') (m ++ m') := fun z => by rw [List.filter_append, List.filter_append, h z, h' z]
theorem StEq.swap (hc : Ord3 c) {u v : List α} (h : ∀ x ∈ u, ∀ y ∈ v, c y x < 0) : StEq c (u ++ v) (v ++ u) := fun z => by
  rw [List.filter_append, List.filter_append]
  rcases hu : u.filter (fun x => c x z == 0) with _ | ⟨x, l⟩
  · simp
  rcases hv : v.filter (fun x => c x z == 0) with _ | ⟨y, m⟩
  · simp
  have hx : x ∈ u.filter (fun x => c x z == 0) := by rw [hu]; simp
  have hy : y ∈ v.filter (fun x => c x z == 0) := by rw [hv]; simp
  simp only [List.mem_filter, beq_iff_eq] at hx hy
  have h1 := h x hx.1 y hy.1
  have h2 := hc.eq_cases hx.2 hy.2
  omega
theorem StEq.mem (hc : Ord3 c) {l m : List α} (h : StEq c l m) {x : α} (hx : x ∈ m) : x ∈ l := by
  have h1 : x ∈ m.filter (fun y => c y x == 0) := by simp [hx, hc.self x]
  rw [← h x] at h1
  exact (List.mem_filter.1 h1).1
open Classical in
theorem StEq.perm (hc : Ord3 c) {l m : List α} (h : StEq c l m) : l.Perm m := by
  rw [List.perm_iff_count]
  intro x
  have e : ∀ l : List α, (l.filter (fun y => c y x == 0)).count x = l.count x := fun l => List.count_filter (by simp [hc.self x])
  rw [← e l, ← e m, h x]
theorem AscC.app {l m : List α} (h : AscC c l) (h' : AscC c m) (hb : ∀ x ∈ l, ∀ y ∈ m, c x y ≤ 0) : AscC c (l ++ m) := List.pairwise_append.2 ⟨h, h', hb⟩
theorem AscC.left {l m : List α} (h : AscC c (l ++ m)) : AscC c l := (List.pairwise_append.1 h).1
theorem AscC.right {l m : List α} (h : AscC c (l ++ m)) : AscC c m := (List.pairwise_append.1 h).2.1
theorem AscC.cross {l m : List α} (h : AscC c (l ++ m)) : ∀ x ∈ l, ∀ y ∈ m, c x y ≤ 0 := (List.pairwise_append.1 h).2.2
/-- A list in two parts. -/
theorem split2 (d : List α) (a : Nat) (h : a ≤ d.length) : ∃ P S, d = P ++ S ∧ P.length = a ∧ S.length = d.length - a :=
  ⟨d.take a, d.drop a, (List.take_append_drop a d).symm, by rw [List.length_take, Nat.min_eq_left h], List.length_drop⟩
theorem mid_get {P u S : List α} {i : Nat} (h : i < u.length) : (P ++ u ++ S)[P.length + i]? = some u[i] := by
  rw [List.append_assoc, List.getElem?_append_right (by omega), Nat.add_sub_cancel_left, List.getElem?_append_left h, List.getElem?_eq_getElem h]
theorem mid_set {P u S : List α} {i : Nat} (h : i < u.length) (x : α) : (P ++ u ++ S).set (P.length + i) x = P ++ u.set i x ++ S := by
  rw [List.append_assoc, List.set_append_right _ _ (by omega), Nat.add_sub_cancel_left, List.set_append_left _ _ h, List.append_assoc]
/-- Two elements change places. -/
def swp (d : List α) (i j : Nat) : List α := match d[i]?, d[j]? with
  | some x, some y => (d.set i y).set j x
  | _, _ => d
theorem swp_at {P Q S : List α} {x y : α} : swp (P ++ x :: Q ++ y :: S) P.length (P.length + 1 + Q.length) = P ++ y :: Q ++ x :: S := by
  have h1 : (P ++ x :: Q ++ y :: S)[P.length]? = some x := by simp
  have h2 : (P ++ x :: Q ++ y :: S)[P.length + 1 + Q.length]? = some y := by
    rw [List.getElem?_append_right (by simp; omega)]
    simp [show P.length + 1 + Q.length - (P.length + (Q.length + 1)) = 0 by omega]
  unfold swp
  rw [h1, h2]
  show (List.set _ _ _).set _ _ = _
  rw [show (P ++ x :: Q ++ y :: S).set P.length y = P ++ y :: Q ++ y :: S by simp]
  rw [List.set_append_right _ _ (by simp; omega)]
  simp [show P.length + 1 + Q.length - (P.length + (Q.length + 1)) = 0 by omega]
theorem swp_comm (d : List α) (i j : Nat) : swp d j i = swp d i j := by
  unfold swp
  rcases hi : d[i]? with _ | x <;> rcases hj : d[j]? with _ | y <;> (try rfl)
  show (d.set j x).set i y = (d.set i y).set j x
  by_cases h : i = j
  · subst h
    rw [hi] at hj
    obtain rfl := Option.some.inj hj
    rfl
  · exact List.set_comm _ _ (fun e => h e.symm)
theorem swp_length (d : List α) (i j : Nat) : (swp d i j).length = d.length := by
  unfold swp
  split <;> simp
theorem swp_perm (d : List α) (i j : Nat) (x : α) (h : x ∈ swp d i j) : x ∈ d := by
  unfold swp at h
  split at h
  · rename_i a b ha hb
    rcases List.mem_or_eq_of_mem_set h with h | rfl
    · rcases List.mem_or_eq_of_mem_set h with h | rfl
      · exact h
      · exact List.mem_of_getElem? hb
    · exact List.mem_of_getElem? ha
  · exact h
end
end Go.Proofs.Ytodabeibdgancaa
/- How values, rows and lists of rows lie in memory; variables of several cells. -/
namespace Go.Proofs.Ytodabeibdgancaa
open Go.RowKit

def Vl.cells (v : Vl) : List Value := [.int .i64 v.kind, .int .i64 v.int, .string v.text]
def Vl.val (v : Vl) : Value := .agg #[.int .i64 v.kind, .int .i64 v.int, .string v.text]

/-- A row of values lies at the slice. -/
inductive ValsAt (w : World) : Rw → Value → Prop where
  | mt {a : Option Addr} : ValsAt w [] (.slice a 0 0)
  | lie (vs : Rw) (b o n cap : Nat) (hn : n = vs.length) (hlt : b < w.heap.size) (hm : n ≤ maxLen)
      (hc : ∀ i (h : i < vs.length), ∀ j (_ : j < 3), w.cell? ⟨b, o + i * 3 + j, none⟩ = (vs[i].cells[j]?)) (ht : ∀ v ∈ vs, v.text.size ≤ maxLen) : ValsAt w vs (.slice (some ⟨b, o, none⟩) n cap)

theorem ValsAt.mono {w w' : World} {vs : Rw} {s : Value} (h : ValsAt w vs s) (hb : Below w.heap.size w w') : ValsAt w' vs s := by
  cases h with
  | mt => exact .mt
  | lie _ b o n cap hn hlt hm hc ht => exact .lie _ b o n cap hn (Nat.lt_of_lt_of_le hlt hb.size) hm (fun i h j hj => (hb.cell hlt).trans (hc i h j hj)) ht
theorem ValsAt.txt {w : World} {vs : Rw} {s : Value} (h : ValsAt w vs s) : ∀ v ∈ vs, v.text.size ≤ maxLen := by
  cases h with
  | mt => simp
  | lie _ b o n cap hn hlt hm hc ht => exact ht
theorem ValsAt.shape {w : World} {vs : Rw} {s : Value} (h : ValsAt w vs s) : ∃ a n c, s = .slice a n c ∧ n = vs.length ∧ n ≤ maxLen := by
  cases h with
  | mt => exact ⟨_, _, _, rfl, rfl, by simp⟩
  | lie _ b o n cap hn hlt hm hc => exact ⟨_, _, _, rfl, hn, hm⟩
theorem ValsAt.cell {w : World} {vs : Rw} {b o n cap : Nat} (h : ValsAt w vs (.slice (some ⟨b, o, none⟩) n cap)) (i : Nat) (hi : i < vs.length) :
    w.cell? ⟨b, o + i * 3, none⟩ = some (.int .i64 vs[i].kind) ∧ w.cell? ⟨b, o + i * 3 + 1, none⟩ = some (.int .i64 vs[i].int) ∧ w.cell? ⟨b, o + i * 3 + 2, none⟩ = some (.string vs[i].text) := by
  cases h with
  | mt => simp at hi
  | lie _ _ _ _ _ hn hlt hm hc => exact ⟨hc i hi 0 (by omega), hc i hi 1 (by omega), hc i hi 2 (by omega)⟩
theorem ValsAt.has {w : World} {L : Rw} {a : Option Addr} {n c : Nat} (h : ValsAt w L (.slice a n c)) (i : Nat) (hi : i < n) : ∃ b o, a = some ⟨b, o, none⟩ := by
  cases h with
  | mt => omega
  | lie _ b o => exact ⟨b, o, rfl⟩
theorem ValsAt.lt {w : World} {L : Rw} {b o n c : Nat} (h : ValsAt w L (.slice (some ⟨b, o, none⟩) n c)) {i : Nat} (hi : i < L.length) : b < w.heap.size :=
  World.block_lt_of_cell? w _ (h.cell i hi).1

theorem bcell {W w1 : World} (hb : Below W.heap.size W w1) : (∀ b o, b < W.heap.size → w1.cell? ⟨b, o, none⟩ = W.cell? ⟨b, o, none⟩) ∧ (∀ b o, b < W.heap.size → w1.frozen? ⟨b, o, none⟩ = W.frozen? ⟨b, o, none⟩) :=
  ⟨fun b o h => hb.cell (p := ⟨b, o, none⟩) h, fun b o h => hb.frozen (p := ⟨b, o, none⟩) h⟩

/-- A variable of several cells lies at block b. -/
structure VarIs (w : World) (b : Nat) (c : Array Value) : Prop where
  lt : b < w.heap.size
  cell : ∀ j, w.cell? ⟨b, j, none⟩ = c[j]?
  free : ∀ j, w.frozen? ⟨b, j, none⟩ = false
theorem VarIs.below {w w' : World} {B b : Nat} {c : Array Value} (h : VarIs w b c) (hb : Below B w w') (hB : b < B) : VarIs w' b c :=
  ⟨Nat.lt_of_lt_of_le h.lt hb.size, fun j => (hb.cell (p := ⟨b, j, none⟩) hB).trans (h.cell j), fun j => (hb.frozen (p := ⟨b, j, none⟩) hB).trans (h.free j)⟩
theorem VarIs.new (w : World) (c : Array Value) (t : TypeId) : VarIs (w.alloc (.cells c t)) w.heap.size c :=
  ⟨by simp, fun j => World.cell?_alloc_new w c t j, fun j => World.frozen?_alloc_new w c t j⟩
theorem VarIs.alloc {w : World} {b : Nat} {c : Array Value} (h : VarIs w b c) (o : Obj) : VarIs (w.alloc o) b c :=
  ⟨by simp; have := h.lt; omega, fun j => (World.cell?_alloc_lt _ _ _ h.lt).trans (h.cell j), fun j => (World.frozen?_alloc_old _ _ _ (Nat.ne_of_lt h.lt)).trans (h.free j)⟩
theorem VarIs.drew {w : World} {b : Nat} {c : Array Value} (h : VarIs w b c) : VarIs w.drew b c := ⟨h.lt, h.cell, h.free⟩
theorem VarIs.new1 (w : World) (o : Obj) (c : Array Value) (t : TypeId) : VarIs ((w.alloc o).alloc (.cells c t)) (w.heap.size + 1) c := by
  have := VarIs.new (w.alloc o) c t
  rwa [World.size_alloc] at this
theorem VarIs.setOther {w : World} {g g' : Nat} {c : Array Value} (h : VarIs w g' c) (hne : g ≠ g') (i : Nat) (v : Value) : VarIs (w.setCell ⟨g, i, none⟩ v) g' c := by
  have hb := Below.heap_setCell w ⟨g, i, none⟩ v g' (fun e => hne e.symm)
  exact ⟨by have := h.lt; simpa using this, fun j => (World.cell?_of_block (a := ⟨g', j, none⟩) hb).trans (h.cell j), fun j => (World.frozen?_of_block (a := ⟨g', j, none⟩) hb).trans (h.free j)⟩
theorem VarIs.set {w : World} {g : Nat} {c : Array Value} (h : VarIs w g c) (i : Nat) (hi : i < c.size) (v : Value) : VarIs (w.setCell ⟨g, i, none⟩ v) g (c.set i v) := by
  have h1 : w.cell? ⟨g, i, none⟩ = some c[i] := by rw [h.cell i, Array.getElem?_eq_getElem hi]
  refine ⟨by have := h.lt; simpa using this, fun j => ?_, fun j => ?_⟩
  · by_cases hj : i = j
    · subst hj
      rw [World.cell?_setCell_same _ _ _ h1]
      simp [hi]
    · rw [World.cell?_setCell_other _ _ _ _ (fun e => hj (by injection e)), h.cell j, Array.getElem?_set_ne _ hj]
  · rw [World.frozen?_setCell]
    exact h.free j

/-- What a region that draws its order keeps: nothing that was there when it began has turned. -/
theorem S_of {W w : World} (h : Below W.heap.size W w) : Below W.heap.size W w ∧ ∀ b o, b < W.heap.size → w.cell? ⟨b, o, none⟩ = W.cell? ⟨b, o, none⟩ := ⟨h, fun b o hb => h.cell (p := ⟨b, o, none⟩) hb⟩
theorem S_step {W w w' : World} (h : Below W.heap.size W w ∧ ∀ b o, b < W.heap.size → w.cell? ⟨b, o, none⟩ = W.cell? ⟨b, o, none⟩) (hb : Below w.heap.size w w') : Below W.heap.size W w' ∧ ∀ b o, b < W.heap.size → w'.cell? ⟨b, o, none⟩ = W.cell? ⟨b, o, none⟩ :=
  S_of (h.1.trans (hb.mono h.1.size))
theorem S_alloc {W w : World} (h : Below W.heap.size W w ∧ ∀ b o, b < W.heap.size → w.cell? ⟨b, o, none⟩ = W.cell? ⟨b, o, none⟩) (o : Obj) : Below W.heap.size W (w.alloc o) ∧ ∀ b o', b < W.heap.size → (w.alloc o).cell? ⟨b, o', none⟩ = W.cell? ⟨b, o', none⟩ :=
  S_of (h.1.alloc h.1.size o)
theorem ValsAt.keep {W w : World} {es : Rw} {s : Value} (h : ValsAt W es s) (hS : Below W.heap.size W w ∧ ∀ b o, b < W.heap.size → w.cell? ⟨b, o, none⟩ = W.cell? ⟨b, o, none⟩) : ValsAt w es s := h.mono hS.1
theorem own_below {w w' : World} {base : Nat} {e : TypeId} {size : Nat} {v : Value} {n : Nat} {xs : List Value} (h : w.ownsRow base e size v n xs) (hb : Below w.heap.size w w') : w'.ownsRow base e size v n xs := by
  refine ⟨h.1, ?_⟩
  rcases h.2 with h2 | ⟨g, cap, cur, hv, hg, hh, r⟩
  · exact .inl h2
  · exact .inr ⟨g, cap, cur, hv, hg, (hb.block g (Array.getElem?_eq_some_iff.1 hh).1).trans hh, r⟩

def flat (vs : Rw) : List Value := vs.flatMap Vl.cells
theorem flat_get (vs : Rw) (i : Nat) (hi : i < vs.length) (j : Nat) (hj : j < 3) : (flat vs)[i * 3 + j]? = vs[i].cells[j]? := by
  induction vs generalizing i with
  | nil => simp at hi
  | cons x l ih =>
    cases i with
    | zero =>
      simp only [flat, List.flatMap_cons, Nat.zero_mul, Nat.zero_add, List.getElem_cons_zero]
      rw [List.getElem?_append_left (by simpa [Vl.cells] using hj)]
    | succ i =>
      have := ih i (by simpa using hi)
      simp only [flat, List.flatMap_cons, List.getElem_cons_succ] at this ⊢
      rw [List.getElem?_append_right (by simp [Vl.cells]; omega), ← this]
      congr 1
      simp [Vl.cells]
      omega
theorem length_flat (l : Rw) : (flat l).length = l.length * 3 := by
  induction l with
  | nil => rfl
  | cons x l ih => simp only [flat, List.flatMap_cons, List.length_append, List.length_cons] at ih ⊢; rw [ih]; simp [Vl.cells]; omega
theorem one_flat (l : Rw) : ∀ u ∈ flat l, u.oneCell' = true := by
  intro u hu
  simp only [flat, List.mem_flatMap] at hu
  obtain ⟨v, _, hv⟩ := hu
  simp [Vl.cells] at hv
  rcases hv with rfl | rfl | rfl <;> rfl
theorem vals_of_own {w : World} {B : Nat} {v : Value} {n : Nat} {vs : Rw} {t : TypeId} (h : w.ownsRow B t 3 v n (flat vs)) (hl : vs.length = n) (htx : ∀ v ∈ vs, v.text.size ≤ maxLen) : ValsAt w vs v := by
  obtain ⟨_, ⟨rfl, rfl⟩ | ⟨g, cap, cur, rfl, hb, hg, hn, hc, hs, ht⟩⟩ := h
  · cases vs with
    | nil => exact .mt
    | cons => simp at hl
  · refine .lie vs g 0 n cap hl.symm (Array.getElem?_eq_some_iff.1 hg).1 (Nat.le_trans hn hc) (fun i hi j hj => ?_) htx
    rw [← flat_get vs i hi j hj, ← ht, Nat.zero_add, cell_of_row w g (i * 3 + j) cur t (0, 0) hg, List.getElem?_take, if_pos (by omega)]
    simp
end Go.Proofs.Ytodabeibdgancaa
/- The program's comparisons: of numbers, texts, values. -/
namespace Go.Proofs.Ytodabeibdgancaa
open Go.RowKit

theorem isnan_calls (a : Int) (w : World) : Calls Try.prog 46 #[.int .i64 a] w fun e w' => e = .returned (.bool false) ∧ w = w' := by
  go_enter Try.func46, Try.ntmps46
  go_wp2
  all_goals go_ret
  all_goals exact ⟨by simp, rfl⟩
theorem isnan2_calls (a : Int) (w : World) : Calls Try.prog 37 #[.int .i64 a] w fun e w' => e = .returned (.bool false) ∧ w = w' := by
  go_enter Try.func37, Try.ntmps37
  go_wp2
  all_goals go_ret
  all_goals exact ⟨by simp, rfl⟩
theorem compare_calls (a b : Int) (w : World) : Calls Try.prog 34 #[.int .i64 a, .int .i64 b] w fun e w' => e = .returned (.int .i64 (cmpS a b)) ∧ w = w' := by
  unfold cmpS
  go_enter Try.func34, Try.ntmps34
  go_wp2_with (first | (go_at_call 46; refine (isnan_calls _ _).mono ?_; rintro e w' ⟨rfl, rfl⟩))
  all_goals go_ret
  all_goals exact ⟨by simp [*], rfl⟩
theorem compare2_calls (a b : Int) (w : World) : Calls Try.prog 25 #[.int .i64 a, .int .i64 b] w fun e w' => e = .returned (.int .i64 (cmpS a b)) ∧ w = w' := by
  unfold cmpS
  go_enter Try.func25, Try.ntmps25
  go_wp2_with (first | (go_at_call 37; refine (isnan2_calls _ _).mono ?_; rintro e w' ⟨rfl, rfl⟩))
  all_goals go_ret
  all_goals exact ⟨by simp [*], rfl⟩
theorem run_cmpstring (a b : ByteArray) (w : World) : (callFunc 56 #[.string a, .string b]).run Try.prog w = .ok (.value (.int .i64 (Lib.compareBytes a.data.toList b.data.toList))) w := by
  rw [run_callFunc_extern Try.func56 (by kernel_rfl) (by kernel_rfl) (by kernel_rfl) (e := Extern.BytealgCompare.compare) (by kernel_rfl), Lib.run_compareString]
  rfl
theorem scompare_calls (a b : ByteArray) (w : World) : Calls Try.prog 35 #[.string a, .string b] w fun e w' => e = .returned (.int .i64 (Lib.compareBytes (bytes a) (bytes b))) ∧ w = w' := by
  have hr := run_cmpstring a b
  go_enter Try.func35, Try.ntmps35
  go_wp2
  go_ret
  exact ⟨rfl, rfl⟩
theorem or_calls3 (a b c : Int) (g : Nat) (w : World) (h0 : w.cell? ⟨g, 0, none⟩ = some (.int .i64 a)) (h1 : w.cell? ⟨g, 1, none⟩ = some (.int .i64 b)) (h2 : w.cell? ⟨g, 2, none⟩ = some (.int .i64 c)) :
    Calls Try.prog 33 #[.slice (some ⟨g, 0, none⟩) 3 3] w fun e w' => e = .returned (.int .i64 (orS a (orS b c))) ∧ w = w' := by
  unfold orS
  by_cases ha : a = 0
  · subst ha
    by_cases hb : b = 0
    · subst hb
      by_cases hc : c = 0
      · subst hc
        go_enter Try.func33, Try.ntmps33
        go_wp2
        refine wp_loop_rounds 4 ?_
        rw [rounds_succ]
        go_wp2
        rw [rounds_succ]
        go_wp2
        rw [rounds_succ]
        go_wp2
        rw [rounds_succ]
        go_wp2
        go_ret
        exact ⟨rfl, rfl⟩
      · have hc1 : (c != 0) = true := by simp [hc]
        go_enter Try.func33, Try.ntmps33
        go_wp2
        refine wp_loop_rounds 3 ?_
        rw [rounds_succ]
        go_wp2
        rw [rounds_succ]
        go_wp2
        rw [rounds_succ]
        go_wp2
        go_ret
        exact ⟨rfl, rfl⟩
    · have hb1 : (b != 0) = true := by simp [hb]
      rw [if_neg hb]
      go_enter Try.func33, Try.ntmps33
      go_wp2
      refine wp_loop_rounds 2 ?_
      rw [rounds_succ]
      go_wp2
      rw [rounds_succ]
      go_wp2
      go_ret
      exact ⟨rfl, rfl⟩
  · have ha1 : (a != 0) = true := by simp [ha]
    rw [if_neg ha]
    go_enter Try.func33, Try.ntmps33
    go_wp2
    refine wp_loop_rounds 1 ?_
    rw [rounds_succ]
    go_wp2
    go_ret
    exact ⟨rfl, rfl⟩

/-- value.Compare. -/
theorem cmpV_calls (a b : Vl) (w : World) : Calls Try.prog 20 #[.agg #[.int .i64 a.kind, .int .i64 a.int, .string a.text], .agg #[.int .i64 b.kind, .int .i64 b.int, .string b.text]] w fun e w' => e = .returned (.int .i64 (cmpV a b)) ∧ Below w.heap.size w w' := by
  have Hb0 : RowKit.Hid (∀ o o', Below w.heap.size w ((w.alloc o).alloc o')) := fun o o' => ((Below.refl _ _).alloc (Nat.le_refl _) o).alloc (by simp) o'
  have V1 := (VarIs.new w #[.int .i64 a.kind, .int .i64 a.int, .string a.text] 26).alloc (.cells #[.int .i64 b.kind, .int .i64 b.int, .string b.text] 26)
  have V2 := VarIs.new1 w (.cells #[.int .i64 a.kind, .int .i64 a.int, .string a.text] 26) #[.int .i64 b.kind, .int .i64 b.int, .string b.text] 26
  have hbw := Hb0.out (.cells #[.int .i64 a.kind, .int .i64 a.int, .string a.text] 26) (.cells #[.int .i64 b.kind, .int .i64 b.int, .string b.text] 26)
  go_enter Try.func20, Try.ntmps20
  go_wp2_with fail
  generalize (w.alloc (.cells #[.int .i64 a.kind, .int .i64 a.int, .string a.text] 26)).alloc (.cells #[.int .i64 b.kind, .int .i64 b.int, .string b.text] 26) = W at *
  have Hbw := Lib.hid hbw
  clear hbw Hb0
  obtain ⟨v1, v2, -⟩ := V1
  obtain ⟨u1, u2, -⟩ := V2
  go_region_held3 (fun w' => Below W.heap.size W w' ∧ ∀ b o, b < W.heap.size → w'.cell? ⟨b, o, none⟩ = W.cell? ⟨b, o, none⟩)
    (first | assumption | exact S_of (Below.drew (Below.refl _ _)) | exact S_alloc (by assumption) _)
    (first
      | (go_at_call 25; (with_reducible refine (compare2_calls _ _ _).mono ?_); rintro e w1 ⟨rfl, rfl⟩)
      | (go_at_call 34; (with_reducible refine (compare_calls _ _ _).mono ?_); rintro e w1 ⟨rfl, rfl⟩)
      | (go_at_call 35; (with_reducible refine (scompare_calls _ _ _).mono ?_); rintro e w1 ⟨rfl, rfl⟩)
      | (go_at_call 33; refine (or_calls3 (cmpS a.kind b.kind) (cmpS a.int b.int) (Lib.compareBytes (bytes a.text) (bytes b.text)) _ _ (by go_simp) (by go_simp) (by go_simp)).mono ?_; rintro e w1 ⟨rfl, rfl⟩))
  rename_i hH
  have H := Lib.hid (Hbw.out.trans (hH.1.mono Hbw.out.size))
  clear hH v1 v2 u1 u2
  go_wp2
  go_ret
  exact ⟨rfl, H.out⟩
end Go.Proofs.Ytodabeibdgancaa
/- The program's comparison of rows. -/
namespace Go.Proofs.Ytodabeibdgancaa
open Go.RowKit

theorem cmpR_step {R S : Rw} {k : Nat} (h1 : k < R.length) (h2 : k < S.length) : cmpR (R.drop k) (S.drop k) = if cmpV R[k] S[k] = 0 then cmpR (R.drop (k + 1)) (S.drop (k + 1)) else cmpV R[k] S[k] := by
  rw [List.drop_eq_getElem_cons h1, List.drop_eq_getElem_cons h2, cmpR]
theorem cmpR_long {R S : Rw} {k : Nat} (h1 : k < R.length) (h2 : S.length ≤ k) : cmpR (R.drop k) (S.drop k) = 1 := by
  rw [List.drop_eq_getElem_cons h1, List.drop_of_length_le h2, cmpR]
theorem cmpR_short {R S : Rw} {k : Nat} (h1 : R.length ≤ k) (h2 : k < S.length) : cmpR (R.drop k) (S.drop k) = -1 := by
  rw [List.drop_eq_getElem_cons h2, List.drop_of_length_le h1, cmpR]
theorem cmpR_both {R S : Rw} {k : Nat} (h1 : R.length ≤ k) (h2 : S.length ≤ k) : cmpR (R.drop k) (S.drop k) = 0 := by
  rw [List.drop_of_length_le h1, List.drop_of_length_le h2, cmpR]

set_option maxHeartbeats 2000000 in
/-- slices.CompareFunc at value.Compare. -/
theorem compareFunc_calls (R S : Rw) (r s : Value) (w : World) (hr : ValsAt w R r) (hs : ValsAt w S s) : Calls Try.prog 38 #[r, s, .func (.func 20) #[] #[]] w fun e w' => e = .returned (.int .i64 (cmpR R S)) ∧ Below w.heap.size w w' := by
  obtain ⟨a, n, c, rfl, hn, hm⟩ := hr.shape
  obtain ⟨a', n', c', rfl, hn', hm'⟩ := hs.shape
  unfold maxLen at hm hm'
  have Hr := Lib.hid hr
  have Hs := Lib.hid hs
  have Hn := Lib.hid hn
  have Hn' := Lib.hid hn'
  clear hr hs hn hn'
  go_enter Try.func38, Try.ntmps38
  go_wp2
  go_loopw [13] (fun i wr => ∃ k : Nat, k ≤ n ∧ k ≤ n' ∧ i = .int .i64 k ∧ RowKit.Hid (cmpR R S = cmpR (R.drop k) (S.drop k)) ∧ RowKit.Hid (Below w.heap.size w wr)) (fun i _ => n - (intOf i).toNat)
  case atStart => exact ⟨0, Nat.zero_le _, Nat.zero_le _, rfl, rfl, Below.refl _ _⟩
  case round =>
    obtain ⟨k, hk, hk', rfl, He, Hb⟩ := hrel
    by_cases hlt : k < n
    · have hk1 : k < R.length := by have := Hn.out; omega
      obtain ⟨b, o, rfl⟩ := Hr.out.has k hlt
      obtain ⟨c0, c1, c2⟩ := (Hr.out.mono Hb.out).cell k hk1
      have hbl := (Hr.out.mono Hb.out).lt hk1
      by_cases hlt' : k < n'
      · have hk2 : k < S.length := by have := Hn'.out; omega
        obtain ⟨b', o', rfl⟩ := Hs.out.has k hlt'
        obtain ⟨d0, d1, d2⟩ := (Hs.out.mono Hb.out).cell k hk2
        have hbl' := (Hs.out.mono Hb.out).lt hk2
        have Hst := Lib.hid (cmpR_step hk1 hk2)
        have HC := Lib.hid (fun w' => cmpV_calls R[k] S[k] w')
        have Hb0 : RowKit.Hid (∀ o o', Below w.heap.size w ((wr.alloc o).alloc o')) := fun o o' => (Hb.out.alloc Hb.out.size o).alloc (by have := Hb.out.size; simp; omega) o'
        have V1 : RowKit.Hid (∀ c, VarIs (wr.alloc (.cells c 26)) wr.heap.size c) := fun c => VarIs.new wr c 26
        generalize R[k] = x at *
        generalize S[k] = y at *
        clear hk1 hk2
        go_wp2_with fail
        refine (HC.out _).mono ?_
        rintro e w1 ⟨rfl, hb1⟩
        have Hb1 := Lib.hid ((Hb0.out _ _).trans (hb1.mono (Hb0.out _ _).size))
        clear hb1 c0 c1 c2 d0 d1 d2
        by_cases h0 : cmpV x y = 0
        · have b0 : (cmpV x y != 0) = false := by simp [h0]
          have Hnext : RowKit.Hid (cmpR R S = cmpR (R.drop (k + 1)) (S.drop (k + 1))) := by show _ = _; rw [He.out, Hst.out, if_pos h0]
          clear h0
          go_wp2
          go_roundw
          case rel => exact ⟨k + 1, by omega, by omega, by go_num, Hnext, Hb1⟩
          case measure => simp [intOf]; omega
        · have b0 : (cmpV x y != 0) = true := by simp [h0]
          have Hnext : RowKit.Hid (cmpR R S = cmpV x y) := by show _ = _; rw [He.out, Hst.out, if_neg h0]
          clear h0
          go_wp2
          go_ret
          exact ⟨by rw [Hnext.out]; rfl, Hb1.out⟩
      · have Hres : RowKit.Hid (cmpR R S = 1) := by show _ = _; rw [He.out, cmpR_long hk1 (by have := Hn'.out; omega)]
        have hge : n' ≤ k := by omega
        have Hb0 : RowKit.Hid (∀ o, Below w.heap.size w (wr.alloc o)) := fun o => Hb.out.alloc Hb.out.size o
        generalize R[k] = x at *
        clear hk1 hlt'
        go_wp2
        go_ret
        exact ⟨by rw [Hres.out]; rfl, Hb0.out _⟩
    · obtain rfl : k = n := by omega
      by_cases hlt' : k < n'
      · have Hres : RowKit.Hid (cmpR R S = -1) := by show _ = _; rw [He.out, cmpR_short (by have := Hn.out; omega) (by have := Hn'.out; omega)]
        go_wp2
        go_ret
        exact ⟨by rw [Hres.out]; rfl, Hb.out⟩
      · have Hres : RowKit.Hid (cmpR R S = 0) := by show _ = _; rw [He.out, cmpR_both (by have := Hn.out; omega) (by have := Hn'.out; omega)]
        go_wp2
        go_ret
        exact ⟨by rw [Hres.out]; rfl, Hb.out⟩
/-- value.CompareRows. -/
theorem compareRows_calls (R S : Rw) (r s : Value) (w : World) (hr : ValsAt w R r) (hs : ValsAt w S s) : Calls Try.prog 26 #[r, s] w fun e w' => e = .returned (.int .i64 (cmpR R S)) ∧ Below w.heap.size w w' := by
  have H := Lib.hid (compareFunc_calls R S r s w hr hs)
  clear hr hs
  go_enter Try.func26, Try.ntmps26
  go_wp2_with fail
  refine H.out.mono ?_
  rintro e w1 ⟨rfl, hb1⟩
  have Hb1 := Lib.hid hb1
  clear hb1
  go_wp2
  go_ret
  exact ⟨rfl, Hb1.out⟩
end Go.Proofs.Ytodabeibdgancaa
/- The reference's comparisons: of numbers, texts, values, rows. -/
namespace Go.Proofs.Ytodabeibdgancaa
open Go.RowKit

theorem ints_calls (a b : Int) (w : World) : Calls Try.prog 50 #[.int .i64 a, .int .i64 b] w fun e w' => e = .returned (.int .i64 (cmpS a b)) ∧ w = w' := by
  unfold cmpS
  go_enter Try.func50, Try.ntmps50
  go_wp2
  all_goals go_ret
  all_goals exact ⟨by simp [*], rfl⟩

theorem cmpB_step {a b : List UInt8} {k : Nat} (h1 : k < a.length) (h2 : k < b.length) : Lib.compareBytes (a.drop k) (b.drop k) = if a[k] = b[k] then Lib.compareBytes (a.drop (k + 1)) (b.drop (k + 1)) else cmpS a[k].toNat b[k].toNat := by
  rw [List.drop_eq_getElem_cons h1, List.drop_eq_getElem_cons h2, Lib.compareBytes]
  unfold cmpS
  by_cases h : a[k] = b[k]
  · have : ¬ b[k] < b[k] := UInt8.lt_irrefl _
    simp [h, this]
  · have hne : a[k].toNat ≠ b[k].toNat := fun e => h (UInt8.toNat_inj.1 e)
    simp only [UInt8.lt_iff_toNat_lt, h, if_false]
    by_cases h3 : a[k].toNat < b[k].toNat
    · have : (a[k].toNat : Int) < b[k].toNat := by omega
      simp [h3, this]
    · have h4 : b[k].toNat < a[k].toNat := by omega
      have h5 : ¬ (a[k].toNat : Int) < b[k].toNat := by omega
      have h6 : (b[k].toNat : Int) < a[k].toNat := by omega
      simp [h3, h4, h5, h6]
theorem cmpB_end {a b : List UInt8} {k : Nat} (h : a.length ≤ k ∨ b.length ≤ k) (h1 : k ≤ a.length) (h2 : k ≤ b.length) : Lib.compareBytes (a.drop k) (b.drop k) = cmpS a.length b.length := by
  unfold cmpS
  by_cases h3 : a.length ≤ k
  · rw [List.drop_of_length_le h3]
    by_cases h4 : b.length ≤ k
    · rw [List.drop_of_length_le h4]
      have e : a.length = b.length := by omega
      simp [Lib.compareBytes, e]
    · rw [List.drop_eq_getElem_cons (by omega), Lib.compareBytes]
      have : (a.length : Int) < b.length := by omega
      simp [this]
  · have h4 : b.length ≤ k := by omega
    rw [List.drop_of_length_le h4, List.drop_eq_getElem_cons (by omega), Lib.compareBytes]
    have h5 : ¬ (a.length : Int) < b.length := by omega
    have h6 : (b.length : Int) < a.length := by omega
    simp [h5, h6]

set_option maxHeartbeats 2000000 in
set_option maxRecDepth 20000 in
theorem texts_calls (a b : ByteArray) (w : World) (ha : a.size ≤ maxLen) : Calls Try.prog 51 #[.string a, .string b] w fun e w' => e = .returned (.int .i64 (Lib.compareBytes (bytes a) (bytes b))) ∧ Below w.heap.size w w' := by
  unfold maxLen at ha
  have La : RowKit.Hid ((bytes a).length = a.size) := by show _ = _; simp [bytes]
  have Lb : RowKit.Hid ((bytes b).length = b.size) := by show _ = _; simp [bytes]
  go_enter Try.func51, Try.ntmps51
  go_wp2
  go_loopw [5] (fun i wr => ∃ k : Nat, k ≤ a.size ∧ k ≤ b.size ∧ i = .int .i64 k ∧ RowKit.Hid (Lib.compareBytes (bytes a) (bytes b) = Lib.compareBytes ((bytes a).drop k) ((bytes b).drop k)) ∧ RowKit.Hid (Below w.heap.size w wr)) (fun i _ => a.size - (intOf i).toNat)
  case atStart => exact ⟨0, Nat.zero_le _, Nat.zero_le _, rfl, rfl, Below.refl _ _⟩
  case round =>
    obtain ⟨k, hk, hk', rfl, He, Hb⟩ := hrel
    by_cases hlt : k < a.size ∧ k < b.size
    · obtain ⟨h1, h2⟩ := hlt
      have Hst := Lib.hid (cmpB_step (a := bytes a) (b := bytes b) (k := k) (by rw [La.out]; exact h1) (by rw [Lb.out]; exact h2))
      have ea : (bytes a)[k]'(by rw [La.out]; exact h1) = (a[k]'h1) := rfl
      have eb : (bytes b)[k]'(by rw [Lb.out]; exact h2) = (b[k]'h2) := rfl
      rw [ea, eb] at Hst
      have hx : ((a[k]'h1).toNat : Int) < 256 := by have := UInt8.toNat_lt (a[k]'h1); omega
      have hy : ((b[k]'h2).toNat : Int) < 256 := by have := UInt8.toNat_lt (b[k]'h2); omega
      have i1 : (0 : Int) ≤ k := by omega
      have i2 : (k : Int) < a.size := by omega
      have i3 : (k : Int) < b.size := by omega
      have m1 : IntKind.i64.wrap ((a[k]'h1).toNat : Int) = (a[k]'h1).toNat := IntWalk.i64_in _ (by omega)
      have m2 : IntKind.i64.wrap ((b[k]'h2).toNat : Int) = (b[k]'h2).toNat := IntWalk.i64_in _ (by omega)
      clear ea eb
      go_upto_region 4 with (fail)
      go_cut [24] (fun x wx => x = .bool (((a[k]'h1).toNat : Int) != (b[k]'h2).toNat) ∧ RowKit.Hid (Below w.heap.size w wx))
      case first =>
        go_region_held3 (fun w' => Below wr.heap.size wr w') (first | assumption | exact Below.drew (Below.refl _ _)) (fail)
        all_goals
          rename_i hH
          have Hb1 := Lib.hid (Hb.out.trans (hH.mono Hb.out.size))
          clear hH
          go_wp2_with fail
          go_meet
          exact ⟨rfl, Hb1⟩
      obtain ⟨rfl, Hb1⟩ := hcut
      by_cases he : (a[k]'h1) = (b[k]'h2)
      · have hne : (((a[k]'h1).toNat : Int) != (b[k]'h2).toNat) = false := by simp [he]
        have Hnext : RowKit.Hid (Lib.compareBytes (bytes a) (bytes b) = Lib.compareBytes ((bytes a).drop (k + 1)) ((bytes b).drop (k + 1))) := by show _ = _; rw [He.out, Hst.out, if_pos he]
        clear he m1 m2 hx hy
        go_wp2
        go_roundw
        case rel => exact ⟨k + 1, by omega, by omega, by go_num, Hnext, Hb1⟩
        case measure => simp [intOf]; omega
      · have hne : (((a[k]'h1).toNat : Int) != (b[k]'h2).toNat) = true := by
          have : (a[k]'h1).toNat ≠ (b[k]'h2).toNat := fun e => he (UInt8.toNat_inj.1 e)
          simp; omega
        have Hnext : RowKit.Hid (Lib.compareBytes (bytes a) (bytes b) = cmpS (a[k]'h1).toNat (b[k]'h2).toNat) := by show _ = _; rw [He.out, Hst.out, if_neg he]
        have Hm1 := Lib.hid m1
        have Hm2 := Lib.hid m2
        clear he m1 m2 hx hy
        go_upto_region 5 with (fail)
        have m1 := Hm1.out
        have m2 := Hm2.out
        go_region_held3 (fun w' => Below wc.heap.size wc w') (first | assumption | exact Below.drew (Below.refl _ _))
          (first | (go_at_call 50; refine (ints_calls _ _ _).mono ?_; rintro e w' ⟨rfl, rfl⟩))
        all_goals
          rename_i hH
          have Hb2 := Lib.hid (Hb1.out.trans (hH.mono Hb1.out.size))
          clear hH m1 m2
          go_wp2
          go_ret
          exact ⟨by rw [Hnext.out]; rfl, Hb2.out⟩
    · have Hend : RowKit.Hid (Lib.compareBytes (bytes a) (bytes b) = cmpS a.size b.size) := by
        show _ = _
        rw [He.out, cmpB_end (by rw [La.out, Lb.out]; omega) (by rw [La.out]; omega) (by rw [Lb.out]; omega), La.out, Lb.out]
      by_cases h1 : k < a.size
      · have h2 : b.size ≤ k := by omega
        clear hlt
        go_wp2_with (first | (go_at_call 50; refine (ints_calls _ _ _).mono ?_; rintro e w' ⟨rfl, rfl⟩))
        go_ret
        exact ⟨by rw [Hend.out]; rfl, Hb.out⟩
      · have h2 : a.size ≤ k := by omega
        clear hlt
        go_wp2_with (first | (go_at_call 50; refine (ints_calls _ _ _).mono ?_; rintro e w' ⟨rfl, rfl⟩))
        go_ret
        exact ⟨by rw [Hend.out]; rfl, Hb.out⟩

/-- The reference's Compare. -/
theorem rcmp_calls (a b : Vl) (w : World) (ha : a.text.size ≤ maxLen) : Calls Try.prog 40 #[.agg #[.int .i64 a.kind, .int .i64 a.int, .string a.text], .agg #[.int .i64 b.kind, .int .i64 b.int, .string b.text]] w fun e w' => e = .returned (.int .i64 (cmpV a b)) ∧ Below w.heap.size w w' := by
  have Hb0 : RowKit.Hid (∀ o o', Below w.heap.size w ((w.alloc o).alloc o')) := fun o o' => ((Below.refl _ _).alloc (Nat.le_refl _) o).alloc (by simp) o'
  have Hd : RowKit.Hid (cmpV a b = orS (cmpS a.kind b.kind) (orS (cmpS a.int b.int) (Lib.compareBytes (bytes a.text) (bytes b.text)))) := rfl
  by_cases h1 : a.kind = b.kind
  · have b1 : (a.kind != b.kind) = false := by simp [h1]
    have e1 : cmpS a.kind b.kind = 0 := cmpS_zero.2 h1
    by_cases h2 : a.int = b.int
    · have b2 : (a.int != b.int) = false := by simp [h2]
      have Hr : RowKit.Hid (cmpV a b = Lib.compareBytes (bytes a.text) (bytes b.text)) := by show _ = _; rw [Hd.out, e1, cmpS_zero.2 h2]; rfl
      clear h1 h2 e1
      go_enter Try.func40, Try.ntmps40
      go_wp2_with fail
      refine (texts_calls _ _ _ ha).mono ?_
      rintro e w1 ⟨rfl, hb1⟩
      have Hb1 := Lib.hid ((Hb0.out _ _).trans (hb1.mono (Hb0.out _ _).size))
      clear hb1
      go_wp2
      go_ret
      exact ⟨by rw [Hr.out]; rfl, Hb1.out⟩
    · have b2 : (a.int != b.int) = true := by simp [h2]
      have e2 : ¬ cmpS a.int b.int = 0 := fun h => h2 (cmpS_zero.1 h)
      have Hr : RowKit.Hid (cmpV a b = cmpS a.int b.int) := by show _ = _; rw [Hd.out, e1]; unfold orS; rw [if_pos rfl, if_neg e2]
      clear h1 h2 e1 e2
      go_enter Try.func40, Try.ntmps40
      go_wp2_with fail
      refine (ints_calls _ _ _).mono ?_
      rintro e w1 ⟨rfl, rfl⟩
      go_wp2
      go_ret
      exact ⟨by rw [Hr.out]; rfl, Hb0.out _ _⟩
  · have b1 : (a.kind != b.kind) = true := by simp [h1]
    have e1 : ¬ cmpS a.kind b.kind = 0 := fun h => h1 (cmpS_zero.1 h)
    have Hr : RowKit.Hid (cmpV a b = cmpS a.kind b.kind) := by show _ = _; rw [Hd.out]; unfold orS; rw [if_neg e1]
    clear h1 e1
    go_enter Try.func40, Try.ntmps40
    go_wp2_with fail
    refine (ints_calls _ _ _).mono ?_
    rintro e w1 ⟨rfl, rfl⟩
    go_wp2
    go_ret
    exact ⟨by rw [Hr.out]; rfl, Hb0.out _ _⟩

theorem cmpR_end {R S : Rw} {k : Nat} (h : R.length ≤ k ∨ S.length ≤ k) (h1 : k ≤ R.length) (h2 : k ≤ S.length) : cmpR (R.drop k) (S.drop k) = cmpS R.length S.length := by
  unfold cmpS
  by_cases h3 : R.length ≤ k
  · by_cases h4 : S.length ≤ k
    · rw [cmpR_both h3 h4]
      have e : R.length = S.length := by omega
      simp [e]
    · rw [cmpR_short h3 (by omega)]
      have : (R.length : Int) < S.length := by omega
      simp [this]
  · rw [cmpR_long (by omega) (by omega)]
    have h5 : ¬ (R.length : Int) < S.length := by omega
    have h6 : (S.length : Int) < R.length := by omega
    simp [h5, h6]

set_option maxHeartbeats 4000000 in
set_option maxRecDepth 20000 in
/-- The reference's Rows. -/
theorem rrows_calls (R S : Rw) (r s : Value) (w : World) (hr : ValsAt w R r) (hs : ValsAt w S s) : Calls Try.prog 39 #[r, s] w fun e w' => e = .returned (.int .i64 (cmpR R S)) ∧ Below w.heap.size w w' := by
  obtain ⟨a, n, c, rfl, hn, hm⟩ := hr.shape
  obtain ⟨a', n', c', rfl, hn', hm'⟩ := hs.shape
  unfold maxLen at hm hm'
  have Hr := Lib.hid hr
  have Hs := Lib.hid hs
  have Hn := Lib.hid hn
  have Hn' := Lib.hid hn'
  clear hr hs hn hn'
  go_enter Try.func39, Try.ntmps39
  go_wp2
  go_loopw [5] (fun i wr => ∃ k : Nat, k ≤ n ∧ k ≤ n' ∧ i = .int .i64 k ∧ RowKit.Hid (cmpR R S = cmpR (R.drop k) (S.drop k)) ∧ RowKit.Hid (Below w.heap.size w wr)) (fun i _ => n - (intOf i).toNat)
  case atStart => exact ⟨0, Nat.zero_le _, Nat.zero_le _, rfl, rfl, Below.refl _ _⟩
  case round =>
    obtain ⟨k, hk, hk', rfl, He, Hb⟩ := hrel
    by_cases hlt : k < n ∧ k < n'
    · obtain ⟨h1, h2⟩ := hlt
      have hk1 : k < R.length := by have := Hn.out; omega
      have hk2 : k < S.length := by have := Hn'.out; omega
      obtain ⟨b, o, rfl⟩ := Hr.out.has k h1
      obtain ⟨c0, c1, c2⟩ := (Hr.out.mono Hb.out).cell k hk1
      have hbl := (Hr.out.mono Hb.out).lt hk1
      obtain ⟨b', o', rfl⟩ := Hs.out.has k h2
      obtain ⟨d0, d1, d2⟩ := (Hs.out.mono Hb.out).cell k hk2
      have hbl' := (Hs.out.mono Hb.out).lt hk2
      have Hst := Lib.hid (cmpR_step hk1 hk2)
      have HC := Lib.hid (fun w' => rcmp_calls R[k] S[k] w' (Hr.out.txt _ (List.getElem_mem hk1)))
      generalize R[k] = x at *
      generalize S[k] = y at *
      clear hk1 hk2
      have i1 : (0 : Int) ≤ k := by omega
      have i2 : (k : Int) < n := by omega
      have i3 : (k : Int) < n' := by omega
      go_upto_region 4 with (fail)
      go_cut [6] (fun z wx => z = .int .i64 (cmpV x y) ∧ RowKit.Hid (Below w.heap.size w wx))
      case first =>
        go_region_held3 (fun w' => Below wr.heap.size wr w' ∧ ∀ b o, b < wr.heap.size → w'.cell? ⟨b, o, none⟩ = wr.cell? ⟨b, o, none⟩)
          (first | assumption | exact S_of (Below.drew (Below.refl _ _)) | exact S_step (by assumption) (by assumption))
          (first | (go_at_call 40; (with_reducible refine (HC.out _).mono ?_); rintro e w1 ⟨rfl, hb1⟩))
        all_goals
          rename_i hH
          have Hb1 := Lib.hid (Hb.out.trans (hH.1.mono Hb.out.size))
          clear hH
          go_wp2_with fail
          go_meet
          exact ⟨rfl, Hb1⟩
      obtain ⟨rfl, Hb1⟩ := hcut
      clear c0 c1 c2 d0 d1 d2 i1 i2 i3
      by_cases h0 : cmpV x y = 0
      · have b0 : (cmpV x y != 0) = false := by simp [h0]
        have Hnext : RowKit.Hid (cmpR R S = cmpR (R.drop (k + 1)) (S.drop (k + 1))) := by show _ = _; rw [He.out, Hst.out, if_pos h0]
        clear h0
        go_wp2
        go_roundw
        case rel => exact ⟨k + 1, by omega, by omega, by go_num, Hnext, Hb1⟩
        case measure => simp [intOf]; omega
      · have b0 : (cmpV x y != 0) = true := by simp [h0]
        have Hnext : RowKit.Hid (cmpR R S = cmpV x y) := by show _ = _; rw [He.out, Hst.out, if_neg h0]
        clear h0
        go_wp2
        go_ret
        exact ⟨by rw [Hnext.out]; rfl, Hb1.out⟩
    · have Hend : RowKit.Hid (cmpR R S = cmpS n n') := by
        show _ = _
        have e1 := Hn.out
        have e2 := Hn'.out
        rw [He.out, cmpR_end (by omega) (by omega) (by omega), e1, e2]
      by_cases h1 : k < n
      · have h2 : n' ≤ k := by omega
        clear hlt
        go_wp2_with (first | (go_at_call 50; refine (ints_calls _ _ _).mono ?_; rintro e w' ⟨rfl, rfl⟩))
        go_ret
        exact ⟨by rw [Hend.out]; rfl, Hb.out⟩
      · have h2 : n ≤ k := by omega
        clear hlt
        go_wp2_with (first | (go_at_call 50; refine (ints_calls _ _ _).mono ?_; rintro e w' ⟨rfl, rfl⟩))
        go_ret
        exact ⟨by rw [Hend.out]; rfl, Hb.out⟩

/-- The reference's Same (of two rows). -/
theorem rsame_calls (R S : Rw) (r s : Value) (w : World) (hr : ValsAt w R r) (hs : ValsAt w S s) : Calls Try.prog 27 #[r, s] w fun e w' => e = .returned (.bool (decide (R = S))) ∧ Below w.heap.size w w' := by
  have H := Lib.hid (rrows_calls R S r s w hr hs)
  have He : RowKit.Hid (decide (R = S) = (cmpR R S == 0)) := by
    show _ = _
    rw [Bool.eq_iff_iff]
    simp [cmpR_zero]
  clear hr hs
  go_enter Try.func27, Try.ntmps27
  go_wp2_with fail
  refine H.out.mono ?_
  rintro e w1 ⟨rfl, hb1⟩
  have Hb1 := Lib.hid hb1
  clear hb1
  go_wp2
  go_ret
  exact ⟨by rw [He.out]; rfl, Hb1.out⟩
end Go.Proofs.Ytodabeibdgancaa
/- Lists of rows in memory. -/
namespace Go.Proofs.Ytodabeibdgancaa
open Go.RowKit

/-- The values are slices of the rows. -/
inductive RowVs (w : World) : List Rw → List Value → Prop
  | nil : RowVs w [] []
  | cons {r : Rw} {x : Value} {L : List Rw} {xs : List Value} : ValsAt w r x → RowVs w L xs → RowVs w (r :: L) (x :: xs)
theorem RowVs.mono {w w' : World} {L : List Rw} {xs : List Value} (h : RowVs w L xs) (hb : Below w.heap.size w w') : RowVs w' L xs := by
  induction h with
  | nil => exact .nil
  | cons h1 _ ih => exact .cons (h1.mono hb) ih
theorem RowVs.length {w : World} {L : List Rw} {xs : List Value} (h : RowVs w L xs) : xs.length = L.length := by
  induction h with
  | nil => rfl
  | cons _ _ ih => simp [ih]
theorem RowVs.append {w : World} {L M : List Rw} {xs ys : List Value} (h : RowVs w L xs) (h' : RowVs w M ys) : RowVs w (L ++ M) (xs ++ ys) := by
  induction h with
  | nil => exact h'
  | cons h1 _ ih => exact .cons h1 ih
theorem RowVs.one {w : World} {r : Rw} {x : Value} (h : ValsAt w r x) : RowVs w [r] [x] := .cons h .nil
theorem RowVs.get {w : World} {L : List Rw} {xs : List Value} (h : RowVs w L xs) (i : Nat) (hi : i < L.length) : ∃ x, xs[i]? = some x ∧ ValsAt w L[i] x := by
  induction h generalizing i with
  | nil => simp at hi
  | cons h1 _ ih =>
    cases i with
    | zero => exact ⟨_, rfl, h1⟩
    | succ i => exact ih i (by simpa using hi)
theorem RowVs.one' {w : World} {L : List Rw} {xs : List Value} (h : RowVs w L xs) : ∀ u ∈ xs, u.oneCell' = true := by
  induction h with
  | nil => simp
  | cons h1 _ ih =>
    intro u hu
    rcases List.mem_cons.1 hu with rfl | hu
    · obtain ⟨a, n, c, rfl, _⟩ := h1.shape
      rfl
    · exact ih u hu

/-- A list of rows lies at the slice. -/
inductive RowsAt (w : World) : List Rw → Value → Prop where
  | mt {a : Option Addr} : RowsAt w [] (.slice a 0 0)
  | lie (L : List Rw) (xs : List Value) (b o n cap : Nat) (hn : n = L.length) (hlt : b < w.heap.size) (hm : n ≤ maxLen)
      (hc : ∀ i x, xs[i]? = some x → w.cell? ⟨b, o + i, none⟩ = some x) (hx : RowVs w L xs) : RowsAt w L (.slice (some ⟨b, o, none⟩) n cap)
theorem RowsAt.mono {w w' : World} {L : List Rw} {s : Value} (h : RowsAt w L s) (hb : Below w.heap.size w w') : RowsAt w' L s := by
  cases h with
  | mt => exact .mt
  | lie _ xs b o n cap hn hlt hm hc hx => exact .lie _ xs b o n cap hn (Nat.lt_of_lt_of_le hlt hb.size) hm (fun i x hi => (hb.cell hlt).trans (hc i x hi)) (hx.mono hb)
theorem RowsAt.shape {w : World} {L : List Rw} {s : Value} (h : RowsAt w L s) : ∃ a n c, s = .slice a n c ∧ n = L.length ∧ n ≤ maxLen := by
  cases h with
  | mt => exact ⟨_, _, _, rfl, rfl, by simp⟩
  | lie _ xs b o n cap hn hlt hm hc => exact ⟨_, _, _, rfl, hn, hm⟩
theorem RowsAt.has {w : World} {L : List Rw} {a : Option Addr} {n c : Nat} (h : RowsAt w L (.slice a n c)) (i : Nat) (hi : i < n) : ∃ b o, a = some ⟨b, o, none⟩ := by
  cases h with
  | mt => omega
  | lie _ xs b o => exact ⟨b, o, rfl⟩
theorem RowsAt.cell {w : World} {L : List Rw} {b o n c : Nat} (h : RowsAt w L (.slice (some ⟨b, o, none⟩) n c)) (i : Nat) (hi : i < L.length) :
    ∃ x, w.cell? ⟨b, o + i, none⟩ = some x ∧ ValsAt w L[i] x := by
  cases h with
  | mt => simp at hi
  | lie _ xs _ _ _ _ hn hlt hm hc hx =>
    obtain ⟨x, h1, h2⟩ := hx.get i hi
    exact ⟨x, hc i x h1, h2⟩
theorem RowsAt.lt {w : World} {L : List Rw} {b o n c : Nat} (h : RowsAt w L (.slice (some ⟨b, o, none⟩) n c)) {i : Nat} (hi : i < L.length) : b < w.heap.size := by
  obtain ⟨x, hx, _⟩ := h.cell i hi
  exact World.block_lt_of_cell? w _ hx

/-- A row lies below B or in a block of values: no append to a list of rows that is not older than B turns it. -/
def Far (w : World) (B : Nat) (x : Value) : Prop := ∀ (ad : Addr) (n c : Nat), x = .slice (some ad) n c → 0 < n → ad.block < B ∨ ∃ cur fr, w.heap[ad.block]? = some (.cells cur 26 fr)
theorem Far.mono {w w' : World} {B : Nat} {x : Value} {r : Rw} (h : Far w B x) (_hv : ValsAt w r x) (hb : Below w.heap.size w w') : Far w' B x := by
  intro ad n c hx hn
  rcases h ad n c hx hn with h | ⟨cur, fr, h⟩
  · exact .inl h
  · exact .inr ⟨cur, fr, (hb.block _ (Array.getElem?_eq_some_iff.1 h).1).trans h⟩
theorem Far.low {w : World} {x : Value} {r : Rw} {B : Nat} (h : ValsAt w r x) (hB : w.heap.size ≤ B) (w' : World) : Far w' B x := by
  intro ad n c hx hn
  cases h with
  | mt => injection hx with h1 h2 h3; omega
  | lie _ b o n' cap hn' hlt => injection hx with h1 h2 h3; injection h1 with h1; subst h1; exact .inl (Nat.lt_of_lt_of_le hlt hB)
theorem ValsAt.grown {w w' : World} {B : Nat} {r : Rw} {x v : Value} {n : Nat} {xs : List Value} (h : ValsAt w r x) (hf : Far w B x) (hv : w.ownsRow B 61 1 v n xs) (hg : w.grownBy w' v.ownBlock) : ValsAt w' r x ∧ Far w' B x := by
  have hne : ∀ (ad : Addr) (n c : Nat), x = .slice (some ad) n c → 0 < n → some ad.block ≠ v.ownBlock := by
    intro ad n' c hx hn' e
    have h1 := hv.lt ad.block e.symm
    rcases hf ad n' c hx hn' with h2 | ⟨cur, fr, h2⟩
    · omega
    · rcases hv.2 with ⟨rfl, _⟩ | ⟨g, cap, cur', rfl, _, hg', _⟩
      · simp [Value.ownBlock] at e
      · simp only [Value.ownBlock, Option.some.injEq] at e
        rw [e, hg'] at h2
        injection h2 with h2
        injection h2 with h3 h4
        exact absurd h4 (by decide)
  cases h with
  | mt =>
    refine ⟨.mt, ?_⟩
    intro ad n' c hx hn'
    injection hx with _ h2
    omega
  | lie _ b o n' cap hn hlt hm hc ht =>
    by_cases h0 : 0 < n'
    · have hk := hne ⟨b, o, none⟩ n' cap rfl h0
      refine ⟨.lie _ b o n' cap hn (Nat.lt_of_lt_of_le hlt hg.size) hm (fun i hi j hj => ?_) ht, ?_⟩
      · exact (World.cell?_of_block (a := ⟨b, o + i * 3 + j, none⟩) (hg.block b hlt hk)).trans (hc i hi j hj)
      · intro ad n2 c2 hx hn2
        rcases hf ad n2 c2 hx hn2 with h2 | ⟨cur, fr, h2⟩
        · exact .inl h2
        · injection hx with hx1
          injection hx1 with hx1
          subst hx1
          exact .inr ⟨cur, fr, (hg.block b hlt hk).trans h2⟩
    · have h0' : r = [] := by
        cases r with
        | nil => rfl
        | cons => simp at hn; omega
      have h0n : n' = 0 := by omega
      subst h0' h0n
      refine ⟨.lie _ b o 0 cap rfl (Nat.lt_of_lt_of_le hlt hg.size) hm (fun i hi => by simp at hi) ht, ?_⟩
      intro ad n2 c2 hx hn2
      injection hx with _ h2
      omega
theorem RowVs.grown {w w' : World} {B : Nat} {L : List Rw} {ys : List Value} {v : Value} {n : Nat} {xs : List Value} (h : RowVs w L ys) (hf : ∀ x ∈ ys, Far w B x) (hv : w.ownsRow B 61 1 v n xs) (hg : w.grownBy w' v.ownBlock) : RowVs w' L ys ∧ ∀ x ∈ ys, Far w' B x := by
  induction h with
  | nil => exact ⟨.nil, by simp⟩
  | cons h1 _ ih =>
    have h2 := ih fun x hx => hf x (List.mem_cons_of_mem _ hx)
    have h3 := h1.grown (hf _ (by simp)) hv hg
    refine ⟨.cons h3.1 h2.1, fun x hx => ?_⟩
    rcases List.mem_cons.1 hx with rfl | hx
    · exact h3.2
    · exact h2.2 x hx
theorem RowVs.far {w w' : World} {B : Nat} {L : List Rw} {ys : List Value} (h : RowVs w L ys) (hf : ∀ x ∈ ys, Far w B x) (hb : Below w.heap.size w w') : ∀ x ∈ ys, Far w' B x := by
  induction h with
  | nil => simp
  | cons h1 _ ih =>
    intro x hx
    rcases List.mem_cons.1 hx with rfl | hx
    · exact (hf _ (by simp)).mono h1 hb
    · exact ih (fun x hx => hf x (List.mem_cons_of_mem _ hx)) x hx
theorem RowVs.low {w : World} {B : Nat} {L : List Rw} {ys : List Value} (h : RowVs w L ys) (hB : w.heap.size ≤ B) (w' : World) : ∀ x ∈ ys, Far w' B x := by
  induction h with
  | nil => simp
  | cons h1 _ ih =>
    intro x hx
    rcases List.mem_cons.1 hx with rfl | hx
    · exact Far.low h1 hB w'
    · exact ih x hx

theorem RowsAt.row {w : World} {L : List Rw} {b o n c : Nat} (h : RowsAt w L (.slice (some ⟨b, o, none⟩) n c)) (k : Nat) (hk : k < L.length) :
    ∃ ax nx cx, RowKit.Hid (∀ w', Below w.heap.size w w' → w'.cell? ⟨b, o + k, none⟩ = some (.slice ax nx cx) ∧ ValsAt w' L[k] (.slice ax nx cx) ∧ b < w'.heap.size) ∧ RowKit.Hid (∀ w', Far w' w.heap.size (.slice ax nx cx)) := by
  obtain ⟨x, hc, hx⟩ := h.cell k hk
  obtain ⟨ax, nx, cx, rfl, _, _⟩ := hx.shape
  exact ⟨ax, nx, cx, fun w' hb => ⟨(hb.cell (p := ⟨b, o + k, none⟩) (h.lt hk)).trans hc, hx.mono hb, Nat.lt_of_lt_of_le (h.lt hk) hb.size⟩, fun w' => Far.low hx (Nat.le_refl _) w'⟩
theorem ValsAt.far {w : World} {r : Rw} {x : Value} (h : ValsAt w r x) : RowKit.Hid (∀ w', Far w' w.heap.size x) := fun w' => Far.low h (Nat.le_refl _) w'

/-- A list of rows lies in a block of its own, none older than B. -/
def RowsOwn (w : World) (B : Nat) (L : List Rw) (s : Value) : Prop := ∃ xs, w.ownsRow B 61 1 s L.length xs ∧ RowVs w L xs ∧ ∀ x ∈ xs, Far w B x
theorem RowsOwn.mono {w w' : World} {B : Nat} {L : List Rw} {s : Value} (h : RowsOwn w B L s) (hb : Below w.heap.size w w') : RowsOwn w' B L s := by
  obtain ⟨xs, h1, h2, h3⟩ := h
  exact ⟨xs, own_below h1 hb, h2.mono hb, h2.far h3 hb⟩
theorem RowsOwn.alloc {w : World} {B : Nat} {L : List Rw} {s : Value} (h : RowsOwn w B L s) (o : Obj) : RowsOwn (w.alloc o) B L s := h.mono ((Below.refl _ _).alloc (Nat.le_refl _) o)
theorem ValsAt.alloc {w : World} {r : Rw} {s : Value} (h : ValsAt w r s) (o : Obj) : ValsAt (w.alloc o) r s := h.mono ((Below.refl _ _).alloc (Nat.le_refl _) o)
theorem RowsAt.alloc {w : World} {r : List Rw} {s : Value} (h : RowsAt w r s) (o : Obj) : RowsAt (w.alloc o) r s := h.mono ((Below.refl _ _).alloc (Nat.le_refl _) o)
theorem RowsOwn.at {w : World} {B : Nat} {L : List Rw} {s : Value} (h : RowsOwn w B L s) : RowsAt w L s := by
  obtain ⟨xs, ⟨_, ⟨rfl, h0⟩ | ⟨g, cap, cur, rfl, hb, hg, hn, hc, hs, ht⟩⟩, hx, _⟩ := h
  · cases L with
    | nil => exact .mt
    | cons => simp at h0
  · refine .lie L xs g 0 _ cap rfl (Array.getElem?_eq_some_iff.1 hg).1 (Nat.le_trans hn hc) (fun i x hi => ?_) hx
    have hl : i < L.length := by
      have := (List.getElem?_eq_some_iff.1 hi).1
      rw [hx.length] at this
      exact this
    have h0 := cell_of_row w g (i * 1) cur 61 (0, 0) hg
    simp only [Nat.mul_one] at h0
    rw [Nat.zero_add, h0]
    rw [← ht, List.getElem?_take, if_pos (by omega)] at hi
    simpa using hi
theorem RowsOwn.nil (w : World) (B : Nat) : RowsOwn w B [] (.slice none 0 0) := ⟨[], World.ownsRow_nil _ _ _ _, .nil, by simp⟩
theorem RowsOwn.shape {w : World} {B : Nat} {L : List Rw} {s : Value} (h : RowsOwn w B L s) : ∃ a c, s = .slice a L.length c := by
  obtain ⟨a, n, c, rfl, rfl, _⟩ := h.at.shape
  exact ⟨a, c, rfl⟩
theorem Try.info61' : (Try.prog.info? 61).map (fun i => (i.zero, i.size, i.bytes)) = some (some (.slice none 0 0), 1, 24) := by kernel_rfl

/-- append to a list of rows. -/
theorem wpList_rows {w : World} {ops : Array Oper} {rest : List Oper} {o : Oper} {a : Act} {Q : Exit → Act → World → Prop} (hgd : o.guard = none) (s x : Operand)
    (ho : o.op = .call { callee := .builtin .append, args := #[s, x], argTypes := #[29, 29] })
    (B : Nat) (L M : List Rw) (v : Value) (hs : a.eval s = v) (hown : RowsOwn w B L v) (ad : Addr) (c m : Nat) (ys : List Value) (hx : a.eval x = .slice (some ad) m c) (hm : m = M.length)
    (hc : ∀ j u, ys[j]? = some u → w.cell? (ad.add j) = some u) (hy : RowVs w M ys) (hf : ∀ y ∈ ys, Far w B y)
    (hlen : L.length + m ≤ 1099511627776) (hB : B ≤ w.heap.size)
    (h : ∀ v' w', RowsOwn w' B (L ++ M) v' → Below B w w' → w.grownBy w' v.ownBlock → wpList Try.prog ops Q rest (a.put o.dst v') w') : wpList Try.prog ops Q (o :: rest) a w := by
  obtain ⟨i0, ii, iz0, iz1, iz2⟩ := info_parts Try.info61'
  obtain ⟨xs, h1, h2, h3⟩ := hown
  subst hm
  refine wpList_append_own w hgd s x 29 ho B 61 i0 (.slice none 0 0) 1 24 Try.underlying29 ii iz0 iz1 iz2 rfl (by decide) v _ xs hs h1 ad _ c ys hx (by rw [hy.length]; omega) hc hy.one' (by unfold maxLen; omega) (by omega) hB ?_
  intro v' w' ho' hg _
  have a1 := h2.grown h3 h1 hg
  have a2 := hy.grown hf h1 hg
  refine h v' w' ⟨xs ++ ys, by rw [List.length_append]; exact ho', a1.1.append a2.1, fun x hx => ?_⟩ ((Below.refl _ _).grown hg hB fun g hg' => (h1.lt g hg').1) hg
  rcases List.mem_append.1 hx with hx | hx
  · exact a1.2 x hx
  · exact a2.2 x hx
/-- append of one row. -/
theorem wpList_row {w : World} {ops : Array Oper} {rest : List Oper} {o : Oper} {a : Act} {Q : Exit → Act → World → Prop} (hgd : o.guard = none) (s x : Operand)
    (ho : o.op = .call { callee := .builtin .append, args := #[s, x], argTypes := #[29, 29] })
    (B : Nat) (L : List Rw) (R : Rw) (v : Value) (hs : a.eval s = v) (hown : RowsOwn w B L v) (g : Nat) (c : Nat) (y : Value) (hx : a.eval x = .slice (some ⟨g, 0, none⟩) 1 c)
    (hc : w.cell? ⟨g, 0, none⟩ = some y) (hy : ValsAt w R y) (hf : Far w B y)
    (hlen : L.length + 1 ≤ 1099511627776) (hB : B ≤ w.heap.size)
    (h : ∀ v' w', RowsOwn w' B (L ++ [R]) v' → Below B w w' → w.grownBy w' v.ownBlock → wpList Try.prog ops Q rest (a.put o.dst v') w') : wpList Try.prog ops Q (o :: rest) a w := by
  refine wpList_rows hgd s x ho B L [R] v hs hown ⟨g, 0, none⟩ c 1 [y] hx rfl (fun j u hj => ?_) (.one hy) (by simpa using hf) hlen hB h
  match j, hj with
  | 0, hj => simp at hj; subst hj; simpa [Addr.add] using hc
end Go.Proofs.Ytodabeibdgancaa
/- Bags in memory. -/
namespace Go.Proofs.Ytodabeibdgancaa
open Go.RowKit

/-- A row lies in a block of its own. -/
def RowO (w : World) (B : Nat) (r : Rw) (x : Value) : Prop := w.ownsRow B 26 3 x r.length (flat r) ∧ ∀ v ∈ r, v.text.size ≤ maxLen
theorem RowO.vals {w : World} {B : Nat} {r : Rw} {x : Value} (h : RowO w B r x) : ValsAt w r x := vals_of_own h.1 rfl h.2
theorem RowO.far {w : World} {B C : Nat} {r : Rw} {x : Value} (h : RowO w B r x) : Far w C x := by
  intro ad n c hx hn
  obtain ⟨⟨_, ⟨h1, h2⟩ | ⟨g, cap, cur, rfl, hb, hg, _⟩⟩, _⟩ := h
  · rw [h1] at hx
    injection hx with hx
    cases hx
  · injection hx with hx
    injection hx with hx
    subst hx
    exact .inr ⟨cur, _, hg⟩

/-- Only the blocks pb and g (and new ones) may have changed. -/
structure Chg (w w' : World) (pb : Nat) (g : Option Nat) : Prop where
  os : w'.os = w.os
  tape : w'.tape = w.tape
  output : w'.output = w.output
  size : w.heap.size ≤ w'.heap.size
  block : ∀ k, k < w.heap.size → k ≠ pb → some k ≠ g → w'.heap[k]? = w.heap[k]?
theorem Chg.refl (w : World) (pb : Nat) (g : Option Nat) : Chg w w pb g := ⟨rfl, rfl, rfl, Nat.le_refl _, fun _ _ _ _ => rfl⟩
theorem Chg.of_below {w w' : World} (h : Below w.heap.size w w') (pb : Nat) (g : Option Nat) : Chg w w' pb g := ⟨h.os, h.tape, h.output, h.size, fun k hk _ _ => h.block k hk⟩
theorem Chg.of_grown {w w' : World} {g : Option Nat} (h : w.grownBy w' g) (pb : Nat) : Chg w w' pb g := ⟨h.os, h.tape, h.output, h.size, fun k hk _ hg => h.block k hk hg⟩
theorem Chg.trans {w w1 w2 : World} {pb : Nat} {g g1 : Option Nat} (h : Chg w w1 pb g) (h1 : Chg w1 w2 pb g1) (hg : ∀ k, g1 = some k → g = some k ∨ w.heap.size ≤ k) : Chg w w2 pb g := by
  refine ⟨h1.os.trans h.os, h1.tape.trans h.tape, h1.output.trans h.output, Nat.le_trans h.size h1.size, fun k hk hp hg' => ?_⟩
  refine (h1.block k (Nat.lt_of_lt_of_le hk h.size) hp fun e => ?_).trans (h.block k hk hp hg')
  rcases hg k e.symm with h2 | h2
  · exact hg' h2.symm
  · omega
theorem Chg.below {w w' : World} {pb B : Nat} {g : Option Nat} (h : Chg w w' pb g) (hB : B ≤ w.heap.size) (hp : B ≤ pb) (hg : ∀ k, g = some k → B ≤ k) : Below B w w' :=
  ⟨h.os, h.tape, h.output, h.size, fun k hk => h.block k (by omega) (by omega) fun e => by have := hg k e.symm; omega⟩

/-- A block of values (type 26) is not among the changed ones. -/
theorem RowO.chg {w w' : World} {B pb : Nat} {r : Rw} {x : Value} {g : Option Nat} (h : RowO w B r x) (hc : Chg w w' pb g)
    (hp : ∀ cur fr, w.heap[pb]? ≠ some (.cells cur 26 fr)) (hg : ∀ k, g = some k → ∀ cur fr, w.heap[k]? ≠ some (.cells cur 26 fr)) : RowO w' B r x := by
  obtain ⟨⟨hl, h1⟩, h2⟩ := h
  refine ⟨⟨hl, ?_⟩, h2⟩
  rcases h1 with h1 | ⟨g', cap, cur, hv, hb, hg', rest⟩
  · exact .inl h1
  · refine .inr ⟨g', cap, cur, hv, hb, ?_, rest⟩
    rw [hc.block g' (Array.getElem?_eq_some_iff.1 hg').1 (fun e => hp cur _ (e ▸ hg')) (fun e => hg g' e.symm cur _ hg')]
    exact hg'
end Go.Proofs.Ytodabeibdgancaa
/- Sorting in memory: a row of rows in a block of its own that is rearranged. -/
namespace Go.Proofs.Ytodabeibdgancaa
open Go Go.RowKit
/-- A row with the slice by which it is reached. -/
structure Cel where
  r : Rw
  a : Option Addr
  n : Nat
  c : Nat
def Cel.v (x : Cel) : Value := .slice x.a x.n x.c
/-- The row of rows lies in block g. -/
structure Arr (w0 : World) (B g n cp : Nat) (d : List Cel) (w : World) : Prop where
  own : w.ownsRow B 61 1 (.slice (some ⟨g, 0, none⟩) n cp) n (d.map Cel.v)
  gr : w0.grownBy w (some g)
theorem Arr.len {w0 w : World} {B g n cp : Nat} {d : List Cel} (h : Arr w0 B g n cp d w) : d.length = n := by
  have := h.own.1
  simpa using this
theorem Arr.lt {w0 w : World} {B g n cp : Nat} {d : List Cel} (h : Arr w0 B g n cp d w) : g < w.heap.size := (h.own.lt g rfl).2
theorem Arr.cell {w0 w : World} {B g n cp : Nat} {d : List Cel} (h : Arr w0 B g n cp d w) {j : Nat} {x : Cel} (hj : d[j]? = some x) : w.cell? ⟨g, j, none⟩ = some (.slice x.a x.n x.c) := by
  have hl := (List.getElem?_eq_some_iff.1 hj).1
  have := h.len
  rw [h.own.cellAt j (by omega), List.getElem?_map, hj]
  rfl
theorem Arr.free {w0 w : World} {B g n cp : Nat} {d : List Cel} (h : Arr w0 B g n cp d w) (j : Nat) : w.frozen? ⟨g, j, none⟩ = false := h.own.frozenAt j
theorem grownBy_set1 {w0 w : World} {g : Nat} (h : w0.grownBy w (some g)) (j : Nat) (v : Value) : w0.grownBy (w.setCell ⟨g, j, none⟩ v) (some g) :=
  ⟨h.os, h.tape, h.output, by simpa using h.size, fun k hk hne => (Below.heap_setCell w ⟨g, j, none⟩ v k (fun e => hne (by rw [e]))).trans (h.block k hk hne)⟩
theorem Arr.set {w0 w : World} {B g n cp : Nat} {d : List Cel} (h : Arr w0 B g n cp d w) (j : Nat) (x : Cel) : Arr w0 B g n cp (d.set j x) (w.setCell ⟨g, j, none⟩ (.slice x.a x.n x.c)) :=
  ⟨by have := (h.own.stored j x.v).1; rwa [← List.map_set] at this, grownBy_set1 h.gr _ _⟩
theorem grownBy_bel {w0 w w' : World} {row : Option Nat} (h : w0.grownBy w row) (hb : Below w.heap.size w w') : w0.grownBy w' row :=
  ⟨hb.os.trans h.os, hb.tape.trans h.tape, hb.output.trans h.output, Nat.le_trans h.size hb.size, fun k hk hne => (hb.block k (Nat.lt_of_lt_of_le hk h.size)).trans (h.block k hk hne)⟩
theorem Arr.below {w0 w w' : World} {B g n cp : Nat} {d : List Cel} (h : Arr w0 B g n cp d w) (hb : Below w.heap.size w w') : Arr w0 B g n cp d w' :=
  ⟨own_below h.own hb, grownBy_bel h.gr hb⟩
theorem Arr.drew {w0 w : World} {B g n cp : Nat} {d : List Cel} (h : Arr w0 B g n cp d w) : Arr w0 B g n cp d w.drew := h.below (Below.drew (Below.refl _ _))
theorem Arr.swap {w0 w : World} {B g n cp : Nat} {d : List Cel} (h : Arr w0 B g n cp d w) {i j : Nat} {x y : Cel} (hx : d[i]? = some x) (hy : d[j]? = some y) :
    Arr w0 B g n cp (swp d i j) ((w.setCell ⟨g, i, none⟩ (.slice y.a y.n y.c)).setCell ⟨g, j, none⟩ (.slice x.a x.n x.c)) := by
  have h2 := (h.set i y).set j x
  unfold swp
  rw [hx, hy]
  exact h2
end Go.Proofs.Ytodabeibdgancaa
/- swapRangeCmpFunc. -/
namespace Go.Proofs.Ytodabeibdgancaa
open Go Go.RowKit
set_option maxHeartbeats 4000000 in
set_option maxRecDepth 20000 in
theorem swapRange_calls (w0 : World) (B g n cp : Nat) (P X Q Y S : List Cel) (F : Value) (w : World) (p q l : Nat) (hp : P.length = p) (hq : P.length + X.length + Q.length = q) (hl : X.length = l) (hXY : X.length = Y.length) (hA : Arr w0 B g n cp (P ++ X ++ Q ++ Y ++ S) w) (hm : n ≤ maxLen) :
    Calls Try.prog 59 #[.slice (some ⟨g, 0, none⟩) n cp, .int .i64 p, .int .i64 q, .int .i64 l, F] w fun e w' => e = .returned (.tuple #[]) ∧ Arr w0 B g n cp (P ++ Y ++ Q ++ X ++ S) w' := by
  have hlen := hA.len
  unfold maxLen at hm
  simp only [List.length_append] at hlen
  have h1 : q + l ≤ n := by omega
  have h2 : p + l ≤ q := by omega
  have HL := Lib.hid (show P.length = p ∧ P.length + X.length + Q.length = q ∧ X.length = l ∧ Y.length = l by omega)
  have HA := Lib.hid hA
  clear hA hlen hp hq hl hXY
  go_enter Try.func59, Try.ntmps59
  go_wp2
  go_loopw [10] (fun i wr => ∃ k : Nat, k ≤ l ∧ i = .int .i64 k ∧ RowKit.Hid (Arr w0 B g n cp (P ++ (Y.take k ++ X.drop k) ++ Q ++ (X.take k ++ Y.drop k) ++ S) wr)) (fun i _ => l - (intOf i).toNat)
  case atStart => exact ⟨0, Nat.zero_le _, rfl, Lib.hid (by have := HA.out; simpa using this)⟩
  case round =>
    obtain ⟨k, hk, rfl, H⟩ := hrel
    by_cases hlt : k < l
    · obtain ⟨h3, h4, h5, h6⟩ := HL.out
      have hX : k < X.length := by omega
      have hY : k < Y.length := by omega
      have eX : X.drop k = X[k] :: X.drop (k + 1) := List.drop_eq_getElem_cons hX
      have eY : Y.drop k = Y[k] :: Y.drop (k + 1) := List.drop_eq_getElem_cons hY
      have tX : X.take (k + 1) = X.take k ++ [X[k]] := by rw [List.take_succ_eq_append_getElem hX]
      have tY : Y.take (k + 1) = Y.take k ++ [Y[k]] := by rw [List.take_succ_eq_append_getElem hY]
      have hs := swp_at (P := P ++ Y.take k) (Q := X.drop (k + 1) ++ Q ++ X.take k) (S := Y.drop (k + 1) ++ S) (x := X[k]) (y := Y[k])
      rw [show (P ++ Y.take k).length = p + k by simp; omega, show p + k + 1 + (X.drop (k + 1) ++ Q ++ X.take k).length = q + k by simp; omega] at hs
      have hA := H.out
      rw [eX, eY] at hA
      rw [show P ++ (Y.take k ++ X[k] :: X.drop (k + 1)) ++ Q ++ (X.take k ++ Y[k] :: Y.drop (k + 1)) ++ S = P ++ Y.take k ++ X[k] :: (X.drop (k + 1) ++ Q ++ X.take k) ++ Y[k] :: (Y.drop (k + 1) ++ S) by simp only [List.append_assoc, List.cons_append]] at hA
      have hx : (P ++ Y.take k ++ X[k] :: (X.drop (k + 1) ++ Q ++ X.take k) ++ Y[k] :: (Y.drop (k + 1) ++ S))[p + k]? = some X[k] := by
        rw [List.append_assoc, List.getElem?_append_right (by simp; omega)]
        simp [show p + k - (P.length + min k Y.length) = 0 by omega]
      have hy : (P ++ Y.take k ++ X[k] :: (X.drop (k + 1) ++ Q ++ X.take k) ++ Y[k] :: (Y.drop (k + 1) ++ S))[q + k]? = some Y[k] := by
        rw [List.getElem?_append_right (by simp; omega)]
        simp only [List.length_append, List.length_cons, List.length_take, List.length_drop]
        rw [show q + k - (P.length + min k Y.length + (X.length - (k + 1) + Q.length + min k X.length + 1)) = 0 by omega]
        rfl
      have hA2 := hA.drew.swap hx hy
      have hA3 := hA.drew.swap hy hx
      rw [swp_comm] at hA3
      rw [hs] at hA2 hA3
      have e2 : P ++ (Y.take (k + 1) ++ X.drop (k + 1)) ++ Q ++ (X.take (k + 1) ++ Y.drop (k + 1)) ++ S = P ++ Y.take k ++ Y[k] :: (X.drop (k + 1) ++ Q ++ X.take k) ++ X[k] :: (Y.drop (k + 1) ++ S) := by rw [tX, tY]; simp only [List.append_assoc, List.cons_append, List.nil_append]
      rw [← e2] at hA2 hA3
      have H2 := Lib.hid hA2
      have H3 := Lib.hid hA3
      have cx := hA.cell hx
      have cy := hA.cell hy
      have fx := hA.free (p + k)
      have fy := hA.free (q + k)
      have hg := hA.lt
      clear hA hA2 hA3 e2 hx hy hs tX tY eX eY h3 h4 h5 h6
      generalize X[k] = x at *
      generalize Y[k] = y at *
      clear hX hY H
      go_wp2
      go_region
      go_wp2
      go_roundw
      case rel => exact ⟨k + 1, by omega, by go_num, by first | exact H2 | exact H3⟩
      case measure => simp [intOf]; omega
    · obtain rfl : k = l := by omega
      have hk0 : ¬ k < k := Nat.lt_irrefl _
      go_wp2
      go_end0
      refine ⟨rfl, ?_⟩
      have := H.out
      rwa [List.take_of_length_le (by rw [HL.out.2.2.2]; exact Nat.le_refl _), List.drop_of_length_le (by rw [HL.out.2.2.1]; exact Nat.le_refl _), List.take_of_length_le (by rw [HL.out.2.2.1]; exact Nat.le_refl _), List.drop_of_length_le (by rw [HL.out.2.2.2]; exact Nat.le_refl _), List.append_nil, List.append_nil] at this
end Go.Proofs.Ytodabeibdgancaa
/- rotateCmpFunc. -/
namespace Go.Proofs.Ytodabeibdgancaa
open Go Go.RowKit
/-- What rotate's loop keeps: the whole is T in the end. -/
structure RotS (T P X Y S : List Cel) (m : Nat) : Prop where
  eq : T = P ++ Y ++ X ++ S
  at' : P.length + X.length = m
  px : 0 < X.length
  py : 0 < Y.length
set_option maxHeartbeats 4000000 in
set_option maxRecDepth 20000 in
theorem rotate_calls (w0 : World) (B g n cp : Nat) (P X Y S : List Cel) (F : Value) (w : World) (p m b : Nat) (hp : P.length = p) (hm : P.length + X.length = m) (hb : P.length + X.length + Y.length = b) (hX : 0 < X.length) (hY : 0 < Y.length)
    (hA : Arr w0 B g n cp (P ++ X ++ Y ++ S) w) (hmx : n ≤ maxLen) :
    Calls Try.prog 57 #[.slice (some ⟨g, 0, none⟩) n cp, .int .i64 p, .int .i64 m, .int .i64 b, F] w fun e w' => e = .returned (.tuple #[]) ∧ Arr w0 B g n cp (P ++ Y ++ X ++ S) w' := by
  have hlen := hA.len
  have HM := Lib.hid hmx
  unfold maxLen at hmx
  simp only [List.length_append] at hlen
  have b1 : b ≤ n := by omega
  have b2 : p ≤ m := by omega
  have b3 : m ≤ b := by omega
  have HL := Lib.hid (show m - p = X.length ∧ b - m = Y.length by omega)
  have HR : RowKit.Hid (RotS (P ++ Y ++ X ++ S) P X Y S m) := ⟨rfl, hm, hX, hY⟩
  have HA := Lib.hid hA
  clear hA hlen hp hm hb hX hY
  go_enter Try.func57, Try.ntmps57
  go_wp2
  go_loopg [10, 11] (m - p + (b - m)) (fun gk z10 z11 wr => ∃ (P' X' Y' S' : List Cel) (i j : Nat), z10 = .int .i64 i ∧ z11 = .int .i64 j ∧ gk = i + j ∧ 0 < i ∧ 0 < j ∧ i ≤ m ∧ m + j ≤ n ∧ RowKit.Hid (i = X'.length ∧ j = Y'.length ∧ RotS (P ++ Y ++ X ++ S) P' X' Y' S' m) ∧ RowKit.Hid (Arr w0 B g n cp (P' ++ X' ++ Y' ++ S') wr))
  case atStart =>
    refine ⟨P, X, Y, S, m - p, b - m, by go_num, by go_num, rfl, ?_, ?_, by omega, by omega, Lib.hid ⟨HL.out.1, HL.out.2, HR.out⟩, HA⟩
    · rw [HL.out.1]; exact HR.out.px
    · rw [HL.out.2]; exact HR.out.py
  case round =>
    obtain ⟨P', X', Y', S', i, j, rfl, rfl, hgk, hi, hj, him, hjn, HR', HA'⟩ := hrel
    clear HA HR HL
    by_cases hne : i = j
    · subst hne
      have HC := Lib.hid (swapRange_calls w0 B g n cp P' X' [] Y' S' F wr (m - i) m i (by have := HR'.out; have := this.2.2.at'; omega) (by have := HR'.out; have := this.2.2.at'; simp; omega) (by have := HR'.out; omega) (by have := HR'.out; omega) (by have := HA'.out; simpa using this) HM.out)
      have hb0 : ((i : Int) != i) = false := by simp
      have e1 : ((m - i : Nat) : Int) = (m : Int) - i := by omega
      rw [e1] at HC
      clear e1
      have hc1 : (i : Int) ≤ m := by omega
      have hc2 : (m : Int) ≤ 9223372036854775807 := by omega
      clear hgk
      go_wp2_with fail
      (with_reducible refine HC.out.mono ?_)
      rintro e w1 ⟨rfl, hA1⟩
      have H1 := Lib.hid hA1
      clear hA1
      go_wp2
      go_end0
      refine ⟨rfl, ?_⟩
      have := H1.out
      rw [HR'.out.2.2.eq]
      simpa using this
    · have hbn : ((i : Int) != j) = true := by simp; omega
      have hc1 : (i : Int) ≤ m := by omega
      have hc2 : (m : Int) ≤ 9223372036854775807 := by omega
      have hc3 : (m : Int) + j ≤ 9223372036854775807 := by omega
      have Hgk := Lib.hid hgk
      clear hgk
      by_cases hgt : j < i
      · obtain ⟨X1, X2, hX12, hl1, hl2⟩ := split2 X' j (by have := HR'.out; omega)
        have HC := Lib.hid (swapRange_calls w0 B g n cp P' X1 X2 Y' S' F wr (m - i) m j (by have := HR'.out; have := this.2.2.at'; omega) (by have := HR'.out; have := this.2.2.at'; have := congrArg List.length hX12; simp at this; omega) hl1 (by have := HR'.out; omega) (by have := HA'.out; rw [hX12] at this; simpa using this) HM.out)
        have e1 : ((m - i : Nat) : Int) = (m : Int) - i := by omega
        rw [e1] at HC
        have HN : RowKit.Hid (i - j = X2.length ∧ j = X1.length ∧ RotS (P ++ Y ++ X ++ S) (P' ++ Y') X2 X1 S' m) := by
          obtain ⟨a1, a2, a3⟩ := HR'.out
          refine ⟨by omega, hl1.symm, ⟨?_, ?_, by omega, by omega⟩⟩
          · rw [a3.eq, hX12]; simp
          · have := a3.at'; rw [List.length_append]; omega
        clear e1 hX12 hl1 hl2
        have hij : (j : Int) < i := by omega
        go_wp2_with fail
        (with_reducible refine HC.out.mono ?_)
        rintro e w1 ⟨rfl, hA1⟩
        have H1 := Lib.hid (show Arr w0 B g n cp ((P' ++ Y') ++ X2 ++ X1 ++ S') w1 by simpa using hA1)
        clear hA1 HC
        go_wp2
        go_roundg (i - j + j)
        case rel => exact ⟨P' ++ Y', X2, X1, S', i - j, j, by go_num, rfl, rfl, by omega, hj, by omega, hjn, HN, H1⟩
        case measure => have := Hgk.out; omega
      · obtain ⟨Y1, Y2, hY12, hl1, hl2⟩ := split2 Y' (j - i) (by have := HR'.out; omega)
        have HC := Lib.hid (swapRange_calls w0 B g n cp P' X' Y1 Y2 S' F wr (m - i) (m + j - i) i (by have := HR'.out; have := this.2.2.at'; omega) (by have := HR'.out; have := this.2.2.at'; omega) (by have := HR'.out; omega) (by have := HR'.out; omega) (by have := HA'.out; rw [hY12] at this; simpa using this) HM.out)
        have e1 : ((m - i : Nat) : Int) = (m : Int) - i := by omega
        have e2 : ((m + j - i : Nat) : Int) = (m : Int) + j - i := by omega
        rw [e1, e2] at HC
        have HN : RowKit.Hid (i = Y2.length ∧ j - i = Y1.length ∧ RotS (P ++ Y ++ X ++ S) P' Y2 Y1 (X' ++ S') m) := by
          obtain ⟨a1, a2, a3⟩ := HR'.out
          refine ⟨by omega, hl1.symm, ⟨?_, ?_, by omega, by omega⟩⟩
          · rw [a3.eq, hY12]; simp
          · have := a3.at'; omega
        clear e1 e2 hY12 hl1 hl2
        have hij : ¬ (j : Int) < i := by omega
        have hij2 : (i : Int) ≤ j := by omega
        go_wp2_with fail
        (with_reducible refine HC.out.mono ?_)
        rintro e w1 ⟨rfl, hA1⟩
        have H1 := Lib.hid (show Arr w0 B g n cp (P' ++ Y2 ++ Y1 ++ (X' ++ S')) w1 by simpa using hA1)
        clear hA1 HC
        go_wp2
        go_roundg (i + (j - i))
        case rel => exact ⟨P', Y2, Y1, X' ++ S', i, j - i, rfl, by go_num, rfl, hi, by omega, him, by omega, HN, H1⟩
        case measure => have := Hgk.out; omega
end Go.Proofs.Ytodabeibdgancaa
