/- Part 0 of the proof: Ka, Kc, L0, S0, P0, P1, P3, N0S, S1, V0, V1, N1S, P2, O0S, CmS, FiS -/
import Derived.ChangeArms
import Derived.ChangeAt
import Derived.Deep.Slices
import Derived.Laws.World
import GoSem.ClaimJoined
import Derived.Test.YtldofiankhimjaaRows
import Derived.Below
import Derived.WalkKit
import Derived.ProofKit
import Derived.OpenShut
import Derived.Carry
import Derived.Deep.DeepHandedRow
import Derived.WalkSpells
import Derived.Outline
import Derived.RowKit3
import Derived.OwnWalk
import Derived.Laws.OwnMore
import Derived.LoopTactic
import Derived.Lib.Hide
import Derived.Deep.RegionHeld3
import Derived.Deep.RegionLaw
import Derived.Deep.RegionWith
import Derived.IntWalk
import Derived.Deep.DeepCutAuto
import Derived.StillTailTactics
import Derived.Laws.AppendOwn
import Derived.Laws.AppendOwnNone
import Derived.Laws.CopyOwn
import Derived.Laws.CopyRow
import Derived.Lib.AppendZerosOnto
import Derived.Lib.Overlaps
import Derived.Lib.SliceRun
import Derived.Lib.Bytealg
import Derived.Deep.Draws
import Derived.Laws.Cover1
import Derived.Laws.Strings
/- Any slice of structs that is read as data: its address, its cells, its elements' data. (Over any program.) -/
namespace Go.Proofs.Ytldofiankhimjaa
open Go.ChangeShapes Go.ChangeAt

section
variable {H : Type} {enc : TypeId × Value → H} {P : Program} {w : World} {held : Bool}

theorem spotless {w : World} {a : Addr} {v : Value} (h : w.cell? a = some v) : a.spot = none ∧ a.block < w.heap.size := by
  refine ⟨?_, World.block_lt_of_cell? w a h⟩
  unfold World.cell? at h
  split at h
  · split at h
    · cases h
    · rename_i hs; simpa using hs
  · cases h

theorem cells_at {w : World} {b o i sz : Nat} {cs : List Value} (h : w.cells? 0 (Addr.add ⟨b, o, none⟩ (i * sz)) sz = some cs) : cs.length = sz ∧ ∀ j, j < sz → w.cell? ⟨b, o + i * sz + j, none⟩ = cs[j]? := by
  obtain ⟨_, hl, hc⟩ := World.cells?_some h
  refine ⟨hl, fun j hj => ?_⟩
  have := hc j hj
  rw [Deep.add_add] at this
  rw [← this]
  unfold Addr.add
  by_cases h0 : i * sz + j = 0
  · rw [if_pos h0]; simp [Nat.add_assoc, h0]
  · rw [if_neg h0]; simp [Nat.add_assoc]

/-- **A slice read as data.** -/
theorem slice_read {t e : TypeId} {fuel sz : Nat} {cs : List Value} {x : DataW H × List MemPlace} (ht : P.underlying t = some (.slice e)) (hsz : P.cellsOf e = sz) (h0 : 0 < sz) (h : DataW.trod enc P w 0 (fun _ => true) held fuel t cs = some x) :
    (∃ a, cs = [.slice a 0 0]) ∨
    ∃ (b o len cap n : Nat) (D : List (DataW H)) (R : List (DataW H)), cs = [.slice (some ⟨b, o, none⟩) len cap] ∧ b < w.heap.size ∧ len ≤ cap ∧ cap ≤ maxLen ∧ fuel = n + 1 ∧ x.1 = .slice D R ∧ D.length = len ∧
      ∀ i (hi : i < D.length), ∃ cs' pl, cs'.length = sz ∧ (∀ j, j < sz → w.cell? ⟨b, o + i * sz + j, none⟩ = cs'[j]?) ∧ DataW.trod enc P w 0 (fun _ => true) held n e cs' = some (D[i], pl) := by
  rcases DataW.trod_slice ht h with ⟨rfl, -⟩ | ⟨a, len, cap, elems, rest, n, rfl, rfl, rfl, -, hl, hm, hlen, hel, hsp, -⟩
  · exact .inl ⟨none, rfl⟩
  by_cases hc0 : cap = 0
  · subst hc0
    obtain rfl : len = 0 := by omega
    exact .inl ⟨some a, rfl⟩
  right
  -- the first element, or the first of the spare, is read: so the address has no spot
  have hcell : ∃ v, w.cell? a = some v := by
    have hread : ∃ cs', w.cells? 0 (a.add (0 * P.cellsOf e)) (P.cellsOf e) = some cs' := by
      by_cases hl0 : len = 0
      · subst hl0
        obtain ⟨hr, hj⟩ := hsp rfl
        have h1 := hj 0 (by omega)
        rw [List.getElem?_eq_getElem (by omega)] at h1
        obtain ⟨cs', h2, _⟩ := Option.bind_eq_some_iff.1 h1
        exact ⟨cs', by simpa using h2⟩
      · have h1 := hel 0 (by omega)
        rw [List.getElem?_eq_getElem (by omega)] at h1
        obtain ⟨cs', h2, _⟩ := Option.bind_eq_some_iff.1 h1
        exact ⟨cs', h2⟩
    obtain ⟨cs', h1⟩ := hread
    obtain ⟨_, hl', hc⟩ := World.cells?_some h1
    have h2 := hc 0 (by omega)
    rw [List.getElem?_eq_getElem (by omega)] at h2
    exact ⟨_, by simpa [Addr.add] using h2⟩
  obtain ⟨v, hv⟩ := hcell
  obtain ⟨hs, hb⟩ := spotless hv
  obtain ⟨b, o, sp⟩ := a
  simp only at hs hb
  subst hs
  refine ⟨b, o, len, cap, n, elems.map (·.1), rest.map (·.1), rfl, hb, hl, hm, rfl, rfl, by simpa using hlen, fun i hi => ?_⟩
  have hi' : i < elems.length := by simpa using hi
  have h1 := hel i (by omega)
  rw [List.getElem?_eq_getElem hi'] at h1
  obtain ⟨cs', h2, h3⟩ := Option.bind_eq_some_iff.1 h1
  rw [hsz] at h2
  obtain ⟨h4, h5⟩ := cells_at h2
  exact ⟨cs', (elems[i]).2, h4, h5, by rw [h3]; simp⟩

theorem mem_weightsAll {e : TypeId} {z : Nat} : ∀ {l : List (DataW H)} {d : DataW H}, d ∈ l → z ∈ d.weights P e → z ∈ DataW.weightsAll P e l
  | [], _, h, _ => by cases h
  | d' :: l, d, h, hz => by
    rw [DataW.weightsAll, List.mem_append]
    rcases List.mem_cons.1 h with rfl | h
    · exact .inl hz
    · exact .inr (mem_weightsAll h hz)
theorem weights_slice {t e : TypeId} (ht : P.underlying t = some (.slice e)) {D R : List (DataW H)} {B : Nat} (h : ∀ z ∈ (DataW.slice D R).weights P t, z ≤ B) :
    (D.length + R.length) * P.bytesOf e ≤ B ∧ ∀ d ∈ D, ∀ z ∈ d.weights P e, z ≤ B := by
  rw [DataW.weights] at h
  simp only [ht] at h
  exact ⟨h _ (by simp), fun d hd z hz => h z (by simp [mem_weightsAll hd hz])⟩
end
end Go.Proofs.Ytldofiankhimjaa
/- The frame of every law of this seat: from 'the call returns true and nothing that was there has turned' to the row's own words. -/
namespace Go.Proofs.Ytldofiankhimjaa
open Go.ChangeShapes Go.WideShapes Go.ChangeAt Go.RowKit Go.WideMaps Go.WideElems

section
variable {H : Type} {enc : TypeId × Value → H} {P : Program}

theorem trodAll_stays {W W' : World} {sp' : Nat → Bool} (hl : laidOutB P = true) : ∀ {ts : List TypeId} {vs : List Value} {ds : List (DataW H)} {ps : List MemPlace}, (∀ t ∈ ts, P.readableRec t = true ∧ t < P.types.size) →
    DataW.TrodAll enc P W 0 (fun _ => true) true ts vs ds ps → (∀ p ∈ ps, W.sameAt W' p) → (∀ p ∈ ps, sp' p.block = true) → DataW.TrodAll enc P W' 0 sp' true ts vs ds ps
  | [], vs, ds, ps, _, h, _, _ => by
    cases vs <;> cases ds <;> simp_all [DataW.TrodAll]
  | t :: ts, vs, ds, ps, hr, h, hsame, hs => by
    cases vs with
    | nil => cases ds <;> simp [DataW.TrodAll] at h
    | cons v vs =>
      cases ds with
      | nil => simp [DataW.TrodAll] at h
      | cons d ds =>
        obtain ⟨p, q, h1, h2, rfl⟩ := h
        exact ⟨p, q, Trod_stays hl (hr t (by simp)).1 (hr t (by simp)).2 h1 (fun x hx => hsame x (by simp [hx])) (fun x hx => hs x (by simp [hx])),
          trodAll_stays hl (fun t' ht' => hr t' (by simp [ht'])) h2 (fun x hx => hsame x (by simp [hx])) (fun x hx => hs x (by simp [hx])), rfl⟩

/-- **The law's post**: the call has returned true, and below the old heap nothing has turned. -/
theorem post_true {f : Func} {s : ChangeSpec} {W W' : World} {args : Array Value} {ds : List (DataW H)} {before : List MemPlace} (hl : laidOutB P = true) (hr : ∀ t ∈ f.params.toList, P.readableRec t = true ∧ t < P.types.size)
    (hres : f.resultTypes = #[4]) (h4 : P.underlying 4 = some .bool) (hv : s.vars = []) (hfn : s.fn H (ds ++ []) = { results := [.lit (.bool true)], args := ds })
    (hW : DataW.Whole enc P f.params.toList s.vars false W args.toList ds [] before) (hb : Below W.heap.size W W') : s.post enc P f false true false false W args (.bool true) W' := by
  have hlt : ∀ p ∈ before, p.block < W.heap.size := fun p hp => hW.lt p hp
  have hold : ∀ p ∈ before, (fun b => decide (b < W.heap.size)) p.block = true := fun p hp => by simpa using hlt p hp
  obtain ⟨p, q, hA, hV, hpq, _, _⟩ := id hW
  rw [hv] at hV
  obtain ⟨_, rfl⟩ := trodVars_none hV
  rw [List.append_nil] at hpq
  subst hpq
  refine ⟨ds, [], _, [], _, [], hW, ?_, ?_, ?_, World.keptBut_mono (fun x hx => ⟨hx, .inr (.inl hx)⟩) (hb.frame (· ∈ _)), fun h => by cases h⟩
  · rw [hfn, hres]
    exact trodAll_mk1 (shut_bool h4 true)
  · rw [hfn]
    exact trodAll_stays hl hr hA (fun x hx => hb.same (hlt x hx)) hold
  · rw [hfn, hv]
    exact (rfl : ([] : List MemPlace) = [])
end

section
variable {H : Type}
theorem weights_all {P : Program} {ts : List TypeId} {ds : List (DataW H)} (h : (DataW.weightsEach P ts ds).all (· ≤ reachBytes) = true) : ∀ z ∈ DataW.weightsEach P ts ds, z ≤ reachBytes := by
  intro z hz
  simpa using List.all_eq_true.1 h z hz
theorem weights_first {P : Program} {t : TypeId} {ts : List TypeId} {d : DataW H} {ds : List (DataW H)} (h : ∀ z ∈ DataW.weightsEach P (t :: ts) (d :: ds), z ≤ reachBytes) : (∀ z ∈ d.weights P t, z ≤ reachBytes) ∧ ∀ z ∈ DataW.weightsEach P ts ds, z ≤ reachBytes := by
  rw [DataW.weightsEach] at h
  exact ⟨fun z hz => h z (List.mem_append.2 (.inl hz)), fun z hz => h z (List.mem_append.2 (.inr hz))⟩

set_option maxRecDepth 100000 in
/-- A slice comes in as itself. -/
theorem cell_of_one_slice {v : Value} {t e : TypeId} (W : World) (ht : Try.prog.underlying t = some (.slice e)) {base : Nat} (hok : Value.okWide Try.prog W .any base t v) : v.cells.toList = [v] := by
  unfold Value.okWide at hok
  rw [ht] at hok
  simp only at hok
  cases v <;> simp [Value.cells]
  all_goals (unfold Cell.okWide at hok; rw [ht] at hok; simp at hok)
  all_goals (unfold Cell.ok at hok; rw [ht] at hok; simp at hok)
end
set_option maxRecDepth 100000 in
theorem own : ownKnob Try.prog.godebug = none := by kernel_rfl
set_option maxRecDepth 100000 in
theorem laidOut : laidOutB Try.prog = true := by kernel_rfl
end Go.Proofs.Ytldofiankhimjaa
/- Laws over any program: variables of several cells; append, copy, clear at rows in blocks of their own. -/
namespace Go.Proofs.Ytldofiankhimjaa
open Go.RowKit

theorem bcell {W w1 : World} (hb : Below W.heap.size W w1) : (∀ b o, b < W.heap.size → w1.cell? ⟨b, o, none⟩ = W.cell? ⟨b, o, none⟩) ∧ (∀ b o, b < W.heap.size → w1.frozen? ⟨b, o, none⟩ = W.frozen? ⟨b, o, none⟩) :=
  ⟨fun b o h => hb.cell (p := ⟨b, o, none⟩) h, fun b o h => hb.frozen (p := ⟨b, o, none⟩) h⟩

/-- A variable of several cells lies at block b. -/
structure VarIs (w : World) (b : Nat) (c : Array Value) : Prop where
  lt : b < w.heap.size
  cell : ∀ j, w.cell? ⟨b, j, none⟩ = c[j]?
  free : ∀ j, w.frozen? ⟨b, j, none⟩ = false
theorem VarIs.below {w w' : World} {B b : Nat} {c : Array Value} (h : VarIs w b c) (hb : Below B w w') (hB : b < B) : VarIs w' b c :=
  ⟨Nat.lt_of_lt_of_le h.lt hb.size, fun j => (hb.cell (p := ⟨b, j, none⟩) hB).trans (h.cell j), fun j => (hb.frozen (p := ⟨b, j, none⟩) hB).trans (h.free j)⟩
theorem VarIs.new (w : World) (c : Array Value) (t : TypeId) : VarIs (w.alloc (.cells c t)) w.heap.size c :=
  ⟨by simp, fun j => World.cell?_alloc_new w c t j, fun j => World.frozen?_alloc_new w c t j⟩
theorem VarIs.alloc {w : World} {b : Nat} {c : Array Value} (h : VarIs w b c) (o : Obj) : VarIs (w.alloc o) b c :=
  ⟨by simp; have := h.lt; omega, fun j => (World.cell?_alloc_lt _ _ _ h.lt).trans (h.cell j), fun j => (World.frozen?_alloc_old _ _ _ (Nat.ne_of_lt h.lt)).trans (h.free j)⟩
theorem VarIs.drew {w : World} {b : Nat} {c : Array Value} (h : VarIs w b c) : VarIs w.drew b c := ⟨h.lt, h.cell, h.free⟩
theorem VarIs.new1 (w : World) (o : Obj) (c : Array Value) (t : TypeId) : VarIs ((w.alloc o).alloc (.cells c t)) (w.heap.size + 1) c := by
  have := VarIs.new (w.alloc o) c t
  rwa [World.size_alloc] at this
theorem VarIs.setOther {w : World} {g g' : Nat} {c : Array Value} (h : VarIs w g' c) (hne : g ≠ g') (i : Nat) (v : Value) : VarIs (w.setCell ⟨g, i, none⟩ v) g' c := by
  have hb := Below.heap_setCell w ⟨g, i, none⟩ v g' (fun e => hne e.symm)
  exact ⟨by have := h.lt; simpa using this, fun j => (World.cell?_of_block (a := ⟨g', j, none⟩) hb).trans (h.cell j), fun j => (World.frozen?_of_block (a := ⟨g', j, none⟩) hb).trans (h.free j)⟩
theorem VarIs.set {w : World} {g : Nat} {c : Array Value} (h : VarIs w g c) (i : Nat) (hi : i < c.size) (v : Value) : VarIs (w.setCell ⟨g, i, none⟩ v) g (c.set i v) := by
  have h1 : w.cell? ⟨g, i, none⟩ = some c[i] := by rw [h.cell i, Array.getElem?_eq_getElem hi]
  refine ⟨by have := h.lt; simpa using this, fun j => ?_, fun j => ?_⟩
  · by_cases hj : i = j
    · subst hj
      rw [World.cell?_setCell_same _ _ _ h1]
      simp [hi]
    · rw [World.cell?_setCell_other _ _ _ _ (fun e => hj (by injection e)), h.cell j, Array.getElem?_set_ne _ hj]
  · rw [World.frozen?_setCell]
    exact h.free j

/-- What a region that draws its order keeps: nothing that was there when it began has turned. -/
theorem S_of {W w : World} (h : Below W.heap.size W w) : Below W.heap.size W w ∧ ∀ b o, b < W.heap.size → w.cell? ⟨b, o, none⟩ = W.cell? ⟨b, o, none⟩ := ⟨h, fun b o hb => h.cell (p := ⟨b, o, none⟩) hb⟩
theorem S_step {W w w' : World} (h : Below W.heap.size W w ∧ ∀ b o, b < W.heap.size → w.cell? ⟨b, o, none⟩ = W.cell? ⟨b, o, none⟩) (hb : Below w.heap.size w w') : Below W.heap.size W w' ∧ ∀ b o, b < W.heap.size → w'.cell? ⟨b, o, none⟩ = W.cell? ⟨b, o, none⟩ :=
  S_of (h.1.trans (hb.mono h.1.size))
theorem S_alloc {W w : World} (h : Below W.heap.size W w ∧ ∀ b o, b < W.heap.size → w.cell? ⟨b, o, none⟩ = W.cell? ⟨b, o, none⟩) (o : Obj) : Below W.heap.size W (w.alloc o) ∧ ∀ b o', b < W.heap.size → (w.alloc o).cell? ⟨b, o', none⟩ = W.cell? ⟨b, o', none⟩ :=
  S_of (h.1.alloc h.1.size o)
theorem own_below {w w' : World} {base : Nat} {e : TypeId} {size : Nat} {v : Value} {n : Nat} {xs : List Value} (h : w.ownsRow base e size v n xs) (hb : Below w.heap.size w w') : w'.ownsRow base e size v n xs := by
  refine ⟨h.1, ?_⟩
  rcases h.2 with h2 | ⟨g, cap, cur, hv, hg, hh, r⟩
  · exact .inl h2
  · exact .inr ⟨g, cap, cur, hv, hg, (hb.block g (Array.getElem?_eq_some_iff.1 hh).1).trans hh, r⟩

section
variable {P : Program}

theorem run_copy_row_k (w : World) (dT sT ty elem : TypeId) (k g o dLen dCap : Nat) (a : Addr) (sLen sCap : Nat) (cur : Array Value) (t : TypeId) (cs : List Value)
    (hu : P.underlying dT = some (.slice elem)) (hs : (P.info? elem).map (·.size) = some k)
    (hg : w.heap[g]? = some (.cells cur t (0, 0))) (hn : cs.length = Nat.min sLen dLen * k)
    (hsrc : ∀ j v, cs[j]? = some v → w.cell? (a.add j) = some v) (hfit : o + cs.length ≤ cur.size) (h1 : ∀ v ∈ cs, v.oneCell' = true) :
    (Builtin.copy_ #[dT, sT] ty #[.slice (some ⟨g, o, none⟩) dLen dCap, .slice (some a) sLen sCap]).run P w =
      .ok (goInt (Nat.min sLen dLen : Nat)) (w.setRow g (cur.toList.take o ++ cs ++ cur.toList.drop (o + cs.length)).toArray) := by
  have hl := run_loadCells_list (P := P) w a cs hsrc
  have hst := run_storeCells_at P g o t cs 0 cur w hg (by simpa using hfit) h1
  cases hq : P.info? elem with
  | none => simp [hq] at hs
  | some i =>
    have hi : i.size = k := by simpa [hq] using hs
    simp [Builtin.copy_, run_underlying hu, Builtin.lenOf, Builtin.firstCells, sizeOf, typeInfo, hq, hi, ← hn, hl, hst]

theorem grown_setRow (w : World) (g : Nat) (cs : Array Value) : w.grownBy (w.setRow g cs) (some g) :=
  ⟨rfl, rfl, rfl, by simp [World.setRow], fun k _ hk => setRow_other w g k cs (fun e => hk (by rw [e]))⟩

theorem wpList_copy2 {w : World} {ops : Array Oper} {rest : List Oper} {o : Oper} {a : Act} {Q : Exit → Act → World → Prop} (hgd : o.guard = none) (d s : Operand) (dT sT : TypeId)
    (ho : o.op = .call { callee := .builtin .copy, args := #[d, s], argTypes := #[dT, sT] }) (elem : TypeId) (k : Nat) (hu : P.underlying dT = some (.slice elem)) (hsz : (P.info? elem).map (·.size) = some k)
    (g off dLen dCap : Nat) (ad : Addr) (sLen sCap : Nat) (hd : a.eval d = .slice (some ⟨g, off, none⟩) dLen dCap) (hs : a.eval s = .slice (some ad) sLen sCap)
    (cur : List Value) (t : TypeId) (hg : w.heap[g]? = some (.cells cur.toArray t (0, 0))) (cs : List Value) (hn : cs.length = Nat.min sLen dLen * k)
    (hsrc : ∀ j v, cs[j]? = some v → w.cell? (ad.add j) = some v) (hfit : off + cs.length ≤ cur.length) (h1 : ∀ v ∈ cs, v.oneCell' = true)
    (h : ∀ w', RowKit.Hid (w'.heap[g]? = some (.cells (splice cur off cs).toArray t (0, 0))) → RowKit.Hid (w.grownBy w' (some g)) → wpList P ops Q rest (a.put o.dst (goInt (Nat.min sLen dLen : Nat))) w') : wpList P ops Q (o :: rest) a w := by
  refine wpList_plain hgd fun K hK => ?_
  have hrun := run_copy_row_k (P := P) w dT sT o.type elem k g off dLen dCap ad sLen sCap cur.toArray t cs hu hsz hg hn hsrc (by simpa using hfit) h1
  unfold Oper.wp
  simp only [execOp, ho, resolve, invoke, builtin, Sem.run_bind, Sem.run_pure, Result.andThen_ok, List.map_toArray, List.map_cons, List.map_nil, hd, hs, hrun]
  exact hK _ _ (h _ (show _ = _ by simpa [splice] using setRow_heap w g _ _ t _ hg) (grown_setRow _ _ _))

theorem step_copy2 {w : World} {ops : Array Oper} {o : Oper} {a : Act} {K : Act → World → Prop} {Q : Exit → Act → World → Prop} {E : Prop} (hgd : o.guard = none) (d s : Operand) (dT sT : TypeId)
    (ho : o.op = .call { callee := .builtin .copy, args := #[d, s], argTypes := #[dT, sT] }) (elem : TypeId) (k : Nat) (hu : P.underlying dT = some (.slice elem)) (hsz : (P.info? elem).map (·.size) = some k)
    (g off dLen dCap : Nat) (ad : Addr) (sLen sCap : Nat) (hd : a.eval d = .slice (some ⟨g, off, none⟩) dLen dCap) (hs : a.eval s = .slice (some ad) sLen sCap)
    (cur : List Value) (t : TypeId) (hg : w.heap[g]? = some (.cells cur.toArray t (0, 0))) (cs : List Value) (hn : cs.length = Nat.min sLen dLen * k)
    (hsrc : ∀ j v, cs[j]? = some v → w.cell? (ad.add j) = some v) (hfit : off + cs.length ≤ cur.length) (h1 : ∀ v ∈ cs, v.oneCell' = true)
    (h : ∀ w', RowKit.Hid (w'.heap[g]? = some (.cells (splice cur off cs).toArray t (0, 0))) → RowKit.Hid (w.grownBy w' (some g)) → K (a.put o.dst (goInt (Nat.min sLen dLen : Nat))) w') :
    if Region.wanted o (yielded ops a.tmps) = true then Oper.wp P o a w K Q else E := by
  have hw : Region.wanted o (yielded ops a.tmps) = true := by simp [Region.wanted, hgd]
  rw [if_pos hw]
  have hrun := run_copy_row_k (P := P) w dT sT o.type elem k g off dLen dCap ad sLen sCap cur.toArray t cs hu hsz hg hn hsrc (by simpa using hfit) h1
  unfold Oper.wp
  simp only [execOp, ho, resolve, invoke, builtin, Sem.run_bind, Sem.run_pure, Result.andThen_ok, List.map_toArray, List.map_cons, List.map_nil, hd, hs, hrun]
  exact h _ (show _ = _ by simpa [splice] using setRow_heap w g _ _ t _ hg) (grown_setRow _ _ _)
end
section
variable {P : Program}

theorem run_append_block (w : World) (base : Nat) (t ty e : TypeId) (i : TypeInfo) (z : Value) (size bytes : Nat) (ht : P.underlying t = some (.slice e)) (hi : P.info? e = some i) (hz : i.zero = some z)
    (hsize : i.size = size) (hby : i.bytes = bytes) (hzs : z.cells.size = size) (hsz : 0 < size)
    (v : Value) (n : Nat) (xs : List Value) (hown : w.ownsRow base e size v n xs)
    (a : Addr) (m c : Nat) (news : List Value) (hl : news.length = m * size) (hnews : ∀ j u, news[j]? = some u → w.cell? (a.add j) = some u) (h1 : ∀ u ∈ news, u.oneCell' = true)
    (hm : 0 < m) (h63 : n + m ≤ maxLen) (hbytes : (n + m) * bytes ≤ 140737488355328) (hbase : base ≤ w.heap.size) :
    ∃ v' w', (Builtin.append_ #[t, t] ty #[v, .slice (some a) m c]).run P w = .ok v' w' ∧ w'.ownsRow base e size v' (n + m) (xs ++ news) ∧ w.grownBy w' v.ownBlock ∧
      (∀ k, v'.ownBlock = some k → v.ownBlock = some k ∨ w.heap.size ≤ k) := by
  obtain ⟨v', w', hr, h2, h3, _⟩ := run_append_own (P := P) w base t ty e i z size bytes ht hi hz hsize hby hzs hsz v n xs hown a m c news hl hnews h1 h63 hbytes hbase
  refine ⟨v', w', hr, h2, h3, ?_⟩
  subst hsize
  subst hby
  have h63' : n + m ≤ 9223372036854775807 := by unfold maxLen at h63; omega
  intro k hk
  rcases hown.2 with ⟨rfl, rfl⟩ | ⟨g, cap, cur, rfl, hbg, hg, hnc, hcm, hcs, htake⟩
  · have hr2 := run_append_nil (P := P) w t ty e i z ht hi hz a m c news hl hnews hm (by omega) (by simp only [Nat.zero_add] at hbytes; omega)
    rw [hr2] at hr
    injection hr with hr _
    subst hr
    simp only [Value.ownBlock, Option.some.injEq] at hk
    exact .inr (by omega)
  · by_cases hroom : n + m ≤ cap
    · have hfit : n * i.size + news.length ≤ cur.size := by rw [hl, hcs, ← Nat.add_mul]; exact Nat.mul_le_mul_right _ hroom
      have hr2 := run_append_room (P := P) w t ty e i ht hi g n cap cur hg a m c news hl hnews h1 hroom hfit
      rw [hr2] at hr
      injection hr with hr _
      subst hr
      exact .inl hk
    · have holds : ∀ j u, xs[j]? = some u → w.cell? ((⟨g, 0, none⟩ : Addr).add j) = some u := hown.cells (g := g) rfl
      have hr2 := run_append_grow (P := P) w t ty e i z ht hi hz ⟨g, 0, none⟩ n cap xs hown.1 holds a m c news hl hnews (by omega) (by omega) (growslice_fits (by omega) hbytes)
      rw [hr2] at hr
      injection hr with hr _
      subst hr
      simp only [Value.ownBlock, Option.some.injEq] at hk
      exact .inr (by omega)

theorem wpList_append_block (w : World) {ops : Array Oper} {rest : List Oper} {o : Oper} {a : Act} {Q : Exit → Act → World → Prop} (hgd : o.guard = none) (s x : Operand) (t : TypeId)
    (ho : o.op = .call { callee := .builtin .append, args := #[s, x], argTypes := #[t, t] })
    (base : Nat) (e : TypeId) (i : TypeInfo) (z : Value) (size bytes : Nat) (ht : P.underlying t = some (.slice e)) (hi : P.info? e = some i) (hz : i.zero = some z)
    (hsize : i.size = size) (hby : i.bytes = bytes) (hzs : z.cells.size = size) (hsz : 0 < size)
    (v : Value) (n : Nat) (xs : List Value) (hs : a.eval s = v) (hown : w.ownsRow base e size v n xs)
    (ad : Addr) (m c : Nat) (news : List Value) (hx : a.eval x = .slice (some ad) m c) (hl : news.length = m * size) (hnews : ∀ j u, news[j]? = some u → w.cell? (ad.add j) = some u) (h1 : ∀ u ∈ news, u.oneCell' = true)
    (hm : 0 < m) (h63 : n + m ≤ maxLen) (hbytes : (n + m) * bytes ≤ 140737488355328) (hbase : base ≤ w.heap.size)
    (h : ∀ v' w', w'.ownsRow base e size v' (n + m) (xs ++ news) → w.grownBy w' v.ownBlock → RowKit.Hid (∀ k, v'.ownBlock = some k → v.ownBlock = some k ∨ w.heap.size ≤ k) → wpList P ops Q rest (a.put o.dst v') w') : wpList P ops Q (o :: rest) a w := by
  refine wpList_plain hgd fun K hK => ?_
  obtain ⟨v', w', hr, h2, h3, h4⟩ := run_append_block (P := P) w base t o.type e i z size bytes ht hi hz hsize hby hzs hsz v n xs hown ad m c news hl hnews h1 hm h63 hbytes hbase
  unfold Oper.wp execOp
  simp only [ho, resolve, invoke, builtin, Sem.run_bind, Sem.run_pure, Result.andThen_ok, List.map_toArray, List.map_cons, List.map_nil, hs, hx, hr]
  exact hK _ _ (h v' w' h2 h3 h4)
end
section
variable {P : Program}

/-- append of zero values to a slice without room: a new row. -/
theorem wpList_append_zeros {w : World} {ops : Array Oper} {rest : List Oper} {o : Oper} {a : Act} {Q : Exit → Act → World → Prop} (hgd : o.guard = none) (s x : Operand) (t tn : TypeId)
    (ho : o.op = .call { callee := .builtin .append, args := #[s, x], argTypes := #[t, tn] })
    (e : TypeId) (i : TypeInfo) (z : Value) (size bytes : Nat) (kq kn : IntKind) (ht : P.underlying t = some (.slice e)) (htn : P.underlying tn = some (.int kn)) (hi : P.info? e = some i) (hz : i.zero = some z)
    (hsize : i.size = size) (hby : i.bytes = bytes) (hzs : z.cells.size = size) (hsz : 0 < size)
    (g n cap : Nat) (hs : a.eval s = .slice (some ⟨g, 0, none⟩) n cap) (k : Nat) (hx : a.eval x = .int kq k)
    (cs : List Value) (hl : cs.length = n * size) (hcs : ∀ j u, cs[j]? = some u → w.cell? ⟨g, j, none⟩ = some u)
    (h0 : 0 < k) (hg : cap < n + k) (hnc : n ≤ cap) (h63 : n + k ≤ 1099511627776) (hbytes : (n + k) * bytes ≤ 140737488355328)
    (h : ∀ w' G Z, RowKit.Hid (w'.heap[w.heap.size]? = some (.cells (cs ++ Z).toArray e (0, 0))) → RowKit.Hid (Z.length = (G - n) * size) → n + k ≤ G → RowKit.Hid (G ≤ maxLen) → RowKit.Hid (w.grownBy w' none) →
      wpList P ops Q rest (a.put o.dst (.slice (some ⟨w.heap.size, 0, none⟩) (n + k) G)) w') : wpList P ops Q (o :: rest) a w := by
  refine wpList_plain hgd fun K hK => ?_
  subst hsize
  subst hby
  have hold : (Builtin.firstCells i.size n (.slice (some ⟨g, 0, none⟩) n cap)).run P w.drew = .ok cs.toArray w.drew :=
    run_firstCells_some w.drew i.size n ⟨g, 0, none⟩ n cap cs hl (fun j v hj => by rw [Addr.add_lit, Nat.zero_add]; exact hcs j v hj)
  have hfit : Builtin.nextslicecap (n + k) cap * i.bytes ≤ 281474976710656 := growslice_fits hg hbytes
  have hkb : k * i.bytes ≤ (n + k) * i.bytes := Nat.mul_le_mul_right _ (by omega)
  have hrun := Lib.run_append_grow_zeros (P := P) w t tn o.type e i z kq kn ht htn hi hz (some ⟨g, 0, none⟩) n cap cs hold k h0 hsz hg (by omega) (by omega) hfit
  have hG1 := grownCap_ge w (n + k) cap e
  have hG2 := grownCap_le_maxLen w (n + k) cap e (by unfold maxLen; omega)
  unfold Oper.wp execOp
  simp only [ho, resolve, invoke, builtin, Sem.run_bind, Sem.run_pure, Result.andThen_ok, List.map_toArray, List.map_cons, List.map_nil, hs, hx, hrun]
  refine hK _ _ (h _ _ ((Builtin.zeroCells z.cells k ++ Builtin.zeroCells z.cells (grownCap w (n + k) cap e - (n + k))).toList) ?_ ?_ hG1 hG2 ?_)
  · show _ = _
    refine (heap_alloc_new w.drew _).trans ?_
    simp
  · show _ = _
    simp only [Array.toList_append, List.length_append, Array.length_toList, size_zeroCells, hzs]
    rw [← Nat.add_mul]
    congr 1
    omega
  · show World.grownBy _ _ _
    exact ⟨rfl, rfl, rfl, by simp, fun j hj _ => Below.heap_alloc w.drew _ _ hj⟩

theorem splice_get {α : Type} (L : List α) (off : Nat) (cs : List α) (h : off + cs.length ≤ L.length) (j : Nat) : (splice L off cs)[j]? = if j < off then L[j]? else if j < off + cs.length then cs[j - off]? else L[j]? := by
  unfold splice
  by_cases h1 : j < off
  · rw [List.getElem?_append_left (by simp; omega), List.getElem?_take, if_pos h1, if_pos h1]
  · rw [List.getElem?_append_right (by simp; omega), if_neg h1]
    have e : (L.take off).length = off := by simp; omega
    rw [e]
    by_cases h2 : j < off + cs.length
    · rw [List.getElem?_append_left (by omega), if_pos h2]
    · rw [List.getElem?_append_right (by omega), if_neg h2, List.getElem?_drop]
      congr 1
      omega
theorem splice_length {α : Type} (L : List α) (off : Nat) (cs : List α) (h : off + cs.length ≤ L.length) : (splice L off cs).length = L.length := by
  unfold splice; simp; omega
/-- The row after the insertion in place. -/
theorem row_shift {α : Type} (cur : List α) (k m : Nat) (vs : List α) (hm : m + vs.length ≤ cur.length) (hk : k ≤ m) :
    (splice (splice cur (k + vs.length) ((cur.take m).drop k)) k vs).take (m + vs.length) = (cur.take m).take k ++ vs ++ (cur.take m).drop k := by
  have l1 : ((cur.take m).drop k).length = m - k := by simp; omega
  have h1 : (k + vs.length) + ((cur.take m).drop k).length ≤ cur.length := by omega
  have h2 : k + vs.length ≤ (splice cur (k + vs.length) ((cur.take m).drop k)).length := by rw [splice_length _ _ _ h1]; omega
  apply List.ext_getElem?
  intro j
  have e1 : ((cur.take m).take k).length = k := by simp; omega
  rw [List.getElem?_take, splice_get _ _ _ h2, splice_get _ _ _ h1, l1]
  by_cases c1 : j < k
  · rw [if_pos (by omega), if_pos c1, if_pos (by omega), List.getElem?_append_left (by simp; omega), List.getElem?_append_left (by omega), List.getElem?_take, if_pos c1, List.getElem?_take, if_pos (by omega)]
  · by_cases c2 : j < k + vs.length
    · rw [if_pos (by omega), if_neg c1, if_pos c2, List.getElem?_append_left (by simp; omega), List.getElem?_append_right (by omega), e1]
    · by_cases c3 : j < m + vs.length
      · rw [if_pos c3, if_neg c1, if_neg c2, if_neg c2, if_pos (by omega), List.getElem?_append_right (by simp; omega)]
        congr 1
        simp; omega
      · rw [if_neg c3, List.getElem?_eq_none]
        simp; omega
/-- .. and in a new row. -/
theorem row_grow {α : Type} (cs Z : List α) (k : Nat) (vs : List α) (hk : k ≤ cs.length) (hz : vs.length + (cs.length - k) ≤ Z.length) :
    (splice (splice (cs.take k ++ Z) k vs) (k + vs.length) (cs.drop k)).take (cs.length + vs.length) = cs.take k ++ vs ++ cs.drop k := by
  have h1 : k + vs.length ≤ (cs.take k ++ Z).length := by simp; omega
  have h2 : (k + vs.length) + (cs.drop k).length ≤ (splice (cs.take k ++ Z) k vs).length := by rw [splice_length _ _ _ h1]; simp; omega
  apply List.ext_getElem?
  intro j
  have e1 : (cs.take k).length = k := by simp; omega
  rw [List.getElem?_take, splice_get _ _ _ h2, splice_get _ _ _ h1]
  by_cases c1 : j < k
  · rw [if_pos (by omega), if_pos (by omega), if_pos c1, List.getElem?_append_left (by simp; omega), List.getElem?_append_left (by simp; omega), List.getElem?_append_left (by omega)]
  · by_cases c2 : j < k + vs.length
    · rw [if_pos (by omega), if_pos c2, if_neg c1, if_pos c2, List.getElem?_append_left (by simp; omega), List.getElem?_append_right (by omega), e1]
    · by_cases c3 : j < cs.length + vs.length
      · rw [if_pos c3, if_neg c2, if_pos (by simp; omega), List.getElem?_append_right (by simp; omega)]
        congr 1
        simp; omega
      · rw [if_neg c3, List.getElem?_eq_none]
        simp; omega
end
section
variable {P : Program}
/-- append in place, as a step of a region that draws. -/
theorem step_append_row {w : World} {ops : Array Oper} {o : Oper} {a : Act} {K : Act → World → Prop} {Q : Exit → Act → World → Prop} {E : Prop} (hgd : o.guard = none) (s x : Operand) (t : TypeId)
    (ho : o.op = .call { callee := .builtin .append, args := #[s, x], argTypes := #[t, t] }) (e : TypeId) (i : TypeInfo) (size : Nat) (ht : P.underlying t = some (.slice e)) (hi : P.info? e = some i) (hsize : i.size = size)
    (g n cap : Nat) (hs : a.eval s = .slice (some ⟨g, 0, none⟩) n cap) (cur : List Value) (hg : w.heap[g]? = some (.cells cur.toArray e (0, 0)))
    (ad : Addr) (m c : Nat) (news : List Value) (hx : a.eval x = .slice (some ad) m c) (hl : news.length = m * size) (hnews : ∀ j u, news[j]? = some u → w.cell? (ad.add j) = some u) (h1 : ∀ u ∈ news, u.oneCell' = true)
    (hroom : n + m ≤ cap) (hfit : n * size + news.length ≤ cur.length)
    (h : ∀ w', RowKit.Hid (w'.heap[g]? = some (.cells (splice cur (n * size) news).toArray e (0, 0))) → RowKit.Hid (w.grownBy w' (some g)) → K (a.put o.dst (.slice (some ⟨g, 0, none⟩) (n + m) cap)) w') :
    if Region.wanted o (yielded ops a.tmps) = true then Oper.wp P o a w K Q else E := by
  have hw : Region.wanted o (yielded ops a.tmps) = true := by simp [Region.wanted, hgd]
  rw [if_pos hw]
  subst hsize
  have hrun := run_append_room (P := P) w t o.type e i ht hi g n cap cur.toArray hg ad m c news hl hnews h1 hroom (by simpa using hfit)
  unfold Oper.wp
  simp only [execOp, ho, resolve, invoke, builtin, Sem.run_bind, Sem.run_pure, Result.andThen_ok, List.map_toArray, List.map_cons, List.map_nil, hs, hx, hrun]
  exact h _ (show _ = _ by simpa [splice] using setRow_heap w g _ _ e _ hg) (grown_setRow _ _ _)

/-- clear at elements of several cells. -/
theorem wpList_clear2 {w : World} {ops : Array Oper} {rest : List Oper} {o : Oper} {a : Act} {Q : Exit → Act → World → Prop} (hgd : o.guard = none) (s : Operand) (t : TypeId)
    (ho : o.op = .call { callee := .builtin .clear, args := #[s], argTypes := #[t] }) (e : TypeId) (i : TypeInfo) (z : Value) (size : Nat) (ht : P.underlying t = some (.slice e)) (hi : P.info? e = some i) (hz : i.zero = some z) (hzs : z.cells.size = size)
    (g off n cap : Nat) (hs : a.eval s = .slice (some ⟨g, off, none⟩) n cap) (hn : 0 < n) (cur : List Value) (hg : w.heap[g]? = some (.cells cur.toArray e (0, 0))) (hfit : off + n * size ≤ cur.length) (h1 : ∀ u ∈ (Builtin.zeroCells z.cells n).toList, u.oneCell' = true)
    (h : ∀ w', RowKit.Hid (w'.heap[g]? = some (.cells (splice cur off (Builtin.zeroCells z.cells n).toList).toArray e (0, 0))) → RowKit.Hid (w.grownBy w' (some g)) → wpList P ops Q rest (a.put o.dst (.tuple #[])) w') : wpList P ops Q (o :: rest) a w := by
  refine wpList_plain hgd fun K hK => ?_
  have hzl : (Builtin.zeroCells z.cells n).toList.length = n * size := by rw [Array.length_toList, size_zeroCells, hzs]
  have hst := run_storeCells_at P g off e (Builtin.zeroCells z.cells n).toList 0 cur.toArray w hg (by rw [hzl]; simpa using hfit) h1
  obtain ⟨n, rfl⟩ : ∃ m, n = m + 1 := ⟨n - 1, by omega⟩
  have hrun : ∀ ty, (Builtin.clear_ #[t] ty #[.slice (some ⟨g, off, none⟩) (n + 1) cap]).run P w = .ok (.tuple #[]) (w.setRow g (cur.take off ++ (Builtin.zeroCells z.cells (n + 1)).toList ++ cur.drop (off + (Builtin.zeroCells z.cells (n + 1)).toList.length)).toArray) := by
    intro ty
    simp only [Nat.add_zero] at hst
    simp [Builtin.clear_, run_underlying ht, zeroValue, typeInfo, hi, hz, hst]
  unfold Oper.wp
  simp only [execOp, ho, resolve, invoke, builtin, Sem.run_bind, Sem.run_pure, Result.andThen_ok, List.map_toArray, List.map_cons, List.map_nil, hs, hrun]
  exact hK _ _ (h _ (show _ = _ by simpa [splice] using setRow_heap w g _ _ e _ hg) (grown_setRow _ _ _))

theorem row_delete {α : Type} (cur : List α) (k m d : Nat) (zs : List α) (hm : m ≤ cur.length) (hk : k + d ≤ m) (hz : zs.length ≤ d) :
    (splice (splice cur k ((cur.take m).drop (k + d))) (m - d) zs).take (m - d) = (cur.take m).take k ++ (cur.take m).drop (k + d) := by
  have l1 : ((cur.take m).drop (k + d)).length = m - (k + d) := by simp; omega
  have h1 : k + ((cur.take m).drop (k + d)).length ≤ cur.length := by omega
  have h2 : (m - d) + zs.length ≤ (splice cur k ((cur.take m).drop (k + d))).length := by rw [splice_length _ _ _ h1]; omega
  have e1 : ((cur.take m).take k).length = k := by simp; omega
  apply List.ext_getElem?
  intro j
  rw [List.getElem?_take, splice_get _ _ _ h2, splice_get _ _ _ h1, l1]
  by_cases c1 : j < k
  · rw [if_pos (by omega), if_pos (by omega), if_pos c1, List.getElem?_append_left (by omega), List.getElem?_take, if_pos c1, List.getElem?_take, if_pos (by omega)]
  · by_cases c2 : j < m - d
    · rw [if_pos c2, if_pos c2, if_neg c1, if_pos (by omega), List.getElem?_append_right (by omega), e1]
    · rw [if_neg c2, List.getElem?_eq_none]
      simp; omega
end
theorem grown_drew {w w' : World} {g : Option Nat} (h : w.drew.grownBy w' g) : w.grownBy w' g := ⟨h.os, h.tape, h.output, h.size, h.block⟩
end Go.Proofs.Ytldofiankhimjaa
/- What lies in memory, piece by piece: assertions over footprints, their separate conjunction, and how a call on one piece leaves the others. -/
namespace Go.Proofs.Ytldofiankhimjaa
open Go.RowKit

/-- An assertion on the blocks of a footprint. -/
structure Asn where
  p : World → List Nat → Prop
  lt : ∀ {w : World} {fp : List Nat}, p w fp → ∀ k ∈ fp, k < w.heap.size
  loc : ∀ {w w' : World} {fp : List Nat}, p w fp → (∀ k ∈ fp, w'.heap[k]? = w.heap[k]?) → p w' fp

def Star (w : World) : List Asn → List Nat → Prop
  | [], fp => fp = []
  | A :: L, fp => ∃ f g, A.p w f ∧ Star w L g ∧ (∀ k ∈ f, k ∉ g) ∧ fp = f ++ g
theorem Star.lt {w : World} : ∀ {L : List Asn} {fp : List Nat}, Star w L fp → ∀ k ∈ fp, k < w.heap.size
  | [], fp, h, k, hk => by rw [show fp = [] from h] at hk; cases hk
  | A :: L, fp, h, k, hk => by
    obtain ⟨f, g, h1, h2, _, rfl⟩ := h
    rcases List.mem_append.1 hk with hk | hk
    · exact A.lt h1 k hk
    · exact Star.lt h2 k hk
theorem Star.loc {w w' : World} : ∀ {L : List Asn} {fp : List Nat}, Star w L fp → (∀ k ∈ fp, w'.heap[k]? = w.heap[k]?) → Star w' L fp
  | [], fp, h, _ => h
  | A :: L, fp, h, hs => by
    obtain ⟨f, g, h1, h2, h3, rfl⟩ := h
    exact ⟨f, g, A.loc h1 (fun k hk => hs k (List.mem_append.2 (.inl hk))), Star.loc h2 (fun k hk => hs k (List.mem_append.2 (.inr hk))), h3, rfl⟩

/-- Only the blocks of fp (and new ones) may have turned; what is held now is of fp or new. -/
structure Tr (w w' : World) (fp fp' : List Nat) : Prop where
  os : w'.os = w.os
  tape : w'.tape = w.tape
  output : w'.output = w.output
  size : w.heap.size ≤ w'.heap.size
  block : ∀ k, k < w.heap.size → k ∉ fp → w'.heap[k]? = w.heap[k]?
  new : ∀ k ∈ fp', k ∈ fp ∨ w.heap.size ≤ k
theorem Tr.refl (w : World) (fp : List Nat) : Tr w w fp fp := ⟨rfl, rfl, rfl, Nat.le_refl _, fun _ _ _ => rfl, fun _ h => .inl h⟩
theorem Tr.trans {w w1 w2 : World} {fp fp1 fp2 : List Nat} (h : Tr w w1 fp fp1) (h' : Tr w1 w2 fp1 fp2) : Tr w w2 fp fp2 := by
  refine ⟨h'.os.trans h.os, h'.tape.trans h.tape, h'.output.trans h.output, Nat.le_trans h.size h'.size, fun k hk hn => ?_, fun k hk => ?_⟩
  · refine (h'.block k (Nat.lt_of_lt_of_le hk h.size) fun h1 => ?_).trans (h.block k hk hn)
    rcases h.new k h1 with h2 | h2
    · exact hn h2
    · omega
  · rcases h'.new k hk with h1 | h1
    · exact h.new k h1
    · exact .inr (Nat.le_trans h.size h1)
theorem Tr.of_below {w w' : World} (fp : List Nat) (h : Below w.heap.size w w') : Tr w w' fp fp := ⟨h.os, h.tape, h.output, h.size, fun k hk _ => h.block k hk, fun _ h => .inl h⟩
theorem Tr.below {w w' : World} {fp fp' : List Nat} {B : Nat} (h : Tr w w' fp fp') (hB : B ≤ w.heap.size) (hf : ∀ k ∈ fp, B ≤ k) : Below B w w' :=
  ⟨h.os, h.tape, h.output, h.size, fun k hk => h.block k (by omega) fun h1 => by have := hf k h1; omega⟩
theorem Tr.of_grown {w w' : World} {o o' : Option Nat} (h : w.grownBy w' o) (hn : ∀ k, o' = some k → o = some k ∨ w.heap.size ≤ k) : Tr w w' o.toList o'.toList :=
  ⟨h.os, h.tape, h.output, h.size, fun k hk hm => h.block k hk (fun e => hm (by rw [← e]; simp)), fun k hk => by
    have : o' = some k := by cases o' <;> simp_all
    rcases hn k this with h1 | h1
    · left; rw [h1]; simp
    · exact .inr h1⟩

/-- One piece in view. -/
theorem Star.get {w : World} : ∀ {L : List Asn} {fp : List Nat} (i : Nat) {A : Asn}, L[i]? = some A → Star w L fp →
    ∃ f, A.p w f ∧ (∀ k ∈ f, k ∈ fp) ∧ ∀ (A' : Asn) (w' : World) (f' : List Nat), A'.p w' f' → Tr w w' f f' → ∃ fp', Star w' (L.set i A') fp' ∧ Tr w w' fp fp'
  | [], fp, i, A, h, _ => by simp at h
  | B :: L, fp, 0, A, h, hs => by
    obtain rfl : B = A := by simpa using h
    obtain ⟨f, g, h1, h2, h3, rfl⟩ := hs
    refine ⟨f, h1, fun k hk => List.mem_append.2 (.inl hk), fun A' w' f' ha ht => ⟨f' ++ g, ⟨f', g, ha, h2.loc fun k hk => ht.block k (h2.lt k hk) fun h => h3 k h hk, fun k hk hg => ?_, rfl⟩, ?_⟩⟩
    · rcases ht.new k hk with h | h
      · exact h3 k h hg
      · have := h2.lt k hg; omega
    · refine ⟨ht.os, ht.tape, ht.output, ht.size, fun k hk hn => ht.block k hk fun h => hn (List.mem_append.2 (.inl h)), fun k hk => ?_⟩
      rcases List.mem_append.1 hk with hk | hk
      · rcases ht.new k hk with h | h
        · exact .inl (List.mem_append.2 (.inl h))
        · exact .inr h
      · exact .inl (List.mem_append.2 (.inr hk))
  | B :: L, fp, i + 1, A, h, hs => by
    obtain ⟨f0, g, h1, h2, h3, rfl⟩ := hs
    obtain ⟨f, hf, hfg, hk⟩ := Star.get i (by simpa using h) h2
    refine ⟨f, hf, fun k hk => List.mem_append.2 (.inr (hfg k hk)), fun A' w' f' ha ht => ?_⟩
    obtain ⟨g', hg', htg⟩ := hk A' w' f' ha ht
    refine ⟨f0 ++ g', ⟨f0, g', B.loc h1 fun k hk => ht.block k (B.lt h1 k hk) fun h => h3 k hk (hfg k h), hg', fun k hk hg => ?_, rfl⟩, ?_⟩
    · rcases htg.new k hg with h | h
      · exact h3 k hk h
      · have := B.lt h1 k hk; omega
    · refine ⟨ht.os, ht.tape, ht.output, ht.size, fun k hk hn => htg.block k hk fun h => hn (List.mem_append.2 (.inr h)), fun k hk => ?_⟩
      rcases List.mem_append.1 hk with hk | hk
      · exact .inl (List.mem_append.2 (.inl hk))
      · rcases htg.new k hk with h | h
        · exact .inl (List.mem_append.2 (.inr h))
        · exact .inr h
/-- A piece more. -/
theorem Star.snoc {w : World} {L : List Asn} {fp : List Nat} {A : Asn} {f : List Nat} (h : Star w L fp) (ha : A.p w f) (hd : ∀ k ∈ f, k ∉ fp) : Star w (L ++ [A]) (fp ++ f) := by
  induction L generalizing fp with
  | nil =>
    rw [show fp = [] from h]
    exact ⟨f, [], ha, rfl, by simp, by simp⟩
  | cons B L ih =>
    obtain ⟨f0, g, h1, h2, h3, rfl⟩ := h
    refine ⟨f0, g ++ f, h1, ih h2 (fun k hk hg => hd k hk (List.mem_append.2 (.inr hg))), fun k hk hg => ?_, by simp⟩
    rcases List.mem_append.1 hg with hg | hg
    · exact h3 k hk hg
    · exact hd k hg (List.mem_append.2 (.inl hk))
theorem Star.append {w : World} : ∀ {L1 L2 : List Asn} {fp : List Nat}, Star w (L1 ++ L2) fp → ∃ f g, Star w L1 f ∧ Star w L2 g ∧ (∀ k ∈ f, k ∉ g) ∧ fp = f ++ g
  | [], L2, fp, h => ⟨[], fp, rfl, h, by simp, rfl⟩
  | A :: L1, L2, fp, h => by
    obtain ⟨f0, g, h1, h2, h3, rfl⟩ := h
    obtain ⟨f, g', h4, h5, h6, rfl⟩ := Star.append h2
    refine ⟨f0 ++ f, g', ⟨f0, f, h1, h4, fun k hk hf => h3 k hk (List.mem_append.2 (.inl hf)), rfl⟩, h5, fun k hk hg => ?_, by simp⟩
    rcases List.mem_append.1 hk with hk | hk
    · exact h3 k hk (List.mem_append.2 (.inr hg))
    · exact h6 k hk hg
theorem Star.join {w : World} : ∀ {L1 L2 : List Asn} {f g : List Nat}, Star w L1 f → Star w L2 g → (∀ k ∈ f, k ∉ g) → Star w (L1 ++ L2) (f ++ g)
  | [], L2, f, g, h, h', _ => by rw [show f = [] from h]; exact h'
  | A :: L1, L2, fp, g, h, h', hd => by
    obtain ⟨f0, f, h1, h2, h3, rfl⟩ := h
    refine ⟨f0, f ++ g, h1, Star.join h2 h' (fun k hk => hd k (List.mem_append.2 (.inr hk))), fun k hk hm => ?_, by simp⟩
    rcases List.mem_append.1 hm with hm | hm
    · exact h3 k hk hm
    · exact hd k (List.mem_append.2 (.inl hk)) hm
theorem Star.pick {w : World} : ∀ {L : List Asn} {fp : List Nat} (i : Nat) {A : Asn}, L[i]? = some A → Star w L fp → ∃ fp', Star w (A :: L.eraseIdx i) fp' ∧ ∀ k, k ∈ fp' ↔ k ∈ fp
  | [], fp, i, A, h, _ => by simp at h
  | B :: L, fp, 0, A, h, hs => by
    obtain rfl : B = A := by simpa using h
    exact ⟨fp, hs, fun _ => Iff.rfl⟩
  | B :: L, fp, i + 1, A, h, hs => by
    obtain ⟨f0, g, h1, h2, h3, rfl⟩ := hs
    obtain ⟨g', ⟨fa, gr, ha, hr, hd, rfl⟩, hm⟩ := Star.pick i (by simpa using h) h2
    refine ⟨fa ++ (f0 ++ gr), ⟨fa, f0 ++ gr, ha, ⟨f0, gr, h1, hr, fun k hk hg => h3 k hk ((hm k).1 (List.mem_append.2 (.inr hg))), rfl⟩, fun k hk hg => ?_, rfl⟩, fun k => ?_⟩
    · rcases List.mem_append.1 hg with hg | hg
      · exact h3 k hg ((hm k).1 (List.mem_append.2 (.inl hk)))
      · exact hd k hk hg
    · have := hm k
      simp only [List.mem_append] at this ⊢
      constructor
      · rintro (h | h | h)
        · exact .inr (this.1 (.inl h))
        · exact .inl h
        · exact .inr (this.1 (.inr h))
      · rintro (h | h)
        · exact .inr (.inl h)
        · rcases this.2 h with h | h
          · exact .inl h
          · exact .inr (.inr h)

/-! The state of a walk: pieces, against the world and the footprint of its beginning. -/
def St (w0 : World) (fp0 : List Nat) (L : List Asn) (w : World) : Prop := ∃ fp, Star w L fp ∧ Tr w0 w fp0 fp
theorem St.start {w : World} {L : List Asn} {fp : List Nat} (h : Star w L fp) : St w fp L w := ⟨fp, h, Tr.refl _ _⟩
theorem St.get {w0 w : World} {fp0 : List Nat} {L : List Asn} (h : St w0 fp0 L w) (i : Nat) {A : Asn} (hi : L[i]? = some A) :
    ∃ f, A.p w f ∧ ∀ (A' : Asn) (w' : World) (f' : List Nat), A'.p w' f' → Tr w w' f f' → St w0 fp0 (L.set i A') w' := by
  obtain ⟨fp, hs, ht⟩ := h
  obtain ⟨f, h1, _, h2⟩ := hs.get i hi
  refine ⟨f, h1, fun A' w' f' ha htr => ?_⟩
  obtain ⟨fp', h3, h4⟩ := h2 A' w' f' ha htr
  exact ⟨fp', h3, ht.trans h4⟩
theorem St.has {w0 w : World} {fp0 : List Nat} {L : List Asn} (h : St w0 fp0 L w) (i : Nat) {A : Asn} (hi : L[i]? = some A) : ∃ f, A.p w f := by
  obtain ⟨f, h1, _⟩ := h.get i hi
  exact ⟨f, h1⟩
theorem St.mono {w0 w w' : World} {fp0 : List Nat} {L : List Asn} (h : St w0 fp0 L w) (hb : Below w.heap.size w w') : St w0 fp0 L w' := by
  obtain ⟨fp, hs, ht⟩ := h
  exact ⟨fp, hs.loc fun k hk => hb.block k (hs.lt k hk), ht.trans (Tr.of_below fp hb)⟩
/-- A new piece. -/
theorem St.add {w0 w w' : World} {fp0 : List Nat} {L : List Asn} (h : St w0 fp0 L w) (hb : Below w.heap.size w w') {A : Asn} {f : List Nat} (ha : A.p w' f) (hn : ∀ k ∈ f, w.heap.size ≤ k) : St w0 fp0 (L ++ [A]) w' := by
  obtain ⟨fp, hs, ht⟩ := h
  refine ⟨fp ++ f, (hs.loc fun k hk => hb.block k (hs.lt k hk)).snoc ha (fun k hk hf => by have := hs.lt k hf; have := hn k hk; omega), ht.trans ⟨hb.os, hb.tape, hb.output, hb.size, fun k hk _ => hb.block k hk, fun k hk => ?_⟩⟩
  rcases List.mem_append.1 hk with hk | hk
  · exact .inl hk
  · exact .inr (hn k hk)
theorem St.pick {w0 w : World} {fp0 : List Nat} {L : List Asn} (h : St w0 fp0 L w) (i : Nat) {A : Asn} (hi : L[i]? = some A) : St w0 fp0 (A :: L.eraseIdx i) w := by
  obtain ⟨fp, hs, ht⟩ := h
  obtain ⟨fp', h1, h2⟩ := hs.pick i hi
  exact ⟨fp', h1, ht.os, ht.tape, ht.output, ht.size, ht.block, fun k hk => ht.new k ((h2 k).1 hk)⟩
theorem St.drop {w0 w : World} {fp0 : List Nat} {A : Asn} {L : List Asn} (h : St w0 fp0 (A :: L) w) : St w0 fp0 L w := by
  obtain ⟨fp, ⟨f, g, h1, h2, h3, rfl⟩, ht⟩ := h
  exact ⟨g, h2, ht.os, ht.tape, ht.output, ht.size, ht.block, fun k hk => ht.new k (List.mem_append.2 (.inr hk))⟩
/-- The first pieces become one. -/
theorem St.fold {w0 w : World} {fp0 : List Nat} {L1 L2 : List Asn} {B : Asn} (h : St w0 fp0 (L1 ++ L2) w) (hB : ∀ f, Star w L1 f → B.p w f) : St w0 fp0 (B :: L2) w := by
  obtain ⟨fp, hs, ht⟩ := h
  obtain ⟨f, g, h1, h2, h3, rfl⟩ := hs.append
  exact ⟨f ++ g, ⟨f, g, hB f h1, h2, h3, rfl⟩, ht⟩
/-- The first piece becomes several. -/
theorem St.unfold {w0 w : World} {fp0 : List Nat} {α : Sort _} {L1 : α → List Asn} {L2 : List Asn} {B : Asn} (h : St w0 fp0 (B :: L2) w) (hB : ∀ f, B.p w f → ∃ a, Star w (L1 a) f) : ∃ a, St w0 fp0 (L1 a ++ L2) w := by
  obtain ⟨fp, ⟨f, g, h1, h2, h3, rfl⟩, ht⟩ := h
  obtain ⟨a, ha⟩ := hB f h1
  exact ⟨a, f ++ g, ha.join h2 h3, ht⟩

/-! Pieces. -/
def emp : Asn := ⟨fun _ fp => fp = [], fun h k hk => (by rw [h] at hk; cases hk), fun h _ => h⟩
def pureA (P : Prop) : Asn := ⟨fun _ fp => P ∧ fp = [], fun h k hk => (by rw [h.2] at hk; cases hk), fun h _ => h⟩
def blkA (b : Nat) (t : TypeId) (c : Array Value) : Asn :=
  ⟨fun w fp => w.heap[b]? = some (.cells c t (0, 0)) ∧ fp = [b], fun h k hk => by
    rw [h.2] at hk
    obtain rfl := List.mem_singleton.1 hk
    exact (Array.getElem?_eq_some_iff.1 h.1).1, fun h hs => ⟨(hs b (by rw [h.2]; simp)).trans h.1, h.2⟩⟩
theorem own_loc {w w' : World} {t : TypeId} {size : Nat} {v : Value} {n : Nat} {xs : List Value} (h : w.ownsRow 0 t size v n xs) (hs : ∀ k ∈ v.ownBlock.toList, w'.heap[k]? = w.heap[k]?) : w'.ownsRow 0 t size v n xs := by
  refine ⟨h.1, ?_⟩
  rcases h.2 with h1 | ⟨g, cap, cur, rfl, hb, hg, rest⟩
  · exact .inl h1
  · exact .inr ⟨g, cap, cur, rfl, hb, (hs g (by simp [Value.ownBlock])).trans hg, rest⟩
/-- A slice of values of one cell, in a block of its own. -/
def slA (t : TypeId) (v : Value) (xs : List Value) : Asn :=
  ⟨fun w fp => w.ownsRow 0 t 1 v xs.length xs ∧ fp = v.ownBlock.toList, fun h k hk => by
    rw [h.2] at hk
    exact (h.1.lt k (by cases hv : v.ownBlock <;> simp_all)).2, fun h hs => ⟨own_loc h.1 (by rw [← h.2]; exact hs), h.2⟩⟩
def starA (L : List Asn) : Asn := ⟨fun w fp => Star w L fp, fun h => h.lt, fun h => h.loc⟩
def exA {α : Type} (F : α → Asn) : Asn := ⟨fun w fp => ∃ a, (F a).p w fp, fun ⟨a, h⟩ => (F a).lt h, fun ⟨a, h⟩ hs => ⟨a, (F a).loc h hs⟩⟩

/-! What a piece says to the walk. -/
theorem blk_get {w : World} {b : Nat} {t : TypeId} {c : Array Value} {f : List Nat} (h : (blkA b t c).p w f) : (∀ j, w.cell? ⟨b, j, none⟩ = c[j]?) ∧ (∀ j, w.frozen? ⟨b, j, none⟩ = false) ∧ b < w.heap.size :=
  ⟨fun j => cell_of_row w b j c t (0, 0) h.1, fun j => frozen_of_row w b j c t h.1, (Array.getElem?_eq_some_iff.1 h.1).1⟩
theorem blk_set {w : World} {b : Nat} {t : TypeId} {c : Array Value} {f : List Nat} (h : (blkA b t c).p w f) (i : Nat) (v : Value) :
    (blkA b t (c.setIfInBounds i v)).p (w.setCell ⟨b, i, none⟩ v) [b] ∧ Tr w (w.setCell ⟨b, i, none⟩ v) f [b] := by
  obtain ⟨h1, h2⟩ := h
  subst h2
  exact ⟨⟨heap_setCell_same w b i c t v h1, rfl⟩, ⟨rfl, rfl, rfl, by simp, fun k _ hk => Below.heap_setCell w ⟨b, i, none⟩ v k (fun e => hk (by simp [e])), fun k hk => .inl hk⟩⟩
theorem sl_get {w : World} {t : TypeId} {v : Value} {xs : List Value} {f : List Nat} (h : (slA t v xs).p w f) : ∃ a c, v = .slice a xs.length c ∧ xs.length ≤ c ∧ c ≤ maxLen ∧ ((a = none ∧ xs = [] ∧ c = 0) ∨ ∃ g, a = some ⟨g, 0, none⟩ ∧ g < w.heap.size ∧ (∀ i, i < xs.length → w.cell? ⟨g, i, none⟩ = xs[i]?) ∧ ∀ i, w.frozen? ⟨g, i, none⟩ = false) := by
  obtain ⟨ho, _⟩ := h
  have ho' := ho
  rcases ho'.2 with ⟨rfl, h0⟩ | ⟨g, cap, cur, rfl, hb, hg, hn, hc, hs, ht⟩
  · have : xs = [] := List.length_eq_zero_iff.1 h0
    subst this
    exact ⟨none, 0, rfl, Nat.le_refl _, Nat.zero_le _, .inl ⟨rfl, rfl, rfl⟩⟩
  · exact ⟨_, cap, rfl, hn, hc, .inr ⟨g, rfl, (Array.getElem?_eq_some_iff.1 hg).1, fun i hi => ho.cellAt i (by omega), fun i => ho.frozenAt i⟩⟩
theorem sl_set {w : World} {t : TypeId} {g c : Nat} {xs : List Value} {f : List Nat} {n : Nat} (h : (slA t (.slice (some ⟨g, 0, none⟩) n c) xs).p w f) (i : Nat) (v : Value) :
    (slA t (.slice (some ⟨g, 0, none⟩) n c) (xs.set i v)).p (w.setCell ⟨g, i, none⟩ v) [g] ∧ Tr w (w.setCell ⟨g, i, none⟩ v) f [g] := by
  obtain ⟨h1, h2⟩ := h
  have hn : n = xs.length := by
    rcases h1.2 with ⟨e, _⟩ | ⟨_, _, _, e, _⟩
    · cases e
    · injection e
  subst hn
  obtain ⟨h3, h4⟩ := h1.stored i v
  refine ⟨⟨by rw [List.length_set]; exact h3, rfl⟩, ?_⟩
  rw [h2]
  exact Tr.of_grown (o := some g) (o' := some g) h4 (fun k hk => .inl hk)
end Go.Proofs.Ytldofiankhimjaa
/- Plain: ascending lists of pairs as maps, over any total order of keys. -/
namespace Go.Proofs.Ytldofiankhimjaa

/-- A comparison that is a total order. -/
class KOrd (κ : Type) where
  cmp : κ → κ → Int
  range : ∀ a b, cmp a b = -1 ∨ cmp a b = 0 ∨ cmp a b = 1
  zero : ∀ {a b}, cmp a b = 0 ↔ a = b
  swap : ∀ a b, cmp b a = - cmp a b
  trans : ∀ {a b c}, cmp a b < 0 → cmp b c < 0 → cmp a c < 0
section
variable {κ ν : Type} [KOrd κ]
def ltK (a b : κ) : Prop := KOrd.cmp a b < 0
instance (a b : κ) : Decidable (ltK a b) := inferInstanceAs (Decidable (_ < _))
def eqK (a b : κ) : Bool := decide (KOrd.cmp a b = 0)
theorem eqK_iff {a b : κ} : eqK a b = true ↔ a = b := by unfold eqK; rw [decide_eq_true_iff]; exact KOrd.zero
theorem eqK_not {a b : κ} : eqK a b = false ↔ a ≠ b := by rw [← Bool.not_eq_true, eqK_iff]
theorem eqK_self (a : κ) : eqK a a = true := eqK_iff.2 rfl
theorem ltK_irrefl (a : κ) : ¬ ltK a a := by unfold ltK; rw [KOrd.zero.2 rfl]; omega
theorem ltK_trans {a b c : κ} (h1 : ltK a b) (h2 : ltK b c) : ltK a c := KOrd.trans h1 h2
theorem ltK_asymm {a b : κ} (h : ltK a b) : ¬ ltK b a := fun h' => ltK_irrefl _ (ltK_trans h h')
theorem ltK_ne {a b : κ} (h : ltK a b) : a ≠ b := fun e => by subst e; exact ltK_irrefl _ h
theorem ltK_tri (a b : κ) : ltK a b ∨ a = b ∨ ltK b a := by
  unfold ltK
  rw [KOrd.swap a b]
  rcases KOrd.range a b with h | h | h
  · left; omega
  · right; left; exact KOrd.zero.1 h
  · right; right; omega
theorem ltK_of_not {a b : κ} (h : ¬ ltK a b) (hne : a ≠ b) : ltK b a := by
  rcases ltK_tri a b with h1 | h1 | h1
  · exact absurd h1 h
  · exact absurd h1 hne
  · exact h1

abbrev M (κ ν : Type) := List (κ × ν)
/-- Strictly ascending. -/
def AscM (l : M κ ν) : Prop := l.Pairwise fun a b => ltK a.1 b.1
def getM : M κ ν → κ → Option ν
  | [], _ => none
  | x :: l, k => if eqK x.1 k then some x.2 else getM l k
def putM : M κ ν → κ → ν → M κ ν
  | [], k, v => [(k, v)]
  | x :: l, k, v => if ltK x.1 k then x :: putM l k v else if eqK x.1 k then (k, v) :: l else (k, v) :: x :: l
def delM : M κ ν → κ → M κ ν
  | [], _ => []
  | x :: l, k => if eqK x.1 k then l else x :: delM l k

/-- All keys of l are less than k. -/
def AllLt (l : M κ ν) (k : κ) : Prop := ∀ x ∈ l, ltK x.1 k
def AllGt (k : κ) (l : M κ ν) : Prop := ∀ x ∈ l, ltK k x.1
theorem AllLt.nil (k : κ) : AllLt ([] : M κ ν) k := by intro x h; cases h
theorem AllGt.nil (k : κ) : AllGt k ([] : M κ ν) := by intro x h; cases h
theorem AllLt.append {l m : M κ ν} {k : κ} (h1 : AllLt l k) (h2 : AllLt m k) : AllLt (l ++ m) k := by
  intro x h
  rcases List.mem_append.1 h with h | h
  · exact h1 x h
  · exact h2 x h
theorem AllGt.append {l m : M κ ν} {k : κ} (h1 : AllGt k l) (h2 : AllGt k m) : AllGt k (l ++ m) := by
  intro x h
  rcases List.mem_append.1 h with h | h
  · exact h1 x h
  · exact h2 x h
theorem getM_lt {l : M κ ν} {k : κ} (h : AllLt l k) (m : M κ ν) : getM (l ++ m) k = getM m k := by
  induction l with
  | nil => rfl
  | cons x l ih =>
    rw [List.cons_append, getM, if_neg (by rw [eqK_iff]; exact ltK_ne (h x (by simp))), ih fun y hy => h y (List.mem_cons_of_mem _ hy)]
theorem getM_gt {m : M κ ν} {k : κ} (h : AllGt k m) (l : M κ ν) : getM (l ++ m) k = getM l k := by
  induction l with
  | nil =>
    induction m with
    | nil => rfl
    | cons x m ih =>
      have e : getM (x :: m) k = getM m k := by rw [getM, if_neg (by rw [eqK_iff]; exact (ltK_ne (h x (by simp))).symm)]
      exact e.trans (ih fun y hy => h y (List.mem_cons_of_mem _ hy))
  | cons x l ih => rw [List.cons_append, getM, getM, ih]
theorem putM_lt {l : M κ ν} {k : κ} (h : AllLt l k) (m : M κ ν) (v : ν) : putM (l ++ m) k v = l ++ putM m k v := by
  induction l with
  | nil => rfl
  | cons x l ih => rw [List.cons_append, putM, if_pos (h x (by simp)), ih fun y hy => h y (List.mem_cons_of_mem _ hy)]; rfl
theorem putM_gt {m : M κ ν} {k : κ} (h : AllGt k m) (l : M κ ν) (v : ν) : putM (l ++ m) k v = putM l k v ++ m := by
  induction l with
  | nil =>
    cases m with
    | nil => rfl
    | cons x m =>
      have hx := h x (by simp)
      have e : putM (x :: m) k v = (k, v) :: x :: m := by rw [putM, if_neg (ltK_asymm hx), if_neg (by rw [eqK_iff]; exact (ltK_ne hx).symm)]
      exact e
  | cons x l ih =>
    rw [List.cons_append, putM, putM]
    split
    · rw [ih]; rfl
    · split <;> rfl
theorem delM_lt {l : M κ ν} {k : κ} (h : AllLt l k) (m : M κ ν) : delM (l ++ m) k = l ++ delM m k := by
  induction l with
  | nil => rfl
  | cons x l ih => rw [List.cons_append, delM, if_neg (by rw [eqK_iff]; exact ltK_ne (h x (by simp))), ih fun y hy => h y (List.mem_cons_of_mem _ hy)]; rfl
theorem delM_gt {m : M κ ν} {k : κ} (h : AllGt k m) (l : M κ ν) : delM (l ++ m) k = delM l k ++ m := by
  induction l with
  | nil =>
    induction m with
    | nil => rfl
    | cons x m ih =>
      have e : delM (x :: m) k = x :: delM m k := by rw [delM, if_neg (by rw [eqK_iff]; exact (ltK_ne (h x (by simp))).symm)]
      have := ih fun y hy => h y (List.mem_cons_of_mem _ hy)
      rw [List.nil_append] at this
      exact e.trans (by rw [this]; rfl)
  | cons x l ih =>
    rw [List.cons_append, delM, delM]
    split
    · rfl
    · rw [ih]; rfl
theorem putM_here {l m : M κ ν} {x : κ × ν} {k : κ} (h : AllLt l k) (e : x.1 = k) (v : ν) : putM (l ++ x :: m) k v = l ++ (k, v) :: m := by
  rw [putM_lt h, putM, if_neg (by rw [e]; exact ltK_irrefl _), if_pos (eqK_iff.2 e)]
theorem putM_new {l m : M κ ν} {k : κ} (h : AllLt l k) (h' : AllGt k m) (v : ν) : putM (l ++ m) k v = l ++ (k, v) :: m := by
  rw [putM_lt h]
  have := putM_gt h' [] v
  rw [List.nil_append] at this
  rw [this]; rfl
theorem getM_here {l m : M κ ν} {x : κ × ν} {k : κ} (h : AllLt l k) (e : x.1 = k) : getM (l ++ x :: m) k = some x.2 := by
  rw [getM_lt h, getM, if_pos (eqK_iff.2 e)]
theorem getM_none {l m : M κ ν} {k : κ} (h : AllLt l k) (h' : AllGt k m) : getM (l ++ m) k = none := by
  rw [getM_lt h]
  have := getM_gt h' ([] : M κ ν)
  rw [List.nil_append] at this
  rw [this]; rfl
theorem delM_here {l m : M κ ν} {x : κ × ν} {k : κ} (h : AllLt l k) (e : x.1 = k) : delM (l ++ x :: m) k = l ++ m := by
  rw [delM_lt h, delM, if_pos (eqK_iff.2 e)]
theorem delM_none {l m : M κ ν} {k : κ} (h : AllLt l k) (h' : AllGt k m) : delM (l ++ m) k = l ++ m := by
  rw [delM_lt h]
  have := delM_gt h' ([] : M κ ν)
  rw [List.nil_append] at this
  rw [this]; rfl
theorem mem_putM {l : M κ ν} {k : κ} {v : ν} {y : κ × ν} (h : y ∈ putM l k v) : y = (k, v) ∨ y ∈ l := by
  induction l with
  | nil => simpa [putM] using h
  | cons x l ih =>
    rw [putM] at h
    split at h
    · rcases List.mem_cons.1 h with h | h
      · exact .inr (List.mem_cons.2 (.inl h))
      · rcases ih h with h | h
        · exact .inl h
        · exact .inr (List.mem_cons_of_mem _ h)
    · split at h
      · rcases List.mem_cons.1 h with h | h
        · exact .inl h
        · exact .inr (List.mem_cons_of_mem _ h)
      · rcases List.mem_cons.1 h with h | h
        · exact .inl h
        · exact .inr h
theorem mem_delM {l : M κ ν} {k : κ} {y : κ × ν} (h : y ∈ delM l k) : y ∈ l := by
  induction l with
  | nil => exact h
  | cons x l ih =>
    rw [delM] at h
    split at h
    · exact List.mem_cons_of_mem _ h
    · rcases List.mem_cons.1 h with h | h
      · exact List.mem_cons.2 (.inl h)
      · exact List.mem_cons_of_mem _ (ih h)
theorem AscM.cons {x : κ × ν} {l : M κ ν} : AscM (x :: l) ↔ AllGt x.1 l ∧ AscM l := List.pairwise_cons
theorem AscM.append {l m : M κ ν} : AscM (l ++ m) ↔ AscM l ∧ AscM m ∧ ∀ a ∈ l, ∀ b ∈ m, ltK a.1 b.1 := List.pairwise_append
theorem AscM.mid {l m : M κ ν} {x : κ × ν} (h : AscM (l ++ x :: m)) : AscM l ∧ AscM m ∧ AllLt l x.1 ∧ AllGt x.1 m ∧ ∀ a ∈ l, ∀ b ∈ m, ltK a.1 b.1 := by
  obtain ⟨h1, h2, h3⟩ := AscM.append.1 h
  obtain ⟨h4, h5⟩ := AscM.cons.1 h2
  exact ⟨h1, h5, fun a ha => h3 a ha x (by simp), h4, fun a ha b hb => h3 a ha b (List.mem_cons_of_mem _ hb)⟩
theorem ascM_putM {l : M κ ν} (h : AscM l) (k : κ) (v : ν) : AscM (putM l k v) := by
  induction l with
  | nil => exact List.pairwise_singleton _ _
  | cons x l ih =>
    obtain ⟨h1, h2⟩ := AscM.cons.1 h
    rw [putM]
    split
    · rename_i hlt
      refine AscM.cons.2 ⟨fun y hy => ?_, ih h2⟩
      rcases mem_putM hy with rfl | hy
      · exact hlt
      · exact h1 y hy
    · rename_i hn
      split
      · rename_i he
        rw [eqK_iff] at he
        subst he
        exact AscM.cons.2 ⟨h1, h2⟩
      · rename_i he
        rw [eqK_iff] at he
        have hlt := ltK_of_not hn he
        refine AscM.cons.2 ⟨fun y hy => ?_, h⟩
        rcases List.mem_cons.1 hy with rfl | hy
        · exact hlt
        · exact ltK_trans hlt (h1 y hy)
theorem ascM_delM {l : M κ ν} (h : AscM l) (k : κ) : AscM (delM l k) := by
  induction l with
  | nil => exact h
  | cons x l ih =>
    obtain ⟨h1, h2⟩ := AscM.cons.1 h
    rw [delM]
    split
    · exact h2
    · exact AscM.cons.2 ⟨fun y hy => h1 y (mem_delM hy), ih h2⟩
end
end Go.Proofs.Ytldofiankhimjaa
/- Plain: B-trees, put. -/
namespace Go.Proofs.Ytldofiankhimjaa

inductive T (κ ν : Type) where
  | node (es : List (κ × ν)) (cs : List (T κ ν))
section
variable {κ ν : Type}
namespace T
def es : T κ ν → M κ ν | .node es _ => es
def cs : T κ ν → List (T κ ν) | .node _ cs => cs
end T
open T
theorem es_node (es : M κ ν) (cs : List (T κ ν)) : (T.node es cs).es = es := rfl
theorem cs_node (es : M κ ν) (cs : List (T κ ν)) : (T.node es cs).cs = cs := rfl
theorem T.eta (x : T κ ν) : .node x.es x.cs = x := by cases x; rfl

def pre (f : T κ ν → M κ ν) : M κ ν → List (T κ ν) → M κ ν
  | a :: A, c :: C => f c ++ a :: pre f A C
  | A, _ => A
def post (f : T κ ν → M κ ν) : M κ ν → List (T κ ν) → M κ ν
  | b :: B, c :: C => b :: f c ++ post f B C
  | B, _ => B
/-- The entries in order. -/
def toL : Nat → T κ ν → M κ ν
  | 0, x => x.es
  | h + 1, x => match x.cs with
    | [] => x.es
    | c :: C => toL h c ++ post (toL h) x.es C
theorem toL_split (h : Nat) : ∀ (A B : M κ ν) (C1 C2 : List (T κ ν)) (c : T κ ν), A.length = C1.length → toL (h + 1) (.node (A ++ B) (C1 ++ c :: C2)) = pre (toL h) A C1 ++ toL h c ++ post (toL h) B C2
  | [], B, [], C2, c, _ => by simp [toL, pre, es_node, cs_node]
  | a :: A, B, c1 :: C1, C2, c, hl => by
    have ih := toL_split h A B C1 C2 c (by simpa using hl)
    cases C1 with
    | nil =>
      cases A with
      | nil =>
        simp only [toL, cs_node, es_node, List.cons_append, List.nil_append, pre, post, List.append_assoc]
      | cons => simp at hl
    | cons c0 C0 =>
      simp only [toL, cs_node, es_node, List.cons_append] at ih ⊢
      simp only [post, pre, List.cons_append, List.append_assoc] at ih ⊢
      rw [ih]
theorem toL_last (h : Nat) (A : M κ ν) (C1 : List (T κ ν)) (c : T κ ν) (hl : A.length = C1.length) : toL (h + 1) (.node A (C1 ++ [c])) = pre (toL h) A C1 ++ toL h c := by
  have := toL_split h A [] C1 [] c hl
  simpa [post] using this
theorem toL_cons (h : Nat) (c : T κ ν) (B : M κ ν) (C : List (T κ ν)) : toL (h + 1) (.node B (c :: C)) = toL h c ++ post (toL h) B C := rfl
theorem post_cons (h : Nat) (b : κ × ν) (B : M κ ν) (c : T κ ν) (C : List (T κ ν)) : post (toL h) (b :: B) (c :: C) = b :: toL (h + 1) (.node B (c :: C)) := by
  rw [toL_cons]; rfl
theorem mem_pre {f : T κ ν → M κ ν} {x : κ × ν} : ∀ {A : M κ ν} {C : List (T κ ν)}, x ∈ A → x ∈ pre f A C
  | a :: A, [], h => h
  | a :: A, c :: C, h => by
    rw [pre]
    rcases List.mem_cons.1 h with rfl | h
    · simp
    · exact List.mem_append.2 (.inr (List.mem_cons_of_mem _ (mem_pre h)))
theorem mem_post {f : T κ ν → M κ ν} {x : κ × ν} : ∀ {B : M κ ν} {C : List (T κ ν)}, x ∈ B → x ∈ post f B C
  | b :: B, [], h => h
  | b :: B, c :: C, h => by
    rw [post]
    rcases List.mem_cons.1 h with rfl | h
    · simp
    · exact List.mem_append.2 (.inr (mem_post h))
theorem sub_post {f : T κ ν → M κ ν} : ∀ (B : M κ ν) (C : List (T κ ν)), List.Sublist B (post f B C)
  | [], C => by cases C <;> exact List.Sublist.refl _
  | b :: B, [] => List.Sublist.refl _
  | b :: B, c :: C => by
    rw [post]
    exact List.Sublist.cons_cons _ ((sub_post B C).trans (List.sublist_append_right _ _))
theorem sub_toL : ∀ (h : Nat) (x : T κ ν), List.Sublist x.es (toL h x)
  | 0, x => List.Sublist.refl _
  | h + 1, .node es [] => List.Sublist.refl _
  | h + 1, .node es (c :: C) => by
    rw [toL_cons]
    exact (sub_post es C).trans (List.sublist_append_right _ _)
theorem take_takeWhile {α : Type} (p : α → Bool) : ∀ l : List α, l.take (l.takeWhile p).length = l.takeWhile p
  | [] => rfl
  | x :: l => by
    rw [List.takeWhile_cons]
    split
    · rw [List.length_cons, List.take_succ_cons, take_takeWhile p l]
    · rfl
theorem drop_takeWhile {α : Type} (p : α → Bool) : ∀ l : List α, l.drop (l.takeWhile p).length = l.dropWhile p
  | [] => rfl
  | x :: l => by
    rw [List.takeWhile_cons, List.dropWhile_cons]
    split
    · rw [List.length_cons, List.drop_succ_cons, drop_takeWhile p l]
    · rfl
theorem mem_takeWhile {α : Type} {p : α → Bool} : ∀ {l : List α} {x : α}, x ∈ l.takeWhile p → p x = true
  | [], _, h => by simp at h
  | y :: l, x, h => by
    rw [List.takeWhile_cons] at h
    split at h
    · rename_i hy
      rcases List.mem_cons.1 h with rfl | h
      · exact hy
      · exact mem_takeWhile h
    · simp at h
theorem dropWhile_head {α : Type} {p : α → Bool} : ∀ {l : List α} {x : α} {m : List α}, l.dropWhile p = x :: m → p x = false
  | [], _, _, h => by simp at h
  | y :: l, x, m, h => by
    rw [List.dropWhile_cons] at h
    split at h
    · exact dropWhile_head h
    · rename_i hy
      injection h with h _
      subst h
      simpa using hy
theorem getElem?_drop0 {α : Type} (l : List α) (i : Nat) : l[i]? = (l.drop i)[0]? := by rw [List.getElem?_drop]; simp
/-! Sizes. -/
def least (o : Nat) : Nat := (o + 1) / 2 - 1
/-- From lo to hi entries; kids as they should be. -/
def Body (o : Nat) : Nat → Nat → Nat → T κ ν → Prop
  | 0, lo, hi, x => lo ≤ x.es.length ∧ x.es.length ≤ hi ∧ x.cs = []
  | h + 1, lo, hi, x => lo ≤ x.es.length ∧ x.es.length ≤ hi ∧ x.cs.length = x.es.length + 1 ∧ ∀ c ∈ x.cs, Body o h (least o) (o - 1) c
theorem Body.lo {o h lo hi : Nat} {x : T κ ν} (hb : Body o h lo hi x) : lo ≤ x.es.length := by cases h <;> exact hb.1
theorem Body.hi {o h lo hi : Nat} {x : T κ ν} (hb : Body o h lo hi x) : x.es.length ≤ hi := by cases h <;> exact hb.2.1
theorem Body.mono {o h lo hi lo' hi' : Nat} {x : T κ ν} (hb : Body o h lo hi x) (h1 : lo' ≤ x.es.length) (h2 : x.es.length ≤ hi') : Body o h lo' hi' x := by
  cases h <;> exact ⟨h1, h2, hb.2.2⟩

/-! put. -/
def splitT (o i : Nat) (x : T κ ν) : T κ ν := match x.cs[i]? with
  | none => x
  | some c => match c.es[o / 2]? with
    | none => x
    | some m => .node (x.es.take i ++ m :: x.es.drop i)
      (x.cs.take i ++ .node (c.es.take (o / 2)) (c.cs.take (o / 2 + 1)) :: .node (c.es.drop (o / 2 + 1)) (c.cs.drop (o / 2 + 1)) :: x.cs.drop (i + 1))
theorem toL_halves {o h lo hi : Nat} {c : T κ ν} {m : κ × ν} (hb : Body o h lo hi c) (hm : c.es[o / 2]? = some m) :
    toL h c = toL h (.node (c.es.take (o / 2)) (c.cs.take (o / 2 + 1))) ++ m :: toL h (.node (c.es.drop (o / 2 + 1)) (c.cs.drop (o / 2 + 1))) := by
  obtain ⟨hlt, hm⟩ := List.getElem?_eq_some_iff.1 hm
  have he : c.es = c.es.take (o / 2) ++ m :: c.es.drop (o / 2 + 1) := by
    conv => lhs; rw [← List.take_append_drop (o / 2) c.es]
    rw [List.drop_eq_getElem_cons hlt, hm]
  cases h with
  | zero => simp only [toL, es_node]; exact he
  | succ h =>
    obtain ⟨es, cs⟩ := c
    simp only [es_node, cs_node] at *
    replace hlt : o / 2 < es.length := hlt
    have hl := hb.2.2.1
    simp only [es_node, cs_node] at hl
    have hlt : o / 2 < es.length := hlt
    generalize hD : es.take (o / 2) = D1 at *
    generalize hE : es.drop (o / 2 + 1) = D2 at *
    have l1 : D1.length = o / 2 := by rw [← hD]; simp; omega
    have l2 : D2.length = es.length - (o / 2 + 1) := by rw [← hE]; simp
    obtain ⟨C1, c1, hc1⟩ : ∃ C1 c1, cs.take (o / 2 + 1) = C1 ++ [c1] := by
      have : cs.take (o / 2 + 1) ≠ [] := by intro e; have := congrArg List.length e; rw [List.length_take, List.length_nil] at this; omega
      exact ⟨_, _, (List.dropLast_concat_getLast this).symm⟩
    obtain ⟨c2, C2, hc2⟩ : ∃ c2 C2, cs.drop (o / 2 + 1) = c2 :: C2 := by
      cases hd : cs.drop (o / 2 + 1) with
      | nil => have := congrArg List.length hd; rw [List.length_drop, List.length_nil] at this; omega
      | cons a b => exact ⟨a, b, rfl⟩
    have lc1 : D1.length = C1.length := by
      have := congrArg List.length hc1
      simp at this
      omega
    rw [hc1, hc2, toL_last h _ _ _ lc1, toL_cons]
    have hcs : cs = C1 ++ c1 :: c2 :: C2 := by
      conv => lhs; rw [← List.take_append_drop (o / 2 + 1) cs]
      rw [hc1, hc2]; simp
    rw [he, hcs, toL_split h D1 (m :: D2) C1 (c2 :: C2) c1 lc1, post]
    simp

theorem split_at {α : Type} {l : List α} {i : Nat} {x : α} (h : l[i]? = some x) : l = l.take i ++ x :: l.drop (i + 1) := by
  obtain ⟨hlt, hx⟩ := List.getElem?_eq_some_iff.1 h
  conv => lhs; rw [← List.take_append_drop i l]
  rw [List.drop_eq_getElem_cons hlt, hx]
theorem split_spec {o h : Nat} (ho : 3 ≤ o) {x : T κ ν} {i : Nat} {c : T κ ν} (hx : x.cs.length = x.es.length + 1) (hc : x.cs[i]? = some c) (hb : Body o h (least o) o c) (hlen : c.es.length = o)
    (hk : ∀ d ∈ x.cs.take i, Body o h (least o) (o - 1) d) (hk' : ∀ d ∈ x.cs.drop (i + 1), Body o h (least o) (o - 1) d) :
    (splitT o i x).es.length = x.es.length + 1 ∧ Body o (h + 1) (x.es.length + 1) (x.es.length + 1) (splitT o i x) ∧ toL (h + 1) (splitT o i x) = toL (h + 1) x := by
  obtain ⟨hlt, _⟩ := List.getElem?_eq_some_iff.1 hc
  have hm0 : o / 2 < c.es.length := by omega
  obtain ⟨m, hm⟩ : ∃ m, c.es[o / 2]? = some m := ⟨_, List.getElem?_eq_getElem hm0⟩
  have e : splitT o i x = .node (x.es.take i ++ m :: x.es.drop i)
      (x.cs.take i ++ .node (c.es.take (o / 2)) (c.cs.take (o / 2 + 1)) :: .node (c.es.drop (o / 2 + 1)) (c.cs.drop (o / 2 + 1)) :: x.cs.drop (i + 1)) := by
    unfold splitT; rw [hc]; simp only [hm]
  have hl1 : (x.es.take i).length = (x.cs.take i).length := by simp; omega
  have hle : (x.es.take i ++ m :: x.es.drop i).length = x.es.length + 1 := by simp; omega
  have hlc : (x.cs.take i ++ T.node (c.es.take (o / 2)) (c.cs.take (o / 2 + 1)) :: .node (c.es.drop (o / 2 + 1)) (c.cs.drop (o / 2 + 1)) :: x.cs.drop (i + 1)).length = x.es.length + 2 := by simp; omega
  rw [e]
  refine ⟨hle, ⟨Nat.le_of_eq hle.symm, Nat.le_of_eq hle, by simp only [cs_node, es_node]; rw [hlc, hle], fun d hd => ?_⟩, ?_⟩
  · simp only [cs_node] at hd
    rcases List.mem_append.1 hd with hd | hd
    · exact hk d hd
    · have k1 : Body o h (least o) (o - 1) (T.node (c.es.take (o / 2)) (c.cs.take (o / 2 + 1))) ∧ Body o h (least o) (o - 1) (T.node (c.es.drop (o / 2 + 1)) (c.cs.drop (o / 2 + 1))) := by
        cases h with
        | zero =>
          have hz := hb.2.2
          simp only [Body, es_node, cs_node, List.length_take, List.length_drop, hz, List.take_nil, List.drop_nil, least, and_true]
          omega
        | succ h =>
          obtain ⟨_, _, hz, hkk⟩ := hb
          simp only [Body, es_node, cs_node, List.length_take, List.length_drop, hz, least]
          refine ⟨⟨by omega, by omega, by omega, fun d hd => hkk d (List.mem_of_mem_take hd)⟩, ⟨by omega, by omega, by omega, fun d hd => hkk d (List.mem_of_mem_drop hd)⟩⟩
      rcases List.mem_cons.1 hd with rfl | hd
      · exact k1.1
      · rcases List.mem_cons.1 hd with rfl | hd
        · exact k1.2
        · exact hk' d hd
  · have hxe : x = .node (x.es.take i ++ x.es.drop i) (x.cs.take i ++ c :: x.cs.drop (i + 1)) := by
      rw [List.take_append_drop, ← split_at hc, T.eta]
    conv => rhs; rw [hxe]
    rw [toL_split h _ _ _ _ _ hl1, toL_split h _ _ _ _ _ hl1, toL_halves hb hm, post]
    simp

theorem take_set_lt {α : Type} (l : List α) (i : Nat) (x : α) : (l.set i x).take i = l.take i := List.take_set_of_le (Nat.le_refl _)
theorem drop_set_lt {α : Type} (l : List α) (i : Nat) (x : α) : (l.set i x).drop (i + 1) = l.drop (i + 1) := List.drop_set_of_lt (by omega)
theorem set_at {α : Type} {l : List α} {i : Nat} {x : α} (h : l[i]? = some x) (y : α) : l.set i y = l.take i ++ y :: l.drop (i + 1) := by
  obtain ⟨hlt, _⟩ := List.getElem?_eq_some_iff.1 h
  rw [List.set_eq_take_append_cons_drop, if_pos hlt]

end
section
variable {κ ν : Type} [KOrd κ]
theorem pre_lt {f : T κ ν → M κ ν} {k : κ} : ∀ {A : M κ ν} {C : List (T κ ν)}, AllLt A k → AscM (pre f A C) → AllLt (pre f A C) k
  | [], C, _, _ => by cases C <;> exact AllLt.nil k
  | a :: A, [], h, _ => h
  | a :: A, c :: C, h, ha => by
    rw [pre] at ha ⊢
    obtain ⟨h1, h2, h3, h4, h5⟩ := ha.mid
    have hk := h a (by simp)
    refine AllLt.append (fun x hx => ltK_trans (h3 x hx) hk) ?_
    intro x hx
    rcases List.mem_cons.1 hx with rfl | hx
    · exact hk
    · exact pre_lt (fun y hy => h y (List.mem_cons_of_mem _ hy)) h2 x hx
theorem post_gt {f : T κ ν → M κ ν} {k : κ} : ∀ {B : M κ ν} {C : List (T κ ν)}, AllGt k B → AscM (post f B C) → AllGt k (post f B C)
  | [], C, _, _ => by cases C <;> exact AllGt.nil k
  | b :: B, [], h, _ => h
  | b :: B, c :: C, h, ha => by
    rw [post] at ha ⊢
    obtain ⟨h1, h2⟩ := AscM.cons.1 (by simpa using ha)
    have hk := h b (by simp)
    intro x hx
    rcases List.mem_cons.1 hx with rfl | hx
    · exact hk
    · exact ltK_trans hk (h1 x hx)
theorem asc_es {h : Nat} {x : T κ ν} (ha : AscM (toL h x)) : AscM x.es := ha.sublist (sub_toL h x)

/-! Where a key is in a node. -/
def posK (es : M κ ν) (k : κ) : Nat := (es.takeWhile fun x => decide (ltK x.1 k)).length
def hasK (es : M κ ν) (k : κ) : Bool := match es[posK es k]? with | some x => eqK x.1 k | none => false
theorem posK_le (es : M κ ν) (k : κ) : posK es k ≤ es.length := (List.takeWhile_sublist _).length_le
theorem posK_take (es : M κ ν) (k : κ) : es.take (posK es k) = es.takeWhile fun x => decide (ltK x.1 k) := take_takeWhile _ _
theorem posK_drop (es : M κ ν) (k : κ) : es.drop (posK es k) = es.dropWhile fun x => decide (ltK x.1 k) := drop_takeWhile _ _
theorem posK_lt (es : M κ ν) (k : κ) : AllLt (es.take (posK es k)) k := by
  rw [posK_take]
  intro x hx
  simpa using mem_takeWhile hx
theorem posK_head {es : M κ ν} {k : κ} {x : κ × ν} {m : M κ ν} (h : es.drop (posK es k) = x :: m) : ¬ ltK x.1 k := by
  rw [posK_drop] at h
  simpa using dropWhile_head h
theorem hasK_yes {es : M κ ν} {k : κ} (h : hasK es k = true) : ∃ x m, es.drop (posK es k) = x :: m ∧ x.1 = k := by
  unfold hasK at h
  rw [getElem?_drop0] at h
  cases hd : es.drop (posK es k) with
  | nil => rw [hd] at h; simp at h
  | cons x m => rw [hd] at h; exact ⟨x, m, rfl, eqK_iff.1 (by simpa using h)⟩
theorem hasK_no {es : M κ ν} {k : κ} (ha : AscM es) (h : hasK es k = false) : AllGt k (es.drop (posK es k)) := by
  unfold hasK at h
  rw [getElem?_drop0] at h
  cases hd : es.drop (posK es k) with
  | nil => exact AllGt.nil k
  | cons x m =>
    rw [hd] at h
    have hx := ltK_of_not (posK_head hd) (eqK_not.1 (by simpa using h))
    have hs : AscM (x :: m) := by rw [← hd]; exact ha.sublist (List.drop_sublist _ _)
    obtain ⟨h1, _⟩ := AscM.cons.1 hs
    intro y hy
    rcases List.mem_cons.1 hy with rfl | hy
    · exact hx
    · exact ltK_trans hx (h1 y hy)

def putT (o : Nat) : Nat → T κ ν → κ → ν → T κ ν
  | 0, x, k, v => if hasK x.es k then .node (x.es.set (posK x.es k) (k, v)) x.cs else .node (x.es.take (posK x.es k) ++ (k, v) :: x.es.drop (posK x.es k)) x.cs
  | h + 1, x, k, v => if hasK x.es k then .node (x.es.set (posK x.es k) (k, v)) x.cs else match x.cs[posK x.es k]? with
    | none => x
    | some c =>
      let c' := putT o h c k v
      let x' := T.node x.es (x.cs.set (posK x.es k) c')
      if o ≤ c'.es.length then splitT o (posK x.es k) x' else x'
def getT : Nat → T κ ν → κ → Option ν
  | 0, x, k => if hasK x.es k then (x.es[posK x.es k]?).map (·.2) else none
  | h + 1, x, k => if hasK x.es k then (x.es[posK x.es k]?).map (·.2) else match x.cs[posK x.es k]? with
    | none => none
    | some c => getT h c k

/-- **put.** -/
theorem putT_spec {o : Nat} (ho : 3 ≤ o) (k : κ) (v : ν) : ∀ (h lo : Nat) (x : T κ ν), Body o h lo (o - 1) x → AscM (toL h x) →
    Body o h lo o (putT o h x k v) ∧ toL h (putT o h x k v) = putM (toL h x) k v
  | 0, lo, x, hb, ha => by
    have hc := hb.2.2
    have h1 := hb.1
    have h2 := hb.2.1
    have hp := posK_le x.es k
    have hlt := posK_lt x.es k
    rw [putT]
    cases hh : hasK x.es k
    · have hgt := hasK_no (asc_es ha) hh
      simp only [Bool.false_eq_true, if_false]
      refine ⟨⟨?_, ?_, hc⟩, ?_⟩
      · simp only [es_node, List.length_append, List.length_take, List.length_cons, List.length_drop]; omega
      · simp only [es_node, List.length_append, List.length_take, List.length_cons, List.length_drop]; omega
      · simp only [toL, es_node]
        conv => rhs; rw [← List.take_append_drop (posK x.es k) x.es]
        rw [putM_new hlt hgt]
    · obtain ⟨y, m, hd, he⟩ := hasK_yes hh
      have hy : x.es[posK x.es k]? = some y := by rw [getElem?_drop0, hd]; rfl
      have hdr : x.es.drop (posK x.es k + 1) = m := by rw [← List.drop_drop, hd]; rfl
      simp only [if_true]
      refine ⟨⟨by simp only [es_node, List.length_set]; exact h1, by simp only [es_node, List.length_set]; omega, hc⟩, ?_⟩
      simp only [toL, es_node]
      conv => rhs; rw [split_at hy]
      rw [set_at hy, putM_here hlt he]
  | h + 1, lo, x, hb, ha => by
    obtain ⟨h1, h2, h3, h4⟩ := hb
    have hp := posK_le x.es k
    have hlt := posK_lt x.es k
    rw [putT]
    cases hh : hasK x.es k
    · have hgt := hasK_no (asc_es ha) hh
      simp only [Bool.false_eq_true, if_false]
      obtain ⟨c, hc⟩ : ∃ c, x.cs[posK x.es k]? = some c := ⟨_, List.getElem?_eq_getElem (by omega)⟩
      simp only [hc]
      have hcm := List.mem_of_getElem? hc
      have hl1 : (x.es.take (posK x.es k)).length = (x.cs.take (posK x.es k)).length := by simp; omega
      have hxe : toL (h + 1) x = pre (toL h) (x.es.take (posK x.es k)) (x.cs.take (posK x.es k)) ++ toL h c ++ post (toL h) (x.es.drop (posK x.es k)) (x.cs.drop (posK x.es k + 1)) := by
        rw [← toL_split h _ _ _ _ _ hl1, List.take_append_drop, ← split_at hc, T.eta]
      rw [hxe] at ha
      obtain ⟨a1, a2, a3⟩ := AscM.append.1 ha
      obtain ⟨a4, a5, a6⟩ := AscM.append.1 a1
      obtain ⟨ih1, ih2⟩ := putT_spec ho k v h (least o) c (h4 c hcm) a5
      have hres : toL (h + 1) (.node x.es (x.cs.set (posK x.es k) (putT o h c k v))) = putM (toL (h + 1) x) k v := by
        rw [set_at hc]
        have := toL_split h (x.es.take (posK x.es k)) (x.es.drop (posK x.es k)) (x.cs.take (posK x.es k)) (x.cs.drop (posK x.es k + 1)) (putT o h c k v) hl1
        rw [List.take_append_drop] at this
        rw [this, hxe, putM_gt (post_gt hgt a2), putM_lt (pre_lt hlt a4), ih2]
      have hks : ∀ d ∈ x.cs.take (posK x.es k), Body o h (least o) (o - 1) d := fun d hd => h4 d (List.mem_of_mem_take hd)
      have hks' : ∀ d ∈ x.cs.drop (posK x.es k + 1), Body o h (least o) (o - 1) d := fun d hd => h4 d (List.mem_of_mem_drop hd)
      split
      · rename_i hge
        have hi := ih1.hi
        have hlt' : posK x.es k < x.cs.length := by omega
        obtain ⟨s1, s2, s3⟩ := split_spec (o := o) (h := h) ho (x := .node x.es (x.cs.set (posK x.es k) (putT o h c k v))) (i := posK x.es k) (c := putT o h c k v) (by simpa [cs_node, es_node] using h3) (by simp [cs_node, hlt']) ih1 (by omega)
          (by simp only [cs_node]; rw [take_set_lt]; exact hks) (by simp only [cs_node]; rw [drop_set_lt]; exact hks')
        refine ⟨s2.mono ?_ ?_, by rw [s3, hres]⟩
        · rw [s1]; simp only [es_node]; omega
        · rw [s1]; simp only [es_node]; omega
      · rename_i hge
        refine ⟨⟨h1, by simp only [es_node]; omega, by simpa [cs_node, es_node] using h3, fun d hd => ?_⟩, hres⟩
        simp only [cs_node] at hd
        rw [set_at hc] at hd
        rcases List.mem_append.1 hd with hd | hd
        · exact hks d hd
        · rcases List.mem_cons.1 hd with rfl | hd
          · exact ih1.mono ih1.lo (by omega)
          · exact hks' d hd
    · obtain ⟨y, m, hd, he⟩ := hasK_yes hh
      have hy : x.es[posK x.es k]? = some y := by rw [getElem?_drop0, hd]; rfl
      simp only [if_true]
      refine ⟨⟨by simp only [es_node, List.length_set]; exact h1, by simp only [es_node, List.length_set]; omega, by simpa [cs_node, es_node] using h3, h4⟩, ?_⟩
      obtain ⟨c, hc⟩ : ∃ c, x.cs[posK x.es k]? = some c := ⟨_, List.getElem?_eq_getElem (by omega)⟩
      have hl1 : (x.es.take (posK x.es k)).length = (x.cs.take (posK x.es k)).length := by simp; omega
      have hdr : x.es.drop (posK x.es k + 1) = m := by rw [← List.drop_drop, hd]; rfl
      have hlt2 : posK x.es k < x.es.length := (List.getElem?_eq_some_iff.1 hy).1
      obtain ⟨c2, hc2⟩ : ∃ c2 C, x.cs.drop (posK x.es k + 1) = c2 :: C := by
        cases hdd : x.cs.drop (posK x.es k + 1) with
        | nil => have := congrArg List.length hdd; rw [List.length_drop, List.length_nil] at this; omega
        | cons a b => exact ⟨a, b, rfl⟩
      obtain ⟨C2, hc2⟩ := hc2
      have hxe : toL (h + 1) x = pre (toL h) (x.es.take (posK x.es k)) (x.cs.take (posK x.es k)) ++ toL h c ++ y :: (toL h c2 ++ post (toL h) m C2) := by
        have h0 : toL (h + 1) x = pre (toL h) (x.es.take (posK x.es k)) (x.cs.take (posK x.es k)) ++ toL h c ++ post (toL h) (x.es.drop (posK x.es k)) (x.cs.drop (posK x.es k + 1)) := by
          rw [← toL_split h _ _ _ _ _ hl1, List.take_append_drop, ← split_at hc, T.eta]
        rw [h0, hd, hc2]; rfl
      have hres : toL (h + 1) (.node (x.es.set (posK x.es k) (k, v)) x.cs) = pre (toL h) (x.es.take (posK x.es k)) (x.cs.take (posK x.es k)) ++ toL h c ++ (k, v) :: (toL h c2 ++ post (toL h) m C2) := by
        rw [set_at hy, hdr]
        have := toL_split h (x.es.take (posK x.es k)) ((k, v) :: m) (x.cs.take (posK x.es k)) (x.cs.drop (posK x.es k + 1)) c hl1
        rw [← split_at hc] at this
        rw [this, hc2]; rfl
      rw [hres, hxe]
      rw [hxe] at ha
      obtain ⟨b1, b2, b3, b4, b5⟩ := ha.mid
      rw [putM_here (fun z hz => by have := b3 z hz; rwa [he] at this) he]
/-- Get. -/
theorem getT_spec {o : Nat} (k : κ) : ∀ (h lo hi : Nat) (x : T κ ν), Body o h lo hi x → AscM (toL h x) → getT h x k = getM (toL h x) k
  | 0, lo, hi, x, hb, ha => by
    have hlt := posK_lt x.es k
    rw [getT]
    cases hh : hasK x.es k
    · have hgt := hasK_no (asc_es ha) hh
      simp only [Bool.false_eq_true, if_false, toL]
      conv => rhs; rw [← List.take_append_drop (posK x.es k) x.es]
      rw [getM_none hlt hgt]
    · obtain ⟨y, m, hd, he⟩ := hasK_yes hh
      have hy : x.es[posK x.es k]? = some y := by rw [getElem?_drop0, hd]; rfl
      simp only [if_true, hy, Option.map_some, toL]
      conv => rhs; rw [split_at hy]
      rw [getM_here hlt he]
  | h + 1, lo, hi, x, hb, ha => by
    obtain ⟨h1, h2, h3, h4⟩ := hb
    have hp := posK_le x.es k
    have hlt := posK_lt x.es k
    obtain ⟨c, hc⟩ : ∃ c, x.cs[posK x.es k]? = some c := ⟨_, List.getElem?_eq_getElem (by omega)⟩
    have hl1 : (x.es.take (posK x.es k)).length = (x.cs.take (posK x.es k)).length := by simp; omega
    have hxe : toL (h + 1) x = pre (toL h) (x.es.take (posK x.es k)) (x.cs.take (posK x.es k)) ++ toL h c ++ post (toL h) (x.es.drop (posK x.es k)) (x.cs.drop (posK x.es k + 1)) := by
      rw [← toL_split h _ _ _ _ _ hl1, List.take_append_drop, ← split_at hc, T.eta]
    rw [hxe] at ha
    obtain ⟨a1, a2, a3⟩ := AscM.append.1 ha
    obtain ⟨a4, a5, a6⟩ := AscM.append.1 a1
    rw [getT, hxe]
    cases hh : hasK x.es k
    · have hgt := hasK_no (asc_es (h := h + 1) (by rw [hxe]; exact ha)) hh
      simp only [Bool.false_eq_true, if_false, hc]
      rw [getT_spec k h (least o) (o - 1) c (h4 c (List.mem_of_getElem? hc)) a5, getM_gt (post_gt hgt a2), getM_lt (pre_lt hlt a4)]
    · obtain ⟨y, m, hd, he⟩ := hasK_yes hh
      have hy : x.es[posK x.es k]? = some y := by rw [getElem?_drop0, hd]; rfl
      simp only [if_true, hy, Option.map_some]
      have hlt2 : posK x.es k < x.es.length := (List.getElem?_eq_some_iff.1 hy).1
      obtain ⟨c2, C2, hc2⟩ : ∃ c2 C, x.cs.drop (posK x.es k + 1) = c2 :: C := by
        cases hdd : x.cs.drop (posK x.es k + 1) with
        | nil => have := congrArg List.length hdd; rw [List.length_drop, List.length_nil] at this; omega
        | cons a b => exact ⟨a, b, rfl⟩
      rw [hd, hc2, post] at ha ⊢
      obtain ⟨b1, b2, b3, b4, b5⟩ := AscM.mid (l := pre (toL h) (x.es.take (posK x.es k)) (x.cs.take (posK x.es k)) ++ toL h c) (m := toL h c2 ++ post (toL h) m C2) (x := y) (by simpa using ha)
      have := getM_here (l := pre (toL h) (x.es.take (posK x.es k)) (x.cs.take (posK x.es k)) ++ toL h c) (m := toL h c2 ++ post (toL h) m C2) (x := y) (k := k) (fun z hz => by have := b3 z hz; rwa [he] at this) he
      rw [← this]
      simp
end
end Go.Proofs.Ytldofiankhimjaa
/- Plain: integers and texts as keys; where the search stops. -/
namespace Go.Proofs.Ytldofiankhimjaa

def cmpS (a b : Int) : Int := if a < b then -1 else if b < a then 1 else 0
theorem cmpS_range (a b : Int) : cmpS a b = -1 ∨ cmpS a b = 0 ∨ cmpS a b = 1 := by
  unfold cmpS; split
  · exact .inl rfl
  · split
    · exact .inr (.inr rfl)
    · exact .inr (.inl rfl)
theorem cmpS_swap (a b : Int) : cmpS b a = - cmpS a b := by
  unfold cmpS
  by_cases h1 : a < b
  · have : ¬ b < a := by omega
    simp [h1, this]
  · by_cases h2 : b < a <;> simp [h1, h2]
theorem cmpS_zero {a b : Int} : cmpS a b = 0 ↔ a = b := by
  unfold cmpS
  by_cases h1 : a < b
  · simp [h1]; omega
  · by_cases h2 : b < a
    · simp [h1, h2]; omega
    · simp [h1, h2]; omega
theorem cmpS_neg {a b : Int} : cmpS a b < 0 ↔ a < b := by
  unfold cmpS
  by_cases h1 : a < b
  · simp [h1]
  · by_cases h2 : b < a <;> simp [h1, h2]
instance : KOrd Int where
  cmp := cmpS
  range := cmpS_range
  zero := cmpS_zero
  swap := cmpS_swap
  trans := fun h1 h2 => by rw [cmpS_neg] at *; omega

def bytes (s : ByteArray) : List UInt8 := s.data.toList
theorem bytes_inj {a b : ByteArray} (h : bytes a = bytes b) : a = b := by
  obtain ⟨⟨a⟩⟩ := a
  obtain ⟨⟨b⟩⟩ := b
  simpa [bytes] using h
theorem cmpB_range : ∀ a b : List UInt8, Lib.compareBytes a b = -1 ∨ Lib.compareBytes a b = 0 ∨ Lib.compareBytes a b = 1
  | [], [] => by simp [Lib.compareBytes]
  | [], _ :: _ => by simp [Lib.compareBytes]
  | _ :: _, [] => by simp [Lib.compareBytes]
  | a :: x, b :: y => by
    rw [Lib.compareBytes]
    split
    · exact .inl rfl
    · split
      · exact .inr (.inr rfl)
      · exact cmpB_range x y
theorem cmpB_zero : ∀ {a b : List UInt8}, Lib.compareBytes a b = 0 ↔ a = b
  | [], [] => by simp [Lib.compareBytes]
  | [], _ :: _ => by simp [Lib.compareBytes]
  | _ :: _, [] => by simp [Lib.compareBytes]
  | a :: x, b :: y => by
    rw [Lib.compareBytes]
    by_cases h : a < b
    · have hne : ¬ a = b := fun e => by subst e; exact UInt8.lt_irrefl _ h
      simp [h, hne]
    · by_cases h2 : b < a
      · have hne : ¬ a = b := fun e => by subst e; exact h h2
        simp [h, h2, hne]
      · have he : a = b := by
          rw [UInt8.lt_iff_toNat_lt] at h h2
          exact UInt8.toNat_inj.1 (by omega)
        subst he
        simp [cmpB_zero (a := x) (b := y)]
theorem cmpB_swap : ∀ a b : List UInt8, Lib.compareBytes b a = - Lib.compareBytes a b
  | [], [] => by simp [Lib.compareBytes]
  | [], _ :: _ => by simp [Lib.compareBytes]
  | _ :: _, [] => by simp [Lib.compareBytes]
  | a :: x, b :: y => by
    rw [Lib.compareBytes, Lib.compareBytes, cmpB_swap x y]
    by_cases h : a < b
    · have : ¬ b < a := by rw [UInt8.lt_iff_toNat_lt] at *; omega
      simp [h, this]
    · by_cases h2 : b < a <;> simp [h, h2]
theorem cmpB_trans : ∀ {a b c : List UInt8}, Lib.compareBytes a b < 0 → Lib.compareBytes b c < 0 → Lib.compareBytes a c < 0
  | [], [], _, h, _ => by simp [Lib.compareBytes] at h
  | _ :: _, [], _, h, _ => by simp [Lib.compareBytes] at h
  | _, _ :: _, [], _, h => by simp [Lib.compareBytes] at h
  | [], _ :: _, _ :: _, _, _ => by simp [Lib.compareBytes]
  | a :: x, b :: y, c :: z, h1, h2 => by
    rw [Lib.compareBytes] at h1 h2 ⊢
    by_cases hab : a < b
    · by_cases hbc : b < c
      · have : a < c := by rw [UInt8.lt_iff_toNat_lt] at *; omega
        simp [this]
      · by_cases hcb : c < b
        · simp [hbc, hcb] at h2
        · have : a < c := by rw [UInt8.lt_iff_toNat_lt] at *; omega
          simp [this]
    · by_cases hba : b < a
      · simp [hab, hba] at h1
      · simp only [hab, hba, if_false] at h1
        have e : a = b := by
          rw [UInt8.lt_iff_toNat_lt] at hab hba
          exact UInt8.toNat_inj.1 (by omega)
        subst e
        by_cases hbc : a < c
        · simp [hbc]
        · by_cases hcb : c < a
          · simp [hbc, hcb] at h2
          · simp only [hbc, hcb, if_false] at h2 ⊢
            exact cmpB_trans h1 h2

instance : KOrd ByteArray where
  cmp := fun a b => Lib.compareBytes (bytes a) (bytes b)
  range := fun _ _ => cmpB_range _ _
  zero := ⟨fun h => bytes_inj (cmpB_zero.1 h), fun h => by rw [h]; exact cmpB_zero.2 rfl⟩
  swap := fun _ _ => cmpB_swap _ _
  trans := cmpB_trans

section
variable {κ ν : Type} [KOrd κ]
theorem posK_eq {es : M κ ν} {k : κ} {i : Nat} (hi : i ≤ es.length) (h1 : ∀ j (h : j < es.length), j < i → ltK es[j].1 k) (h2 : ∀ h : i < es.length, ¬ ltK es[i].1 k) : posK es k = i := by
  unfold posK
  induction es generalizing i with
  | nil => simp at hi; simp [hi]
  | cons x es ih =>
    cases i with
    | zero =>
      have := h2 (by simp)
      simp only [List.getElem_cons_zero] at this
      simp [this]
    | succ i =>
      have h0 := h1 0 (by simp) (by omega)
      simp only [List.getElem_cons_zero] at h0
      simp only [List.takeWhile_cons, h0, decide_true, if_true, List.length_cons]
      rw [ih (i := i) (by simpa using hi) (fun j h hj => by have := h1 (j + 1) (by simpa using h) (by omega); simpa using this) (fun h => by have := h2 (by simpa using h); simpa using this)]
theorem hasK_at {es : M κ ν} {k : κ} {i : Nat} (h : posK es k = i) : hasK es k = if h : i < es.length then decide (KOrd.cmp es[i].1 k = 0) else false := by
  unfold hasK
  rw [h]
  by_cases hi : i < es.length
  · rw [dif_pos hi, List.getElem?_eq_getElem hi]; rfl
  · rw [dif_neg hi, List.getElem?_eq_none (by omega)]
end
end Go.Proofs.Ytldofiankhimjaa
/- Trees in memory (S). -/
namespace Go.Proofs.Ytldofiankhimjaa
open Go.RowKit

def encS (k : ByteArray) : Value := .string k
def valS (v : Int) : Value := .int .i64 v
abbrev TS := T ByteArray Int
def ptrS (b : Nat) : Value := .pointer (some ⟨b, 0, none⟩)
def keysS (es : M ByteArray Int) : List Value := es.map fun e => encS e.1
def valsS (es : M ByteArray Int) : List Value := es.map fun e => valS e.2
/-- The pieces of a node. -/
def nodeLS (K : TS → Nat → Asn) (x : TS) (b : Nat) (q : Value × Value × Value × List Nat) : List Asn :=
  pureA (q.2.2.2.length = x.cs.length) :: blkA b 85 #[q.1, q.2.1, q.2.2.1] :: slA 9 q.1 (keysS x.es) :: slA 3 q.2.1 (valsS x.es) :: slA 82 q.2.2.1 (q.2.2.2.map ptrS) :: List.zipWith K x.cs q.2.2.2
def nodeS (K : TS → Nat → Asn) (x : TS) (b : Nat) : Asn := exA fun q => starA (nodeLS K x b q)
/-- A tree lies at block b. -/
def treeS : Nat → TS → Nat → Asn
  | 0 => nodeS fun _ _ => emp
  | h + 1 => nodeS (treeS h)
def kidS : Nat → TS → Nat → Asn
  | 0 => fun _ _ => emp
  | h + 1 => treeS h
theorem treeS_eq (h : Nat) : treeS h = nodeS (kidS h) := by cases h <;> rfl
theorem keysS_length (es : M ByteArray Int) : (keysS es).length = es.length := by simp [keysS]
theorem valsS_length (es : M ByteArray Int) : (valsS es).length = es.length := by simp [valsS]
theorem keysS_one (es : M ByteArray Int) : ∀ u ∈ keysS es, u.oneCell' = true := by
  intro u hu
  obtain ⟨e, _, rfl⟩ := List.mem_map.1 hu
  rfl
theorem valsS_one (es : M ByteArray Int) : ∀ u ∈ valsS es, u.oneCell' = true := by
  intro u hu
  obtain ⟨e, _, rfl⟩ := List.mem_map.1 hu
  rfl
theorem ptrS_one (bs : List Nat) : ∀ u ∈ bs.map ptrS, u.oneCell' = true := by
  intro u hu
  obtain ⟨e, _, rfl⟩ := List.mem_map.1 hu
  rfl
theorem St.openS {w0 w : World} {fp0 : List Nat} {L2 : List Asn} {h : Nat} {x : TS} {b : Nat} (hs : St w0 fp0 (treeS h x b :: L2) w) : ∃ q, St w0 fp0 (nodeLS (kidS h) x b q ++ L2) w := by
  rw [treeS_eq] at hs
  exact hs.unfold fun f ⟨q, hq⟩ => ⟨q, hq⟩
theorem St.shutS {w0 w : World} {fp0 : List Nat} {L2 : List Asn} {h : Nat} {x : TS} {b : Nat} (q : Value × Value × Value × List Nat) (hs : St w0 fp0 (nodeLS (kidS h) x b q ++ L2) w) : St w0 fp0 (treeS h x b :: L2) w := by
  rw [treeS_eq]
  exact hs.fold fun f hf => ⟨q, hf⟩
end Go.Proofs.Ytldofiankhimjaa
/- Pieces in another order. -/
namespace Go.Proofs.Ytldofiankhimjaa
open Go.RowKit
theorem Star.perm {w : World} {L L' : List Asn} (hp : L.Perm L') : ∀ {fp : List Nat}, Star w L fp → ∃ fp', Star w L' fp' ∧ ∀ k, k ∈ fp' ↔ k ∈ fp := by
  induction hp with
  | nil => intro fp h; exact ⟨fp, h, fun _ => Iff.rfl⟩
  | @cons A l1 l2 _ ih =>
    rintro fp ⟨f, g, h1, h2, h3, rfl⟩
    obtain ⟨g', h4, h5⟩ := ih h2
    exact ⟨f ++ g', ⟨f, g', h1, h4, fun k hk hg => h3 k hk ((h5 k).1 hg), rfl⟩, fun k => by simp only [List.mem_append, h5 k]⟩
  | swap A B l =>
    rintro fp ⟨f, g, h1, ⟨f2, g2, h4, h5, h6, rfl⟩, h3, rfl⟩
    refine ⟨f2 ++ (f ++ g2), ⟨f2, f ++ g2, h4, ⟨f, g2, h1, h5, fun k hk hg => h3 k hk (List.mem_append.2 (.inr hg)), rfl⟩, fun k hk hg => ?_, rfl⟩, fun k => ?_⟩
    · rcases List.mem_append.1 hg with hg | hg
      · exact h3 k hg (List.mem_append.2 (.inl hk))
      · exact h6 k hk hg
    · simp only [List.mem_append]
      constructor
      · rintro (h | h | h)
        · exact .inr (.inl h)
        · exact .inl h
        · exact .inr (.inr h)
      · rintro (h | h | h)
        · exact .inr (.inl h)
        · exact .inl h
        · exact .inr (.inr h)
  | trans _ _ ih1 ih2 =>
    intro fp h
    obtain ⟨f1, h1, h2⟩ := ih1 h
    obtain ⟨f2, h3, h4⟩ := ih2 h1
    exact ⟨f2, h3, fun k => (h4 k).trans (h2 k)⟩
theorem St.perm {w0 w : World} {fp0 : List Nat} {L L' : List Asn} (h : St w0 fp0 L w) (hp : L.Perm L') : St w0 fp0 L' w := by
  obtain ⟨fp, hs, ht⟩ := h
  obtain ⟨fp', h1, h2⟩ := hs.perm hp
  exact ⟨fp', h1, ht.os, ht.tape, ht.output, ht.size, ht.block, fun k hk => ht.new k ((h2 k).1 hk)⟩
/-- Several pieces as one, anywhere. -/
theorem Star.star {w : World} {L1 L2 : List Asn} {fp : List Nat} : Star w (starA L1 :: L2) fp ↔ Star w (L1 ++ L2) fp := by
  constructor
  · rintro ⟨f, g, h1, h2, h3, rfl⟩
    exact Star.join h1 h2 h3
  · intro h
    obtain ⟨f, g, h1, h2, h3, rfl⟩ := h.append
    exact ⟨f, g, h1, h2, h3, rfl⟩
theorem St.star {w0 w : World} {fp0 : List Nat} {L1 L2 : List Asn} : St w0 fp0 (starA L1 :: L2) w ↔ St w0 fp0 (L1 ++ L2) w := by
  constructor
  · rintro ⟨fp, h1, h2⟩
    exact ⟨fp, Star.star.1 h1, h2⟩
  · rintro ⟨fp, h1, h2⟩
    exact ⟨fp, Star.star.2 h1, h2⟩
theorem Star.emp {w : World} {L : List Asn} {fp : List Nat} : Star w (emp :: L) fp ↔ Star w L fp := by
  constructor
  · rintro ⟨f, g, h1, h2, h3, rfl⟩
    rw [show f = [] from h1]
    exact h2
  · intro h
    exact ⟨[], fp, rfl, h, by simp, rfl⟩
theorem St.emp {w0 w : World} {fp0 : List Nat} {L : List Asn} : St w0 fp0 (emp :: L) w ↔ St w0 fp0 L w := by
  constructor
  · rintro ⟨fp, h1, h2⟩
    exact ⟨fp, Star.emp.1 h1, h2⟩
  · rintro ⟨fp, h1, h2⟩
    exact ⟨fp, Star.emp.2 h1, h2⟩
theorem St.pure {w0 w : World} {fp0 : List Nat} {L : List Asn} {P : Prop} : St w0 fp0 (pureA P :: L) w ↔ P ∧ St w0 fp0 L w := by
  constructor
  · rintro ⟨fp, ⟨f, g, ⟨h0, h1⟩, h2, h3, rfl⟩, ht⟩
    rw [show f = [] from h1] at ht
    exact ⟨h0, g, h2, ht⟩
  · rintro ⟨h0, fp, h1, h2⟩
    exact ⟨fp, ⟨[], fp, ⟨h0, rfl⟩, h1, by simp, rfl⟩, h2⟩
theorem zipWith_app {α β γ : Type} (f : α → β → γ) (l1 l2 : List α) (m1 m2 : List β) (h : l1.length = m1.length) : List.zipWith f (l1 ++ l2) (m1 ++ m2) = List.zipWith f l1 m1 ++ List.zipWith f l2 m2 := List.zipWith_append h
end Go.Proofs.Ytldofiankhimjaa
/- A region that draws its order, shown by an invariant: what holds when the operations of a set have been carried out; one obligation for each operation. (Over any program.) -/
namespace Go.Proofs.Ytldofiankhimjaa
open Go Go.RowKit

/-- Every operation waits only for earlier ones. -/
def forwardB (ops : Array Oper) : Bool := (List.range ops.size).all fun i => match ops[i]? with
  | none => true
  | some o => o.after.toList.all fun e => !Region.binds .any e || decide (e.on < i)
theorem forward_of {ops : Array Oper} (h : forwardB ops = true) {i : Nat} {o : Oper} (ho : ops[i]? = some o) : ∀ e ∈ o.after, Region.binds .any e = true → e.on < i := by
  intro e he hb
  have hi := (Array.getElem?_eq_some_iff.1 ho).1
  have h1 := List.all_eq_true.1 h i (by simpa using hi)
  simp only [ho] at h1
  have h2 := List.all_eq_true.1 h1 e (by simpa using he)
  simpa [hb] using h2
theorem ready_nil {ops : Array Oper} {listed : Array Bool} (hf : forwardB ops = true) (hs : listed.size = ops.size) (h : Region.ready .any ops listed = []) : ∀ i, i < ops.size → listed.getD i false = true := by
  intro i
  induction i using Nat.strongRecOn with
  | ind i ih =>
    intro hi
    apply Classical.byContradiction
    intro hn
    have hmem : i ∈ Region.ready .any ops listed := by
      refine mem_ready.2 ⟨?_, ops[i], Array.getElem?_eq_getElem hi, fun e he hb => ?_⟩
      · have : i < listed.size := by omega
        simp [Array.getD, this] at hn ⊢
        exact hn
      · have hlt := forward_of hf (Array.getElem?_eq_getElem hi) e he hb
        exact ih e.on hlt (by omega)
    rw [h] at hmem
    cases hmem

/-- How many operations are left. -/
def left (listed : Array Bool) : Nat := listed.toList.count false
theorem left_set {listed : Array Bool} {i : Nat} (hi : i < listed.size) (h : listed.getD i false = false) : left (listed.setIfInBounds i true) + 1 = left listed := by
  unfold left
  have hx : listed.toList[i]'(by simpa using hi) = false := by simpa [Array.getD, hi] using h
  have hpos : 0 < listed.toList.count false := List.count_pos_iff.2 (by rw [← hx]; exact List.getElem_mem _)
  rw [Array.toList_setIfInBounds, List.count_set (by simpa using hi)]
  rw [hx]
  have e1 : (false == false) = true := rfl
  have e2 : (true == false) = false := rfl
  rw [e1, e2]
  simp only [if_true, Bool.false_eq_true, if_false]
  omega

theorem wpAnyH_inv {P : Program} {ops : Array Oper} {Q : Exit → Act → World → Prop} {Inv : (Nat → Bool) → Act → World → Prop} (hf : forwardB ops = true)
    (hstep : ∀ (i : Nat) (o : Oper) (L : Nat → Bool) (a : Act) (w : World), ops[i]? = some o → L i = false → (∀ e ∈ o.after, Region.binds .any e = true → L e.on = true) → Inv L a w → wpOp P ops Q i (fun a' w' => Inv (fun j => L j || decide (j = i)) a' w') a w)
    (hend : ∀ (L : Nat → Bool) (a : Act) (w : World), (∀ i, i < ops.size → L i = true) → Inv L a w → Q .normal a w) :
    ∀ (fuel : Nat) (listed : Array Bool) (a : Act) (w : World), listed.size = ops.size → left listed ≤ fuel → Inv (fun j => listed.getD j false) a w → wpAnyH P .any ops Q (fun _ => True) fuel listed a w
  | 0, listed, a, w, hs, hl, hI => by
    have hr : Region.ready .any ops listed = [] := by
      rw [List.eq_nil_iff_forall_not_mem]
      intro j hj
      obtain ⟨hun, oj, hoj, _⟩ := mem_ready.1 hj
      have hlt : j < listed.size := by have := (Array.getElem?_eq_some_iff.1 hoj).1; omega
      have : 0 < listed.toList.count false := List.count_pos_iff.2 (by
        have hx : listed.toList[j]'(by simpa using hlt) = false := by simpa [Array.getD, hlt] using hun
        rw [← hx]; exact List.getElem_mem _)
      unfold left at hl
      omega
    exact wpAnyH_done hr (hend _ _ _ (ready_nil hf hs hr) hI) 0
  | fuel + 1, listed, a, w, hs, hl, hI => by
    refine ⟨fun hr => hend _ _ _ (ready_nil hf hs hr) hI, fun j hj => ?_⟩
    obtain ⟨hun, oj, hoj, hall⟩ := mem_ready.1 hj
    have hlt : j < listed.size := by have := (Array.getElem?_eq_some_iff.1 hoj).1; omega
    have hun' : listed.getD j false = false := by simpa [Array.getD, hlt] using hun
    refine wpOp_mono (fun a' w' h' => ⟨trivial, wpAnyH_inv hf hstep hend fuel (listed.setIfInBounds j true) a' w' (by simpa using hs) ?_ ?_⟩) (hstep j oj (fun j => listed.getD j false) a w hoj hun' hall hI)
    · have := left_set hlt hun'
      omega
    · have : (fun k => (listed.setIfInBounds j true).getD k false) = fun k => listed.getD k false || decide (k = j) := by
        funext k
        by_cases hk : k = j
        · subst hk
          simp [Array.getD, hlt]
        · rw [getD_set_ne false (fun h => hk h.symm)]
          simp [hk]
      rw [this]
      exact h'

/-- **A region by its invariant.** -/
theorem wp_region_inv {P : Program} {id : Nat} {ops ops' : Array Oper} {Q : Exit → Act → World → Prop} {a : Act} {w : World} (Inv : (Nat → Bool) → Act → World → Prop) (he : ops = ops') (hm : P.follows .mixedOrders = true) (hf : forwardB ops' = true)
    (h0 : Inv (fun _ => false) a w.drew)
    (hstep : ∀ (i : Nat) (o : Oper) (L : Nat → Bool) (a : Act) (w : World), ops'[i]? = some o → L i = false → (∀ e ∈ o.after, Region.binds .any e = true → L e.on = true) → Inv L a w → wpOp P ops' (NoPanic Q) i (fun a' w' => Inv (fun j => L j || decide (j = i)) a' w') a w)
    (hend : ∀ (L : Nat → Bool) (a : Act) (w : World), (∀ i, i < ops'.size → L i = true) → Inv L a w → NoPanic Q .normal a w) : (Code.region id ops true).wp P Q a w := by
  subst he
  refine wp_region_noPanic (wp_region_held (S := fun _ => True) hm (wpAnyH_inv hf hstep hend _ _ _ _ (by simp) ?_ ?_))
  · unfold left
    exact Nat.le_trans List.count_le_length (by simp)
  · have : (fun j => (Array.replicate ops.size false).getD j false) = fun _ => false := by
      funext j
      simp [Array.getD]
    rw [this]
    exact h0

/-! The obligations: an operation that yields a value, a call met by its contract, an operation that is carried out, one that is not wanted. -/
theorem inv_value {P : Program} {ops : Array Oper} {Q : Exit → Act → World → Prop} {K : Act → World → Prop} {i : Nat} {a : Act} {w w' : World} {o : Oper} {v : Value} (ho : ops[i]? = some o) (hw : Region.wanted o (yielded ops a.tmps) = true)
    (hc : (execOp a.eval o).run P w = .ok (.value v) w') (h : K (a.put o.dst v) w') : wpOp P ops Q i K a w := by
  unfold wpOp
  simp only [ho, hw, if_true, Oper.wp, hc, Oper.upon]
  exact .inl h
theorem inv_skip {P : Program} {ops : Array Oper} {Q : Exit → Act → World → Prop} {K : Act → World → Prop} {i : Nat} {a : Act} {w : World} {o : Oper} (ho : ops[i]? = some o) (hw : Region.wanted o (yielded ops a.tmps) = false)
    (h : K (a.put o.dst undef) w) : wpOp P ops Q i K a w := by
  unfold wpOp
  simp only [ho, hw, Bool.false_eq_true, if_false]
  exact h
theorem inv_call {P : Program} {ops : Array Oper} {Q : Exit → Act → World → Prop} {K : Act → World → Prop} {i : Nat} {a : Act} {w : World} {o : Oper} {f : FuncId} {args : Array Value} {R : Ending → World → Prop} (ho : ops[i]? = some o) (hw : Region.wanted o (yielded ops a.tmps) = true)
    (hc : (execOp a.eval o).run P w = .ok (.enter f args) w) (hR : Calls P f args w R) (h : ∀ e w', R e w' → ∃ v, e = .returned v ∧ K (a.put o.dst v) w') : wpOp P ops Q i K a w := by
  unfold wpOp
  simp only [ho, hw, if_true, Oper.wp, hc, Oper.upon]
  refine .inl (hR.mono fun e w' hr => ?_)
  obtain ⟨v, rfl, h'⟩ := h e w' hr
  exact h'
theorem inv_step {P : Program} {ops : Array Oper} {Q : Exit → Act → World → Prop} {K : Act → World → Prop} {i : Nat} {a : Act} {w : World} {o : Oper} (ho : ops[i]? = some o) (hw : Region.wanted o (yielded ops a.tmps) = true)
    (h : ∀ K' : Act → World → Prop, Shut (∀ a w, K a w → K' a w) → o.wp P a w K' Q) : wpOp P ops Q i K a w := by
  unfold wpOp
  simp only [ho, hw, if_true]
  exact .inl (h _ (fun a w h => h))

theorem val_set_ne {t : Array Value} {k j : Nat} {v : Value} (h : k ≠ j) : (t.setIfInBounds k v).getD j undef = t.getD j undef := by
  simp [Array.getD_eq_getD_getElem?, h]
/-- a is a0 but for the slots ks. -/
structure FrameLike (a0 a : Act) (ks : List Nat) : Prop where
  defers : a.defers = a0.defers
  size : a.tmps.size = a0.tmps.size
  same : ∀ k, k ∉ ks → a.tmps.getD k undef = a0.tmps.getD k undef
theorem FrameLike.refl (a : Act) (ks : List Nat) : FrameLike a a ks := ⟨rfl, rfl, fun _ _ => rfl⟩
theorem FrameLike.put {a0 a : Act} {ks : List Nat} (h : FrameLike a0 a ks) {k : Nat} (hk : k ∈ ks) (v : Value) : FrameLike a0 (a.put (some k) v) ks :=
  ⟨h.defers, by simpa [Act.put] using h.size, fun j hj => by
    have hne : k ≠ j := fun e => hj (e ▸ hk)
    show (a.tmps.setIfInBounds k v).getD j undef = _
    rw [val_set_ne hne]
    exact h.same j hj⟩
theorem eval_put_same {a : Act} {k : Nat} {v : Value} (h : k < a.tmps.size) : (a.put (some k) v).eval (.tmp k) = v := by
  show (a.tmps.setIfInBounds k v).getD k undef = v
  simp [Array.getD, h]
theorem eval_put_ne {a : Act} {k j : Nat} {v : Value} (h : j ≠ k) : (a.put (some j) v).eval (.tmp k) = a.eval (.tmp k) := by
  show (a.tmps.setIfInBounds j v).getD k undef = a.tmps.getD k undef
  exact val_set_ne h
/-- Several slots, written one after the other. -/
def putL (a : Act) (l : List (Nat × Value)) : Act := l.foldl (fun a p => a.put (some p.1) p.2) a
theorem FrameLike.eq {a : Act} : ∀ {ks : List Nat} {a0 : Act}, FrameLike a0 a ks → a = putL a0 (ks.map fun k => (k, a.eval (.tmp k)))
  | [], a0, h => by
    obtain ⟨t0, d0⟩ := a0
    obtain ⟨t, d⟩ := a
    have h1 : d = d0 := h.defers
    subst h1
    have h2 : t.size = t0.size := h.size
    have h3 : t = t0 := by
      apply Array.ext h2
      intro i h4 h5
      have := h.same i (by simp)
      simpa [Array.getD, h4, h5] using this
    rw [h3]
    rfl
  | k :: ks, a0, h => by
    have h1 : FrameLike (a0.put (some k) (a.eval (.tmp k))) a ks := by
      refine ⟨h.defers, by simpa [Act.put] using h.size, fun j hj => ?_⟩
      show _ = (a0.tmps.setIfInBounds k _).getD j undef
      by_cases hjk : k = j
      · subst hjk
        by_cases hlt : k < a0.tmps.size
        · have : (a0.tmps.setIfInBounds k (a.eval (.tmp k))).getD k undef = a.eval (.tmp k) := by simp [Array.getD, hlt]
          rw [this]
          rfl
        · have h1 : ¬ k < a.tmps.size := by rw [h.size]; exact hlt
          simp [Array.getD, hlt, h1]
      · rw [val_set_ne hjk]
        exact h.same j (by simp [hj, Ne.symm hjk])
    have h2 := FrameLike.eq (ks := ks) (a0 := a0.put (some k) (a.eval (.tmp k))) h1
    exact h2
theorem region_gen {P : Program} {c : Code} {Q : Exit → Act → World → Prop} {a : Act} {w : World} (h : ∀ a0, RowKit.Hid (a0 = a) → c.wp P Q a0 w) : c.wp P Q a w := h a rfl
theorem wp_region_inv0 {P : Program} {id : Nat} {ops ops' : Array Oper} {Q : Exit → Act → World → Prop} {a : Act} {w : World} (Inv : (Nat → Bool) → Act → World → Prop) (he : ops = ops') (hm : P.follows .mixedOrders = true) (hf : forwardB ops' = true)
    (h0 : Inv (fun _ => false) a w.drew)
    (hstep : ∀ (i : Nat) (o : Oper) (L : Nat → Bool) (a1 : Act) (w : World), ops'[i]? = some o → L i = false → (∀ e ∈ o.after, Region.binds .any e = true → L e.on = true) → Inv L a1 w → wpOp P ops' (NoPanic Q) i (fun a' w' => Inv (fun j => L j || decide (j = i)) a' w') a1 w)
    (hend : ∀ (L : Nat → Bool) (a1 : Act) (w : World), (∀ i, i < ops'.size → L i = true) → Inv L a1 w → NoPanic Q .normal a1 w) : (Code.region id ops true).wp P Q a w :=
  wp_region_inv Inv he hm hf h0 hstep hend
theorem eval_spell {a : Act} {k : Nat} {v : Value} (h : a.eval (.tmp k) = v) : a.tmps[k]?.getD undef = v := by
  rw [← h]
  show _ = a.tmps.getD k undef
  rw [Array.getD_eq_getD_getElem?]
theorem inv_or {x y : Bool} (h : x = true) : (x || y) = true := by rw [h]; rfl
/-- The block that a pointer or a slice leads into. -/
def blkOf : Value → Option Nat
  | .pointer (some a) => some a.block
  | .slice (some a) _ _ => some a.block
  | _ => none
theorem inv_ne {x x' y y' : Value} (h1 : x' = x) (h2 : y' = y) (h : blkOf x ≠ blkOf y) : blkOf x' ≠ blkOf y' := by rw [h1, h2]; exact h

/-! A region whose reads have values that are known from the beginning, and whose other operations (calls, allocations, stores) lead from state to state. -/
/-- What holds when the operations of L have been carried out. -/
structure RInv (ops : Array Oper) (a0 : Act) (ks : List Nat) (vals : List (Nat × Nat × Value)) (E : (Nat → Bool) → (Nat → Value) → World → Prop) (L : Nat → Bool) (a : Act) (w : World) : Prop where
  frame : FrameLike a0 a ks
  vals : ∀ t ∈ vals, L t.1 = true → a.eval (.tmp t.2.1) = t.2.2
  down : ∀ j o, ops[j]? = some o → L j = true → ∀ e ∈ o.after, Region.binds .any e = true → L e.on = true
  eff : E L (fun d => a.eval (.tmp d)) w

/-- E looks at the operations effs and at the slots ds alone. -/
def Looks (E : (Nat → Bool) → (Nat → Value) → World → Prop) (effs ds : List Nat) : Prop :=
  ∀ L L' g g' w, (∀ k ∈ effs, L k = L' k) → (∀ d ∈ ds, g d = g' d) → E L g w → E L' g' w

theorem down_step {ops : Array Oper} {L : Nat → Bool} {i : Nat} {o : Oper} (hd : ∀ j o, ops[j]? = some o → L j = true → ∀ e ∈ o.after, Region.binds .any e = true → L e.on = true) (ho : ops[i]? = some o)
    (h : ∀ e ∈ o.after, Region.binds .any e = true → L e.on = true) : ∀ j o, ops[j]? = some o → (L j || decide (j = i)) = true → ∀ e ∈ o.after, Region.binds .any e = true → (L e.on || decide (e.on = i)) = true := by
  intro j oj hoj hL e he hb
  by_cases hj : j = i
  · subst hj
    rw [ho] at hoj
    injection hoj with hoj
    subst hoj
    rw [h e he hb]; rfl
  · have hL' : L j = true := by simpa [hj] using hL
    rw [hd j oj hoj hL' e he hb]; rfl
/-- A read is carried out. -/
theorem RInv.read {P : Program} {ops : Array Oper} {Q : Exit → Act → World → Prop} {a0 a : Act} {ks : List Nat} {vals : List (Nat × Nat × Value)} {E : (Nat → Bool) → (Nat → Value) → World → Prop} {L : Nat → Bool} {w : World} {effs ds : List Nat}
    (hI : RInv ops a0 ks vals E L a w) (hE : Looks E effs ds) (i d : Nat) (v : Value) {o : Oper} (ho : ops[i]? = some o) (hdst : o.dst = some d) (hw : Region.wanted o (yielded ops a.tmps) = true)
    (hdep : ∀ e ∈ o.after, Region.binds .any e = true → L e.on = true) (hks : d ∈ ks) (hlt : d < a0.tmps.size) (hni : i ∉ effs) (hnd : d ∉ ds)
    (hv : ∀ t ∈ vals, (t.1 = i → t.2.1 = d ∧ t.2.2 = v) ∧ (t.1 ≠ i → t.2.1 ≠ d))
    (hc : (execOp a.eval o).run P w = .ok (.value v) w) : wpOp P ops (NoPanic Q) i (fun a' w' => RInv ops a0 ks vals E (fun j => L j || decide (j = i)) a' w') a w := by
  refine inv_value ho hw hc ?_
  rw [hdst]
  have hsz : d < a.tmps.size := by rw [hI.frame.size]; exact hlt
  refine ⟨hI.frame.put hks v, fun t ht hL => ?_, down_step hI.down ho hdep, hE _ _ _ _ _ (fun k hk => ?_) (fun e he => ?_) hI.eff⟩
  · obtain ⟨h1, h2⟩ := hv t ht
    by_cases hti : t.1 = i
    · obtain ⟨h3, h4⟩ := h1 hti
      rw [h3, h4]
      exact eval_put_same hsz
    · rw [eval_put_ne (fun e => h2 hti e.symm)]
      exact hI.vals t ht (by simpa [hti] using hL)
  · have : k ≠ i := fun e => hni (e ▸ hk)
    simp [this]
  · exact (eval_put_ne (fun e' => hnd (by rw [e']; exact he))).symm
/-- What remains to be shown of an operation that is no read, and yields a value. -/
theorem RInv.put {ops : Array Oper} {a0 a : Act} {ks : List Nat} {vals : List (Nat × Nat × Value)} {E : (Nat → Bool) → (Nat → Value) → World → Prop} {L : Nat → Bool} {w w' : World}
    (hI : RInv ops a0 ks vals E L a w) (i d : Nat) (v : Value) {o : Oper} (ho : ops[i]? = some o) (hdep : ∀ e ∈ o.after, Region.binds .any e = true → L e.on = true) (hks : d ∈ ks)
    (hv : ∀ t ∈ vals, t.1 ≠ i ∧ t.2.1 ≠ d)
    (h : E (fun j => L j || decide (j = i)) (fun e => (a.put (some d) v).eval (.tmp e)) w') : RInv ops a0 ks vals E (fun j => L j || decide (j = i)) (a.put (some d) v) w' := by
  refine ⟨hI.frame.put hks v, fun t ht hL => ?_, down_step hI.down ho hdep, h⟩
  obtain ⟨h1, h2⟩ := hv t ht
  rw [eval_put_ne (fun e => h2 e.symm)]
  exact hI.vals t ht (by simpa [h1] using hL)
/-- .. and of one that yields none. -/
theorem RInv.step {ops : Array Oper} {a0 a : Act} {ks : List Nat} {vals : List (Nat × Nat × Value)} {E : (Nat → Bool) → (Nat → Value) → World → Prop} {L : Nat → Bool} {w w' : World}
    (hI : RInv ops a0 ks vals E L a w) (i : Nat) {o : Oper} (ho : ops[i]? = some o) (hdep : ∀ e ∈ o.after, Region.binds .any e = true → L e.on = true)
    (hv : ∀ t ∈ vals, t.1 ≠ i) (h : E (fun j => L j || decide (j = i)) (fun e => a.eval (.tmp e)) w') : RInv ops a0 ks vals E (fun j => L j || decide (j = i)) a w' :=
  ⟨hI.frame, fun t ht hL => hI.vals t ht (by simpa [hv t ht] using hL), down_step hI.down ho hdep, h⟩
theorem RInv.val {ops : Array Oper} {a0 a : Act} {ks : List Nat} {vals : List (Nat × Nat × Value)} {E : (Nat → Bool) → (Nat → Value) → World → Prop} {L : Nat → Bool} {w : World}
    (hI : RInv ops a0 ks vals E L a w) (i d : Nat) (v : Value) (ht : (i, d, v) ∈ vals) (hL : L i = true) : a.tmps[d]?.getD undef = v := eval_spell (hI.vals (i, d, v) ht hL)
theorem RInv.old {ops : Array Oper} {a0 a : Act} {ks : List Nat} {vals : List (Nat × Nat × Value)} {E : (Nat → Bool) → (Nat → Value) → World → Prop} {L : Nat → Bool} {w : World}
    (hI : RInv ops a0 ks vals E L a w) (d : Nat) (v : Value) (hd : d ∉ ks) (h0 : a0.eval (.tmp d) = v) : a.tmps[d]?.getD undef = v := eval_spell ((hI.frame.same d hd).trans h0)
/-- **A region by its reads and its other operations.** -/
theorem wp_region_vals {P : Program} {id : Nat} {ops ops' : Array Oper} {Q : Exit → Act → World → Prop} {a : Act} {w : World} (ks : List Nat) (vals : List (Nat × Nat × Value)) (E : (Nat → Bool) → (Nat → Value) → World → Prop) (he : ops = ops') (hm : P.follows .mixedOrders = true) (hf : forwardB ops' = true)
    (h0 : E (fun _ => false) (fun d => a.eval (.tmp d)) w.drew)
    (hstep : ∀ (i : Nat) (o : Oper) (L : Nat → Bool) (a1 : Act) (w : World), ops'[i]? = some o → L i = false → (∀ e ∈ o.after, Region.binds .any e = true → L e.on = true) → RInv ops' a ks vals E L a1 w → wpOp P ops' (NoPanic Q) i (fun a' w' => RInv ops' a ks vals E (fun j => L j || decide (j = i)) a' w') a1 w)
    (hend : ∀ (L : Nat → Bool) (a1 : Act) (w : World), (∀ i, i < ops'.size → L i = true) → RInv ops' a ks vals E L a1 w → NoPanic Q .normal a1 w) : (Code.region id ops true).wp P Q a w :=
  wp_region_inv (fun L a1 w1 => RInv ops' a ks vals E L a1 w1) he hm hf ⟨FrameLike.refl _ _, fun _ _ h => (nomatch h), fun _ _ _ h => (nomatch h), h0⟩ hstep hend
end Go.Proofs.Ytldofiankhimjaa
/- Drawn regions of paired calls: what their texts share. -/
namespace Go.Proofs.Ytldofiankhimjaa
open Go Go.RowKit

/-- The operations of a region of a code. -/
def opsOf : Code → Nat → Option (Array Oper)
  | .region id ops _, n => if id = n then some ops else none
  | .seq a b, n => match opsOf a n with | some r => some r | none => opsOf b n
  | .cond _ a b, n => match opsOf a n with | some r => some r | none => opsOf b n
  | .block _ c, n => opsOf c n
  | .loop c, n => opsOf c n
  | .rangeFunc _ _ a b, n => match opsOf a n with | some r => some r | none => opsOf b n
  | .scope c, n => opsOf c n
  | _, _ => none
/-- i waits for j. -/
def waitsB (ops : Array Oper) (i j : Nat) : Bool := match ops[i]? with
  | some o => o.after.any fun e => Region.binds .any e && e.on == j
  | none => false
theorem waits_of {ops : Array Oper} {i j : Nat} (h : waitsB ops i j = true) : ∃ o e, ops[i]? = some o ∧ e ∈ o.after ∧ Region.binds .any e = true ∧ e.on = j := by
  unfold waitsB at h
  split at h
  · rename_i o ho
    obtain ⟨k, hk, he⟩ := Array.any_iff_exists.1 h
    obtain ⟨hk2, _, h3⟩ := he
    simp only [Bool.and_eq_true, beq_iff_eq] at h3
    exact ⟨o, _, ho, Array.getElem_mem _, h3.1, h3.2⟩
  · cases h
theorem RInv.no {ops : Array Oper} {a0 a : Act} {ks : List Nat} {vals : List (Nat × Nat × Value)} {E : (Nat → Bool) → (Nat → Value) → World → Prop} {L : Nat → Bool} {w : World}
    (hI : RInv ops a0 ks vals E L a w) {i j : Nat} (hL : L i = false) (h : waitsB ops j i = true) : L j = false := by
  obtain ⟨o, e, h1, h2, h3, h4⟩ := waits_of h
  cases hj : L j
  · rfl
  · rw [← h4, hI.down j o h1 hj e h2 h3] at hL
    cases hL
theorem RInv.yes {ops : Array Oper} {a0 a : Act} {ks : List Nat} {vals : List (Nat × Nat × Value)} {E : (Nat → Bool) → (Nat → Value) → World → Prop} {L : Nat → Bool} {w : World}
    (hI : RInv ops a0 ks vals E L a w) {i j : Nat} (hL : L i = true) (h : waitsB ops i j = true) : L j = true := by
  obtain ⟨o, e, h1, h2, h3, h4⟩ := waits_of h
  rw [← h4]
  exact hI.down i o h1 hL e h2 h3
theorem dep_of {ops : Array Oper} {L : Nat → Bool} {i j : Nat} {o : Oper} (ho : ops[i]? = some o) (hdep : ∀ e ∈ o.after, Region.binds .any e = true → L e.on = true) (h : waitsB ops i j = true) : L j = true := by
  obtain ⟨o', e, h1, h2, h3, h4⟩ := waits_of h
  rw [ho] at h1
  injection h1 with h1
  subst h1
  rw [← h4]
  exact hdep e h2 h3
theorem inv_stored {P : Program} {ops : Array Oper} {Q : Exit → Act → World → Prop} {K : Act → World → Prop} {i : Nat} {a : Act} {w w' : World} {o : Oper} (ho : ops[i]? = some o) (hw : Region.wanted o (yielded ops a.tmps) = true) (hd : o.dst = none)
    (hc : (execOp a.eval o).run P w = .ok .skip w') (h : K a w') : wpOp P ops Q i K a w := by
  unfold wpOp
  simp only [ho, hw, if_true, Oper.wp, hc, Oper.upon, hd]
  exact .inl h
/-- .. and a region that keeps its order. -/
theorem wpOps_vals {P : Program} {ops : Array Oper} {Q : Exit → Act → World → Prop} {a : Act} (ks : List Nat) (vals : List (Nat × Nat × Value)) (E : (Nat → Bool) → (Nat → Value) → World → Prop) (hf : forwardB ops = true)
    (hstep : ∀ (i : Nat) (o : Oper) (L : Nat → Bool) (a1 : Act) (w : World), ops[i]? = some o → L i = false → (∀ e ∈ o.after, Region.binds .any e = true → L e.on = true) → RInv ops a ks vals E L a1 w → wpOp P ops (NoPanic Q) i (fun a' w' => RInv ops a ks vals E (fun j => L j || decide (j = i)) a' w') a1 w)
    (hend : ∀ (L : Nat → Bool) (a1 : Act) (w : World), (∀ i, i < ops.size → L i = true) → RInv ops a ks vals E L a1 w → NoPanic Q .normal a1 w) :
    ∀ (n i : Nat) (a1 : Act) (w : World), i + n = ops.size → RInv ops a ks vals E (fun j => decide (j < i)) a1 w → wpOps P ops (NoPanic Q) (List.range' i n) a1 w
  | 0, i, a1, w, hn, hI => hend _ _ _ (fun j hj => by simp; omega) hI
  | n + 1, i, a1, w, hn, hI => by
    rw [List.range'_succ, wpOps_cons]
    have ho : ops[i]? = some ops[i] := Array.getElem?_eq_getElem (by omega)
    refine wpOp_mono (fun a' w' h' => ?_) (hstep i ops[i] _ a1 w ho (by simp) (fun e he hb => by have := forward_of hf ho e he hb; simpa using this) hI)
    refine wpOps_vals ks vals E hf hstep hend n (i + 1) a' w' (by omega) ?_
    have e : (fun j => decide (j < i) || decide (j = i)) = fun j => decide (j < i + 1) := by
      funext j
      rw [Bool.eq_iff_iff]
      simp
      omega
    rw [← e]
    exact h'
theorem wp_region_vals0 {P : Program} {id : Nat} {ops ops' : Array Oper} {Q : Exit → Act → World → Prop} {a : Act} {w : World} (ks : List Nat) (vals : List (Nat × Nat × Value)) (E : (Nat → Bool) → (Nat → Value) → World → Prop) (he : ops = ops') (hf : forwardB ops' = true)
    (h0 : E (fun _ => false) (fun d => a.eval (.tmp d)) w)
    (hstep : ∀ (i : Nat) (o : Oper) (L : Nat → Bool) (a1 : Act) (w : World), ops'[i]? = some o → L i = false → (∀ e ∈ o.after, Region.binds .any e = true → L e.on = true) → RInv ops' a ks vals E L a1 w → wpOp P ops' (NoPanic Q) i (fun a' w' => RInv ops' a ks vals E (fun j => L j || decide (j = i)) a' w') a1 w)
    (hend : ∀ (L : Nat → Bool) (a1 : Act) (w : World), (∀ i, i < ops'.size → L i = true) → RInv ops' a ks vals E L a1 w → NoPanic Q .normal a1 w) : (Code.region id ops false).wp P Q a w := by
  subst he
  refine wp_region_noPanic (wp_region ?_)
  rw [List.range_eq_range']
  refine wpOps_vals ks vals E hf hstep hend _ 0 a w (by omega) ?_
  have e : (fun j : Nat => decide (j < 0)) = fun _ => false := by funext j; simp
  rw [e]
  exact ⟨FrameLike.refl _ _, fun _ _ h => (nomatch h), fun _ _ _ h => (nomatch h), h0⟩
/-- Pieces that turn when something has been done. -/
def pick (c : Bool) (A B : Asn) : Asn := if c then A else B
theorem pick_true (A B : Asn) : pick true A B = A := rfl
theorem pick_false (A B : Asn) : pick false A B = B := rfl
theorem sl_shape {w : World} {t : TypeId} {v : Value} {xs : List Value} {f : List Nat} (h : (slA t v xs).p w f) : ∃ a n c, v = .slice a n c := by
  obtain ⟨a, c, h1, _⟩ := sl_get h
  exact ⟨_, _, _, h1⟩
theorem sl_elem {w : World} {t : TypeId} {g n c : Nat} {xs : List Value} {f : List Nat} (h : (slA t (.slice (some ⟨g, 0, none⟩) n c) xs).p w f) (i : Nat) (hi : i < xs.length) :
    w.cell? ⟨g, i, none⟩ = some xs[i] ∧ w.frozen? ⟨g, i, none⟩ = false ∧ g < w.heap.size ∧ n = xs.length := by
  obtain ⟨a, c', h1, h2, h3, h4⟩ := sl_get h
  injection h1 with h5 h6 h7
  rcases h4 with ⟨e, _⟩ | ⟨g', e, h8, h9, h10⟩
  · rw [e] at h5; cases h5
  · rw [e] at h5
    injection h5 with h5
    injection h5 with h5
    subst h5
    exact ⟨by rw [h9 i hi, List.getElem?_eq_getElem hi], h10 i, h8, h6⟩
theorem sl_some {w : World} {t : TypeId} {v : Value} {xs : List Value} {f : List Nat} (h : (slA t v xs).p w f) (hp : 0 < xs.length) : ∃ g c, v = .slice (some ⟨g, 0, none⟩) xs.length c ∧ xs.length ≤ c ∧ c ≤ maxLen := by
  obtain ⟨a, c, h1, h2, h3, h4⟩ := sl_get h
  rcases h4 with ⟨_, e, _⟩ | ⟨g, e, _⟩
  · rw [e] at hp; cases hp
  · exact ⟨g, c, by rw [h1, e], h2, h3⟩
def vpick (c : Bool) (x y : Value) : Value := if c then x else y
theorem vpick_true (x y : Value) : vpick true x y = x := rfl
theorem vpick_false (x y : Value) : vpick false x y = y := rfl
theorem below_drew (w : World) : Below w.heap.size w w.drew := ⟨rfl, rfl, rfl, Nat.le_refl _, fun _ _ => rfl⟩
theorem below_drewN (w : World) (n : Nat) : Below w.heap.size w (w.drewN n) := ⟨rfl, rfl, rfl, Nat.le_refl _, fun _ _ => rfl⟩
theorem nodup_at {α : Type} {l : List α} (h : l.Nodup) {i j : Nat} {x : α} (hi : l[i]? = some x) (hj : l[j]? = some x) : i = j := by
  obtain ⟨h1, h2⟩ := List.getElem?_eq_some_iff.1 hi
  obtain ⟨h3, h4⟩ := List.getElem?_eq_some_iff.1 hj
  exact (List.getElem_inj (h := h) ).1 (h2.trans h4.symm)
theorem vals_at {vals : List (Nat × Nat × Value)} (h1 : (vals.map (·.1)).Nodup) (h2 : (vals.map (·.2.1)).Nodup) (m : Nat) {i d : Nat} {v : Value} (hm : vals[m]? = some (i, d, v)) : ∀ t ∈ vals, (t.1 = i → t.2.1 = d ∧ t.2.2 = v) ∧ (t.1 ≠ i → t.2.1 ≠ d) := by
  intro t ht
  obtain ⟨j, hj⟩ := List.getElem?_of_mem ht
  refine ⟨fun e => ?_, fun hne e => ?_⟩
  · have : m = j := nodup_at h1 (x := i) (by rw [List.getElem?_map, hm]; rfl) (by rw [List.getElem?_map, hj]; exact congrArg some e)
    subst this
    rw [hm] at hj
    injection hj with hj
    subst hj
    exact ⟨rfl, rfl⟩
  · have : m = j := nodup_at h2 (x := d) (by rw [List.getElem?_map, hm]; rfl) (by rw [List.getElem?_map, hj]; exact congrArg some e)
    subst this
    rw [hm] at hj
    injection hj with hj
    subst hj
    exact hne rfl
theorem vals_ne1 {vals : List (Nat × Nat × Value)} {l1 : List Nat} {i : Nat} (h1 : vals.map (·.1) = l1) (hi : i ∉ l1) {t : Nat × Nat × Value} (ht : t ∈ vals) : t.1 ≠ i := by
  intro e
  refine hi ?_
  rw [← h1, ← e]
  exact List.mem_map.2 ⟨t, ht, rfl⟩
theorem vals_ne2 {vals : List (Nat × Nat × Value)} {l1 l2 : List Nat} {i d : Nat} (h1 : vals.map (·.1) = l1) (h2 : vals.map (·.2.1) = l2) (hi : i ∉ l1) (hd : d ∉ l2) {t : Nat × Nat × Value} (ht : t ∈ vals) : t.1 ≠ i ∧ t.2.1 ≠ d := by
  refine ⟨vals_ne1 h1 hi ht, fun e => hd ?_⟩
  rw [← h2, ← e]
  exact List.mem_map.2 ⟨t, ht, rfl⟩
theorem Tr.of_new {w w' : World} {f : List Nat} (h : Below w.heap.size w w') (hf : ∀ k ∈ f, w.heap.size ≤ k) : Tr w w' [] f := ⟨h.os, h.tape, h.output, h.size, fun k hk _ => h.block k hk, fun k hk => .inr (hf k hk)⟩
theorem St.setP {w0 w : World} {fp0 : List Nat} {L : List Asn} (h : St w0 fp0 L w) (i : Nat) (hi : L[i]? = some Ytldofiankhimjaa.emp) (P : Prop) (hP : P) : St w0 fp0 (L.set i (pureA P)) w := by
  obtain ⟨f, h1, h2⟩ := h.get i hi
  obtain rfl : f = [] := h1
  exact h2 _ _ [] ⟨hP, rfl⟩ (Tr.refl _ _)
/-- A block where the value points. -/
def atA (t : TypeId) (s : Value) (c : Array Value) : Asn :=
  ⟨fun w fp => ∃ b, s = .pointer (some ⟨b, 0, none⟩) ∧ (blkA b t c).p w fp, fun ⟨b, _, h1⟩ => (blkA b t c).lt h1, fun ⟨b, h0, h1⟩ hs => ⟨b, h0, (blkA b t c).loc h1 hs⟩⟩
theorem St.atN {w0 w : World} {fp0 : List Nat} {L : List Asn} (h : St w0 fp0 L w) (i : Nat) (hi : L[i]? = some Ytldofiankhimjaa.emp) (t : TypeId) (c : Array Value) : St w0 fp0 (L.set i (atA t (.pointer (some ⟨w.heap.size, 0, none⟩)) c)) (w.alloc (.cells c t)) := by
  obtain ⟨f, h1, h2⟩ := h.get i hi
  obtain rfl : f = [] := h1
  have hb := (Below.refl w.heap.size w).alloc (Nat.le_refl _) (.cells c t (0, 0))
  exact h2 _ _ [w.heap.size] ⟨_, rfl, heap_alloc_new w _, rfl⟩ (Tr.of_new hb (by simp))
theorem St.newA {w0 w w' : World} {fp0 : List Nat} {L : List Asn} (h : St w0 fp0 L w) (i : Nat) (hi : L[i]? = some Ytldofiankhimjaa.emp) {A : Asn} {f : List Nat} (ha : A.p w' f) (hb : Below w.heap.size w w') (hf : ∀ k ∈ f, w.heap.size ≤ k) : St w0 fp0 (L.set i A) w' := by
  obtain ⟨f0, h1, h2⟩ := h.get i hi
  obtain rfl : f0 = [] := h1
  exact h2 _ _ f ha (Tr.of_new hb hf)
/-- A slice of one value, in a block of its own, that begins there. -/
def boxA (t : TypeId) (s x : Value) : Asn :=
  ⟨fun w fp => ∃ vb, s = .slice (some ⟨vb, 0, none⟩) 1 1 ∧ w.heap[vb]? = some (.cells #[x] t (0, 0)) ∧ fp = [vb], fun ⟨vb, _, h1, h2⟩ k hk => by
    rw [h2] at hk
    obtain rfl := List.mem_singleton.1 hk
    exact (Array.getElem?_eq_some_iff.1 h1).1, fun ⟨vb, h0, h1, h2⟩ hs => ⟨vb, h0, (hs vb (by rw [h2]; simp)).trans h1, h2⟩⟩
theorem box_new (w : World) (t : TypeId) (x : Value) : (boxA t (.slice (some ⟨w.heap.size, 0, none⟩) 1 1) x).p (w.alloc (.cells #[x] t)) [w.heap.size] ∧ Tr w (w.alloc (.cells #[x] t)) [] [w.heap.size] := by
  have hb := (Below.refl w.heap.size w).alloc (Nat.le_refl _) (.cells #[x] t (0, 0))
  refine ⟨⟨_, rfl, heap_alloc_new w _, rfl⟩, hb.os, hb.tape, hb.output, hb.size, fun k hk _ => hb.block k hk, fun k hk => .inr ?_⟩
  rw [List.mem_singleton.1 hk]
  exact Nat.le_refl _
theorem St.box {w0 w : World} {fp0 : List Nat} {L : List Asn} (h : St w0 fp0 L w) (i : Nat) (hi : L[i]? = some Ytldofiankhimjaa.emp) (t : TypeId) (x : Value) : St w0 fp0 (L.set i (boxA t (.slice (some ⟨w.heap.size, 0, none⟩) 1 1) x)) (w.alloc (.cells #[x] t)) := by
  obtain ⟨f, h1, h2⟩ := h.get i hi
  obtain rfl : f = [] := h1
  obtain ⟨h3, h4⟩ := box_new w t x
  exact h2 _ _ _ h3 h4
/-- Two pieces share no block. -/
theorem Star.two {w : World} : ∀ {L : List Asn} {fp : List Nat} (i j : Nat) {A B : Asn}, i < j → L[i]? = some A → L[j]? = some B → Star w L fp → ∃ f g, A.p w f ∧ B.p w g ∧ (∀ k ∈ f, k ∉ g) ∧
      (∀ (A' : Asn) (w' : World) (f' : List Nat), A'.p w' f' → Tr w w' f f' → ∃ fp', Star w' (L.set i A') fp' ∧ Tr w w' fp fp') ∧ (∀ (B' : Asn) (w' : World) (g' : List Nat), B'.p w' g' → Tr w w' g g' → ∃ fp', Star w' (L.set j B') fp' ∧ Tr w w' fp fp')
  | [], fp, i, j, A, B, _, h, _, _ => by simp at h
  | C :: L, fp, 0, j + 1, A, B, _, h, h', hs => by
    obtain rfl : C = A := by simpa using h
    have hs' := hs
    obtain ⟨f, g, h1, h2, h3, rfl⟩ := hs
    obtain ⟨g1, h4, h5, h6⟩ := h2.get j (by simpa using h')
    refine ⟨f, g1, h1, h4, fun k hk hg => h3 k hk (h5 k hg), fun A' w' f' ha ht => ⟨f' ++ g, ⟨f', g, ha, h2.loc fun k hk => ht.block k (h2.lt k hk) fun h => h3 k h hk, fun k hk hg => ?_, rfl⟩, ?_⟩, fun B' w' g' hb ht => ?_⟩
    · rcases ht.new k hk with h | h
      · exact h3 k h hg
      · have := h2.lt k hg; omega
    · refine ⟨ht.os, ht.tape, ht.output, ht.size, fun k hk hn => ht.block k hk fun h => hn (List.mem_append.2 (.inl h)), fun k hk => ?_⟩
      rcases List.mem_append.1 hk with hk | hk
      · rcases ht.new k hk with h | h
        · exact .inl (List.mem_append.2 (.inl h))
        · exact .inr h
      · exact .inl (List.mem_append.2 (.inr hk))
    · obtain ⟨g2, h7, h8⟩ := h6 B' w' g' hb ht
      refine ⟨f ++ g2, ⟨f, g2, C.loc h1 fun k hk => ht.block k (C.lt h1 k hk) fun h => h3 k hk (h5 k h), h7, fun k hk hg => ?_, rfl⟩, h8.os, h8.tape, h8.output, h8.size, fun k hk hn => h8.block k hk fun h => hn (List.mem_append.2 (.inr h)), fun k hk => ?_⟩
      · rcases h8.new k hg with h | h
        · exact h3 k hk h
        · have := C.lt h1 k hk; omega
      · rcases List.mem_append.1 hk with hk | hk
        · exact .inl (List.mem_append.2 (.inl hk))
        · rcases h8.new k hk with h | h
          · exact .inl (List.mem_append.2 (.inr h))
          · exact .inr h
  | C :: L, fp, i + 1, j + 1, A, B, hij, h, h', hs => by
    obtain ⟨f0, g, h1, h2, h3, rfl⟩ := hs
    obtain ⟨fa, fb, h4, h5, h6, h7, h8⟩ := Star.two i j (by omega) (by simpa using h) (by simpa using h') h2
    obtain ⟨ga, ha, hga, _⟩ := h2.get i (by simpa using h)
    have key : ∀ (k : Nat) (B' : Asn) (w' : World) (fp' : List Nat), Star w' (L.set k B') fp' → Tr w w' g fp' → ∃ fp2, Star w' ((C :: L).set (k + 1) B') fp2 ∧ Tr w w' (f0 ++ g) fp2 := by
      intro k B' w' fp' hs' ht
      refine ⟨f0 ++ fp', ⟨f0, fp', C.loc h1 fun k hk => ht.block k (C.lt h1 k hk) fun h => h3 k hk h, hs', fun k hk hg => ?_, rfl⟩, ht.os, ht.tape, ht.output, ht.size, fun k hk hn => ht.block k hk fun h => hn (List.mem_append.2 (.inr h)), fun k hk => ?_⟩
      · rcases ht.new k hg with h | h
        · exact h3 k hk h
        · have := C.lt h1 k hk; omega
      · rcases List.mem_append.1 hk with hk | hk
        · exact .inl (List.mem_append.2 (.inl hk))
        · rcases ht.new k hk with h | h
          · exact .inl (List.mem_append.2 (.inr h))
          · exact .inr h
    refine ⟨fa, fb, h4, h5, h6, fun A' w' f' ha ht => ?_, fun B' w' f' hb ht => ?_⟩
    · obtain ⟨fp', h9, h10⟩ := h7 A' w' f' ha ht
      exact key i A' w' fp' h9 h10
    · obtain ⟨fp', h9, h10⟩ := h8 B' w' f' hb ht
      exact key j B' w' fp' h9 h10
theorem St.two {w0 w : World} {fp0 : List Nat} {L : List Asn} (h : St w0 fp0 L w) (i j : Nat) {A B : Asn} (hij : i < j) (hi : L[i]? = some A) (hj : L[j]? = some B) :
    ∃ f g, A.p w f ∧ B.p w g ∧ (∀ k ∈ f, k ∉ g) ∧ (∀ (A' : Asn) (w' : World) (f' : List Nat), A'.p w' f' → Tr w w' f f' → St w0 fp0 (L.set i A') w') ∧ (∀ (B' : Asn) (w' : World) (g' : List Nat), B'.p w' g' → Tr w w' g g' → St w0 fp0 (L.set j B') w') := by
  obtain ⟨fp, hs, ht⟩ := h
  obtain ⟨f, g, h1, h2, h3, h4, h5⟩ := hs.two i j hij hi hj
  refine ⟨f, g, h1, h2, h3, fun A' w' f' ha htr => ?_, fun B' w' f' ha htr => ?_⟩
  · obtain ⟨fp', h6, h7⟩ := h4 A' w' f' ha htr
    exact ⟨fp', h6, ht.trans h7⟩
  · obtain ⟨fp', h6, h7⟩ := h5 B' w' f' ha htr
    exact ⟨fp', h6, ht.trans h7⟩
end Go.Proofs.Ytldofiankhimjaa
/- A node with some of its kids in view (S). -/
namespace Go.Proofs.Ytldofiankhimjaa
open Go.RowKit
/-- The kids outside [i, j). -/
def restS (h i j : Nat) (cs : List TS) (bs : List Nat) : Asn := starA (List.zipWith (treeS h) (cs.take i) (bs.take i) ++ List.zipWith (treeS h) (cs.drop j) (bs.drop j))
theorem restS_eq (h i j : Nat) (cs cs' : List TS) (bs bs' : List Nat) (h1 : cs.take i = cs'.take i) (h2 : cs.drop j = cs'.drop j) (h3 : bs.take i = bs'.take i) (h4 : bs.drop j = bs'.drop j) : restS h i j cs bs = restS h i j cs' bs' := by
  unfold restS
  rw [h1, h2, h3, h4]
theorem zip3S (h i j : Nat) (hij : i ≤ j) (cs : List TS) (bs : List Nat) (hl : bs.length = cs.length) :
    List.zipWith (treeS h) cs bs = List.zipWith (treeS h) (cs.take i) (bs.take i) ++ (List.zipWith (treeS h) ((cs.take j).drop i) ((bs.take j).drop i) ++ List.zipWith (treeS h) (cs.drop j) (bs.drop j)) := by
  conv => lhs; rw [← List.take_append_drop j cs, ← List.take_append_drop j bs]
  rw [zipWith_app _ _ _ _ _ (by simp [hl])]
  conv => lhs; lhs; rw [← List.take_append_drop i (cs.take j), ← List.take_append_drop i (bs.take j)]
  rw [zipWith_app _ _ _ _ _ (by simp [hl]), List.take_take, List.take_take, Nat.min_eq_left hij, List.append_assoc]
theorem St.kidsS {w0 w : World} {fp0 : List Nat} {R : List Asn} {h : Nat} {x : TS} {b : Nat} (i j : Nat) (hij : i ≤ j) (hs : St w0 fp0 (treeS (h + 1) x b :: R) w) : ∃ ks vs ps bs, bs.length = x.cs.length ∧
    St w0 fp0 (blkA b 85 #[ks, vs, ps] :: slA 9 ks (keysS x.es) :: slA 3 vs (valsS x.es) :: slA 82 ps (bs.map ptrS) :: restS h i j x.cs bs :: (List.zipWith (treeS h) ((x.cs.take j).drop i) ((bs.take j).drop i) ++ R)) w := by
  obtain ⟨⟨ks, vs, ps, bs⟩, h1⟩ := hs.openS
  obtain ⟨h2, h3⟩ := St.pure.1 h1
  simp only at h2 h3
  refine ⟨ks, vs, ps, bs, h2, ?_⟩
  rw [show kidS (h + 1) = treeS h from rfl, zip3S h i j hij _ _ h2] at h3
  have h4 : St w0 fp0 ((List.zipWith (treeS h) (x.cs.take i) (bs.take i) ++ List.zipWith (treeS h) (x.cs.drop j) (bs.drop j)) ++ (blkA b 85 #[ks, vs, ps] :: slA 9 ks (keysS x.es) :: slA 3 vs (valsS x.es) :: slA 82 ps (bs.map ptrS) :: (List.zipWith (treeS h) ((x.cs.take j).drop i) ((bs.take j).drop i) ++ R))) w := by
    refine h3.perm ?_
    classical
    refine List.perm_iff_count.2 fun a => ?_
    simp only [List.append_eq, List.cons_append, List.count_append, List.count_cons]
    omega
  refine (St.star.2 h4).perm ?_
  classical
  refine List.perm_iff_count.2 fun a => ?_
  simp only [List.count_append, List.count_cons, restS]
  omega
theorem St.joinS {w0 w : World} {fp0 : List Nat} {R : List Asn} {h : Nat} {cs mid : List TS} {es : M ByteArray Int} {b : Nat} {ks vs ps : Value} {bs mb : List Nat} (i j : Nat) (hl : bs.length = cs.length) (hm : mb.length = mid.length)
    (hs : St w0 fp0 (blkA b 85 #[ks, vs, ps] :: slA 9 ks (keysS es) :: slA 3 vs (valsS es) :: slA 82 ps ((bs.take i ++ (mb ++ bs.drop j)).map ptrS) :: restS h i j cs bs :: (List.zipWith (treeS h) mid mb ++ R)) w) :
    St w0 fp0 (treeS (h + 1) (.node es (cs.take i ++ (mid ++ cs.drop j))) b :: R) w := by
  refine St.shutS (ks, vs, ps, bs.take i ++ (mb ++ bs.drop j)) ?_
  refine St.pure.2 ⟨by simp [cs_node, hl, hm], ?_⟩
  rw [show kidS (h + 1) = treeS h from rfl, es_node, cs_node, zipWith_app _ _ _ _ _ (by simp [hl]), zipWith_app _ _ _ _ _ hm.symm]
  have h4 : St w0 fp0 (restS h i j cs bs :: (blkA b 85 #[ks, vs, ps] :: slA 9 ks (keysS es) :: slA 3 vs (valsS es) :: slA 82 ps ((bs.take i ++ (mb ++ bs.drop j)).map ptrS) :: (List.zipWith (treeS h) mid mb ++ R))) w := by
    refine hs.perm ?_
    classical
    refine List.perm_iff_count.2 fun a => ?_
    simp only [List.count_append, List.count_cons]
    omega
  refine (St.star.1 h4).perm ?_
  classical
  refine List.perm_iff_count.2 fun a => ?_
  simp only [List.append_eq, List.cons_append, List.count_append, List.count_cons]
  omega
theorem mid1S {α : Type} {l : List α} {i : Nat} {c : α} (h : l[i]? = some c) : (l.take (i + 1)).drop i = [c] := by
  obtain ⟨h1, h2⟩ := List.getElem?_eq_some_iff.1 h
  rw [List.take_succ_eq_append_getElem h1, List.drop_append_of_le_length (by simp; omega), List.drop_of_length_le (by simp; omega), h2]
  rfl
/-- One kid in view. -/
theorem St.viewS {w0 w : World} {fp0 : List Nat} {R : List Asn} {h : Nat} {x : TS} {b : Nat} (i : Nat) {c : TS} (hc : x.cs[i]? = some c) (hs : St w0 fp0 (treeS (h + 1) x b :: R) w) : ∃ ks vs ps bs cb, bs.length = x.cs.length ∧ bs[i]? = some cb ∧
    St w0 fp0 (blkA b 85 #[ks, vs, ps] :: slA 9 ks (keysS x.es) :: slA 3 vs (valsS x.es) :: slA 82 ps (bs.map ptrS) :: restS h i (i + 1) x.cs bs :: treeS h c cb :: R) w := by
  obtain ⟨ks, vs, ps, bs, h1, h2⟩ := hs.kidsS i (i + 1) (Nat.le_succ i)
  have hi : i < bs.length := by rw [h1]; exact (List.getElem?_eq_some_iff.1 hc).1
  refine ⟨ks, vs, ps, bs, bs[i], h1, List.getElem?_eq_getElem hi, ?_⟩
  rw [mid1S hc, mid1S (List.getElem?_eq_getElem hi)] at h2
  exact h2
theorem St.unviewS {w0 w : World} {fp0 : List Nat} {R : List Asn} {h : Nat} {es : M ByteArray Int} {cs : List TS} {b i cb : Nat} {c' : TS} {ks vs ps : Value} {bs : List Nat} (hl : bs.length = cs.length) (hb : bs[i]? = some cb)
    (hs : St w0 fp0 (blkA b 85 #[ks, vs, ps] :: slA 9 ks (keysS es) :: slA 3 vs (valsS es) :: slA 82 ps (bs.map ptrS) :: restS h i (i + 1) cs bs :: treeS h c' cb :: R) w) :
    St w0 fp0 (treeS (h + 1) (.node es (cs.set i c')) b :: R) w := by
  obtain ⟨h1, h2⟩ := List.getElem?_eq_some_iff.1 hb
  have e : cs.set i c' = cs.take i ++ ([c'] ++ cs.drop (i + 1)) := by rw [set_at (List.getElem?_eq_getElem (by omega : i < cs.length))]; rfl
  have e' : bs = bs.take i ++ ([cb] ++ bs.drop (i + 1)) := split_at hb
  rw [e]
  refine St.joinS (ks := ks) (vs := vs) (ps := ps) (mb := [cb]) i (i + 1) hl rfl ?_
  rw [← e']
  exact hs
/-- A node, its kids as one piece. -/
theorem St.openNS {w0 w : World} {fp0 : List Nat} {L : List Asn} {h : Nat} {x : TS} {b : Nat} (hs : St w0 fp0 (treeS h x b :: L) w) : ∃ ks vs ps bs, bs.length = x.cs.length ∧
    St w0 fp0 (blkA b 85 #[ks, vs, ps] :: slA 9 ks (keysS x.es) :: slA 3 vs (valsS x.es) :: slA 82 ps (bs.map ptrS) :: starA (List.zipWith (kidS h) x.cs bs) :: L) w := by
  obtain ⟨⟨ks, vs, ps, bs⟩, h1⟩ := hs.openS
  obtain ⟨h2, h3⟩ := St.pure.1 h1
  simp only at h2 h3
  refine ⟨ks, vs, ps, bs, h2, ?_⟩
  have h4 : St w0 fp0 (List.zipWith (kidS h) x.cs bs ++ (blkA b 85 #[ks, vs, ps] :: slA 9 ks (keysS x.es) :: slA 3 vs (valsS x.es) :: slA 82 ps (bs.map ptrS) :: L)) w := by
    refine h3.perm ?_
    classical
    refine List.perm_iff_count.2 fun a => ?_
    simp only [List.append_eq, List.cons_append, List.count_append, List.count_cons]
    omega
  refine (St.star.2 h4).perm ?_
  classical
  refine List.perm_iff_count.2 fun a => ?_
  simp only [List.count_cons]
  omega
theorem St.shutNS {w0 w : World} {fp0 : List Nat} {L : List Asn} {h : Nat} {es : M ByteArray Int} {cs : List TS} {b : Nat} {ks vs ps : Value} {bs : List Nat} (hl : bs.length = cs.length)
    (hs : St w0 fp0 (blkA b 85 #[ks, vs, ps] :: slA 9 ks (keysS es) :: slA 3 vs (valsS es) :: slA 82 ps (bs.map ptrS) :: starA (List.zipWith (kidS h) cs bs) :: L) w) : St w0 fp0 (treeS h (.node es cs) b :: L) w := by
  refine St.shutS (ks, vs, ps, bs) (St.pure.2 ⟨hl, ?_⟩)
  rw [es_node, cs_node]
  have h4 : St w0 fp0 (starA (List.zipWith (kidS h) cs bs) :: (blkA b 85 #[ks, vs, ps] :: slA 9 ks (keysS es) :: slA 3 vs (valsS es) :: slA 82 ps (bs.map ptrS) :: L)) w := by
    refine hs.perm ?_
    classical
    refine List.perm_iff_count.2 fun a => ?_
    simp only [List.count_cons]
    omega
  refine (St.star.1 h4).perm ?_
  classical
  refine List.perm_iff_count.2 fun a => ?_
  simp only [List.append_eq, List.cons_append, List.count_append, List.count_cons]
  omega
theorem St.cutkidsS {w0 w : World} {fp0 : List Nat} {L : List Asn} {h : Nat} {cs : List TS} {bs : List Nat} (d : Nat) (hl : bs.length = cs.length) (hs : St w0 fp0 (starA (List.zipWith (kidS h) cs bs) :: L) w) :
    St w0 fp0 (starA (List.zipWith (kidS h) (cs.take d) (bs.take d)) :: starA (List.zipWith (kidS h) (cs.drop d) (bs.drop d)) :: L) w := by
  have h1 := St.star.1 hs
  rw [← List.take_append_drop d cs, ← List.take_append_drop d bs, zipWith_app _ _ _ _ _ (by simp [hl]), List.append_assoc] at h1
  have h2 : St w0 fp0 (starA (List.zipWith (kidS h) (cs.drop d) (bs.drop d)) :: (List.zipWith (kidS h) (cs.take d) (bs.take d) ++ L)) w := by
    refine St.star.2 (h1.perm ?_)
    classical
    refine List.perm_iff_count.2 fun a => ?_
    simp only [List.count_append]
    omega
  refine St.star.2 (h2.perm ?_)
  classical
  refine List.perm_iff_count.2 fun a => ?_
  simp only [List.count_append, List.count_cons]
  omega
theorem St.at_openS {w0 w : World} {fp0 : List Nat} {L : List Asn} {t : TypeId} {s : Value} {c : Array Value} (hs : St w0 fp0 (atA t s c :: L) w) : ∃ b, s = .pointer (some ⟨b, 0, none⟩) ∧ St w0 fp0 (blkA b t c :: L) w := by
  obtain ⟨fp, ⟨f, g, ⟨b, h0, h1⟩, h2, h3, rfl⟩, ht⟩ := hs
  exact ⟨b, h0, f ++ g, ⟨f, g, h1, h2, h3, rfl⟩, ht⟩
theorem St.nilAS {w0 w : World} {fp0 : List Nat} {L : List Asn} (t : TypeId) (hs : St w0 fp0 L w) : St w0 fp0 (slA t (.slice none 0 0) [] :: L) w := by
  obtain ⟨fp, h1, h2⟩ := hs
  exact ⟨fp, ⟨[], fp, ⟨World.ownsRow_nil _ _ _ _, rfl⟩, h1, by simp, rfl⟩, h2⟩
/-- What can be seen of a tree. -/
theorem tree_lookS {w : World} {h : Nat} {x : TS} {b : Nat} {f : List Nat} (ht : (treeS h x b).p w f) : ∃ ka kc vs ps, w.cell? ⟨b, 0, none⟩ = some (.slice ka x.es.length kc) ∧ w.cell? ⟨b, 1, none⟩ = some vs ∧ w.cell? ⟨b, 2, none⟩ = some ps ∧ b < w.heap.size := by
  rw [treeS_eq] at ht
  obtain ⟨⟨ks, vs, ps, bs⟩, hq⟩ := ht
  obtain ⟨_, g, _, ⟨f1, g1, h1, ⟨f2, g2, h2, _⟩, _⟩, _⟩ := hq
  obtain ⟨a, c, e, _⟩ := sl_get h2
  rw [keysS_length] at e
  refine ⟨a, c, vs, ps, ?_, (blk_get h1).1 1, (blk_get h1).1 2, (blk_get h1).2.2⟩
  rw [← e]
  exact (blk_get h1).1 0
end Go.Proofs.Ytldofiankhimjaa
/- Plain: B-trees, remove. -/
namespace Go.Proofs.Ytldofiankhimjaa
open T
section
variable {κ ν : Type}
def maxT : Nat → T κ ν → Option (κ × ν)
  | 0, x => x.es.getLast?
  | h + 1, x => match x.cs.getLast? with
    | none => none
    | some c => maxT h c
/-- The children i and i+1 joined. -/
def mergeT (i : Nat) (x : T κ ν) : T κ ν := match x.cs[i]?, x.cs[i + 1]?, x.es[i]? with
  | some l, some r, some s => .node (x.es.eraseIdx i) (x.cs.take i ++ .node (l.es ++ s :: r.es) (l.cs ++ r.cs) :: x.cs.drop (i + 2))
  | _, _, _ => x
/-- The last entry of child i - 1 goes up, the one there goes down. -/
def rightT (i : Nat) (x : T κ ν) : T κ ν := match x.cs[i]?, x.cs[i + 1]?, x.es[i]? with
  | some l, some c, some s => match l.es.getLast? with
    | some m => .node (x.es.set i m) (x.cs.take i ++ .node l.es.dropLast (l.cs.dropLast) :: .node (s :: c.es) (l.cs.getLast?.toList ++ c.cs) :: x.cs.drop (i + 2))
    | none => x
  | _, _, _ => x
def leftT (i : Nat) (x : T κ ν) : T κ ν := match x.cs[i]?, x.cs[i + 1]?, x.es[i]? with
  | some c, some r, some s => match r.es with
    | m :: R => .node (x.es.set i m) (x.cs.take i ++ .node (c.es ++ [s]) (c.cs ++ r.cs.take 1) :: .node R (r.cs.drop 1) :: x.cs.drop (i + 2))
    | [] => x
  | _, _, _ => x
def cntT (x : T κ ν) (i : Nat) : Nat := match x.cs[i]? with | some c => c.es.length | none => 0
def fillT (o i : Nat) (x : T κ ν) : T κ ν :=
  if 0 < i ∧ least o < cntT x (i - 1) then rightT (i - 1) x
  else if i < x.es.length ∧ least o < cntT x (i + 1) then leftT i x
  else if 0 < i then mergeT (i - 1) x else mergeT i x

/-- The list of a node with two children in view. -/
theorem toL_two (h : Nat) (A : M κ ν) (s : κ × ν) (B : M κ ν) (C1 : List (T κ ν)) (c d : T κ ν) (C2 : List (T κ ν)) (hl : A.length = C1.length) :
    toL (h + 1) (.node (A ++ s :: B) (C1 ++ c :: d :: C2)) = pre (toL h) A C1 ++ (toL h c ++ s :: toL h d) ++ post (toL h) B C2 := by
  rw [toL_split h A (s :: B) C1 (d :: C2) c hl, post]
  simp
theorem toL_one (h : Nat) (A : M κ ν) (B : M κ ν) (C1 : List (T κ ν)) (c : T κ ν) (C2 : List (T κ ν)) (hl : A.length = C1.length) :
    toL (h + 1) (.node (A ++ B) (C1 ++ c :: C2)) = pre (toL h) A C1 ++ toL h c ++ post (toL h) B C2 := toL_split h A B C1 C2 c hl
theorem snoc_of {α : Type} {l : List α} (h : l ≠ []) : ∃ m x, l = m ++ [x] := ⟨_, _, (List.dropLast_concat_getLast h).symm⟩
theorem ne_nil {α : Type} {l : List α} (h : 0 < l.length) : l ≠ [] := by intro e; rw [e] at h; exact absurd h (by simp)
/-- Two nodes and the entry between them, as one list. -/
theorem toL_join {o h lo hi lo' hi' : Nat} {l r : T κ ν} (hl : Body o h lo hi l) (hr : Body o h lo' hi' r) (s : κ × ν) : toL h (.node (l.es ++ s :: r.es) (l.cs ++ r.cs)) = toL h l ++ s :: toL h r := by
  cases h with
  | zero => simp [toL, es_node]
  | succ h =>
    obtain ⟨le, lc⟩ := l
    obtain ⟨re, rc⟩ := r
    have h1 := hl.2.2.1
    have h2 := hr.2.2.1
    simp only [es_node, cs_node] at *
    obtain ⟨C1, c, rfl⟩ := snoc_of (ne_nil (l := lc) (by omega))
    cases rc with
    | nil => simp at h2
    | cons d C2 =>
      have hlen : le.length = C1.length := by simp at h1; omega
      rw [show C1 ++ [c] ++ d :: C2 = C1 ++ c :: d :: C2 by simp, toL_two h _ _ _ _ _ _ _ hlen, toL_last h _ _ _ hlen, toL_cons]
      simp
theorem toL_right {o h lo hi lo' hi' : Nat} {l c : T κ ν} {m s : κ × ν} (hl : Body o h lo hi l) (hr : Body o h lo' hi' c) (hm : l.es.getLast? = some m) :
    toL h (.node l.es.dropLast l.cs.dropLast) ++ m :: toL h (.node (s :: c.es) (l.cs.getLast?.toList ++ c.cs)) = toL h l ++ s :: toL h c := by
  obtain ⟨le, lc⟩ := l
  obtain ⟨ce, cc⟩ := c
  simp only [es_node, cs_node] at *
  obtain ⟨L, rfl⟩ : ∃ L, le = L ++ [m] := by
    obtain ⟨L, x, rfl⟩ := snoc_of (l := le) (by intro e; rw [e] at hm; simp at hm)
    simp at hm
    exact ⟨L, by rw [hm]⟩
  cases h with
  | zero =>
    have h1 := hl.2.2
    have h2 := hr.2.2
    simp only [cs_node] at h1 h2
    subst h1 h2
    simp [toL, es_node]
  | succ h =>
    have h1 := hl.2.2.1
    have h2 := hr.2.2.1
    simp only [es_node, cs_node] at h1 h2
    obtain ⟨K, d, rfl⟩ := snoc_of (ne_nil (l := lc) (by omega))
    obtain ⟨K', d', rfl⟩ := snoc_of (l := K) (ne_nil (by simp at h1; omega))
    cases cc with
    | nil => simp at h2
    | cons d2 C2 =>
      have hlen : L.length = K'.length := by simp at h1; omega
      rw [show K' ++ [d'] ++ [d] = K' ++ d' :: d :: [] by simp, show (L ++ [m] : M κ ν) = L ++ m :: [] by rfl, toL_two h _ _ _ _ _ _ _ hlen]
      have e1 : (K' ++ d' :: d :: []).dropLast = K' ++ [d'] := by rw [show K' ++ d' :: d :: [] = (K' ++ [d']) ++ [d] by simp, List.dropLast_concat]
      have e2 : (K' ++ d' :: d :: []).getLast? = some d := by rw [show K' ++ d' :: d :: [] = (K' ++ [d']) ++ [d] by simp, List.getLast?_concat]
      have e3 : (L ++ m :: []).dropLast = L := List.dropLast_concat
      rw [e1, e2, e3, toL_last h _ _ _ hlen]
      simp only [Option.toList, List.cons_append, List.nil_append, toL_cons, post]
      simp
theorem toL_left {o h lo hi lo' hi' : Nat} {c r : T κ ν} {m s : κ × ν} {R : M κ ν} (hl : Body o h lo hi c) (hr : Body o h lo' hi' r) (hm : r.es = m :: R) :
    toL h (.node (c.es ++ [s]) (c.cs ++ r.cs.take 1)) ++ m :: toL h (.node R (r.cs.drop 1)) = toL h c ++ s :: toL h r := by
  obtain ⟨ce, cc⟩ := c
  obtain ⟨re, rc⟩ := r
  simp only [es_node, cs_node] at *
  subst hm
  cases h with
  | zero =>
    have h1 := hl.2.2
    have h2 := hr.2.2
    simp only [cs_node] at h1 h2
    subst h1 h2
    simp [toL, es_node]
  | succ h =>
    have h1 := hl.2.2.1
    have h2 := hr.2.2.1
    simp only [es_node, cs_node] at h1 h2
    obtain ⟨K, d, rfl⟩ := snoc_of (ne_nil (l := cc) (by omega))
    match rc, h2 with
    | d1 :: d2 :: C2, h2 =>
      have hlen : ce.length = K.length := by simp at h1; omega
      simp only [List.take_succ_cons, List.take_zero, List.drop_succ_cons, List.drop_zero]
      rw [show K ++ [d] ++ [d1] = K ++ d :: d1 :: [] by simp, toL_two h _ _ _ _ _ _ _ hlen, toL_last h _ _ _ hlen]
      simp only [toL_cons, post]
      simp
    | [d1], h2 => simp at h2
    | [], h2 => simp at h2

theorem Body.node {o h lo hi : Nat} {es : M κ ν} {cs : List (T κ ν)} (h1 : lo ≤ es.length) (h2 : es.length ≤ hi) (h3 : cs.length = es.length + 1) (h4 : ∀ c ∈ cs, Body o h (least o) (o - 1) c) : Body o (h + 1) lo hi (.node es cs) := ⟨h1, h2, h3, h4⟩
theorem Body.kids {o h lo hi : Nat} {x : T κ ν} (hb : Body o h lo hi x) : (h = 0 ∧ x.cs = []) ∨ ∃ h', h = h' + 1 ∧ x.cs.length = x.es.length + 1 ∧ ∀ c ∈ x.cs, Body o h' (least o) (o - 1) c := by
  cases h with
  | zero => exact .inl ⟨rfl, hb.2.2⟩
  | succ h => exact .inr ⟨h, rfl, hb.2.2.1, hb.2.2.2⟩
/-- A node in which child i has one entry too few. -/
structure Short (o h i : Nat) (x : T κ ν) : Prop where
  len : x.cs.length = x.es.length + 1
  pos : 0 < x.es.length
  at' : i < x.cs.length
  kid : ∀ c, x.cs[i]? = some c → Body o h (least o - 1) (o - 1) c ∧ c.es.length + 1 = least o
  rest : ∀ j c, j ≠ i → x.cs[j]? = some c → Body o h (least o) (o - 1) c

theorem two_at {x : T κ ν} {i : Nat} {l r : T κ ν} {s : κ × ν} (h1 : x.cs[i]? = some l) (h2 : x.cs[i + 1]? = some r) (h3 : x.es[i]? = some s) :
    x.es = x.es.take i ++ s :: x.es.drop (i + 1) ∧ x.cs = x.cs.take i ++ l :: r :: x.cs.drop (i + 2) ∧ (x.es.take i).length = (x.cs.take i).length := by
  refine ⟨split_at h3, ?_, ?_⟩
  · have e1 := split_at h1
    have e2 : x.cs.drop (i + 1) = r :: x.cs.drop (i + 2) := by
      obtain ⟨hlt, hx⟩ := List.getElem?_eq_some_iff.1 h2
      rw [List.drop_eq_getElem_cons hlt, hx]
    rw [e2] at e1
    exact e1
  · have a1 := (List.getElem?_eq_some_iff.1 h1).1
    have a2 := (List.getElem?_eq_some_iff.1 h3).1
    rw [List.length_take, List.length_take]
    omega
theorem mem_two {o h i : Nat} {x : T κ ν} (hs : ∀ j c, j ≠ i → j ≠ i + 1 → x.cs[j]? = some c → Body o h (least o) (o - 1) c) :
    (∀ d ∈ x.cs.take i, Body o h (least o) (o - 1) d) ∧ ∀ d ∈ x.cs.drop (i + 2), Body o h (least o) (o - 1) d := by
  refine ⟨fun d hd => ?_, fun d hd => ?_⟩
  · obtain ⟨j, hj, rfl⟩ := List.mem_iff_getElem.1 hd
    rw [List.length_take] at hj
    exact hs j _ (by omega) (by omega) (by rw [List.getElem_take]; exact List.getElem?_eq_getElem _)
  · obtain ⟨j, hj, rfl⟩ := List.mem_iff_getElem.1 hd
    rw [List.length_drop] at hj
    exact hs (i + 2 + j) _ (by omega) (by omega) (by rw [List.getElem_drop]; exact List.getElem?_eq_getElem _)

theorem least_two {o : Nat} (ho : 3 ≤ o) : 1 ≤ least o ∧ 2 * least o ≤ o - 1 := by unfold least; omega

/-- Two children are joined. -/
theorem merge_spec {o h i : Nat} {x l r : T κ ν} {s : κ × ν} (h1 : x.cs[i]? = some l) (h2 : x.cs[i + 1]? = some r) (h3 : x.es[i]? = some s) (hlen : x.cs.length = x.es.length + 1)
    {la lb ra rb : Nat} (hl : Body o h la lb l) (hr : Body o h ra rb r) (hsum : least o ≤ l.es.length + r.es.length + 1 ∧ l.es.length + r.es.length + 1 ≤ o - 1)
    (hs : ∀ j c, j ≠ i → j ≠ i + 1 → x.cs[j]? = some c → Body o h (least o) (o - 1) c) :
    (mergeT i x).es.length = x.es.length - 1 ∧ Body o (h + 1) (x.es.length - 1) (x.es.length - 1) (mergeT i x) ∧ toL (h + 1) (mergeT i x) = toL (h + 1) x := by
  have e : mergeT i x = .node (x.es.eraseIdx i) (x.cs.take i ++ .node (l.es ++ s :: r.es) (l.cs ++ r.cs) :: x.cs.drop (i + 2)) := by
    unfold mergeT; rw [h1, h2, h3]
  obtain ⟨t1, t2, t3⟩ := two_at h1 h2 h3
  obtain ⟨m1, m2⟩ := mem_two hs
  have hi := (List.getElem?_eq_some_iff.1 h3).1
  have hi2 := (List.getElem?_eq_some_iff.1 h2).1
  have he : (x.es.eraseIdx i).length = x.es.length - 1 := List.length_eraseIdx_of_lt hi
  have hee : x.es.eraseIdx i = x.es.take i ++ x.es.drop (i + 1) := List.eraseIdx_eq_take_drop_succ _ _
  have hj : Body o h (least o) (o - 1) (T.node (l.es ++ s :: r.es) (l.cs ++ r.cs)) := by
    have hle : (l.es ++ s :: r.es).length = l.es.length + r.es.length + 1 := by simp; omega
    rcases hl.kids with ⟨rfl, hk⟩ | ⟨h', rfl, hk, hk'⟩
    · have hk2 := hr.2.2
      exact ⟨by rw [es_node, hle]; omega, by rw [es_node, hle]; omega, by rw [cs_node, hk, hk2]; rfl⟩
    · have hk2 := hr.2.2.1
      have hk3 := hr.2.2.2
      refine ⟨by rw [es_node, hle]; omega, by rw [es_node, hle]; omega, by rw [cs_node, es_node, List.length_append, hle]; omega, fun d hd => ?_⟩
      rcases List.mem_append.1 hd with hd | hd
      · exact hk' d hd
      · exact hk3 d hd
  rw [e]
  refine ⟨he, Body.node (by rw [he]; exact Nat.le_refl _) (by rw [he]; exact Nat.le_refl _) ?_ fun d hd => ?_, ?_⟩
  · rw [he]
    simp only [List.length_append, List.length_cons, List.length_take, List.length_drop]
    omega
  · rcases List.mem_append.1 hd with hd | hd
    · exact m1 d hd
    · rcases List.mem_cons.1 hd with rfl | hd
      · exact hj
      · exact m2 d hd
  · conv => rhs; rw [← T.eta x, t1, t2]
    rw [hee, toL_two h _ _ _ _ _ _ _ t3, toL_one h _ _ _ _ _ t3, toL_join hl hr]
theorem right_spec {o h i : Nat} {x l c : T κ ν} {s : κ × ν} (h1 : x.cs[i]? = some l) (h2 : x.cs[i + 1]? = some c) (h3 : x.es[i]? = some s) (hlen : x.cs.length = x.es.length + 1)
    (ho : 3 ≤ o) (hl : Body o h (least o) (o - 1) l) (hr : Body o h (least o - 1) (o - 1) c) (hbig : least o < l.es.length) (hsm : c.es.length + 1 = least o)
    (hs : ∀ j c, j ≠ i → j ≠ i + 1 → x.cs[j]? = some c → Body o h (least o) (o - 1) c) :
    Body o (h + 1) x.es.length x.es.length (rightT i x) ∧ toL (h + 1) (rightT i x) = toL (h + 1) x := by
  obtain ⟨m, hm⟩ : ∃ m, l.es.getLast? = some m := ⟨_, List.getLast?_eq_some_getLast (ne_nil (by omega))⟩
  have e : rightT i x = .node (x.es.set i m) (x.cs.take i ++ .node l.es.dropLast (l.cs.dropLast) :: .node (s :: c.es) (l.cs.getLast?.toList ++ c.cs) :: x.cs.drop (i + 2)) := by
    unfold rightT; rw [h1, h2, h3]; simp only [hm]
  obtain ⟨t1, t2, t3⟩ := two_at h1 h2 h3
  obtain ⟨m1, m2⟩ := mem_two hs
  have hi2 := (List.getElem?_eq_some_iff.1 h2).1
  obtain ⟨lo1, lo2⟩ := least_two ho
  have hli := hl.hi
  have hset : x.es.set i m = x.es.take i ++ m :: x.es.drop (i + 1) := set_at h3 m
  have hj : Body o h (least o) (o - 1) (T.node l.es.dropLast l.cs.dropLast) ∧ Body o h (least o) (o - 1) (T.node (s :: c.es) (l.cs.getLast?.toList ++ c.cs)) := by
    have hle : l.es.dropLast.length = l.es.length - 1 := List.length_dropLast
    rcases hl.kids with ⟨rfl, hk⟩ | ⟨h', rfl, hk, hk'⟩
    · have hk2 := hr.2.2
      refine ⟨⟨by rw [es_node, hle]; omega, by rw [es_node, hle]; omega, by rw [cs_node, hk]; rfl⟩, ⟨by rw [es_node, List.length_cons]; omega, by rw [es_node, List.length_cons]; omega, by rw [cs_node, hk, hk2]; rfl⟩⟩
    · have hk2 := hr.2.2.1
      have hk3 := hr.2.2.2
      obtain ⟨y, hy⟩ : ∃ y, l.cs.getLast? = some y := ⟨_, List.getLast?_eq_some_getLast (ne_nil (by omega))⟩
      refine ⟨⟨by rw [es_node, hle]; omega, by rw [es_node, hle]; omega, by rw [cs_node, es_node, List.length_dropLast, hle]; omega, fun d hd => hk' d (List.dropLast_subset _ hd)⟩,
        ⟨by rw [es_node, List.length_cons]; omega, by rw [es_node, List.length_cons]; omega, by rw [cs_node, es_node, hy, List.length_append, List.length_cons]; simp only [Option.toList, List.length_cons, List.length_nil]; omega, fun d hd => ?_⟩⟩
      rw [cs_node, hy] at hd
      rcases List.mem_append.1 hd with hd | hd
      · simp only [Option.toList, List.mem_singleton] at hd
        subst hd
        exact hk' _ (List.mem_of_getLast? hy)
      · exact hk3 d hd
  rw [e]
  refine ⟨Body.node (by rw [List.length_set]; exact Nat.le_refl _) (by rw [List.length_set]; exact Nat.le_refl _) ?_ fun d hd => ?_, ?_⟩
  · rw [List.length_set]
    simp only [List.length_append, List.length_cons, List.length_take, List.length_drop]
    omega
  · rcases List.mem_append.1 hd with hd | hd
    · exact m1 d hd
    · rcases List.mem_cons.1 hd with rfl | hd
      · exact hj.1
      · rcases List.mem_cons.1 hd with rfl | hd
        · exact hj.2
        · exact m2 d hd
  · conv => rhs; rw [← T.eta x, t1, t2]
    rw [hset, toL_two h _ _ _ _ _ _ _ t3, toL_two h _ _ _ _ _ _ _ t3, toL_right hl hr hm]
theorem left_spec {o h i : Nat} {x c r : T κ ν} {s : κ × ν} (h1 : x.cs[i]? = some c) (h2 : x.cs[i + 1]? = some r) (h3 : x.es[i]? = some s) (hlen : x.cs.length = x.es.length + 1)
    (ho : 3 ≤ o) (hl : Body o h (least o - 1) (o - 1) c) (hr : Body o h (least o) (o - 1) r) (hbig : least o < r.es.length) (hsm : c.es.length + 1 = least o)
    (hs : ∀ j c, j ≠ i → j ≠ i + 1 → x.cs[j]? = some c → Body o h (least o) (o - 1) c) :
    Body o (h + 1) x.es.length x.es.length (leftT i x) ∧ toL (h + 1) (leftT i x) = toL (h + 1) x := by
  obtain ⟨m, R, hm⟩ : ∃ m R, r.es = m :: R := by
    cases hh : r.es with
    | nil => rw [hh] at hbig; simp at hbig
    | cons a b => exact ⟨a, b, rfl⟩
  have e : leftT i x = .node (x.es.set i m) (x.cs.take i ++ .node (c.es ++ [s]) (c.cs ++ r.cs.take 1) :: .node R (r.cs.drop 1) :: x.cs.drop (i + 2)) := by
    unfold leftT; rw [h1, h2, h3]; simp only [hm]
  obtain ⟨t1, t2, t3⟩ := two_at h1 h2 h3
  obtain ⟨m1, m2⟩ := mem_two hs
  have hi2 := (List.getElem?_eq_some_iff.1 h2).1
  obtain ⟨lo1, lo2⟩ := least_two ho
  have hri := hr.hi
  have hRl : R.length + 1 = r.es.length := by rw [hm]; rfl
  have hset : x.es.set i m = x.es.take i ++ m :: x.es.drop (i + 1) := set_at h3 m
  have hj : Body o h (least o) (o - 1) (T.node (c.es ++ [s]) (c.cs ++ r.cs.take 1)) ∧ Body o h (least o) (o - 1) (T.node R (r.cs.drop 1)) := by
    have hle : (c.es ++ [s]).length = c.es.length + 1 := by simp
    rcases hr.kids with ⟨rfl, hk⟩ | ⟨h', rfl, hk, hk'⟩
    · have hk2 := hl.2.2
      refine ⟨⟨by rw [es_node, hle]; omega, by rw [es_node, hle]; omega, by rw [cs_node, hk, hk2]; rfl⟩, ⟨by rw [es_node]; omega, by rw [es_node]; omega, by rw [cs_node, hk]; rfl⟩⟩
    · have hk2 := hl.2.2.1
      have hk3 := hl.2.2.2
      refine ⟨⟨by rw [es_node, hle]; omega, by rw [es_node, hle]; omega, by rw [cs_node, es_node, List.length_append, List.length_take, hle]; omega, fun d hd => ?_⟩,
        ⟨by rw [es_node]; omega, by rw [es_node]; omega, by rw [cs_node, es_node, List.length_drop]; omega, fun d hd => hk' d (List.mem_of_mem_drop hd)⟩⟩
      rcases List.mem_append.1 hd with hd | hd
      · exact hk3 d hd
      · exact hk' d (List.mem_of_mem_take hd)
  rw [e]
  refine ⟨Body.node (by rw [List.length_set]; exact Nat.le_refl _) (by rw [List.length_set]; exact Nat.le_refl _) ?_ fun d hd => ?_, ?_⟩
  · rw [List.length_set]
    simp only [List.length_append, List.length_cons, List.length_take, List.length_drop]
    omega
  · rcases List.mem_append.1 hd with hd | hd
    · exact m1 d hd
    · rcases List.mem_cons.1 hd with rfl | hd
      · exact hj.1
      · rcases List.mem_cons.1 hd with rfl | hd
        · exact hj.2
        · exact m2 d hd
  · conv => rhs; rw [← T.eta x, t1, t2]
    rw [hset, toL_two h _ _ _ _ _ _ _ t3, toL_two h _ _ _ _ _ _ _ t3, toL_left hl hr hm]

/-- fill. -/
theorem fill_spec {o h i : Nat} (ho : 3 ≤ o) {x : T κ ν} (hs : Short o h i x) : Body o (h + 1) (x.es.length - 1) x.es.length (fillT o i x) ∧ toL (h + 1) (fillT o i x) = toL (h + 1) x := by
  obtain ⟨h1, h2, h3, h4, h5⟩ := hs
  obtain ⟨lo1, lo2⟩ := least_two ho
  obtain ⟨c, hc⟩ : ∃ c, x.cs[i]? = some c := ⟨_, List.getElem?_eq_getElem h3⟩
  obtain ⟨hcb, hcl⟩ := h4 c hc
  unfold fillT
  by_cases c1 : 0 < i ∧ least o < cntT x (i - 1)
  · rw [if_pos c1]
    obtain ⟨c1, c1'⟩ := c1
    obtain ⟨j, rfl⟩ : ∃ j, i = j + 1 := ⟨i - 1, by omega⟩
    rw [Nat.add_sub_cancel] at c1' ⊢
    obtain ⟨l, hl⟩ : ∃ l, x.cs[j]? = some l := ⟨_, List.getElem?_eq_getElem (by omega)⟩
    obtain ⟨s, hs⟩ : ∃ s, x.es[j]? = some s := ⟨_, List.getElem?_eq_getElem (by omega)⟩
    unfold cntT at c1'
    rw [hl] at c1'
    obtain ⟨r1, r2⟩ := right_spec hl hc hs h1 ho (h5 j l (by omega) hl) hcb c1' hcl (fun k d hk1 hk2 hd => h5 k d hk2 hd)
    exact ⟨r1.mono (by have := r1.lo; omega) r1.hi, r2⟩
  · rw [if_neg c1]
    by_cases c2 : i < x.es.length ∧ least o < cntT x (i + 1)
    · rw [if_pos c2]
      obtain ⟨c2, c2'⟩ := c2
      obtain ⟨r, hr⟩ : ∃ r, x.cs[i + 1]? = some r := ⟨_, List.getElem?_eq_getElem (by omega)⟩
      obtain ⟨s, hs⟩ : ∃ s, x.es[i]? = some s := ⟨_, List.getElem?_eq_getElem c2⟩
      unfold cntT at c2'
      rw [hr] at c2'
      obtain ⟨r1, r2⟩ := left_spec hc hr hs h1 ho hcb (h5 (i + 1) r (by omega) hr) c2' hcl (fun k d hk1 hk2 hd => h5 k d hk1 hd)
      exact ⟨r1.mono (by have := r1.lo; omega) r1.hi, r2⟩
    · rw [if_neg c2]
      by_cases c3 : 0 < i
      · rw [if_pos c3]
        obtain ⟨j, rfl⟩ : ∃ j, i = j + 1 := ⟨i - 1, by omega⟩
        rw [Nat.add_sub_cancel] at c1 ⊢
        obtain ⟨l, hl⟩ : ∃ l, x.cs[j]? = some l := ⟨_, List.getElem?_eq_getElem (by omega)⟩
        obtain ⟨s, hs⟩ : ∃ s, x.es[j]? = some s := ⟨_, List.getElem?_eq_getElem (by omega)⟩
        have hlb := h5 j l (by omega) hl
        have hle : l.es.length ≤ least o := by
          have : ¬ least o < cntT x j := fun hh => c1 ⟨c3, hh⟩
          unfold cntT at this
          rw [hl] at this
          simp only at this
          omega
        obtain ⟨r1, r2, r3⟩ := merge_spec hl hc hs h1 hlb hcb (by have := hlb.lo; omega) (fun k d hk1 hk2 hd => h5 k d hk2 hd)
        exact ⟨r2.mono (by omega) (by omega), r3⟩
      · rw [if_neg c3]
        obtain rfl : i = 0 := by omega
        obtain ⟨r, hr⟩ : ∃ r, x.cs[0 + 1]? = some r := ⟨_, List.getElem?_eq_getElem (by omega)⟩
        obtain ⟨s, hs⟩ : ∃ s, x.es[0]? = some s := ⟨_, List.getElem?_eq_getElem h2⟩
        have hrb := h5 1 r (by omega) hr
        have hle : r.es.length ≤ least o := by
          have : ¬ least o < cntT x (0 + 1) := fun hh => c2 ⟨h2, hh⟩
          unfold cntT at this
          rw [hr] at this
          simp only at this
          omega
        obtain ⟨r1, r2, r3⟩ := merge_spec hc hr hs h1 hcb hrb (by have := hrb.lo; omega) (fun k d hk1 hk2 hd => h5 k d hk1 hd)
        exact ⟨r2.mono (by omega) (by omega), r3⟩
theorem max_spec {o : Nat} (ho : 3 ≤ o) : ∀ {h lo hi : Nat} {x : T κ ν}, Body o h lo hi x → 0 < x.es.length → ∃ L m, maxT h x = some m ∧ toL h x = L ++ [m]
  | 0, lo, hi, x, hb, hp => by
    obtain ⟨L, m, e⟩ := snoc_of (ne_nil hp)
    exact ⟨L, m, by rw [maxT, e, List.getLast?_concat], e⟩
  | h + 1, lo, hi, .node es cs, hb, hp => by
    have h3 := hb.2.2.1
    have h4 := hb.2.2.2
    simp only [es_node, cs_node] at *
    obtain ⟨C, c, rfl⟩ := snoc_of (ne_nil (l := cs) (by omega))
    have hc := h4 c (by simp)
    obtain ⟨lo1, _⟩ := least_two ho
    obtain ⟨L, m, e1, e2⟩ := max_spec ho hc (by have := hc.lo; omega)
    refine ⟨pre (toL h) es C ++ L, m, by rw [maxT, cs_node, List.getLast?_concat]; exact e1, ?_⟩
    rw [toL_last h _ _ _ (by simp at h3; omega), e2, List.append_assoc]
theorem fix_spec {o h i : Nat} (ho : 3 ≤ o) {es : M κ ν} {cs : List (T κ ν)} {c' : T κ ν} (hlen : cs.length = es.length + 1) (hp : 0 < es.length) (hhi : es.length ≤ o - 1) (hi : i < cs.length) (hb : Body o h (least o - 1) (o - 1) c')
    (hk : ∀ c ∈ cs, Body o h (least o) (o - 1) c) :
    let x' := T.node es (cs.set i c')
    let y := if c'.es.length < least o then fillT o i x' else x'
    Body o (h + 1) (es.length - 1) (o - 1) y ∧ toL (h + 1) y = toL (h + 1) x' := by
  simp only
  have hkid : ∀ j c, j ≠ i → (cs.set i c')[j]? = some c → Body o h (least o) (o - 1) c := by
    intro j c hj hc
    rw [List.getElem?_set_ne (fun e => hj e.symm)] at hc
    exact hk c (List.mem_of_getElem? hc)
  split
  · rename_i hlt
    have hs : Short o h i (T.node es (cs.set i c')) := by
      refine ⟨by simpa [cs_node, es_node] using hlen, hp, by simpa [cs_node] using hi, fun c hc => ?_, hkid⟩
      rw [cs_node, List.getElem?_set_self (by simpa using hi)] at hc
      injection hc with hc
      subst hc
      exact ⟨hb, by have := hb.lo; obtain ⟨lo1, _⟩ := least_two ho; omega⟩
    obtain ⟨f1, f2⟩ := fill_spec ho hs
    exact ⟨f1.mono f1.lo (by have := f1.hi; simp only [es_node] at this; omega), f2⟩
  · rename_i hge
    refine ⟨Body.node (by omega) hhi (by simpa using hlen) fun d hd => ?_, rfl⟩
    obtain ⟨j, hj⟩ := List.getElem?_of_mem hd
    by_cases e : j = i
    · subst e
      rw [List.getElem?_set_self (by simpa using hi)] at hj
      injection hj with hj
      subst hj
      exact hb.mono (by omega) hb.hi
    · exact hkid j d e hj

end
section
variable {κ ν : Type} [KOrd κ]
def removeT (o : Nat) : Nat → T κ ν → κ → T κ ν
  | 0, x, k => if hasK x.es k then .node (x.es.eraseIdx (posK x.es k)) x.cs else x
  | h + 1, x, k => match x.cs[posK x.es k]? with
    | none => x
    | some c =>
      if hasK x.es k then
        match maxT h c with
        | none => x
        | some m =>
          let c' := removeT o h c m.1
          let x' := T.node (x.es.set (posK x.es k) m) (x.cs.set (posK x.es k) c')
          if c'.es.length < least o then fillT o (posK x.es k) x' else x'
      else
        let c' := removeT o h c k
        let x' := T.node x.es (x.cs.set (posK x.es k) c')
        if c'.es.length < least o then fillT o (posK x.es k) x' else x'

/-- **remove.** -/
theorem removeT_spec {o : Nat} (ho : 3 ≤ o) : ∀ (h lo : Nat) (x : T κ ν) (k : κ), Body o h lo (o - 1) x → (h ≠ 0 → 0 < x.es.length) → AscM (toL h x) →
    Body o h (lo - 1) (o - 1) (removeT o h x k) ∧ toL h (removeT o h x k) = delM (toL h x) k
  | 0, lo, x, k, hb, _, ha => by
    have hc := hb.2.2
    have h1 := hb.1
    have h2 := hb.2.1
    have hlt := posK_lt x.es k
    rw [removeT]
    cases hh : hasK x.es k
    · have hgt := hasK_no (asc_es ha) hh
      simp only [Bool.false_eq_true, if_false]
      refine ⟨hb.mono (by omega) h2, ?_⟩
      simp only [toL]
      conv => rhs; rw [← List.take_append_drop (posK x.es k) x.es]
      rw [delM_none hlt hgt, List.take_append_drop]
    · obtain ⟨y, m, hd, he⟩ := hasK_yes hh
      have hy : x.es[posK x.es k]? = some y := by rw [getElem?_drop0, hd]; rfl
      have hl := (List.getElem?_eq_some_iff.1 hy).1
      have hle : (x.es.eraseIdx (posK x.es k)).length = x.es.length - 1 := List.length_eraseIdx_of_lt hl
      simp only [if_true]
      refine ⟨⟨by rw [es_node, hle]; omega, by rw [es_node, hle]; omega, hc⟩, ?_⟩
      simp only [toL, es_node]
      conv => rhs; rw [split_at hy]
      rw [delM_here hlt he, List.eraseIdx_eq_take_drop_succ]
  | h + 1, lo, x, k, hb, hp, ha => by
    obtain ⟨h1, h2, h3, h4⟩ := hb
    have hpos := hp (by omega)
    have hple := posK_le x.es k
    have hlt := posK_lt x.es k
    obtain ⟨lo1, lo2⟩ := least_two ho
    obtain ⟨c, hc⟩ : ∃ c, x.cs[posK x.es k]? = some c := ⟨_, List.getElem?_eq_getElem (by omega)⟩
    have hcm := List.mem_of_getElem? hc
    have hcb := h4 c hcm
    have hcp : 0 < c.es.length := by have := hcb.lo; omega
    have hl1 : (x.es.take (posK x.es k)).length = (x.cs.take (posK x.es k)).length := by rw [List.length_take, List.length_take]; omega
    have hil : posK x.es k < x.cs.length := by omega
    rw [removeT]
    simp only [hc]
    cases hh : hasK x.es k
    · have hgt := hasK_no (asc_es ha) hh
      simp only [Bool.false_eq_true, if_false]
      have hxe : toL (h + 1) x = pre (toL h) (x.es.take (posK x.es k)) (x.cs.take (posK x.es k)) ++ toL h c ++ post (toL h) (x.es.drop (posK x.es k)) (x.cs.drop (posK x.es k + 1)) := by
        rw [← toL_split h _ _ _ _ _ hl1, List.take_append_drop, ← split_at hc, T.eta]
      rw [hxe] at ha
      obtain ⟨a1, a2, a3⟩ := AscM.append.1 ha
      obtain ⟨a4, a5, a6⟩ := AscM.append.1 a1
      obtain ⟨ih1, ih2⟩ := removeT_spec ho h (least o) c k hcb (fun _ => hcp) a5
      obtain ⟨f1, f2⟩ := fix_spec ho h3 hpos h2 hil ih1 h4
      refine ⟨f1.mono (by have := f1.lo; omega) f1.hi, ?_⟩
      rw [f2, set_at hc, hxe, delM_gt (post_gt hgt a2), delM_lt (pre_lt hlt a4), ← ih2]
      have := toL_split h (x.es.take (posK x.es k)) (x.es.drop (posK x.es k)) (x.cs.take (posK x.es k)) (x.cs.drop (posK x.es k + 1)) (removeT o h c k) hl1
      rw [List.take_append_drop] at this
      exact this
    · obtain ⟨y, m', hd, he⟩ := hasK_yes hh
      have hy : x.es[posK x.es k]? = some y := by rw [getElem?_drop0, hd]; rfl
      simp only [if_true]
      obtain ⟨L, mx, hm, hL⟩ := max_spec ho hcb hcp
      simp only [hm]
      have hlt2 : posK x.es k < x.es.length := (List.getElem?_eq_some_iff.1 hy).1
      obtain ⟨c2, hc2⟩ : ∃ c2, x.cs[posK x.es k + 1]? = some c2 := ⟨_, List.getElem?_eq_getElem (by omega)⟩
      obtain ⟨t1, t2, t3⟩ := two_at hc hc2 hy
      have hxe : toL (h + 1) x = pre (toL h) (x.es.take (posK x.es k)) (x.cs.take (posK x.es k)) ++ (toL h c ++ y :: toL h c2) ++ post (toL h) (x.es.drop (posK x.es k + 1)) (x.cs.drop (posK x.es k + 2)) := by
        conv => lhs; rw [← T.eta x, t1, t2]
        exact toL_two h _ _ _ _ _ _ _ t3
      rw [hxe] at ha
      have hac : AscM (toL h c) := by
        obtain ⟨a1, _⟩ := AscM.append.1 ha
        obtain ⟨_, a2, _⟩ := AscM.append.1 a1
        exact (AscM.append.1 a2).1
      obtain ⟨ih1, ih2⟩ := removeT_spec ho h (least o) c mx.1 hcb (fun _ => hcp) hac
      have hdel : toL h (removeT o h c mx.1) = L := by
        rw [ih2, hL]
        have h5 := hac
        rw [hL] at h5
        have h6 := AscM.mid (l := L) (m := []) (x := mx) h5
        have := delM_here (l := L) (m := []) (x := mx) h6.2.2.1 rfl
        simpa using this
      obtain ⟨f1, f2⟩ := fix_spec ho (es := x.es.set (posK x.es k) mx) (by rw [List.length_set]; exact h3) (by rw [List.length_set]; exact hpos) (by rw [List.length_set]; exact h2) hil ih1 h4
      rw [List.length_set] at f1
      refine ⟨f1.mono (by have := f1.lo; omega) f1.hi, ?_⟩
      rw [f2, set_at hc, set_at hy, hxe]
      have e2 : x.cs.drop (posK x.es k + 1) = c2 :: x.cs.drop (posK x.es k + 2) := by
        obtain ⟨hlt3, hx⟩ := List.getElem?_eq_some_iff.1 hc2
        rw [List.drop_eq_getElem_cons hlt3, hx]
      rw [e2, toL_two h _ _ _ _ _ _ _ t3, hdel, hL]
      have hmid : AscM ((pre (toL h) (x.es.take (posK x.es k)) (x.cs.take (posK x.es k)) ++ toL h c) ++ y :: (toL h c2 ++ post (toL h) (x.es.drop (posK x.es k + 1)) (x.cs.drop (posK x.es k + 2)))) := by simpa using ha
      obtain ⟨b1, b2, b3, b4, b5⟩ := hmid.mid
      have hdh := delM_here (x := y) (k := k) (m := toL h c2 ++ post (toL h) (x.es.drop (posK x.es k + 1)) (x.cs.drop (posK x.es k + 2))) (fun z hz => by have := b3 z hz; rwa [he] at this) he
      rw [hL] at hdh
      simp only [List.append_assoc, List.cons_append, List.nil_append] at hdh ⊢
      rw [hdh]
end
end Go.Proofs.Ytldofiankhimjaa
/- A tree as an object (S). -/
namespace Go.Proofs.Ytldofiankhimjaa
open Go.RowKit
def rootBS (h : Nat) : Nat := if h = 0 then 0 else 1
/-- What a tree of height h, order o is. -/
def GoodS (o h : Nat) (l : M ByteArray Int) (x : TS) : Prop := Body o h (rootBS h) (o - 1) x ∧ AscM (toL h x) ∧ toL h x = l
def objS (o h : Nat) (l : M ByteArray Int) (tb : Nat) : Asn := exA fun q : TS × Nat => starA [pureA (GoodS o h l q.1), blkA tb 87 #[ptrS q.2, .int .i64 o, .int .i64 l.length], treeS h q.1 q.2]
theorem St.openOS {w0 w : World} {fp0 : List Nat} {R : List Asn} {o h : Nat} {l : M ByteArray Int} {tb : Nat} (hs : St w0 fp0 (objS o h l tb :: R) w) : ∃ x rb, GoodS o h l x ∧ St w0 fp0 (treeS h x rb :: blkA tb 87 #[ptrS rb, .int .i64 o, .int .i64 l.length] :: R) w := by
  obtain ⟨⟨x, rb⟩, h1⟩ := hs.unfold (L1 := fun q : TS × Nat => [pureA (GoodS o h l q.1), blkA tb 87 #[ptrS q.2, .int .i64 o, .int .i64 l.length], treeS h q.1 q.2]) fun f ⟨q, hq⟩ => ⟨q, hq⟩
  obtain ⟨h2, h3⟩ := St.pure.1 h1
  exact ⟨x, rb, h2, h3.perm (List.Perm.swap _ _ _)⟩
theorem St.shutOS {w0 w : World} {fp0 : List Nat} {R : List Asn} {o h : Nat} {l : M ByteArray Int} {tb rb : Nat} {x : TS} (hg : GoodS o h l x) (hs : St w0 fp0 (treeS h x rb :: blkA tb 87 #[ptrS rb, .int .i64 o, .int .i64 l.length] :: R) w) : St w0 fp0 (objS o h l tb :: R) w := by
  have h1 : St w0 fp0 ([pureA (GoodS o h l x), blkA tb 87 #[ptrS rb, .int .i64 o, .int .i64 l.length], treeS h x rb] ++ R) w := St.pure.2 ⟨hg, hs.perm (List.Perm.swap _ _ _)⟩
  exact h1.fold fun f hf => ⟨(x, rb), hf⟩
theorem box_slS {w : World} {t : TypeId} {s x : Value} {f : List Nat} (h : (boxA t s x).p w f) : (slA t s [x]).p w f := by
  obtain ⟨vb, rfl, h1, rfl⟩ := h
  refine ⟨⟨rfl, .inr ⟨vb, 1, #[x], rfl, Nat.zero_le _, h1, ?_, ?_, ?_, ?_⟩⟩, rfl⟩ <;> simp [maxLen]
theorem St.box_slS {w0 w : World} {fp0 : List Nat} {L : List Asn} {t : TypeId} {s x : Value} (h : St w0 fp0 (boxA t s x :: L) w) : St w0 fp0 (slA t s [x] :: L) w := by
  obtain ⟨fp, ⟨f, g, h1, h2, h3, rfl⟩, ht⟩ := h
  exact ⟨f ++ g, ⟨f, g, Ytldofiankhimjaa.box_slS h1, h2, h3, rfl⟩, ht⟩
/-- A new root over the old one. -/
theorem St.overS {w0 w : World} {fp0 : List Nat} {R : List Asn} {h : Nat} {x : TS} {rb nr : Nat} {s : Value} (hs : St w0 fp0 (blkA nr 85 #[.slice none 0 0, .slice none 0 0, s] :: boxA 82 s (ptrS rb) :: treeS h x rb :: R) w) : St w0 fp0 (treeS (h + 1) (.node [] [x]) nr :: R) w := by
  refine St.joinS (cs := []) (mid := [x]) (es := []) (ks := .slice none 0 0) (vs := .slice none 0 0) (ps := s) (bs := []) (mb := [rb]) 0 0 rfl rfl ?_
  have h1 := (hs.perm (List.Perm.swap _ _ _)).box_slS
  have h2 : St w0 fp0 (restS h 0 0 [] [] :: (slA 82 s [ptrS rb] :: blkA nr 85 #[.slice none 0 0, .slice none 0 0, s] :: treeS h x rb :: R)) w := St.star.2 h1
  refine ((h2.nilAS 9).nilAS 3).perm ?_
  classical
  refine List.perm_iff_count.2 fun a => ?_
  simp only [List.cons_append, List.nil_append, List.zipWith, List.take_nil, List.drop_nil, List.append_nil, List.map_cons, List.map_nil, keysS, valsS, List.count_cons]
  omega
theorem putM_lengthS (l : M ByteArray Int) (k : ByteArray) (v : Int) : AscM l → (putM l k v).length = if (getM l k).isSome then l.length else l.length + 1 := by
  intro ha
  induction l with
  | nil => rfl
  | cons x l ih =>
    obtain ⟨h1, h2⟩ := AscM.cons.1 ha
    rw [putM, getM]
    by_cases he : eqK x.1 k = true
    · have := eqK_iff.1 he
      have hn : ¬ ltK x.1 k := by rw [this]; exact ltK_irrefl _
      simp [he, hn]
    · by_cases hlt : ltK x.1 k
      · simp only [hlt, if_true, he, List.length_cons, ih h2]
        split <;> simp_all
      · have hgt := ltK_of_not hlt (fun e => he (eqK_iff.2 e))
        have hl : getM l k = none := by
          have := getM_none (l := ([] : M ByteArray Int)) (m := l) (k := k) (by intro y hy; cases hy) (fun y hy => ltK_trans hgt (h1 y hy))
          simpa using this
        simp [he, hlt, hl]
end Go.Proofs.Ytldofiankhimjaa
/- cmp.Compare at texts. -/
namespace Go.Proofs.Ytldofiankhimjaa
open Go.RowKit
theorem nanS_calls (a : ByteArray) (w : World) : Calls Try.prog 71 #[.string a] w fun e w' => e = .returned (.bool false) ∧ w = w' := by
  go_enter Try.func71, Try.ntmps71
  go_wp2
  go_ret
  exact ⟨by simp, rfl⟩
theorem bytesLess_cmp : ∀ (x y : List UInt8), Op.bytesLess x y = decide (Lib.compareBytes x y < 0)
  | [], [] => by simp [Op.bytesLess, Lib.compareBytes]
  | [], _ :: _ => by simp [Op.bytesLess, Lib.compareBytes]
  | _ :: _, [] => by simp [Op.bytesLess, Lib.compareBytes]
  | a :: x, b :: y => by
    rw [Op.bytesLess, Lib.compareBytes, bytesLess_cmp x y]
    by_cases h : a < b
    · simp [h]
    · by_cases h2 : b < a
      · have hne : ¬ a = b := fun e => by subst e; exact h h2
        simp [h, h2, hne]
      · have he : a = b := by
          rw [UInt8.lt_iff_toNat_lt] at h h2
          exact UInt8.toNat_inj.1 (by omega)
        subst he
        simp
theorem cmp0S_calls (a b : ByteArray) (w : World) : Calls Try.prog 49 #[encS a, encS b] w fun e w' => e = .returned (.int .i64 (KOrd.cmp a b)) ∧ w = w' := by
  have Hres : RowKit.Hid ((KOrd.cmp a b : Int) = Lib.compareBytes (bytes a) (bytes b)) := rfl
  have hl : Op.bytesLess a.toList b.toList = decide (Lib.compareBytes (bytes a) (bytes b) < 0) := by rw [bytesLess_cmp, ByteArray.toList_eq, ByteArray.toList_eq]; rfl
  have he : (a.toList == b.toList) = decide (Lib.compareBytes (bytes a) (bytes b) = 0) := by
    rw [Bool.eq_iff_iff]
    simp only [ByteArray.toList_eq, beq_iff_eq, decide_eq_true_iff]
    exact cmpB_zero.symm
  have hr := cmpB_range (bytes a) (bytes b)
  generalize Lib.compareBytes (bytes a) (bytes b) = r at *
  unfold encS
  rcases hr with rfl | rfl | rfl
  all_goals
    simp only [Int.reduceNeg, Int.reduceLT, decide_true, decide_false, Int.reduceEq, Int.lt_irrefl] at hl he
    go_enter Try.func49, Try.ntmps49
    go_wp2_with fail
    (with_reducible refine (nanS_calls a w).mono ?_)
    rintro e w1 ⟨rfl, rfl⟩
    go_wp2_with fail
    (with_reducible refine (nanS_calls b w).mono ?_)
    rintro e w1 ⟨rfl, rfl⟩
    go_wp2
    go_ret
    exact ⟨by rw [Hres.out]; rfl, rfl⟩
theorem cmpS_calls (a b : ByteArray) (w : World) : Calls Try.prog 49 #[encS a, encS b] w fun e w' => e = .returned (.int .i64 (KOrd.cmp a b)) ∧ Below w.heap.size w w' :=
  (cmp0S_calls a b w).mono fun _ _ ⟨h1, h2⟩ => ⟨h1, h2 ▸ Below.refl _ _⟩
theorem cmpqS_calls (a b : ByteArray) (w : World) : Calls Try.prog 49 #[encS a, encS b] w fun e w' => e = .returned (.int .i64 (KOrd.cmp a b)) ∧ w' = w :=
  (cmp0S_calls a b w).mono fun _ _ ⟨h1, h2⟩ => ⟨h1, h2.symm⟩
end Go.Proofs.Ytldofiankhimjaa
/- find, leaf, least (S). -/
namespace Go.Proofs.Ytldofiankhimjaa
open Go.RowKit

/-- Keys as they are read. -/
def KeysS (w : World) (es : M ByteArray Int) (v : Value) : Prop := ∃ f, (slA 9 v (keysS es)).p w f
theorem KeysS.mono {w w' : World} {es : M ByteArray Int} {v : Value} (h : KeysS w es v) (hb : Below w.heap.size w w') : KeysS w' es v := by
  obtain ⟨f, h⟩ := h
  exact ⟨f, (slA 9 v (keysS es)).loc h fun k hk => hb.block k ((slA 9 v (keysS es)).lt h k hk)⟩
theorem KeysS.shape {w : World} {es : M ByteArray Int} {v : Value} (h : KeysS w es v) : ∃ a c, v = .slice a es.length c ∧ es.length ≤ maxLen ∧ ∀ i (hi : i < es.length), ∃ g, a = some ⟨g, 0, none⟩ ∧ g < w.heap.size ∧ w.cell? ⟨g, i, none⟩ = some (encS es[i].1) := by
  obtain ⟨f, h⟩ := h
  obtain ⟨a, c, hv, h1, h2, h3⟩ := sl_get h
  rw [keysS_length] at hv h1 h3
  refine ⟨a, c, hv, by omega, fun i hi => ?_⟩
  rcases h3 with ⟨_, h4, _⟩ | ⟨g, h4, h5, h6, _⟩
  · have := congrArg List.length h4; rw [keysS_length] at this; simp at this; omega
  · refine ⟨g, h4, h5, ?_⟩
    rw [h6 i hi]
    simp [keysS, hi]

set_option maxHeartbeats 2000000 in
theorem bsfS_calls (es : M ByteArray Int) (k : ByteArray) (s : Value) (w : World) (hs : KeysS w es s) (ha : AscM es) (hlen : es.length < 1099511627776) :
    Calls Try.prog 70 #[s, encS k, .func (.func 49) #[] #[]] w fun e w' => e = .returned (.tuple #[.int .i64 (posK es k), .bool (hasK es k)]) ∧ Below w.heap.size w w' := by
  obtain ⟨a, c, rfl, hm, Hc0⟩ := hs.shape
  obtain ⟨n, hn⟩ : ∃ n, es.length = n := ⟨_, rfl⟩
  have Hs := Lib.hid hs
  have Hn := Lib.hid hn
  have Hw := Lib.hid ha
  have Hc : RowKit.Hid (∀ i (hi : i < es.length), ∃ g, a = some ⟨g, 0, none⟩ ∧ ∀ w', Below w.heap.size w w' → g < w'.heap.size ∧ w'.cell? ⟨g, i, none⟩ = some (encS es[i].1)) := by
    intro i hi
    obtain ⟨g, h1, h2, h3⟩ := Hc0 i hi
    exact ⟨g, h1, fun w' hb => ⟨Nat.lt_of_lt_of_le h2 hb.size, (hb.cell (p := ⟨g, i, none⟩) h2).trans h3⟩⟩
  have hn40 : n < 1099511627776 := by omega
  obtain ⟨kk, hkk⟩ : ∃ kk, encS k = kk := ⟨_, rfl⟩
  have Hkk := Lib.hid hkk
  rw [hn, hkk]
  clear hs hm ha Hc0 hlen hn hkk
  go_enter Try.func70, Try.ntmps70
  go_wp2
  go_loopw [9, 10] (fun i j wr => ∃ (lo hi : Nat), lo ≤ hi ∧ hi ≤ n ∧ i = .int .i64 lo ∧ j = .int .i64 hi ∧ RowKit.Hid (Below w.heap.size w wr) ∧ RowKit.Hid (∀ j (h : j < es.length), j < lo → ltK es[j].1 k) ∧ RowKit.Hid (∀ j (h : j < es.length), hi ≤ j → ¬ ltK es[j].1 k)) (fun i j _ => (intOf j).toNat - (intOf i).toNat)
  case atStart => exact ⟨0, n, Nat.zero_le _, Nat.le_refl _, rfl, rfl, Below.refl _ _, fun j h h0 => by omega, fun j h h0 => by have := Hn.out; omega⟩
  case round =>
    obtain ⟨lo, hi, hlh, hhn, rfl, rfl, Hb, H1, H2⟩ := hrel
    by_cases hlt : lo < hi
    · obtain ⟨m, hm⟩ : ∃ m : Nat, m = (lo + hi) / 2 := ⟨_, rfl⟩
      have hm1 : lo ≤ m := by omega
      have hm2 : m < hi := by omega
      have hk1 : m < es.length := by have := Hn.out; omega
      have hmn : m < n := by omega
      obtain ⟨g, rfl, hcell⟩ := Hc.out m hk1
      obtain ⟨hbl, hc⟩ := hcell _ Hb.out
      have HC := Lib.hid (cmpS_calls es[m].1 k wr)
      rw [Hkk.out] at HC
      have Hup : RowKit.Hid (ltK es[m].1 k → ∀ j (h : j < es.length), j < m + 1 → ltK es[j].1 k) := by
        intro h j hj hjm
        by_cases e : j = m
        · subst e; exact h
        · exact ltK_trans ((List.pairwise_iff_getElem.1 Hw.out) j m hj hk1 (by omega)) h
      have Hdn : RowKit.Hid (¬ ltK es[m].1 k → ∀ j (h : j < es.length), m ≤ j → ¬ ltK es[j].1 k) := by
        intro h j hj hjm h2
        by_cases e : j = m
        · subst e; exact h h2
        · exact h (ltK_trans ((List.pairwise_iff_getElem.1 Hw.out) m j hk1 hj (by omega)) h2)
      generalize es[m].1 = X at *
      have Hlt : RowKit.Hid (ltK X k ↔ KOrd.cmp X k < 0) := Iff.rfl
      generalize (KOrd.cmp X k : Int) = r at *
      generalize encS X = ex at *
      have i1 : (0 : Int) ≤ m := by omega
      have i2 : (m : Int) < n := by omega
      clear hk1 hcell
      have Hm := Lib.hid hm
      clear hm
      go_upto_region 4 with (fail)
      go_cut [11] (fun z wx => z = .int .i64 m ∧ wx = wr)
      case first =>
        go_wp2_with fail
        go_meet
        exact ⟨by have := Hm.out; congr 1; omega, rfl⟩
      obtain ⟨rfl, rfl⟩ := hcut
      go_upto_region 5 with (fail)
      go_cut [31] (fun z wx => ∃ q : Bool, z = .bool q ∧ RowKit.Hid (q = decide (r < 0)) ∧ RowKit.Hid (Below w.heap.size w wx))
      case first =>
        go_wp2_with (go_at_call 49; (with_reducible refine HC.out.mono ?_); rintro e w1 ⟨rfl, hb1⟩)
        all_goals
          have Hb1 := Lib.hid (Hb.out.trans (hb1.mono Hb.out.size))
          go_meet
          exact ⟨_, rfl, rfl, Hb1⟩
      obtain ⟨q, rfl, Hq, Hb1⟩ := hcut
      clear hc hbl HC Hb
      cases q
      · have Hd1 := Lib.hid (Hdn.out (by have := Hq.out; rw [Hlt.out]; simpa using this))
        clear Hup Hdn Hq
        go_wp2
        go_roundw
        case rel => exact ⟨lo, m, hm1, by omega, rfl, rfl, Hb1, H1, Hd1⟩
        case measure => simp [intOf]; omega
      · have Hd1 := Lib.hid (Hup.out (by have := Hq.out; rw [Hlt.out]; simpa using this))
        clear Hup Hdn Hq
        go_wp2
        go_roundw
        case rel => exact ⟨m + 1, hi, by omega, hhn, by go_num, rfl, Hb1, Hd1, H2⟩
        case measure => simp [intOf]; omega
    · obtain rfl : lo = hi := by omega
      have Hp : RowKit.Hid (posK es k = lo) := posK_eq (by have := Hn.out; omega) H1.out (fun h => H2.out lo h (Nat.le_refl _))
      have Hh := Lib.hid (hasK_at (es := es) (k := k) Hp.out)
      by_cases hlt' : lo < n
      · have hk1 : lo < es.length := by have := Hn.out; omega
        obtain ⟨g, rfl, hcell⟩ := Hc.out lo hk1
        obtain ⟨hbl, hc⟩ := hcell _ Hb.out
        have HC := Lib.hid (cmpS_calls es[lo].1 k wr)
        rw [Hkk.out] at HC
        have Hres : RowKit.Hid (hasK es k = (KOrd.cmp es[lo].1 k == 0)) := by show _ = _; rw [Hh.out, dif_pos hk1]; rfl
        clear Hh H1 H2 hcell
        generalize es[lo].1 = X at *
        generalize (KOrd.cmp X k : Int) = r at *
        generalize encS X = ex at *
        have i1 : (0 : Int) ≤ lo := by omega
        have i2 : (lo : Int) < n := by omega
        clear hk1
        go_wp2_with (go_at_call 49; (with_reducible refine HC.out.mono ?_); rintro e w1 ⟨rfl, hb1⟩)
        all_goals
          have Hb1 := Lib.hid (Hb.out.trans (hb1.mono Hb.out.size))
          exact bodyPost_ret (v := .tuple #[.int .i64 lo, .bool (r == 0)]) (by simp [results, Try.results70, go_sem, *]) rfl ⟨by rw [Hp.out, Hres.out], Hb1.out⟩
      · have Hres : RowKit.Hid (hasK es k = false) := by show _ = _; rw [Hh.out, dif_neg (by have := Hn.out; omega)]
        clear Hh H1 H2
        go_wp2
        exact bodyPost_ret (v := .tuple #[.int .i64 lo, .bool false]) (by simp [results, Try.results70, go_sem, *]) rfl ⟨by rw [Hp.out, Hres.out], Hb.out⟩

theorem findS_calls (b : Nat) (ks vs ps : Value) (es : M ByteArray Int) (k : ByteArray) (w : World) {f : List Nat} (hb : (blkA b 85 #[ks, vs, ps]).p w f) (hk : KeysS w es ks) (ha : AscM es) (hlen : es.length < 1099511627776) :
    Calls Try.prog 46 #[ptrS b, encS k] w fun e w' => e = .returned (.tuple #[.int .i64 (posK es k), .bool (hasK es k)]) ∧ Below w.heap.size w w' := by
  obtain ⟨c, _, hlt⟩ := blk_get hb
  have c0 := c 0
  simp only [List.getElem?_toArray, List.getElem?_cons_zero] at c0
  have HC := Lib.hid (bsfS_calls es k ks w hk ha hlen)
  obtain ⟨a, cp, rfl, _, _⟩ := hk.shape
  obtain ⟨kk, hkk⟩ : ∃ kk, encS k = kk := ⟨_, rfl⟩
  rw [hkk] at HC ⊢
  clear hkk hb hk c hlen
  unfold ptrS
  go_enter Try.func46, Try.ntmps46
  go_wp2_with fail
  (with_reducible refine HC.out.mono ?_)
  rintro e w1 ⟨rfl, hb1⟩
  have Hb1 := Lib.hid hb1
  clear hb1 c0 hlt
  go_wp2
  exact bodyPost_ret (v := .tuple #[.int .i64 (posK es k), .bool (hasK es k)]) (by simp [results, Try.results46, go_sem]) rfl ⟨rfl, Hb1.out⟩

theorem leafS_calls (b : Nat) (ks vs : Value) (a : Option Addr) (n c : Nat) (w : World) {f : List Nat} (hb : (blkA b 85 #[ks, vs, .slice a n c]).p w f) :
    Calls Try.prog 47 #[ptrS b] w fun e w' => e = .returned (.bool (n == 0)) ∧ w = w' := by
  obtain ⟨cl, _, hlt⟩ := blk_get hb
  have c2 := cl 2
  simp only [List.getElem?_toArray, List.getElem?_cons_zero, List.getElem?_cons_succ] at c2
  clear hb cl
  unfold ptrS
  go_enter Try.func47, Try.ntmps47
  go_wp2
  go_ret
  have e : ((n : Int) == 0) = (n == 0) := by rw [Bool.eq_iff_iff]; simp
  exact ⟨by rw [← e]; rfl, rfl⟩
theorem leastS_calls (b : Nat) (r : Value) (o : Nat) (n : Value) (w : World) {f : List Nat} (ho : 3 ≤ o) (ho' : o ≤ 1024) (hb : (blkA b 87 #[r, .int .i64 o, n]).p w f) :
    Calls Try.prog 72 #[.pointer (some ⟨b, 0, none⟩)] w fun e w' => e = .returned (.int .i64 (least o)) ∧ w = w' := by
  obtain ⟨cl, _, hlt⟩ := blk_get hb
  have c1 := cl 1
  simp only [List.getElem?_toArray, List.getElem?_cons_zero, List.getElem?_cons_succ] at c1
  have Hl : RowKit.Hid (((o : Int) + 1) / 2 - 1 = (least o : Nat)) := by show _ = _; unfold least; omega
  have i1 : (0 : Int) ≤ (o : Int) + 1 := by omega
  have i2 : (0 : Int) ≤ ((o : Int) + 1) / 2 := by omega
  have i3 : ((o : Int) + 1) / 2 ≤ 1024 := by omega
  clear hb cl
  go_enter Try.func72, Try.ntmps72
  go_wp2
  go_ret
  exact ⟨by rw [← Hl.out]; rfl, rfl⟩
end Go.Proofs.Ytldofiankhimjaa
namespace Go.Proofs.Ytldofiankhimjaa
open Go Go.RowKit
theorem oI {α : Type} {o : Option α} {x y : α} (h : o = some x) (h' : o = some y) : x = y := Option.some.inj (h.symm.trans h')
theorem mG {α : Type} {l : List α} {i : Nat} {a : α} (h : l[i]? = some a) : a ∈ l := List.mem_of_getElem? h
theorem dK {ops : Array Oper} {L : Nat → Bool} {i j : Nat} {o : Oper} (ho : ops[i]? = some o) (hdep : ∀ e ∈ o.after, Region.binds .any e = true → L e.on = true) (h : waitsB ops i j = true) : L j = true := dep_of ho hdep h
theorem RInv.rd {P : Program} {ops : Array Oper} {Q : Exit → Act → World → Prop} {a0 a : Act} {ks : List Nat} {vals : List (Nat × Nat × Value)} {E : (Nat → Bool) → (Nat → Value) → World → Prop} {L : Nat → Bool} {w : World} {effs ds : List Nat}
    (hI : RInv ops a0 ks vals E L a w) (hE : Looks E effs ds) {n : Nat} (hsz : a0.tmps.size = n) (i d : Nat) (v : Value) {o : Oper} (ho : ops[i]? = some o) (hdst : o.dst = some d) (hw : Region.wanted o (yielded ops a.tmps) = true)
    (hdep : ∀ e ∈ o.after, Region.binds .any e = true → L e.on = true) (hb : (ks.contains d && decide (d < n) && !effs.contains i && !ds.contains d) = true)
    (hv : ∀ t ∈ vals, (t.1 = i → t.2.1 = d ∧ t.2.2 = v) ∧ (t.1 ≠ i → t.2.1 ≠ d))
    (hc : (execOp a.eval o).run P w = .ok (.value v) w) : wpOp P ops (NoPanic Q) i (fun a' w' => RInv ops a0 ks vals E (fun j => L j || decide (j = i)) a' w') a w := by
  simp only [Bool.and_eq_true, decide_eq_true_eq, Bool.not_eq_true', List.contains_eq_mem, decide_eq_false_iff_not] at hb
  exact RInv.read hI hE i d v ho hdst hw hdep hb.1.1.1 (by rw [hsz]; exact hb.1.1.2) hb.1.2 hb.2 hv hc
end Go.Proofs.Ytldofiankhimjaa
