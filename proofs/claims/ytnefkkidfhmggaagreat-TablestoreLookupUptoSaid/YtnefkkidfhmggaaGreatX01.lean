/- Part 1 of the proof: Ti, Tj, P0, P1, P3, Vr, Vm, Nm, C1, D1, Vd, Ec -/
import Derived.Test.YtnefkkidfhmggaaGreatX00
import Derived.OrdersIn
import Derived.RangeFuncCalls
import Derived.Lib.Bytealg
import Derived.Laws.IdiomStrings
import Derived.Deep.DeepCutAuto
/- A drawn region ahead of a call that yields: facts for its first operations, then its tail. (Over any program.) -/
namespace Go.Proofs.YtnefkkidfhmggaaGreat
open Go Go.RowKit
theorem wpOpIn_wide {P : Program} {n : Nat} {ops : Array Oper} {Q : Exit → Act → World → Prop} {i : Nat} {K : Act → World → Prop} {a : Act} {w : World} {o : Oper} (ho : ops[i]? = some o) (hw : Region.wanted o (yielded ops a.tmps) = true) (hnd : ∀ c, o.op ≠ .defer c)
 (h : o.wp P a w K (NoPanic Q)) : wpOpIn Fence.wide n P ops Q i K a w := by
 unfold wpOpIn
 simp only [ho, hw, if_true]
 refine ⟨fun _ _ => trivial, ?_⟩
 rw [Oper.semAt_plain _ _ _ hnd]
 unfold Oper.wp at h
 revert h
 generalize (execOp a.eval o).run P w = r
 intro h
 cases r with
 | ok x w' =>
  cases x with
  | enter f args =>
   refine ⟨(fun hh => by cases hh), callsIn_wide.2 (Calls.mono h (fun e w'' he => ?_))⟩
   cases e with
   | returned v => exact he
   | panicked c => exact (he : False).elim
   | outgrown => exact he
  | row row args =>
   refine ⟨(fun hh => by cases hh), fun c cs _ => ?_⟩
   obtain ⟨v, w'', r, s⟩ := h c cs
   exact ⟨v, w'', r, stepsIn_wide.2 s⟩
  | value v => exact h
  | skip => exact h
  | defer d => exact h
  | _ => exact (h : False).elim
 | halt x w' => cases x <;> exact (h : False).elim
theorem wpAnyIn_inv {F : Fence} {n : Nat} {P : Program} {ops : Array Oper} {Q : Exit → Act → World → Prop} {Inv : (Nat → Bool) → Act → World → Prop} (hf : forwardB ops = true)
 (hstep : ∀ (i : Nat) (o : Oper) (L : Nat → Bool) (a : Act) (w : World), ops[i]? = some o → L i = false → (∀ e ∈ o.after, Region.binds .any e = true → L e.on = true) → Inv L a w → wpOpIn F n P ops Q i (fun a' w' => Inv (fun j => L j || decide (j = i)) a' w') a w)
 (hend : ∀ (L : Nat → Bool) (a : Act) (w : World), (∀ i, i < ops.size → L i = true) → Inv L a w → Q .normal a w) :
 ∀ (fuel : Nat) (listed : Array Bool) (a : Act) (w : World), listed.size = ops.size → left listed ≤ fuel → Inv (fun j => listed.getD j false) a w → wpAnyIn F n P .any ops Q fuel listed a w
 | 0, listed, a, w, hs, hl, hI => by
  have hr : Region.ready .any ops listed = [] := by
   rw [List.eq_nil_iff_forall_not_mem]
   intro j hj
   obtain ⟨hun, oj, hoj, _⟩ := mem_ready.1 hj
   have hlt : j < listed.size := by have := (Array.getElem?_eq_some_iff.1 hoj).1; omega
   have : 0 < listed.toList.count false := List.count_pos_iff.2 (by
    have hx : listed.toList[j]'(by simpa using hlt) = false := by simpa [Array.getD, hlt] using hun
    rw [← hx]; exact List.getElem_mem _)
   unfold left at hl
   omega
  exact wpAnyIn_done hr (hend _ _ _ (ready_nil hf hs hr) hI) 0
 | fuel + 1, listed, a, w, hs, hl, hI => by
  refine ⟨fun hr => hend _ _ _ (ready_nil hf hs hr) hI, fun j hj => ?_⟩
  obtain ⟨hun, oj, hoj, hall⟩ := mem_ready.1 hj
  have hlt : j < listed.size := by have := (Array.getElem?_eq_some_iff.1 hoj).1; omega
  have hun' : listed.getD j false = false := by simpa [Array.getD, hlt] using hun
  refine wpOpIn_mono (fun a' w' h' => wpAnyIn_inv hf hstep hend fuel (listed.setIfInBounds j true) a' w' (by simpa using hs) ?_ ?_) (hstep j oj (fun j => listed.getD j false) a w hoj hun' hall hI)
  · have := left_set hlt hun'
    omega
  · have : (fun k => (listed.setIfInBounds j true).getD k false) = fun k => listed.getD k false || decide (k = j) := by
     funext k
     by_cases hk : k = j
     · subst hk
       simp [Array.getD, hlt]
     · rw [getD_set_ne false (fun h => hk h.symm)]
       simp [hk]
    rw [this]
    exact h'
theorem wpIn_region_inv {P : Program} {m id : Nat} {ops ops' : Array Oper} {Q : Exit → Act → World → Prop} {a : Act} {w : World} (Inv : (Nat → Bool) → Act → World → Prop) (he : ops = ops') (hm : P.follows .mixedOrders = true) (hf : forwardB ops' = true)
 (h0 : Inv (fun _ => false) a w.drew)
 (hstep : ∀ (i : Nat) (o : Oper) (L : Nat → Bool) (a : Act) (w : World), ops'[i]? = some o → L i = false → (∀ e ∈ o.after, Region.binds .any e = true → L e.on = true) → Inv L a w → wpOpIn Fence.wide m P ops' Q i (fun a' w' => Inv (fun j => L j || decide (j = i)) a' w') a w)
 (hend : ∀ (L : Nat → Bool) (a : Act) (w : World), (∀ i, i < ops'.size → L i = true) → Inv L a w → Q .normal a w) : (Code.region id ops true).wpIn Fence.wide m P Q a w := by
 subst he
 refine wpIn_region_any hm (wpAnyIn_inv hf hstep hend _ _ _ _ (by simp) ?_ ?_)
 · unfold left
   exact Nat.le_trans List.count_le_length (by simp)
 · have : (fun j => (Array.replicate ops.size false).getD j false) = fun _ => false := by
    funext j
    simp [Array.getD]
   rw [this]
   exact h0
/-- **A drawn region by facts, then its tail.** -/
theorem wpIn_region_tail {P : Program} {m id : Nat} {ops ops' : Array Oper} {Q : Exit → Act → World → Prop} {a : Act} {w : World} (N : Nat) (ks : List Nat) (fs : List Ft) (he : ops = ops') (hm : P.follows .mixedOrders = true) (hN : 0 < N ∧ N ≤ ops'.size)
 (hf : forwardB ops' = true) (hnd : (List.range N).all (fun i => match ops'[i]? with | some o => (match o.op with | .defer _ => false | _ => true) | none => true) = true) (hc : coverN ops' N (fs.map fun f => (f.i, f.d)) = true) (ht : tailN ops' N = true) (hi : (fs.map (·.i)).Nodup) (hd : (fs.map (·.d)).Nodup) (hk : ∀ f ∈ fs, f.d ∈ ks ∧ f.d < a.tmps.size ∧ f.i < N)
 (hstep : ∀ f ∈ fs, ∀ (o : Oper) (a1 : Act) (w1 : World), ops'[f.i]? = some o → Below w.heap.size w w1 → (∀ d, d ∉ ks → a1.eval (.tmp d) = a.eval (.tmp d)) → (∀ g ∈ fs, waitsB ops' f.i g.i = true → g.p w1 (a1.eval (.tmp g.d))) →
  ∀ K : Act → World → Prop, (∀ v w2, Below w1.heap.size w1 w2 → f.p w2 v → K (a1.put (some f.d) v) w2) → o.wp P a1 w1 K (NoPanic Q))
 (hend : ∀ a1 w1, FrameLike a a1 ks → Below w.heap.size w w1 → (∀ f ∈ fs, f.p w1 (a1.eval (.tmp f.d))) → wpListIn Fence.wide m P ops' Q (ops'.toList.drop N) a1 w1) : (Code.region id ops true).wpIn Fence.wide m P Q a w := by
 have cov : ∀ i, i < N → ∃ o, ops'[i]? = some o ∧ o.guard = none ∧ ∃ f ∈ fs, f.i = i ∧ o.dst = some f.d := by
  intro i hiN
  unfold coverN at hc
  have h1 := List.all_eq_true.1 hc i (List.mem_range.2 hiN)
  split at h1
  · cases h1
  · rename_i o ho
    simp only [Bool.and_eq_true, Option.isNone_iff_eq_none, List.any_eq_true, List.mem_map] at h1
    obtain ⟨h2, t, ⟨f, hf, rfl⟩, h3⟩ := h1
    exact ⟨o, ho, h2, f, hf, by simpa using h3.1, by simpa using h3.2⟩
 have tl : ∀ i, N ≤ i → i < ops'.size → ∀ j, j < i → ((closOf ops').getD i []).elem j = true := by
  intro i h1 h2 j h3
  have h4 := List.all_eq_true.1 ht i (List.mem_range.2 h2)
  rcases Bool.or_eq_true_iff.1 h4 with h5 | h5
  · have := of_decide_eq_true h5; omega
  · exact List.all_eq_true.1 h5 j (List.mem_range.2 h3)
 let J : (Nat → Bool) → Act → World → Prop := fun L a1 w1 => Down ops' L ∧
  (((∃ j, j < N ∧ L j = false) ∧ FInv a ks fs w L a1 w1) ∨ ((∀ j, j < N → L j = true) ∧ ∃ i, N ≤ i ∧ i ≤ ops'.size ∧ (∀ j, N ≤ j → j < ops'.size → (L j = true ↔ j < i)) ∧ wpListIn Fence.wide m P ops' Q (ops'.toList.drop i) a1 w1))
 refine wpIn_region_inv J he hm hf ⟨fun _ _ _ h => (nomatch h), .inl ⟨⟨0, hN.1, rfl⟩, FrameLike.refl _ _, Below.drew (Below.refl _ _), fun _ _ h => (nomatch h)⟩⟩ ?_ ?_
 · rintro i o L a1 w1 ho hL hdep ⟨hdn, hI⟩
   have hsz := (Array.getElem?_eq_some_iff.1 ho).1
   have hdn' : Down ops' fun j => L j || decide (j = i) := by
    intro j o' ho' hj e he' hb
    rcases Bool.or_eq_true_iff.1 hj with h | h
    · exact Bool.or_eq_true_iff.2 (.inl (hdn j o' ho' h e he' hb))
    · have := of_decide_eq_true h
      subst this
      rw [ho] at ho'
      cases ho'
      exact Bool.or_eq_true_iff.2 (.inl (hdep e he' hb))
   have hall : ∀ j, ((closOf ops').getD i []).elem j = true → L j = true := fun j hj => clos_true hdn ho hdep j (List.elem_iff.1 hj)
   rcases hI with ⟨⟨j0, hj0, hj0'⟩, hI⟩ | ⟨hh, k, k1, k2, k3, k4⟩
   · have hiN : i < N := by
      apply Classical.byContradiction
      intro hn
      have := hall j0 (tl i (by omega) hsz j0 (by omega))
      rw [hj0'] at this
      cases this
     obtain ⟨o', ho', hg, f, hfm, rfl, hdst⟩ := cov i hiN
     rw [ho] at ho'
     obtain rfl := Option.some.inj ho'
     have hw : Region.wanted o (yielded ops' a1.tmps) = true := by simp [Region.wanted, hg]
     have hlate : ∀ j, N ≤ j → j < ops'.size → L j = false := by
      intro j h1 h2
      cases hj : L j with
      | false => rfl
      | true =>
       have h3 := clos_true hdn (o := ops'[j]) (Array.getElem?_eq_getElem h2) (fun e he' hb => hdn j _ (Array.getElem?_eq_getElem h2) hj e he' hb) j0 (List.elem_iff.1 (tl j h1 h2 j0 (by omega)))
       rw [hj0'] at h3
       cases h3
     refine wpOpIn_wide ho hw (fun c hc => by have h9 := List.all_eq_true.1 hnd f.i (List.mem_range.2 hiN); rw [ho] at h9; simp only [hc] at h9; cases h9) (hstep f hfm o a1 w1 ho hI.below (fun d hd => hI.frame.same d hd) (fun g hgm hwt => hI.facts g hgm (dep_of ho hdep hwt)) _ (fun v w2 hb hp => ?_))
     have hI2 : FInv a ks fs w (fun j => L j || decide (j = f.i)) (a1.put o.dst v) w2 := by
      rw [hdst]
      refine ⟨hI.frame.put (hk f hfm).1 v, hI.below.trans (hb.mono hI.below.size), fun g hgm hL' => ?_⟩
      by_cases e : g.i = f.i
      · have := pair_nodup hi hgm hfm e
        subst this
        rw [eval_put_same (by rw [hI.frame.size]; exact (hk g hgm).2.1)]
        exact hp
      · have hne : g.d ≠ f.d := fun e' => e (by rw [pair_nodup_d hd hgm hfm e'])
        rw [eval_put_ne hne.symm]
        exact g.mono _ _ _ (hI.facts g hgm (by simpa [e] using hL')) hb
     rw [← hdst]
     refine ⟨hdn', ?_⟩
     by_cases hdone : ∃ j, j < N ∧ (L j || decide (j = f.i)) = false
     · exact .inl ⟨hdone, hI2⟩
     · refine .inr ⟨fun j hj => ?_, N, Nat.le_refl _, hN.2, fun j h1 h2 => ?_, hend _ _ hI2.frame hI2.below fun g hgm => hI2.facts g hgm ?_⟩
       · show (L j || decide (j = f.i)) = true
         cases hx : (L j || decide (j = f.i)) with
         | true => rfl
         | false => exact (hdone ⟨j, hj, hx⟩).elim
       · show (L j || decide (j = f.i)) = true ↔ _
         rw [hlate j h1 h2]
         simp
         omega
       · show (L g.i || decide (g.i = f.i)) = true
         cases hx : (L g.i || decide (g.i = f.i)) with
         | true => rfl
         | false => exact (hdone ⟨g.i, (hk g hgm).2.2, hx⟩).elim
   · have hiN : N ≤ i := by
      apply Classical.byContradiction
      intro hn
      rw [hh i (by omega)] at hL
      cases hL
     have hik : i = k := by
      have h1 : ¬ i < k := fun h => by rw [(k3 i hiN hsz).2 h] at hL; cases hL
      apply Classical.byContradiction
      intro hne
      have hk' : k < i := by omega
      have h2 := hall k (tl i hiN hsz k hk')
      have := (k3 k k1 (by omega)).1 h2
      omega
     subst hik
     have hdr : ops'.toList.drop i = o :: ops'.toList.drop (i + 1) := drop_head (by rw [Array.getElem?_toList]; exact ho)
     rw [hdr] at k4
     unfold wpOpIn
     simp only [ho]
     unfold wpListIn at k4
     have hnext : ∀ a2 w2, wpListIn Fence.wide m P ops' Q (ops'.toList.drop (i + 1)) a2 w2 → J (fun j => L j || decide (j = i)) a2 w2 := fun a2 w2 h => by
      refine ⟨hdn', .inr ⟨fun j hj => by show (L j || decide (j = i)) = true; rw [hh j hj]; rfl, i + 1, by omega, by omega, fun j h1 h2 => ?_, h⟩⟩
      show (L j || decide (j = i)) = true ↔ _
      rw [Bool.or_eq_true_iff, k3 j h1 h2, decide_eq_true_iff]
      omega
     split
     · rename_i hw
       rw [if_pos hw] at k4
       exact Oper.wpIn_mono hnext k4
     · rename_i hw
       rw [if_neg hw] at k4
       exact ⟨k4.1, hnext _ _ k4.2⟩
 · rintro L a1 w1 hL ⟨_, ⟨⟨j, hj, hj'⟩, _⟩ | ⟨_, i, h1, h2, h3, h4⟩⟩
   · rw [hL j (by omega)] at hj'
     cases hj'
   · have : i = ops'.size := by
      apply Classical.byContradiction
      intro hne
      have := (h3 i h1 (by omega)).1 (hL i (by omega))
      omega
     subst this
     rw [List.drop_of_length_le (by simp)] at h4
     exact h4
/-- What an iterator promises that hands over memory with each element: G x args. -/
def SeqG {α : Type} (n : Nat) (P : Program) (g : Nat) (lb : Array Value) (sz : Nat) (G : α → Array Value → Asn) (Qr : World → Prop) (xs : List α) (L0 : List Asn) : Prop :=
 ∀ (l : Nat) (R : List Asn) (J Jx : List α → List Asn) (w0 : World) (fp0 : List Nat) (W : World), St w0 fp0 (L0 ++ R) W →
  (∀ Own W1, St w0 fp0 ((L0 ++ R) ++ Own) W1 → St w0 fp0 (J [] ++ Own) W1) → (∀ pre Own W1, St w0 fp0 (J pre ++ Own) W1 → Qr W1) →
  (∀ pre x rest Own W1 args, xs = pre ++ x :: rest → args.size = sz → St w0 fp0 (G x args :: (J pre ++ Own)) W1 → YieldAt Fence.wide (n - 1) P l args W1 fun e W' =>
   (e = .returned (.bool true) ∧ St w0 fp0 (J (pre ++ [x]) ++ Own) W') ∨ (e = .returned (.bool false) ∧ St w0 fp0 (Jx (pre ++ [x]) ++ Own) W')) →
  CallsIn Fence.wide n P g (#[.func (.yield l) #[] #[]] ++ lb) W fun e W' => (∃ v, e = .returned v) ∧ (St w0 fp0 (J xs) W' ∨ ∃ pre x rest, xs = pre ++ x :: rest ∧ St w0 fp0 (Jx (pre ++ [x])) W')
theorem wp_rangeFunc_g {P : Program} {α : Type} {n : Nat} {g : Operand} {ps : Array Tmp} {assign body : Code} {Q : Exit → Act → World → Prop} {a : Act} {w w0 : World} {fp0 : List Nat} {gf : Nat} {lb : Array Value} (hg : a.eval g = .func (.func gf) #[] lb)
 (eg : ∀ args w, (callFunc gf args).run P w = .ok (.enter gf args) w)
 {G : α → Array Value → Asn} {Qr : World → Prop} {xs : List α} {L0 : List Asn} (hseq : SeqG (n - 1) P gf lb ps.size G Qr xs L0)
 (I : List α → List Asn) (Ix : Code → List α → List Asn) (R : List Asn) (hS : St w0 fp0 (L0 ++ R) w) (h0 : ∀ Own W, St w0 fp0 ((L0 ++ R) ++ Own) W → St w0 fp0 (I [] ++ Own) W) (hqr : ∀ pre Own W, St w0 fp0 (I pre ++ Own) W → Qr W)
 (hround : ∀ (l : Nat) (pre : List α) (x : α) (rest : List α) (args : Array Value) (Own : List Asn) (W : World), xs = pre ++ x :: rest → args.size = ps.size → St w0 fp0 ((G x args :: I pre) ++ Own) W →
  assign.wpIn (Fence.wide.inRound l) (n - 1 - 1) P (Exit.then (fun a₁ W1 => St w0 fp0 ((G x args :: I pre) ++ Own) W1 ∧ ∀ Own2 W2, St w0 fp0 ((G x args :: I pre) ++ Own2) W2 → body.wpIn (Fence.wide.inRound l) (n - 1 - 1) P (bodySt w0 fp0 I Ix (pre ++ [x]) Own2) a₁ W2) (fun _ _ _ => False))
   { tmps := (ps.zip args).foldl (fun t (p, v) => t.setIfInBounds p v) a.tmps, defers := [] } W)
 (hdone : ∀ (D : Nat) (W : World), St w0 fp0 (defA D :: I xs) W → Q .normal { a with defers := { target := .collected D, args := #[] } :: a.defers } W)
 (hstop : ∀ (D : Nat) (c : Code) (pre : List α) (x : α) (rest : List α) (W : World), xs = pre ++ x :: rest → St w0 fp0 (defA D :: Ix c (pre ++ [x])) W → c.wp P Q { a with defers := { target := .collected D, args := #[] } :: a.defers } W) :
 (Code.rangeFunc g ps assign body).wp P Q a w := by
 refine (wpIn_wide (n := n)).1 (wpIn_rangeFunc ?_)
 intro fn hfn
 obtain ⟨D, hD⟩ : ∃ D, w.heap.size = D := ⟨_, rfl⟩
 obtain ⟨rec, hrec⟩ : ∃ rec : LoopState → Option Code → Loop, rec = fun st pe => { state := st, pending := pe, fn, tmps := a.tmps, params := ps, assign, body, defers := D } := ⟨_, rfl⟩
 obtain ⟨W1, hW1⟩ : ∃ W1, (w.alloc (.deferred (some []))).alloc (.loop (rec .ready none)) = W1 := ⟨_, rfl⟩
 have hS1 : St w0 fp0 (loopA (D + 1) (rec .ready none) :: defA D :: (L0 ++ R)) W1 := by rw [← hW1, ← hD]; exact hS.loop_new _
 have hbp : ∀ st pe, (rec st pe).params = ps := by intro st pe; rw [hrec]
 have hbs : ∀ st pe, (rec st pe).state = st ∧ (rec st pe).pending = pe := by intro st pe; rw [hrec]; exact ⟨rfl, rfl⟩
 have hbr : ∀ st pe st' pe', { rec st pe with state := st', pending := pe' } = rec st' pe' := by intro st pe st' pe'; rw [hrec]
 have hbr1 : ∀ st pe st', { rec st pe with state := st' } = rec st' pe := by intro st pe st'; rw [hrec]
 have hout := run_enterLoop_outer (P := P) (w := w) fn a.tmps ps assign body
 rw [hD] at hout
 refine ⟨D + 1, [{ target := .collected D, args := #[] }], W1, { target := .fn (.func gf) lb, args := #[.func (.yield (D + 1)) #[] #[]] }, W1, gf,
  #[.func (.yield (D + 1)) #[] #[]] ++ lb, W1, ?_, ?_, fun _ _ => trivial, ?_, fun h => (by cases h), ?_⟩
 · rw [← hW1, hrec]
   exact hout
 · simp only [resolve, hg]
   simp [go_sem]
 · simp [invoke, go_sem, eg]
 clear hout
 obtain ⟨Bk, hBk⟩ : ∃ Bk : LoopState → Option Code → List Asn, Bk = fun st pe => [loopA (D + 1) (rec st pe), defA D] := ⟨_, rfl⟩
 have hbk : ∀ st pe (A Own : List Asn) W, St w0 fp0 ((A ++ Bk st pe) ++ Own) W ↔ St w0 fp0 (loopA (D + 1) (rec st pe) :: (A ++ defA D :: Own)) W := by
  intro st pe A Own W
  rw [hBk]
  have hp : ((A ++ [loopA (D + 1) (rec st pe), defA D]) ++ Own).Perm (loopA (D + 1) (rec st pe) :: (A ++ defA D :: Own)) := by
   classical
   refine List.perm_iff_count.2 fun a => ?_
   simp only [List.count_append, List.count_cons, List.count_nil]
   omega
  exact ⟨fun h => h.perm hp, fun h => h.perm hp.symm⟩
 refine (hseq (D + 1) (R ++ Bk .ready none) (fun pre => I pre ++ Bk .ready none) (fun pre => [exA fun c => starA (Ix c pre ++ Bk .done (some c))]) w0 fp0 W1 ?_ ?_ (fun pre Own W h => hqr pre (Bk .ready none ++ Own) W (by simpa only [List.append_assoc] using h)) ?_).mono ?_
 · rw [← List.append_assoc]
   have := (hbk .ready none (L0 ++ R) [] W1).2 (hS1.perm (by
    classical
    refine List.perm_iff_count.2 fun a => ?_
    simp only [List.count_append, List.count_cons, List.count_nil]
    omega))
   simpa using this
 · intro Own W h
   have h1 : St w0 fp0 ((L0 ++ R) ++ (Bk .ready none ++ Own)) W := by simpa only [List.append_assoc] using h
   have := h0 _ _ h1
   simpa only [List.append_assoc] using this
 · intro pre x rest Own W args hxs hsz h
   have h1 := (hbk .ready none (G x args :: I pre) Own W).1 (by simpa only [List.cons_append, List.append_assoc] using h)
   have hl := h1.loop_has
   have hy := run_yield (P := P) (args := args) hl (by rw [hbp]; exact hsz)
   rw [hrec] at hy
   have h1' : St w0 fp0 ((G x args :: I pre) ++ (loopA (D + 1) (rec .ready none) :: defA D :: Own)) W := h1.perm (by
    classical
    refine List.perm_iff_count.2 fun a => ?_
    simp only [List.cons_append, List.count_append, List.count_cons]
    omega)
   refine ⟨fn, _, assign, body, hy, roundIn_of_wpIn hfn (wpIn_mono (hround _ pre x rest args _ W hxs hsz h1') ?_)⟩
   rintro e0 a0 W0 hp0
   have hn : e0 = .normal := by cases e0 <;> first | rfl | exact hp0.elim
   subst hn
   obtain ⟨h1, hbody⟩ := hp0
   have h1 : St w0 fp0 (loopA (D + 1) (rec .ready none) :: ((G x args :: I pre) ++ defA D :: Own)) W0 := h1.perm (by
    classical
    refine List.perm_iff_count.2 fun a => ?_
    simp only [List.cons_append, List.count_append, List.count_cons]
    omega)
   have hl := h1.loop_has
   have hb := run_beginRound (P := P) hl (hbs _ _).1
   rw [hbr1] at hb
   refine ⟨_, hb, ?_⟩
   have h2 := h1.loop (rec .busy none)
   have h3 : St w0 fp0 ((G x args :: I pre) ++ (loopA (D + 1) (rec .busy none) :: defA D :: Own)) (W0.putObj (D + 1) (.loop (rec .busy none))) := h2.perm (by
    classical
    refine List.perm_iff_count.2 fun a => ?_
    simp only [List.cons_append, List.count_append, List.count_cons]
    omega)
   refine wpIn_mono (hbody _ _ h3) ?_
   have fin : ∀ (A : List Asn) (jump : Option Code) (W3 : World), St w0 fp0 (A ++ (loopA (D + 1) (rec .busy none) :: defA D :: Own)) W3 →
    (Instr.endRound (D + 1) jump).run P W3 = .ok (.bool jump.isNone) (W3.putObj (D + 1) (.loop (rec (if jump.isNone then .ready else .done) jump))) ∧
    St w0 fp0 ((A ++ Bk (if jump.isNone then .ready else .done) jump) ++ Own) (W3.putObj (D + 1) (.loop (rec (if jump.isNone then .ready else .done) jump))) := by
    intro A jump W3 h
    have h4 : St w0 fp0 (loopA (D + 1) (rec .busy none) :: (A ++ defA D :: Own)) W3 := h.perm (by
     classical
     refine List.perm_iff_count.2 fun a => ?_
     simp only [List.count_append, List.count_cons]
     omega)
    have hr := run_endRound (P := P) jump h4.loop_has
    rw [hbr] at hr
    exact ⟨hr, (hbk _ _ A Own _).2 (h4.loop _)⟩
   have ex : ∀ (c : Code) (A : List Asn) W3, St w0 fp0 ((Ix c (pre ++ [x]) ++ Bk .done (some c)) ++ Own) W3 → St w0 fp0 ([exA fun c => starA (Ix c (pre ++ [x]) ++ Bk .done (some c))] ++ Own) W3 := by
    intro c A W3 h
    exact h.fold fun f hf => ⟨c, hf⟩
   rintro e a3 W3 hp
   cases e with
   | normal =>
    obtain ⟨hr, h4⟩ := fin _ none W3 hp
    exact ⟨_, _, hr, .inl ⟨rfl, h4⟩⟩
   | ret =>
    obtain ⟨hr, h4⟩ := fin _ (some .ret) W3 hp
    exact ⟨_, _, hr, .inr ⟨rfl, ex _ [] _ h4⟩⟩
   | exit id =>
    obtain ⟨hr, h4⟩ := fin _ (some (.exit id)) W3 hp
    exact ⟨_, _, hr, .inr ⟨rfl, ex _ [] _ h4⟩⟩
   | goto t =>
    obtain ⟨hr, h4⟩ := fin _ (some (.goto t)) W3 hp
    exact ⟨_, _, hr, .inr ⟨rfl, ex _ [] _ h4⟩⟩
   | panic ch => exact hp.elim
   | outgrown => exact hp.elim
 · rintro e W2 ⟨⟨v, rfl⟩, h | ⟨pre, x, rest, hxs, h⟩⟩
   · have h1 := (hbk .ready none (I xs) [] W2).1 (by rwa [List.append_nil])
     have hr := run_endLoop (P := P) h1.loop_has (by rw [(hbs _ _).1]; simp)
     rw [(hbs _ _).2] at hr
     refine ⟨none, _, hr, hdone D _ ?_⟩
     exact (h1.loop _).drop.perm (by
      classical
      refine List.perm_iff_count.2 fun a => ?_
      simp only [List.count_append, List.count_cons, List.count_nil]
      omega)
   · obtain ⟨fp, ⟨f, g', ⟨c, hc⟩, hg', hd, rfl⟩, ht⟩ := h
     have h0' : St w0 fp0 (Ix c (pre ++ [x]) ++ Bk .done (some c)) W2 := by
      rw [show g' = [] from hg', List.append_nil] at ht
      exact ⟨f, hc, ht⟩
     have h1 := (hbk .done (some c) (Ix c (pre ++ [x])) [] W2).1 (by rwa [List.append_nil])
     have hr := run_endLoop (P := P) h1.loop_has (by rw [(hbs _ _).1]; simp)
     rw [(hbs _ _).2] at hr
     refine ⟨some c, _, hr, wpIn_wide.2 (hstop D c pre x rest _ hxs ?_)⟩
     exact (h1.loop _).drop.perm (by
      classical
      refine List.perm_iff_count.2 fun a => ?_
      simp only [List.count_append, List.count_cons, List.count_nil]
      omega)
end Go.Proofs.YtnefkkidfhmggaaGreat
/- A region in a round of a range over a function, by tables. (Over any program.) -/
namespace Go.Proofs.YtnefkkidfhmggaaGreat
open Go Go.RowKit
theorem wpOpIn_of {P : Program} {l n : Nat} {ops : Array Oper} {Q : Exit → Act → World → Prop} {i : Nat} {K : Act → World → Prop} {a : Act} {w : World} {o : Oper} (ho : ops[i]? = some o) (hnd : ∀ c, o.op ≠ .defer c)
 (hq : ∀ a w, ¬ Q .outgrown a w) (h : wpOp P ops (NoPanic Q) i K a w) : wpOpIn (Fence.wide.inRound l) n P ops Q i K a w := by
 unfold wpOp at h
 unfold wpOpIn
 simp only [ho] at h ⊢
 by_cases hw : Region.wanted o (yielded ops a.tmps) = true
 · rw [if_pos hw] at h ⊢
   rcases h with h | ⟨_, a', w', h⟩
   · refine ⟨fun _ _ => trivial, ?_⟩
     rw [Oper.semAt_plain _ _ _ hnd]
     unfold Oper.wp at h
     revert h
     generalize (execOp a.eval o).run P w = r
     intro h
     cases r with
     | ok x w' =>
      cases x with
      | enter f args =>
       refine ⟨(fun hh => by cases hh), CallsIn.inRound l (callsIn_wide.2 (Calls.mono h (fun e w'' he => ?_)))⟩
       cases e with
       | returned v => exact he
       | panicked c => exact (he : False).elim
       | outgrown => exact he
      | row row args =>
       refine ⟨(fun hh => by cases hh), fun c cs _ => ?_⟩
       obtain ⟨v, w'', r, s⟩ := h c cs
       exact ⟨v, w'', r, stepsIn_wide.2 s⟩
      | value v => exact h
      | skip => exact h
      | defer d => exact h
      | _ => exact (h : False).elim
     | halt x w' => cases x <;> exact (h : False).elim
   · exact (hq _ _ h).elim
 · rw [if_neg hw] at h ⊢
   exact ⟨fun _ _ => trivial, h⟩
def noDeferB (ops : Array Oper) : Bool := ops.all fun o => match o.op with | .defer _ => false | _ => true
theorem noDefer_of {ops : Array Oper} (h : noDeferB ops = true) {i : Nat} {o : Oper} (ho : ops[i]? = some o) : ∀ c, o.op ≠ .defer c := by
 intro c hc
 unfold noDeferB at h
 obtain ⟨hi, rfl⟩ := Array.getElem?_eq_some_iff.1 ho
 have := Array.all_eq_true.1 h i hi
 rw [hc] at this
 cases this
theorem wpIn_tokR {Q : Exit → Act → World → Prop} (hq : ∀ a w, ¬ Q .outgrown a w) (G : Rg) {id l0 n0 : Nat} {ops : Array Oper} {a : Act} {w : World} (n : Nat) (he : ops = G.ops) (hm : G.P.follows .mixedOrders = true) (hnd : noDeferB G.ops = true) (hf : fitsB G.ops G.nt G.ks (G.inp.map (·.1)) (G.vals.map fun t => (t.i, t.d, t.sl)) (G.pcs.flatMap Pc.fl) (G.inq.map fun p => (p.1, p.2.2)) = true) (hn : G.ops.size = n)
 (hin : Knows G.nt a (G.inp ++ G.inq.map fun p => (p.1, p.2.1))) (hS : stP G (fun _ => false) (slots a) w) (hob : G.Obs 0 n)
 (hQ : ∀ a1 w1, G.Next a a1 → stP G (fun _ => true) (slots a1) w1 → Q .normal a1 w1) : (Code.region id ops true).wpIn (Fence.wide.inRound l0) n0 G.P Q a w := by
 subst he hn
 obtain ⟨_, hfl0, hfw, _, _, _, _, _, hvs⟩ := fits_parts hf
 have hstep : ∀ (i : Nat) (o : Oper) (L : Nat → Bool) (a1 : Act) (w : World), G.ops[i]? = some o → L i = false → (∀ e ∈ o.after, Region.binds .any e = true → L e.on = true) → G.Inv a L a1 w → wpOp G.P G.ops (NoPanic Q) i (fun a' w' => G.Inv a (fun j => L j || decide (j = i)) a' w') a1 w :=
  fun i o L a1 w1 ho hL hdep hI => G.step hin.size (fun p hp => hin.at' p (List.mem_append.2 (.inl hp))) hf (hob.get i (Nat.zero_le _) (by have := (Array.getElem?_eq_some_iff.1 ho).1; omega)) ho hL hdep hI
 have hend : ∀ (L : Nat → Bool) (a1 : Act) (w : World), (∀ i, i < G.ops.size → L i = true) → G.Inv a L a1 w → Q .normal a1 w := by
  intro L a1 w1 hL hI
  have hv : ∀ t ∈ G.vals, slots a1 t.d = t.at (slots a1) := fun t ht => hI.vals t ht (hL _ (by
   have h2 := (hvs _ (List.mem_map.2 ⟨t, ht, rfl⟩)).1
   dsimp only [dstOf] at h2
   cases h3 : G.ops[t.i]? with
   | none => rw [h3] at h2; cases h2
   | some o' => exact (Array.getElem?_eq_some_iff.1 h3).1))
  refine hQ a1 w1 ⟨hI.frame, hv⟩ ?_
  have e : G.pcs.map (fun p => p.at (fun _ => true) (slots a1)) = G.pcs.map (fun p => p.at L (slots a1)) := List.map_congr_left fun p hp => Pc.at_eq (fun j hj => (hL j (hfl0 j (List.mem_flatMap.2 ⟨p, hp, hj⟩))).symm) fun _ _ => rfl
  unfold stP
  rw [e]
  exact hI.eff
 refine wpIn_region_any hm (wpAnyIn_inv (Inv := fun L a1 w1 => G.Inv a L a1 w1) hfw (fun i o L a1 w1 ho hL hdep hI => wpOpIn_of ho (noDefer_of hnd ho) hq (hstep i o L a1 w1 ho hL hdep hI)) hend _ _ _ _ (by simp) ?_ ?_)
 · unfold left
   exact Nat.le_trans List.count_le_length (by simp)
 · have : (fun j => (Array.replicate G.ops.size false).getD j false) = fun _ => false := by
    funext j
    simp [Array.getD]
   rw [this]
   exact ⟨FrameLike.refl _ _, fun _ _ h => (nomatch h), fun p hp _ => hin.at' _ (List.mem_append.2 (.inr (List.mem_map.2 ⟨p, hp, rfl⟩))), fun _ _ _ h => (nomatch h), St.mono hS (below_drew w)⟩
def isDrw : Code → Bool
 | .region _ _ d => d
 | _ => false
theorem wpIn_regT {Q : Exit → Act → World → Prop} (hq : ∀ a w, ¬ Q .outgrown a w) {G : Rg} {n l0 n0 : Nat} {c : Code} {a : Act} {w : World} (hG : G.Ok n) (hm : (G.P.follows .mixedOrders && noDeferB G.ops) = true) (hc : isDrw c = true ∧ cops c = G.ops)
 (hin : Knows G.nt a (G.inp ++ G.inq.map fun p => (p.1, p.2.1))) (hS : stP G (fun _ => false) (slots a) w)
 (hQ : ∀ a1 w1, G.Next a a1 → stP G (fun _ => true) (slots a1) w1 → Q .normal a1 w1) : c.wpIn (Fence.wide.inRound l0) n0 G.P Q a w := by
 obtain ⟨hc, he⟩ := hc
 rw [Bool.and_eq_true] at hm
 cases c <;> first | (cases hc; done) | skip
 rename_i id ops d
 obtain rfl : d = true := hc
 exact wpIn_tokR hq G n he hm.1 hm.2 hG.fits hG.size hin hS hG.obs hQ
end Go.Proofs.YtnefkkidfhmggaaGreat
/- Plain: ascending lists of pairs as maps, over any total order of keys. -/
namespace Go.Proofs.YtnefkkidfhmggaaGreat
/-- A comparison that is a total order. -/
class KOrd (κ : Type) where
 cmp : κ → κ → Int
 range : ∀ a b, cmp a b = -1 ∨ cmp a b = 0 ∨ cmp a b = 1
 zero : ∀ {a b}, cmp a b = 0 ↔ a = b
 swap : ∀ a b, cmp b a = - cmp a b
 trans : ∀ {a b c}, cmp a b < 0 → cmp b c < 0 → cmp a c < 0
section
variable {κ ν : Type} [KOrd κ]
def ltK (a b : κ) : Prop := KOrd.cmp a b < 0
instance (a b : κ) : Decidable (ltK a b) := inferInstanceAs (Decidable (_ < _))
def eqK (a b : κ) : Bool := decide (KOrd.cmp a b = 0)
theorem eqK_iff {a b : κ} : eqK a b = true ↔ a = b := by unfold eqK; rw [decide_eq_true_iff]; exact KOrd.zero
theorem eqK_not {a b : κ} : eqK a b = false ↔ a ≠ b := by rw [← Bool.not_eq_true, eqK_iff]
theorem eqK_self (a : κ) : eqK a a = true := eqK_iff.2 rfl
theorem ltK_irrefl (a : κ) : ¬ ltK a a := by unfold ltK; rw [KOrd.zero.2 rfl]; omega
theorem ltK_trans {a b c : κ} (h1 : ltK a b) (h2 : ltK b c) : ltK a c := KOrd.trans h1 h2
theorem ltK_asymm {a b : κ} (h : ltK a b) : ¬ ltK b a := fun h' => ltK_irrefl _ (ltK_trans h h')
theorem ltK_ne {a b : κ} (h : ltK a b) : a ≠ b := fun e => by subst e; exact ltK_irrefl _ h
theorem ltK_tri (a b : κ) : ltK a b ∨ a = b ∨ ltK b a := by
 unfold ltK
 rw [KOrd.swap a b]
 rcases KOrd.range a b with h | h | h
 · left; omega
 · right; left; exact KOrd.zero.1 h
 · right; right; omega
theorem ltK_of_not {a b : κ} (h : ¬ ltK a b) (hne : a ≠ b) : ltK b a := by
 rcases ltK_tri a b with h1 | h1 | h1
 · exact absurd h1 h
 · exact absurd h1 hne
 · exact h1
abbrev M (κ ν : Type) := List (κ × ν)
/-- Strictly ascending. -/
def AscM (l : M κ ν) : Prop := l.Pairwise fun a b => ltK a.1 b.1
def getM : M κ ν → κ → Option ν
 | [], _ => none
 | x :: l, k => if eqK x.1 k then some x.2 else getM l k
def putM : M κ ν → κ → ν → M κ ν
 | [], k, v => [(k, v)]
 | x :: l, k, v => if ltK x.1 k then x :: putM l k v else if eqK x.1 k then (k, v) :: l else (k, v) :: x :: l
def delM : M κ ν → κ → M κ ν
 | [], _ => []
 | x :: l, k => if eqK x.1 k then l else x :: delM l k
/-- All keys of l are less than k. -/
def AllLt (l : M κ ν) (k : κ) : Prop := ∀ x ∈ l, ltK x.1 k
def AllGt (k : κ) (l : M κ ν) : Prop := ∀ x ∈ l, ltK k x.1
theorem AllLt.nil (k : κ) : AllLt ([] : M κ ν) k := by intro x h; cases h
theorem AllGt.nil (k : κ) : AllGt k ([] : M κ ν) := by intro x h; cases h
theorem AllLt.append {l m : M κ ν} {k : κ} (h1 : AllLt l k) (h2 : AllLt m k) : AllLt (l ++ m) k := by
 intro x h
 rcases List.mem_append.1 h with h | h
 · exact h1 x h
 · exact h2 x h
theorem getM_lt {l : M κ ν} {k : κ} (h : AllLt l k) (m : M κ ν) : getM (l ++ m) k = getM m k := by
 induction l with
 | nil => rfl
 | cons x l ih =>
  rw [List.cons_append, getM, if_neg (by rw [eqK_iff]; exact ltK_ne (h x (by simp))), ih fun y hy => h y (List.mem_cons_of_mem _ hy)]
theorem getM_gt {m : M κ ν} {k : κ} (h : AllGt k m) (l : M κ ν) : getM (l ++ m) k = getM l k := by
 induction l with
 | nil =>
  induction m with
  | nil => rfl
  | cons x m ih =>
   have e : getM (x :: m) k = getM m k := by rw [getM, if_neg (by rw [eqK_iff]; exact (ltK_ne (h x (by simp))).symm)]
   exact e.trans (ih fun y hy => h y (List.mem_cons_of_mem _ hy))
 | cons x l ih => rw [List.cons_append, getM, getM, ih]
theorem putM_lt {l : M κ ν} {k : κ} (h : AllLt l k) (m : M κ ν) (v : ν) : putM (l ++ m) k v = l ++ putM m k v := by
 induction l with
 | nil => rfl
 | cons x l ih => rw [List.cons_append, putM, if_pos (h x (by simp)), ih fun y hy => h y (List.mem_cons_of_mem _ hy)]; rfl
theorem putM_gt {m : M κ ν} {k : κ} (h : AllGt k m) (l : M κ ν) (v : ν) : putM (l ++ m) k v = putM l k v ++ m := by
 induction l with
 | nil =>
  cases m with
  | nil => rfl
  | cons x m =>
   have hx := h x (by simp)
   have e : putM (x :: m) k v = (k, v) :: x :: m := by rw [putM, if_neg (ltK_asymm hx), if_neg (by rw [eqK_iff]; exact (ltK_ne hx).symm)]
   exact e
 | cons x l ih =>
  rw [List.cons_append, putM, putM]
  split
  · rw [ih]; rfl
  · split <;> rfl
theorem delM_lt {l : M κ ν} {k : κ} (h : AllLt l k) (m : M κ ν) : delM (l ++ m) k = l ++ delM m k := by
 induction l with
 | nil => rfl
 | cons x l ih => rw [List.cons_append, delM, if_neg (by rw [eqK_iff]; exact ltK_ne (h x (by simp))), ih fun y hy => h y (List.mem_cons_of_mem _ hy)]; rfl
theorem delM_gt {m : M κ ν} {k : κ} (h : AllGt k m) (l : M κ ν) : delM (l ++ m) k = delM l k ++ m := by
 induction l with
 | nil =>
  induction m with
  | nil => rfl
  | cons x m ih =>
   have e : delM (x :: m) k = x :: delM m k := by rw [delM, if_neg (by rw [eqK_iff]; exact (ltK_ne (h x (by simp))).symm)]
   have := ih fun y hy => h y (List.mem_cons_of_mem _ hy)
   rw [List.nil_append] at this
   exact e.trans (by rw [this]; rfl)
 | cons x l ih =>
  rw [List.cons_append, delM, delM]
  split
  · rfl
  · rw [ih]; rfl
theorem putM_here {l m : M κ ν} {x : κ × ν} {k : κ} (h : AllLt l k) (e : x.1 = k) (v : ν) : putM (l ++ x :: m) k v = l ++ (k, v) :: m := by
 rw [putM_lt h, putM, if_neg (by rw [e]; exact ltK_irrefl _), if_pos (eqK_iff.2 e)]
theorem putM_new {l m : M κ ν} {k : κ} (h : AllLt l k) (h' : AllGt k m) (v : ν) : putM (l ++ m) k v = l ++ (k, v) :: m := by
 rw [putM_lt h]
 have := putM_gt h' [] v
 rw [List.nil_append] at this
 rw [this]; rfl
theorem getM_here {l m : M κ ν} {x : κ × ν} {k : κ} (h : AllLt l k) (e : x.1 = k) : getM (l ++ x :: m) k = some x.2 := by
 rw [getM_lt h, getM, if_pos (eqK_iff.2 e)]
theorem getM_none {l m : M κ ν} {k : κ} (h : AllLt l k) (h' : AllGt k m) : getM (l ++ m) k = none := by
 rw [getM_lt h]
 have := getM_gt h' ([] : M κ ν)
 rw [List.nil_append] at this
 rw [this]; rfl
theorem delM_here {l m : M κ ν} {x : κ × ν} {k : κ} (h : AllLt l k) (e : x.1 = k) : delM (l ++ x :: m) k = l ++ m := by
 rw [delM_lt h, delM, if_pos (eqK_iff.2 e)]
theorem delM_none {l m : M κ ν} {k : κ} (h : AllLt l k) (h' : AllGt k m) : delM (l ++ m) k = l ++ m := by
 rw [delM_lt h]
 have := delM_gt h' ([] : M κ ν)
 rw [List.nil_append] at this
 rw [this]; rfl
theorem mem_putM {l : M κ ν} {k : κ} {v : ν} {y : κ × ν} (h : y ∈ putM l k v) : y = (k, v) ∨ y ∈ l := by
 induction l with
 | nil => simpa [putM] using h
 | cons x l ih =>
  rw [putM] at h
  split at h
  · rcases List.mem_cons.1 h with h | h
    · exact .inr (List.mem_cons.2 (.inl h))
    · rcases ih h with h | h
      · exact .inl h
      · exact .inr (List.mem_cons_of_mem _ h)
  · split at h
    · rcases List.mem_cons.1 h with h | h
      · exact .inl h
      · exact .inr (List.mem_cons_of_mem _ h)
    · rcases List.mem_cons.1 h with h | h
      · exact .inl h
      · exact .inr h
theorem mem_delM {l : M κ ν} {k : κ} {y : κ × ν} (h : y ∈ delM l k) : y ∈ l := by
 induction l with
 | nil => exact h
 | cons x l ih =>
  rw [delM] at h
  split at h
  · exact List.mem_cons_of_mem _ h
  · rcases List.mem_cons.1 h with h | h
    · exact List.mem_cons.2 (.inl h)
    · exact List.mem_cons_of_mem _ (ih h)
theorem AscM.cons {x : κ × ν} {l : M κ ν} : AscM (x :: l) ↔ AllGt x.1 l ∧ AscM l := List.pairwise_cons
theorem AscM.append {l m : M κ ν} : AscM (l ++ m) ↔ AscM l ∧ AscM m ∧ ∀ a ∈ l, ∀ b ∈ m, ltK a.1 b.1 := List.pairwise_append
theorem AscM.mid {l m : M κ ν} {x : κ × ν} (h : AscM (l ++ x :: m)) : AscM l ∧ AscM m ∧ AllLt l x.1 ∧ AllGt x.1 m ∧ ∀ a ∈ l, ∀ b ∈ m, ltK a.1 b.1 := by
 obtain ⟨h1, h2, h3⟩ := AscM.append.1 h
 obtain ⟨h4, h5⟩ := AscM.cons.1 h2
 exact ⟨h1, h5, fun a ha => h3 a ha x (by simp), h4, fun a ha b hb => h3 a ha b (List.mem_cons_of_mem _ hb)⟩
theorem ascM_putM {l : M κ ν} (h : AscM l) (k : κ) (v : ν) : AscM (putM l k v) := by
 induction l with
 | nil => exact List.pairwise_singleton _ _
 | cons x l ih =>
  obtain ⟨h1, h2⟩ := AscM.cons.1 h
  rw [putM]
  split
  · rename_i hlt
    refine AscM.cons.2 ⟨fun y hy => ?_, ih h2⟩
    rcases mem_putM hy with rfl | hy
    · exact hlt
    · exact h1 y hy
  · rename_i hn
    split
    · rename_i he
      rw [eqK_iff] at he
      subst he
      exact AscM.cons.2 ⟨h1, h2⟩
    · rename_i he
      rw [eqK_iff] at he
      have hlt := ltK_of_not hn he
      refine AscM.cons.2 ⟨fun y hy => ?_, h⟩
      rcases List.mem_cons.1 hy with rfl | hy
      · exact hlt
      · exact ltK_trans hlt (h1 y hy)
theorem ascM_delM {l : M κ ν} (h : AscM l) (k : κ) : AscM (delM l k) := by
 induction l with
 | nil => exact h
 | cons x l ih =>
  obtain ⟨h1, h2⟩ := AscM.cons.1 h
  rw [delM]
  split
  · exact h2
  · exact AscM.cons.2 ⟨fun y hy => h1 y (mem_delM hy), ih h2⟩
end
end Go.Proofs.YtnefkkidfhmggaaGreat
/- Plain: B-trees, put. -/
namespace Go.Proofs.YtnefkkidfhmggaaGreat
inductive T (κ ν : Type) where
 | node (es : List (κ × ν)) (cs : List (T κ ν))
section
variable {κ ν : Type}
namespace T
def es : T κ ν → M κ ν | .node es _ => es
def cs : T κ ν → List (T κ ν) | .node _ cs => cs
end T
open T
theorem es_node (es : M κ ν) (cs : List (T κ ν)) : (T.node es cs).es = es := rfl
theorem cs_node (es : M κ ν) (cs : List (T κ ν)) : (T.node es cs).cs = cs := rfl
theorem T.eta (x : T κ ν) : .node x.es x.cs = x := by cases x; rfl
def pre (f : T κ ν → M κ ν) : M κ ν → List (T κ ν) → M κ ν
 | a :: A, c :: C => f c ++ a :: pre f A C
 | A, _ => A
def post (f : T κ ν → M κ ν) : M κ ν → List (T κ ν) → M κ ν
 | b :: B, c :: C => b :: f c ++ post f B C
 | B, _ => B
/-- The entries in order. -/
def toL : Nat → T κ ν → M κ ν
 | 0, x => x.es
 | h + 1, x => match x.cs with
  | [] => x.es
  | c :: C => toL h c ++ post (toL h) x.es C
theorem toL_split (h : Nat) : ∀ (A B : M κ ν) (C1 C2 : List (T κ ν)) (c : T κ ν), A.length = C1.length → toL (h + 1) (.node (A ++ B) (C1 ++ c :: C2)) = pre (toL h) A C1 ++ toL h c ++ post (toL h) B C2
 | [], B, [], C2, c, _ => by simp [toL, pre, es_node, cs_node]
 | a :: A, B, c1 :: C1, C2, c, hl => by
  have ih := toL_split h A B C1 C2 c (by simpa using hl)
  cases C1 with
  | nil =>
   cases A with
   | nil =>
    simp only [toL, cs_node, es_node, List.cons_append, List.nil_append, pre, post, List.append_assoc]
   | cons => simp at hl
  | cons c0 C0 =>
   simp only [toL, cs_node, es_node, List.cons_append] at ih ⊢
   simp only [post, pre, List.cons_append, List.append_assoc] at ih ⊢
   rw [ih]
theorem toL_last (h : Nat) (A : M κ ν) (C1 : List (T κ ν)) (c : T κ ν) (hl : A.length = C1.length) : toL (h + 1) (.node A (C1 ++ [c])) = pre (toL h) A C1 ++ toL h c := by
 have := toL_split h A [] C1 [] c hl
 simpa [post] using this
theorem toL_cons (h : Nat) (c : T κ ν) (B : M κ ν) (C : List (T κ ν)) : toL (h + 1) (.node B (c :: C)) = toL h c ++ post (toL h) B C := rfl
theorem sub_post {f : T κ ν → M κ ν} : ∀ (B : M κ ν) (C : List (T κ ν)), List.Sublist B (post f B C)
 | [], C => by cases C <;> exact List.Sublist.refl _
 | b :: B, [] => List.Sublist.refl _
 | b :: B, c :: C => by
  rw [post]
  exact List.Sublist.cons_cons _ ((sub_post B C).trans (List.sublist_append_right _ _))
theorem sub_toL : ∀ (h : Nat) (x : T κ ν), List.Sublist x.es (toL h x)
 | 0, x => List.Sublist.refl _
 | h + 1, .node es [] => List.Sublist.refl _
 | h + 1, .node es (c :: C) => by
  rw [toL_cons]
  exact (sub_post es C).trans (List.sublist_append_right _ _)
theorem take_takeWhile {α : Type} (p : α → Bool) : ∀ l : List α, l.take (l.takeWhile p).length = l.takeWhile p
 | [] => rfl
 | x :: l => by
  rw [List.takeWhile_cons]
  split
  · rw [List.length_cons, List.take_succ_cons, take_takeWhile p l]
  · rfl
theorem drop_takeWhile {α : Type} (p : α → Bool) : ∀ l : List α, l.drop (l.takeWhile p).length = l.dropWhile p
 | [] => rfl
 | x :: l => by
  rw [List.takeWhile_cons, List.dropWhile_cons]
  split
  · rw [List.length_cons, List.drop_succ_cons, drop_takeWhile p l]
  · rfl
theorem mem_takeWhile {α : Type} {p : α → Bool} : ∀ {l : List α} {x : α}, x ∈ l.takeWhile p → p x = true
 | [], _, h => by simp at h
 | y :: l, x, h => by
  rw [List.takeWhile_cons] at h
  split at h
  · rename_i hy
    rcases List.mem_cons.1 h with rfl | h
    · exact hy
    · exact mem_takeWhile h
  · simp at h
theorem dropWhile_head {α : Type} {p : α → Bool} : ∀ {l : List α} {x : α} {m : List α}, l.dropWhile p = x :: m → p x = false
 | [], _, _, h => by simp at h
 | y :: l, x, m, h => by
  rw [List.dropWhile_cons] at h
  split at h
  · exact dropWhile_head h
  · rename_i hy
    injection h with h _
    subst h
    simpa using hy
theorem getElem?_drop0 {α : Type} (l : List α) (i : Nat) : l[i]? = (l.drop i)[0]? := by rw [List.getElem?_drop]; simp
/-! Sizes. -/
def least (o : Nat) : Nat := (o + 1) / 2 - 1
/-- From lo to hi entries; kids as they should be. -/
def Body (o : Nat) : Nat → Nat → Nat → T κ ν → Prop
 | 0, lo, hi, x => lo ≤ x.es.length ∧ x.es.length ≤ hi ∧ x.cs = []
 | h + 1, lo, hi, x => lo ≤ x.es.length ∧ x.es.length ≤ hi ∧ x.cs.length = x.es.length + 1 ∧ ∀ c ∈ x.cs, Body o h (least o) (o - 1) c
theorem Body.lo {o h lo hi : Nat} {x : T κ ν} (hb : Body o h lo hi x) : lo ≤ x.es.length := by cases h <;> exact hb.1
theorem Body.hi {o h lo hi : Nat} {x : T κ ν} (hb : Body o h lo hi x) : x.es.length ≤ hi := by cases h <;> exact hb.2.1
theorem Body.mono {o h lo hi lo' hi' : Nat} {x : T κ ν} (hb : Body o h lo hi x) (h1 : lo' ≤ x.es.length) (h2 : x.es.length ≤ hi') : Body o h lo' hi' x := by
 cases h <;> exact ⟨h1, h2, hb.2.2⟩
/-! put. -/
def splitT (o i : Nat) (x : T κ ν) : T κ ν := match x.cs[i]? with
 | none => x
 | some c => match c.es[o / 2]? with
  | none => x
  | some m => .node (x.es.take i ++ m :: x.es.drop i)
   (x.cs.take i ++ .node (c.es.take (o / 2)) (c.cs.take (o / 2 + 1)) :: .node (c.es.drop (o / 2 + 1)) (c.cs.drop (o / 2 + 1)) :: x.cs.drop (i + 1))
theorem toL_halves {o h lo hi : Nat} {c : T κ ν} {m : κ × ν} (hb : Body o h lo hi c) (hm : c.es[o / 2]? = some m) :
 toL h c = toL h (.node (c.es.take (o / 2)) (c.cs.take (o / 2 + 1))) ++ m :: toL h (.node (c.es.drop (o / 2 + 1)) (c.cs.drop (o / 2 + 1))) := by
 obtain ⟨hlt, hm⟩ := List.getElem?_eq_some_iff.1 hm
 have he : c.es = c.es.take (o / 2) ++ m :: c.es.drop (o / 2 + 1) := by
  conv => lhs; rw [← List.take_append_drop (o / 2) c.es]
  rw [List.drop_eq_getElem_cons hlt, hm]
 cases h with
 | zero => simp only [toL, es_node]; exact he
 | succ h =>
  obtain ⟨es, cs⟩ := c
  simp only [es_node, cs_node] at *
  replace hlt : o / 2 < es.length := hlt
  have hl := hb.2.2.1
  simp only [es_node, cs_node] at hl
  have hlt : o / 2 < es.length := hlt
  generalize hD : es.take (o / 2) = D1 at *
  generalize hE : es.drop (o / 2 + 1) = D2 at *
  have l1 : D1.length = o / 2 := by rw [← hD]; simp; omega
  have l2 : D2.length = es.length - (o / 2 + 1) := by rw [← hE]; simp
  obtain ⟨C1, c1, hc1⟩ : ∃ C1 c1, cs.take (o / 2 + 1) = C1 ++ [c1] := by
   have : cs.take (o / 2 + 1) ≠ [] := by intro e; have := congrArg List.length e; rw [List.length_take, List.length_nil] at this; omega
   exact ⟨_, _, (List.dropLast_concat_getLast this).symm⟩
  obtain ⟨c2, C2, hc2⟩ : ∃ c2 C2, cs.drop (o / 2 + 1) = c2 :: C2 := by
   cases hd : cs.drop (o / 2 + 1) with
   | nil => have := congrArg List.length hd; rw [List.length_drop, List.length_nil] at this; omega
   | cons a b => exact ⟨a, b, rfl⟩
  have lc1 : D1.length = C1.length := by
   have := congrArg List.length hc1
   simp at this
   omega
  rw [hc1, hc2, toL_last h _ _ _ lc1, toL_cons]
  have hcs : cs = C1 ++ c1 :: c2 :: C2 := by
   conv => lhs; rw [← List.take_append_drop (o / 2 + 1) cs]
   rw [hc1, hc2]; simp
  rw [he, hcs, toL_split h D1 (m :: D2) C1 (c2 :: C2) c1 lc1, post]
  simp
theorem split_at {α : Type} {l : List α} {i : Nat} {x : α} (h : l[i]? = some x) : l = l.take i ++ x :: l.drop (i + 1) := by
 obtain ⟨hlt, hx⟩ := List.getElem?_eq_some_iff.1 h
 conv => lhs; rw [← List.take_append_drop i l]
 rw [List.drop_eq_getElem_cons hlt, hx]
theorem split_spec {o h : Nat} (ho : 3 ≤ o) {x : T κ ν} {i : Nat} {c : T κ ν} (hx : x.cs.length = x.es.length + 1) (hc : x.cs[i]? = some c) (hb : Body o h (least o) o c) (hlen : c.es.length = o)
 (hk : ∀ d ∈ x.cs.take i, Body o h (least o) (o - 1) d) (hk' : ∀ d ∈ x.cs.drop (i + 1), Body o h (least o) (o - 1) d) :
 (splitT o i x).es.length = x.es.length + 1 ∧ Body o (h + 1) (x.es.length + 1) (x.es.length + 1) (splitT o i x) ∧ toL (h + 1) (splitT o i x) = toL (h + 1) x := by
 obtain ⟨hlt, _⟩ := List.getElem?_eq_some_iff.1 hc
 have hm0 : o / 2 < c.es.length := by omega
 obtain ⟨m, hm⟩ : ∃ m, c.es[o / 2]? = some m := ⟨_, List.getElem?_eq_getElem hm0⟩
 have e : splitT o i x = .node (x.es.take i ++ m :: x.es.drop i)
  (x.cs.take i ++ .node (c.es.take (o / 2)) (c.cs.take (o / 2 + 1)) :: .node (c.es.drop (o / 2 + 1)) (c.cs.drop (o / 2 + 1)) :: x.cs.drop (i + 1)) := by
  unfold splitT; rw [hc]; simp only [hm]
 have hl1 : (x.es.take i).length = (x.cs.take i).length := by simp; omega
 have hle : (x.es.take i ++ m :: x.es.drop i).length = x.es.length + 1 := by simp; omega
 have hlc : (x.cs.take i ++ T.node (c.es.take (o / 2)) (c.cs.take (o / 2 + 1)) :: .node (c.es.drop (o / 2 + 1)) (c.cs.drop (o / 2 + 1)) :: x.cs.drop (i + 1)).length = x.es.length + 2 := by simp; omega
 rw [e]
 refine ⟨hle, ⟨Nat.le_of_eq hle.symm, Nat.le_of_eq hle, by simp only [cs_node, es_node]; rw [hlc, hle], fun d hd => ?_⟩, ?_⟩
 · simp only [cs_node] at hd
   rcases List.mem_append.1 hd with hd | hd
   · exact hk d hd
   · have k1 : Body o h (least o) (o - 1) (T.node (c.es.take (o / 2)) (c.cs.take (o / 2 + 1))) ∧ Body o h (least o) (o - 1) (T.node (c.es.drop (o / 2 + 1)) (c.cs.drop (o / 2 + 1))) := by
      cases h with
      | zero =>
       have hz := hb.2.2
       simp only [Body, es_node, cs_node, List.length_take, List.length_drop, hz, List.take_nil, List.drop_nil, least, and_true]
       omega
      | succ h =>
       obtain ⟨_, _, hz, hkk⟩ := hb
       simp only [Body, es_node, cs_node, List.length_take, List.length_drop, hz, least]
       refine ⟨⟨by omega, by omega, by omega, fun d hd => hkk d (List.mem_of_mem_take hd)⟩, ⟨by omega, by omega, by omega, fun d hd => hkk d (List.mem_of_mem_drop hd)⟩⟩
     rcases List.mem_cons.1 hd with rfl | hd
     · exact k1.1
     · rcases List.mem_cons.1 hd with rfl | hd
       · exact k1.2
       · exact hk' d hd
 · have hxe : x = .node (x.es.take i ++ x.es.drop i) (x.cs.take i ++ c :: x.cs.drop (i + 1)) := by
    rw [List.take_append_drop, ← split_at hc, T.eta]
   conv => rhs; rw [hxe]
   rw [toL_split h _ _ _ _ _ hl1, toL_split h _ _ _ _ _ hl1, toL_halves hb hm, post]
   simp
theorem take_set_lt {α : Type} (l : List α) (i : Nat) (x : α) : (l.set i x).take i = l.take i := List.take_set_of_le (Nat.le_refl _)
theorem drop_set_lt {α : Type} (l : List α) (i : Nat) (x : α) : (l.set i x).drop (i + 1) = l.drop (i + 1) := List.drop_set_of_lt (by omega)
theorem set_at {α : Type} {l : List α} {i : Nat} {x : α} (h : l[i]? = some x) (y : α) : l.set i y = l.take i ++ y :: l.drop (i + 1) := by
 obtain ⟨hlt, _⟩ := List.getElem?_eq_some_iff.1 h
 rw [List.set_eq_take_append_cons_drop, if_pos hlt]
end
section
variable {κ ν : Type} [KOrd κ]
theorem pre_lt {f : T κ ν → M κ ν} {k : κ} : ∀ {A : M κ ν} {C : List (T κ ν)}, AllLt A k → AscM (pre f A C) → AllLt (pre f A C) k
 | [], C, _, _ => by cases C <;> exact AllLt.nil k
 | a :: A, [], h, _ => h
 | a :: A, c :: C, h, ha => by
  rw [pre] at ha ⊢
  obtain ⟨h1, h2, h3, h4, h5⟩ := ha.mid
  have hk := h a (by simp)
  refine AllLt.append (fun x hx => ltK_trans (h3 x hx) hk) ?_
  intro x hx
  rcases List.mem_cons.1 hx with rfl | hx
  · exact hk
  · exact pre_lt (fun y hy => h y (List.mem_cons_of_mem _ hy)) h2 x hx
theorem post_gt {f : T κ ν → M κ ν} {k : κ} : ∀ {B : M κ ν} {C : List (T κ ν)}, AllGt k B → AscM (post f B C) → AllGt k (post f B C)
 | [], C, _, _ => by cases C <;> exact AllGt.nil k
 | b :: B, [], h, _ => h
 | b :: B, c :: C, h, ha => by
  rw [post] at ha ⊢
  obtain ⟨h1, h2⟩ := AscM.cons.1 (by simpa using ha)
  have hk := h b (by simp)
  intro x hx
  rcases List.mem_cons.1 hx with rfl | hx
  · exact hk
  · exact ltK_trans hk (h1 x hx)
theorem asc_es {h : Nat} {x : T κ ν} (ha : AscM (toL h x)) : AscM x.es := ha.sublist (sub_toL h x)
/-! Where a key is in a node. -/
def posK (es : M κ ν) (k : κ) : Nat := (es.takeWhile fun x => decide (ltK x.1 k)).length
def hasK (es : M κ ν) (k : κ) : Bool := match es[posK es k]? with | some x => eqK x.1 k | none => false
theorem posK_le (es : M κ ν) (k : κ) : posK es k ≤ es.length := (List.takeWhile_sublist _).length_le
theorem posK_take (es : M κ ν) (k : κ) : es.take (posK es k) = es.takeWhile fun x => decide (ltK x.1 k) := take_takeWhile _ _
theorem posK_drop (es : M κ ν) (k : κ) : es.drop (posK es k) = es.dropWhile fun x => decide (ltK x.1 k) := drop_takeWhile _ _
theorem posK_lt (es : M κ ν) (k : κ) : AllLt (es.take (posK es k)) k := by
 rw [posK_take]
 intro x hx
 simpa using mem_takeWhile hx
theorem posK_head {es : M κ ν} {k : κ} {x : κ × ν} {m : M κ ν} (h : es.drop (posK es k) = x :: m) : ¬ ltK x.1 k := by
 rw [posK_drop] at h
 simpa using dropWhile_head h
theorem hasK_yes {es : M κ ν} {k : κ} (h : hasK es k = true) : ∃ x m, es.drop (posK es k) = x :: m ∧ x.1 = k := by
 unfold hasK at h
 rw [getElem?_drop0] at h
 cases hd : es.drop (posK es k) with
 | nil => rw [hd] at h; simp at h
 | cons x m => rw [hd] at h; exact ⟨x, m, rfl, eqK_iff.1 (by simpa using h)⟩
theorem hasK_no {es : M κ ν} {k : κ} (ha : AscM es) (h : hasK es k = false) : AllGt k (es.drop (posK es k)) := by
 unfold hasK at h
 rw [getElem?_drop0] at h
 cases hd : es.drop (posK es k) with
 | nil => exact AllGt.nil k
 | cons x m =>
  rw [hd] at h
  have hx := ltK_of_not (posK_head hd) (eqK_not.1 (by simpa using h))
  have hs : AscM (x :: m) := by rw [← hd]; exact ha.sublist (List.drop_sublist _ _)
  obtain ⟨h1, _⟩ := AscM.cons.1 hs
  intro y hy
  rcases List.mem_cons.1 hy with rfl | hy
  · exact hx
  · exact ltK_trans hx (h1 y hy)
def putT (o : Nat) : Nat → T κ ν → κ → ν → T κ ν
 | 0, x, k, v => if hasK x.es k then .node (x.es.set (posK x.es k) (k, v)) x.cs else .node (x.es.take (posK x.es k) ++ (k, v) :: x.es.drop (posK x.es k)) x.cs
 | h + 1, x, k, v => if hasK x.es k then .node (x.es.set (posK x.es k) (k, v)) x.cs else match x.cs[posK x.es k]? with
  | none => x
  | some c =>
   let c' := putT o h c k v
   let x' := T.node x.es (x.cs.set (posK x.es k) c')
   if o ≤ c'.es.length then splitT o (posK x.es k) x' else x'
def getT : Nat → T κ ν → κ → Option ν
 | 0, x, k => if hasK x.es k then (x.es[posK x.es k]?).map (·.2) else none
 | h + 1, x, k => if hasK x.es k then (x.es[posK x.es k]?).map (·.2) else match x.cs[posK x.es k]? with
  | none => none
  | some c => getT h c k
/-- **put.** -/
theorem putT_spec {o : Nat} (ho : 3 ≤ o) (k : κ) (v : ν) : ∀ (h lo : Nat) (x : T κ ν), Body o h lo (o - 1) x → AscM (toL h x) →
 Body o h lo o (putT o h x k v) ∧ toL h (putT o h x k v) = putM (toL h x) k v
 | 0, lo, x, hb, ha => by
  have hc := hb.2.2
  have h1 := hb.1
  have h2 := hb.2.1
  have hp := posK_le x.es k
  have hlt := posK_lt x.es k
  rw [putT]
  cases hh : hasK x.es k
  · have hgt := hasK_no (asc_es ha) hh
    simp only [Bool.false_eq_true, if_false]
    refine ⟨⟨?_, ?_, hc⟩, ?_⟩
    · simp only [es_node, List.length_append, List.length_take, List.length_cons, List.length_drop]; omega
    · simp only [es_node, List.length_append, List.length_take, List.length_cons, List.length_drop]; omega
    · simp only [toL, es_node]
      conv => rhs; rw [← List.take_append_drop (posK x.es k) x.es]
      rw [putM_new hlt hgt]
  · obtain ⟨y, m, hd, he⟩ := hasK_yes hh
    have hy : x.es[posK x.es k]? = some y := by rw [getElem?_drop0, hd]; rfl
    have hdr : x.es.drop (posK x.es k + 1) = m := by rw [← List.drop_drop, hd]; rfl
    simp only [if_true]
    refine ⟨⟨by simp only [es_node, List.length_set]; exact h1, by simp only [es_node, List.length_set]; omega, hc⟩, ?_⟩
    simp only [toL, es_node]
    conv => rhs; rw [split_at hy]
    rw [set_at hy, putM_here hlt he]
 | h + 1, lo, x, hb, ha => by
  obtain ⟨h1, h2, h3, h4⟩ := hb
  have hp := posK_le x.es k
  have hlt := posK_lt x.es k
  rw [putT]
  cases hh : hasK x.es k
  · have hgt := hasK_no (asc_es ha) hh
    simp only [Bool.false_eq_true, if_false]
    obtain ⟨c, hc⟩ : ∃ c, x.cs[posK x.es k]? = some c := ⟨_, List.getElem?_eq_getElem (by omega)⟩
    simp only [hc]
    have hcm := List.mem_of_getElem? hc
    have hl1 : (x.es.take (posK x.es k)).length = (x.cs.take (posK x.es k)).length := by simp; omega
    have hxe : toL (h + 1) x = pre (toL h) (x.es.take (posK x.es k)) (x.cs.take (posK x.es k)) ++ toL h c ++ post (toL h) (x.es.drop (posK x.es k)) (x.cs.drop (posK x.es k + 1)) := by
     rw [← toL_split h _ _ _ _ _ hl1, List.take_append_drop, ← split_at hc, T.eta]
    rw [hxe] at ha
    obtain ⟨a1, a2, a3⟩ := AscM.append.1 ha
    obtain ⟨a4, a5, a6⟩ := AscM.append.1 a1
    obtain ⟨ih1, ih2⟩ := putT_spec ho k v h (least o) c (h4 c hcm) a5
    have hres : toL (h + 1) (.node x.es (x.cs.set (posK x.es k) (putT o h c k v))) = putM (toL (h + 1) x) k v := by
     rw [set_at hc]
     have := toL_split h (x.es.take (posK x.es k)) (x.es.drop (posK x.es k)) (x.cs.take (posK x.es k)) (x.cs.drop (posK x.es k + 1)) (putT o h c k v) hl1
     rw [List.take_append_drop] at this
     rw [this, hxe, putM_gt (post_gt hgt a2), putM_lt (pre_lt hlt a4), ih2]
    have hks : ∀ d ∈ x.cs.take (posK x.es k), Body o h (least o) (o - 1) d := fun d hd => h4 d (List.mem_of_mem_take hd)
    have hks' : ∀ d ∈ x.cs.drop (posK x.es k + 1), Body o h (least o) (o - 1) d := fun d hd => h4 d (List.mem_of_mem_drop hd)
    split
    · rename_i hge
      have hi := ih1.hi
      have hlt' : posK x.es k < x.cs.length := by omega
      obtain ⟨s1, s2, s3⟩ := split_spec (o := o) (h := h) ho (x := .node x.es (x.cs.set (posK x.es k) (putT o h c k v))) (i := posK x.es k) (c := putT o h c k v) (by simpa [cs_node, es_node] using h3) (by simp [cs_node, hlt']) ih1 (by omega)
       (by simp only [cs_node]; rw [take_set_lt]; exact hks) (by simp only [cs_node]; rw [drop_set_lt]; exact hks')
      refine ⟨s2.mono ?_ ?_, by rw [s3, hres]⟩
      · rw [s1]; simp only [es_node]; omega
      · rw [s1]; simp only [es_node]; omega
    · rename_i hge
      refine ⟨⟨h1, by simp only [es_node]; omega, by simpa [cs_node, es_node] using h3, fun d hd => ?_⟩, hres⟩
      simp only [cs_node] at hd
      rw [set_at hc] at hd
      rcases List.mem_append.1 hd with hd | hd
      · exact hks d hd
      · rcases List.mem_cons.1 hd with rfl | hd
        · exact ih1.mono ih1.lo (by omega)
        · exact hks' d hd
  · obtain ⟨y, m, hd, he⟩ := hasK_yes hh
    have hy : x.es[posK x.es k]? = some y := by rw [getElem?_drop0, hd]; rfl
    simp only [if_true]
    refine ⟨⟨by simp only [es_node, List.length_set]; exact h1, by simp only [es_node, List.length_set]; omega, by simpa [cs_node, es_node] using h3, h4⟩, ?_⟩
    obtain ⟨c, hc⟩ : ∃ c, x.cs[posK x.es k]? = some c := ⟨_, List.getElem?_eq_getElem (by omega)⟩
    have hl1 : (x.es.take (posK x.es k)).length = (x.cs.take (posK x.es k)).length := by simp; omega
    have hdr : x.es.drop (posK x.es k + 1) = m := by rw [← List.drop_drop, hd]; rfl
    have hlt2 : posK x.es k < x.es.length := (List.getElem?_eq_some_iff.1 hy).1
    obtain ⟨c2, hc2⟩ : ∃ c2 C, x.cs.drop (posK x.es k + 1) = c2 :: C := by
     cases hdd : x.cs.drop (posK x.es k + 1) with
     | nil => have := congrArg List.length hdd; rw [List.length_drop, List.length_nil] at this; omega
     | cons a b => exact ⟨a, b, rfl⟩
    obtain ⟨C2, hc2⟩ := hc2
    have hxe : toL (h + 1) x = pre (toL h) (x.es.take (posK x.es k)) (x.cs.take (posK x.es k)) ++ toL h c ++ y :: (toL h c2 ++ post (toL h) m C2) := by
     have h0 : toL (h + 1) x = pre (toL h) (x.es.take (posK x.es k)) (x.cs.take (posK x.es k)) ++ toL h c ++ post (toL h) (x.es.drop (posK x.es k)) (x.cs.drop (posK x.es k + 1)) := by
      rw [← toL_split h _ _ _ _ _ hl1, List.take_append_drop, ← split_at hc, T.eta]
     rw [h0, hd, hc2]; rfl
    have hres : toL (h + 1) (.node (x.es.set (posK x.es k) (k, v)) x.cs) = pre (toL h) (x.es.take (posK x.es k)) (x.cs.take (posK x.es k)) ++ toL h c ++ (k, v) :: (toL h c2 ++ post (toL h) m C2) := by
     rw [set_at hy, hdr]
     have := toL_split h (x.es.take (posK x.es k)) ((k, v) :: m) (x.cs.take (posK x.es k)) (x.cs.drop (posK x.es k + 1)) c hl1
     rw [← split_at hc] at this
     rw [this, hc2]; rfl
    rw [hres, hxe]
    rw [hxe] at ha
    obtain ⟨b1, b2, b3, b4, b5⟩ := ha.mid
    rw [putM_here (fun z hz => by have := b3 z hz; rwa [he] at this) he]
/-- Get. -/
theorem getT_spec {o : Nat} (k : κ) : ∀ (h lo hi : Nat) (x : T κ ν), Body o h lo hi x → AscM (toL h x) → getT h x k = getM (toL h x) k
 | 0, lo, hi, x, hb, ha => by
  have hlt := posK_lt x.es k
  rw [getT]
  cases hh : hasK x.es k
  · have hgt := hasK_no (asc_es ha) hh
    simp only [Bool.false_eq_true, if_false, toL]
    conv => rhs; rw [← List.take_append_drop (posK x.es k) x.es]
    rw [getM_none hlt hgt]
  · obtain ⟨y, m, hd, he⟩ := hasK_yes hh
    have hy : x.es[posK x.es k]? = some y := by rw [getElem?_drop0, hd]; rfl
    simp only [if_true, hy, Option.map_some, toL]
    conv => rhs; rw [split_at hy]
    rw [getM_here hlt he]
 | h + 1, lo, hi, x, hb, ha => by
  obtain ⟨h1, h2, h3, h4⟩ := hb
  have hp := posK_le x.es k
  have hlt := posK_lt x.es k
  obtain ⟨c, hc⟩ : ∃ c, x.cs[posK x.es k]? = some c := ⟨_, List.getElem?_eq_getElem (by omega)⟩
  have hl1 : (x.es.take (posK x.es k)).length = (x.cs.take (posK x.es k)).length := by simp; omega
  have hxe : toL (h + 1) x = pre (toL h) (x.es.take (posK x.es k)) (x.cs.take (posK x.es k)) ++ toL h c ++ post (toL h) (x.es.drop (posK x.es k)) (x.cs.drop (posK x.es k + 1)) := by
   rw [← toL_split h _ _ _ _ _ hl1, List.take_append_drop, ← split_at hc, T.eta]
  rw [hxe] at ha
  obtain ⟨a1, a2, a3⟩ := AscM.append.1 ha
  obtain ⟨a4, a5, a6⟩ := AscM.append.1 a1
  rw [getT, hxe]
  cases hh : hasK x.es k
  · have hgt := hasK_no (asc_es (h := h + 1) (by rw [hxe]; exact ha)) hh
    simp only [Bool.false_eq_true, if_false, hc]
    rw [getT_spec k h (least o) (o - 1) c (h4 c (List.mem_of_getElem? hc)) a5, getM_gt (post_gt hgt a2), getM_lt (pre_lt hlt a4)]
  · obtain ⟨y, m, hd, he⟩ := hasK_yes hh
    have hy : x.es[posK x.es k]? = some y := by rw [getElem?_drop0, hd]; rfl
    simp only [if_true, hy, Option.map_some]
    have hlt2 : posK x.es k < x.es.length := (List.getElem?_eq_some_iff.1 hy).1
    obtain ⟨c2, C2, hc2⟩ : ∃ c2 C, x.cs.drop (posK x.es k + 1) = c2 :: C := by
     cases hdd : x.cs.drop (posK x.es k + 1) with
     | nil => have := congrArg List.length hdd; rw [List.length_drop, List.length_nil] at this; omega
     | cons a b => exact ⟨a, b, rfl⟩
    rw [hd, hc2, post] at ha ⊢
    obtain ⟨b1, b2, b3, b4, b5⟩ := AscM.mid (l := pre (toL h) (x.es.take (posK x.es k)) (x.cs.take (posK x.es k)) ++ toL h c) (m := toL h c2 ++ post (toL h) m C2) (x := y) (by simpa using ha)
    have := getM_here (l := pre (toL h) (x.es.take (posK x.es k)) (x.cs.take (posK x.es k)) ++ toL h c) (m := toL h c2 ++ post (toL h) m C2) (x := y) (k := k) (fun z hz => by have := b3 z hz; rwa [he] at this) he
    rw [← this]
    simp
end
end Go.Proofs.YtnefkkidfhmggaaGreat
/- Plain: integers and texts as keys; where the search stops. -/
namespace Go.Proofs.YtnefkkidfhmggaaGreat
def cmpS (a b : Int) : Int := if a < b then -1 else if b < a then 1 else 0
theorem cmpS_range (a b : Int) : cmpS a b = -1 ∨ cmpS a b = 0 ∨ cmpS a b = 1 := by
 unfold cmpS; split
 · exact .inl rfl
 · split
   · exact .inr (.inr rfl)
   · exact .inr (.inl rfl)
theorem cmpS_swap (a b : Int) : cmpS b a = - cmpS a b := by
 unfold cmpS
 by_cases h1 : a < b
 · have : ¬ b < a := by omega
   simp [h1, this]
 · by_cases h2 : b < a <;> simp [h1, h2]
theorem cmpS_zero {a b : Int} : cmpS a b = 0 ↔ a = b := by
 unfold cmpS
 by_cases h1 : a < b
 · simp [h1]; omega
 · by_cases h2 : b < a
   · simp [h1, h2]; omega
   · simp [h1, h2]; omega
theorem cmpS_neg {a b : Int} : cmpS a b < 0 ↔ a < b := by
 unfold cmpS
 by_cases h1 : a < b
 · simp [h1]
 · by_cases h2 : b < a <;> simp [h1, h2]
instance : KOrd Int where
 cmp := cmpS
 range := cmpS_range
 zero := cmpS_zero
 swap := cmpS_swap
 trans := fun h1 h2 => by rw [cmpS_neg] at *; omega
def bytes (s : ByteArray) : List UInt8 := s.data.toList
theorem bytes_inj {a b : ByteArray} (h : bytes a = bytes b) : a = b := by
 obtain ⟨⟨a⟩⟩ := a
 obtain ⟨⟨b⟩⟩ := b
 simpa [bytes] using h
theorem cmpB_range : ∀ a b : List UInt8, Lib.compareBytes a b = -1 ∨ Lib.compareBytes a b = 0 ∨ Lib.compareBytes a b = 1
 | [], [] => by simp [Lib.compareBytes]
 | [], _ :: _ => by simp [Lib.compareBytes]
 | _ :: _, [] => by simp [Lib.compareBytes]
 | a :: x, b :: y => by
  rw [Lib.compareBytes]
  split
  · exact .inl rfl
  · split
    · exact .inr (.inr rfl)
    · exact cmpB_range x y
theorem cmpB_zero : ∀ {a b : List UInt8}, Lib.compareBytes a b = 0 ↔ a = b
 | [], [] => by simp [Lib.compareBytes]
 | [], _ :: _ => by simp [Lib.compareBytes]
 | _ :: _, [] => by simp [Lib.compareBytes]
 | a :: x, b :: y => by
  rw [Lib.compareBytes]
  by_cases h : a < b
  · have hne : ¬ a = b := fun e => by subst e; exact UInt8.lt_irrefl _ h
    simp [h, hne]
  · by_cases h2 : b < a
    · have hne : ¬ a = b := fun e => by subst e; exact h h2
      simp [h, h2, hne]
    · have he : a = b := by
       rw [UInt8.lt_iff_toNat_lt] at h h2
       exact UInt8.toNat_inj.1 (by omega)
      subst he
      simp [cmpB_zero (a := x) (b := y)]
theorem cmpB_swap : ∀ a b : List UInt8, Lib.compareBytes b a = - Lib.compareBytes a b
 | [], [] => by simp [Lib.compareBytes]
 | [], _ :: _ => by simp [Lib.compareBytes]
 | _ :: _, [] => by simp [Lib.compareBytes]
 | a :: x, b :: y => by
  rw [Lib.compareBytes, Lib.compareBytes, cmpB_swap x y]
  by_cases h : a < b
  · have : ¬ b < a := by rw [UInt8.lt_iff_toNat_lt] at *; omega
    simp [h, this]
  · by_cases h2 : b < a <;> simp [h, h2]
theorem cmpB_trans : ∀ {a b c : List UInt8}, Lib.compareBytes a b < 0 → Lib.compareBytes b c < 0 → Lib.compareBytes a c < 0
 | [], [], _, h, _ => by simp [Lib.compareBytes] at h
 | _ :: _, [], _, h, _ => by simp [Lib.compareBytes] at h
 | _, _ :: _, [], _, h => by simp [Lib.compareBytes] at h
 | [], _ :: _, _ :: _, _, _ => by simp [Lib.compareBytes]
 | a :: x, b :: y, c :: z, h1, h2 => by
  rw [Lib.compareBytes] at h1 h2 ⊢
  by_cases hab : a < b
  · by_cases hbc : b < c
    · have : a < c := by rw [UInt8.lt_iff_toNat_lt] at *; omega
      simp [this]
    · by_cases hcb : c < b
      · simp [hbc, hcb] at h2
      · have : a < c := by rw [UInt8.lt_iff_toNat_lt] at *; omega
        simp [this]
  · by_cases hba : b < a
    · simp [hab, hba] at h1
    · simp only [hab, hba, if_false] at h1
      have e : a = b := by
       rw [UInt8.lt_iff_toNat_lt] at hab hba
       exact UInt8.toNat_inj.1 (by omega)
      subst e
      by_cases hbc : a < c
      · simp [hbc]
      · by_cases hcb : c < a
        · simp [hbc, hcb] at h2
        · simp only [hbc, hcb, if_false] at h2 ⊢
          exact cmpB_trans h1 h2
instance : KOrd ByteArray where
 cmp := fun a b => Lib.compareBytes (bytes a) (bytes b)
 range := fun _ _ => cmpB_range _ _
 zero := ⟨fun h => bytes_inj (cmpB_zero.1 h), fun h => by rw [h]; exact cmpB_zero.2 rfl⟩
 swap := fun _ _ => cmpB_swap _ _
 trans := cmpB_trans
section
variable {κ ν : Type} [KOrd κ]
theorem posK_eq {es : M κ ν} {k : κ} {i : Nat} (hi : i ≤ es.length) (h1 : ∀ j (h : j < es.length), j < i → ltK es[j].1 k) (h2 : ∀ h : i < es.length, ¬ ltK es[i].1 k) : posK es k = i := by
 unfold posK
 induction es generalizing i with
 | nil => simp at hi; simp [hi]
 | cons x es ih =>
  cases i with
  | zero =>
   have := h2 (by simp)
   simp only [List.getElem_cons_zero] at this
   simp [this]
  | succ i =>
   have h0 := h1 0 (by simp) (by omega)
   simp only [List.getElem_cons_zero] at h0
   simp only [List.takeWhile_cons, h0, decide_true, if_true, List.length_cons]
   rw [ih (i := i) (by simpa using hi) (fun j h hj => by have := h1 (j + 1) (by simpa using h) (by omega); simpa using this) (fun h => by have := h2 (by simpa using h); simpa using this)]
theorem hasK_at {es : M κ ν} {k : κ} {i : Nat} (h : posK es k = i) : hasK es k = if h : i < es.length then decide (KOrd.cmp es[i].1 k = 0) else false := by
 unfold hasK
 rw [h]
 by_cases hi : i < es.length
 · rw [dif_pos hi, List.getElem?_eq_getElem hi]; rfl
 · rw [dif_neg hi, List.getElem?_eq_none (by omega)]
end
end Go.Proofs.YtnefkkidfhmggaaGreat
/- Plain: values, rows, their total order. -/
namespace Go.Proofs.YtnefkkidfhmggaaGreat
structure Vl where
 kind : Int
 int : Int
 text : ByteArray
 deriving DecidableEq
abbrev Rw := List Vl
def orS (a b : Int) : Int := if a = 0 then b else a
def cmpV (a b : Vl) : Int := orS (cmpS a.kind b.kind) (orS (cmpS a.int b.int) (Lib.compareBytes (bytes a.text) (bytes b.text)))
/-- The lexicographic order of rows. -/
def cmpR : Rw → Rw → Int
 | [], [] => 0
 | [], _ :: _ => -1
 | _ :: _, [] => 1
 | a :: x, b :: y => if cmpV a b = 0 then cmpR x y else cmpV a b
theorem cmpV_zero {a b : Vl} : cmpV a b = 0 ↔ a = b := by
 obtain ⟨k, i, t⟩ := a
 obtain ⟨k', i', t'⟩ := b
 unfold cmpV orS
 by_cases h1 : cmpS k k' = 0
 · by_cases h2 : cmpS i i' = 0
   · simp only [h1, h2, if_true]
     rw [cmpB_zero]
     have e1 := cmpS_zero.1 h1
     have e2 := cmpS_zero.1 h2
     subst e1 e2
     constructor
     · intro h; rw [bytes_inj h]
     · intro h; cases h; rfl
   · simp only [h1, h2, if_true, if_false]
     have : ¬ i = i' := fun h => h2 (cmpS_zero.2 h)
     constructor
     · intro h; exact h.elim
     · intro h; cases h; exact this rfl
 · simp only [h1, if_false]
   constructor
   · intro h; exact absurd h (by simp)
   · intro h; cases h; exact h1 (cmpS_zero.2 rfl)
theorem cmpV_swap (a b : Vl) : cmpV b a = - cmpV a b := by
 unfold cmpV orS
 rw [cmpS_swap a.kind b.kind, cmpS_swap a.int b.int, cmpB_swap (bytes a.text) (bytes b.text)]
 by_cases h1 : cmpS a.kind b.kind = 0
 · by_cases h2 : cmpS a.int b.int = 0 <;> simp [h1, h2]
 · have : ¬ - cmpS a.kind b.kind = 0 := by omega
   simp [h1]
theorem cmpV_trans {a b c : Vl} (h1 : cmpV a b < 0) (h2 : cmpV b c < 0) : cmpV a c < 0 := by
 obtain ⟨k, i, t⟩ := a
 obtain ⟨k', i', t'⟩ := b
 obtain ⟨k'', i'', t''⟩ := c
 unfold cmpV orS at *
 simp only at *
 by_cases p1 : cmpS k k' = 0
 · have e1 := cmpS_zero.1 p1
   subst e1
   by_cases p2 : cmpS k k'' = 0
   · have e2 := cmpS_zero.1 p2
     subst e2
     simp only [p1, if_true] at *
     by_cases q1 : cmpS i i' = 0
     · have e3 := cmpS_zero.1 q1
       subst e3
       by_cases q2 : cmpS i i'' = 0
       · simp only [q1, q2, if_true] at *
         exact cmpB_trans h1 h2
       · simp only [q2, if_false] at *
         exact h2
     · simp only [q1, if_false] at h1
       rw [cmpS_neg] at h1
       by_cases q2 : cmpS i' i'' = 0
       · have e4 := cmpS_zero.1 q2
         subst e4
         simp only [q1, if_false]
         exact cmpS_neg.2 h1
       · simp only [q2, if_false] at h2
         rw [cmpS_neg] at h2
         have q3 : ¬ cmpS i i'' = 0 := fun h => by have := cmpS_zero.1 h; omega
         simp only [q3, if_false]
         exact cmpS_neg.2 (by omega)
   · simp only [p1, p2, if_true, if_false] at *
     exact h2
 · simp only [p1, if_false] at h1
   rw [cmpS_neg] at h1
   by_cases p2 : cmpS k' k'' = 0
   · have e2 := cmpS_zero.1 p2
     subst e2
     simp only [p1, if_false]
     exact cmpS_neg.2 h1
   · simp only [p2, if_false] at h2
     rw [cmpS_neg] at h2
     have p3 : ¬ cmpS k k'' = 0 := fun h => by have := cmpS_zero.1 h; omega
     simp only [p3, if_false]
     exact cmpS_neg.2 (by omega)
theorem cmpR_zero : ∀ {a b : Rw}, cmpR a b = 0 ↔ a = b
 | [], [] => by simp [cmpR]
 | [], _ :: _ => by simp [cmpR]
 | _ :: _, [] => by simp [cmpR]
 | a :: x, b :: y => by
  rw [cmpR]
  split
  · rename_i h
    rw [cmpR_zero (a := x) (b := y)]
    have := cmpV_zero.1 h
    subst this
    simp
  · rename_i h
    have hne : ¬ a = b := fun e => h (cmpV_zero.2 e)
    simp [h, hne]
theorem cmpR_step {R S : Rw} {k : Nat} (h1 : k < R.length) (h2 : k < S.length) : cmpR (R.drop k) (S.drop k) = if cmpV R[k] S[k] = 0 then cmpR (R.drop (k + 1)) (S.drop (k + 1)) else cmpV R[k] S[k] := by
 rw [List.drop_eq_getElem_cons h1, List.drop_eq_getElem_cons h2, cmpR]
theorem cmpR_long {R S : Rw} {k : Nat} (h1 : k < R.length) (h2 : S.length ≤ k) : cmpR (R.drop k) (S.drop k) = 1 := by
 rw [List.drop_eq_getElem_cons h1, List.drop_of_length_le h2, cmpR]
theorem cmpR_short {R S : Rw} {k : Nat} (h1 : R.length ≤ k) (h2 : k < S.length) : cmpR (R.drop k) (S.drop k) = -1 := by
 rw [List.drop_eq_getElem_cons h2, List.drop_of_length_le h1, cmpR]
theorem cmpR_both {R S : Rw} {k : Nat} (h1 : R.length ≤ k) (h2 : S.length ≤ k) : cmpR (R.drop k) (S.drop k) = 0 := by
 rw [List.drop_of_length_le h1, List.drop_of_length_le h2, cmpR]
end Go.Proofs.YtnefkkidfhmggaaGreat
/- Slices that are read: their elements lie there, in none of the blocks X. Values, rows, integers, bytes in memory. -/
namespace Go.Proofs.YtnefkkidfhmggaaGreat
open Go Go.RowKit
/-- A slice of n elements of some cells each. -/
def SlX (X : List Nat) (w : World) (size n : Nat) (xs : List Value) (v : Value) : Prop :=
 n ≤ maxLen ∧ xs.length = n * size ∧ ∃ a c, v = .slice a n c ∧ ∀ j (h : j < xs.length), ∃ b o, a = some ⟨b, o, none⟩ ∧ b ∉ X ∧ w.cell? ⟨b, o + j, none⟩ = some xs[j]
theorem SlX.mono {X : List Nat} {w w' : World} {size n : Nat} {xs : List Value} {v : Value} (h : SlX X w size n xs v) (hb : Below w.heap.size w w') : SlX X w' size n xs v := by
 obtain ⟨h1, h2, a, c, h3, h4⟩ := h
 refine ⟨h1, h2, a, c, h3, fun j hj => ?_⟩
 obtain ⟨b, o, h5, h6, h7⟩ := h4 j hj
 exact ⟨b, o, h5, h6, (hb.cell (p := ⟨b, o + j, none⟩) (World.block_lt_of_cell? w ⟨b, o + j, none⟩ h7)).trans h7⟩
theorem SlX.nil (X : List Nat) (w : World) (size : Nat) (a : Option Addr) (c : Nat) : SlX X w size 0 [] (.slice a 0 c) :=
 ⟨Nat.zero_le _, by simp, a, c, rfl, fun j h => by simp at h⟩
theorem SlX.shape {X : List Nat} {w : World} {size n : Nat} {xs : List Value} {v : Value} (h : SlX X w size n xs v) : ∃ a c, v = .slice a n c := by
 obtain ⟨_, _, a, c, h3, _⟩ := h
 exact ⟨a, c, h3⟩
theorem SlX.has {X : List Nat} {w : World} {size n m : Nat} {xs : List Value} {a : Option Addr} {c : Nat} (h : SlX X w size n xs (.slice a m c)) (h0 : 0 < xs.length) : ∃ b o, a = some ⟨b, o, none⟩ ∧ b ∉ X ∧ b < w.heap.size := by
 obtain ⟨_, _, a', c', h3, h4⟩ := h
 obtain ⟨b, o, h5, h6, h7⟩ := h4 0 h0
 injection h3 with h3
 exact ⟨b, o, h3.trans h5, h6, World.block_lt_of_cell? w ⟨b, o + 0, none⟩ h7⟩
theorem SlX.cell {X : List Nat} {w : World} {size n m : Nat} {xs : List Value} {b o c : Nat} (h : SlX X w size n xs (.slice (some ⟨b, o, none⟩) m c)) (j : Nat) (hj : j < xs.length) : w.cell? ⟨b, o + j, none⟩ = some xs[j] := by
 obtain ⟨_, _, a', c', h3, h4⟩ := h
 obtain ⟨b', o', h5, h6, h7⟩ := h4 j hj
 injection h3 with h3
 rw [h5] at h3
 injection h3 with h3
 injection h3 with h3 h4
 subst h3 h4
 exact h7
theorem SlX.len {X : List Nat} {w : World} {size n m : Nat} {xs : List Value} {a : Option Addr} {c : Nat} (h : SlX X w size n xs (.slice a m c)) : m = n ∧ n ≤ maxLen ∧ xs.length = n * size := by
 obtain ⟨h1, h2, a', c', h3, h4⟩ := h
 injection h3 with _ h3 _
 exact ⟨h3, h1, h2⟩
/-- A row in a block of its own is one. -/
theorem SlX.of_own {X : List Nat} {w : World} {B size n : Nat} {t : TypeId} {xs : List Value} {v : Value} (h : w.ownsRow B t size v n xs) (hl : xs.length = n * size) (hX : ∀ k ∈ v.ownBlock.toList, k ∉ X) : SlX X w size n xs v := by
 obtain ⟨_, ⟨rfl, rfl⟩ | ⟨g, cap, cur, rfl, hb, hg, hn, hc, hs, ht⟩⟩ := h
 · cases xs with
   | nil => exact SlX.nil _ _ _ _ _
   | cons => simp at hl
 · refine ⟨Nat.le_trans hn hc, hl, _, _, rfl, fun j hj => ⟨g, 0, rfl, hX g (by simp [Value.ownBlock]), ?_⟩⟩
   rw [Nat.zero_add, cell_of_row w g j cur t (0, 0) hg]
   have h1 : xs[j]? = some xs[j] := List.getElem?_eq_getElem hj
   have h2 : xs[j]? = cur[j]? := by rw [← ht, List.getElem?_take, if_pos (by omega)]; simp
   exact h2.symm.trans h1
theorem SlX.of_row {X : List Nat} {w : World} {size n : Nat} {t : TypeId} {xs : List Value} {v : Value} {f : List Nat} (h : (rowA t size v n xs).p w f) (hl : xs.length = n * size) (hX : ∀ k ∈ f, k ∉ X) : SlX X w size n xs v :=
 SlX.of_own h.1 hl (by rw [← h.2]; exact hX)
theorem SlX.of_sl {X : List Nat} {w : World} {t : TypeId} {xs : List Value} {v : Value} {f : List Nat} (h : (slA t v xs).p w f) (hX : ∀ k ∈ f, k ∉ X) : SlX X w 1 xs.length xs v :=
 SlX.of_own h.1 (by omega) (by rw [← h.2]; exact hX)
/-- A literal slice in a block. -/
theorem SlX.of_blk {X : List Nat} {w : World} {b size n c : Nat} {t : TypeId} {fr : Nat × Nat} {cs : Array Value} (h : w.heap[b]? = some (.cells cs t fr)) (hX : b ∉ X) (hm : n ≤ maxLen) (hl : cs.size = n * size) : SlX X w size n cs.toList (.slice (some ⟨b, 0, none⟩) n c) :=
 ⟨hm, by simpa using hl, _, _, rfl, fun j hj => ⟨b, 0, rfl, hX, by rw [Nat.zero_add, cell_of_row w b j cs t fr h]; simp⟩⟩
/-! Values. -/
def Vl.cells (v : Vl) : List Value := [.int .i64 v.kind, .int .i64 v.int, .string v.text]
def Vl.val (v : Vl) : Value := .agg #[.int .i64 v.kind, .int .i64 v.int, .string v.text]
def flat (vs : Rw) : List Value := vs.flatMap Vl.cells
theorem flat_get (vs : Rw) (i : Nat) (hi : i < vs.length) (j : Nat) (hj : j < 3) : (flat vs)[i * 3 + j]? = vs[i].cells[j]? := by
 induction vs generalizing i with
 | nil => simp at hi
 | cons x l ih =>
  cases i with
  | zero =>
   simp only [flat, List.flatMap_cons, Nat.zero_mul, Nat.zero_add, List.getElem_cons_zero]
   rw [List.getElem?_append_left (by simpa [Vl.cells] using hj)]
  | succ i =>
   have := ih i (by simpa using hi)
   simp only [flat, List.flatMap_cons, List.getElem_cons_succ] at this ⊢
   rw [List.getElem?_append_right (by simp [Vl.cells]; omega), ← this]
   congr 1
   simp [Vl.cells]
   omega
theorem length_flat (l : Rw) : (flat l).length = l.length * 3 := by
 induction l with
 | nil => rfl
 | cons x l ih => simp only [flat, List.flatMap_cons, List.length_append, List.length_cons] at ih ⊢; rw [ih]; simp [Vl.cells]; omega
theorem one_flat (l : Rw) : ∀ u ∈ flat l, u.oneCell' = true := by
 intro u hu
 simp only [flat, List.mem_flatMap] at hu
 obtain ⟨v, _, hv⟩ := hu
 simp [Vl.cells] at hv
 rcases hv with rfl | rfl | rfl <;> rfl
/-- A row of values lies at the slice. -/
def ValsX (X : List Nat) (w : World) (vs : Rw) (v : Value) : Prop := SlX X w 3 vs.length (flat vs) v ∧ ∀ x ∈ vs, x.text.size ≤ maxLen
abbrev ValsAt (w : World) (vs : Rw) (v : Value) : Prop := ValsX [] w vs v
theorem ValsX.mono {X : List Nat} {w w' : World} {vs : Rw} {v : Value} (h : ValsX X w vs v) (hb : Below w.heap.size w w') : ValsX X w' vs v := ⟨h.1.mono hb, h.2⟩
theorem ValsX.txt {X : List Nat} {w : World} {vs : Rw} {s : Value} (h : ValsX X w vs s) : ∀ v ∈ vs, v.text.size ≤ maxLen := h.2
theorem ValsX.shape {X : List Nat} {w : World} {vs : Rw} {s : Value} (h : ValsX X w vs s) : ∃ a n c, s = .slice a n c ∧ n = vs.length ∧ n ≤ maxLen := by
 obtain ⟨a, c, e⟩ := h.1.shape
 exact ⟨a, _, c, e, rfl, h.1.1⟩
theorem ValsX.nil (X : List Nat) (w : World) (a : Option Addr) (c : Nat) : ValsX X w [] (.slice a 0 c) := ⟨SlX.nil _ _ _ _ _, by simp⟩
theorem ValsX.cell {X : List Nat} {w : World} {vs : Rw} {b o n cap : Nat} (h : ValsX X w vs (.slice (some ⟨b, o, none⟩) n cap)) (i : Nat) (hi : i < vs.length) :
 w.cell? ⟨b, o + i * 3, none⟩ = some (.int .i64 vs[i].kind) ∧ w.cell? ⟨b, o + i * 3 + 1, none⟩ = some (.int .i64 vs[i].int) ∧ w.cell? ⟨b, o + i * 3 + 2, none⟩ = some (.string vs[i].text) := by
 have hl := length_flat vs
 have hc : ∀ j, j < 3 → w.cell? ⟨b, o + (i * 3 + j), none⟩ = vs[i].cells[j]? := fun j hj => by
  have hlt : i * 3 + j < (flat vs).length := by omega
  rw [h.1.cell (i * 3 + j) hlt, ← flat_get vs i hi j hj, List.getElem?_eq_getElem hlt]
 exact ⟨hc 0 (by omega), hc 1 (by omega), hc 2 (by omega)⟩
theorem ValsX.has {X : List Nat} {w : World} {L : Rw} {a : Option Addr} {n c : Nat} (h : ValsX X w L (.slice a n c)) (i : Nat) (hi : i < n) : ∃ b o, a = some ⟨b, o, none⟩ := by
 have := h.1.len
 obtain ⟨b, o, h1, _⟩ := h.1.has (by omega)
 exact ⟨b, o, h1⟩
theorem ValsX.lt {X : List Nat} {w : World} {L : Rw} {b o n c : Nat} (h : ValsX X w L (.slice (some ⟨b, o, none⟩) n c)) {i : Nat} (hi : i < L.length) : b < w.heap.size :=
 World.block_lt_of_cell? w _ (h.cell i hi).1
/-- Integers, bytes. -/
def intC (n : Int) : Value := .int .i64 n
def u8C (b : UInt8) : Value := .int .u8 b.toNat
def IntsX (X : List Nat) (w : World) (l : List Int) (v : Value) : Prop := SlX X w 1 l.length (l.map intC) v
theorem IntsX.cell {X : List Nat} {w : World} {l : List Int} {b o n c : Nat} (h : IntsX X w l (.slice (some ⟨b, o, none⟩) n c)) (i : Nat) (hi : i < l.length) : w.cell? ⟨b, o + i, none⟩ = some (.int .i64 l[i]) := by
 rw [SlX.cell h i (by simpa using hi)]
 simp [intC]
theorem IntsX.has {X : List Nat} {w : World} {l : List Int} {a : Option Addr} {n c : Nat} (h : IntsX X w l (.slice a n c)) (i : Nat) (hi : i < n) : ∃ b o, a = some ⟨b, o, none⟩ := by
 have := SlX.len h
 obtain ⟨b, o, h1, _⟩ := SlX.has h (by omega)
 exact ⟨b, o, h1⟩
theorem IntsX.shape {X : List Nat} {w : World} {l : List Int} {s : Value} (h : IntsX X w l s) : ∃ a n c, s = .slice a n c ∧ n = l.length ∧ n ≤ maxLen := by
 obtain ⟨a, c, e⟩ := SlX.shape h
 exact ⟨a, _, c, e, rfl, h.1⟩
theorem IntsX.mono {X : List Nat} {w w' : World} {l : List Int} {v : Value} (h : IntsX X w l v) (hb : Below w.heap.size w w') : IntsX X w' l v := SlX.mono h hb
end Go.Proofs.YtnefkkidfhmggaaGreat
/- rowcodec.Number: the eight bytes of an integer. -/
namespace Go.Proofs.YtnefkkidfhmggaaGreat
open Go Go.RowKit
def uN (n : Int) : Nat := (n + 9223372036854775808).toNat
def numB (n : Int) (i : Nat) : UInt8 := UInt8.ofNat (uN n / 2 ^ (56 - 8 * i) % 256)
def numL (n : Int) : List UInt8 := (List.range 8).map (numB n)
def I64 (n : Int) : Prop := -9223372036854775808 ≤ n ∧ n < 9223372036854775808
theorem xor_hi {r : Nat} (h : r < 2 ^ 63) : r ^^^ 2 ^ 63 = 2 ^ 63 + r := by
 apply Nat.eq_of_testBit_eq
 intro i
 rw [Nat.testBit_xor]
 rcases Nat.lt_trichotomy i 63 with h1 | h1 | h1
 · rw [Nat.testBit_two_pow_add_gt h1, Nat.testBit_two_pow_of_ne (by omega)]
   simp
 · subst h1
   rw [Nat.testBit_two_pow_add_eq, Nat.testBit_two_pow_self]
   simp
 · rw [Nat.testBit_lt_two_pow (x := r) (Nat.lt_of_lt_of_le h (Nat.pow_le_pow_right (by decide) (by omega))), Nat.testBit_two_pow_of_ne (by omega)]
   rw [Nat.testBit_lt_two_pow (x := 2 ^ 63 + r)]
   · rfl
   · have : 2 ^ 64 ≤ 2 ^ i := Nat.pow_le_pow_right (by decide) (by omega)
     omega
theorem xor_num {n : Int} (h : I64 n) : bits .xor .u64 (IntKind.u64.wrap n) 9223372036854775808 = (uN n : Int) := by
 obtain ⟨h1, h2⟩ := h
 have e1 : (BitVec.ofInt 64 (9223372036854775808 : Int)).toNat = 2 ^ 63 := by decide
 have e2 : (BitVec.ofInt 64 (IntKind.u64.wrap n)).toNat = if 0 ≤ n then n.toNat else 2 ^ 63 + uN n := by
  rw [BitVec.toNat_ofInt]
  simp only [IntKind.wrap, IntKind.bits, IntKind.signed, uN]
  simp only [Bool.false_and, Bool.false_eq_true, if_false]
  by_cases h0 : 0 ≤ n
  · rw [if_pos h0]; omega
  · rw [if_neg h0]; omega
 have e3 : ((BitVec.ofInt 64 (IntKind.u64.wrap n)) ^^^ BitVec.ofInt 64 (9223372036854775808 : Int)).toNat = uN n := by
  rw [BitVec.toNat_xor, e1, e2]
  split
  · rw [xor_hi (by omega)]
    unfold uN
    omega
  · have hu : uN n < 2 ^ 63 := by unfold uN; omega
    rw [← xor_hi hu, Nat.xor_assoc, Nat.xor_self, Nat.xor_zero]
 show IntKind.u64.wrap ((((BitVec.ofInt 64 (IntKind.u64.wrap n)) ^^^ BitVec.ofInt 64 (9223372036854775808 : Int)).toNat : Nat) : Int) = _
 rw [e3]
 unfold uN
 simp only [IntKind.wrap, IntKind.bits, IntKind.signed]
 simp
 omega
theorem add_plain (b o j : Nat) : (⟨b, o, none⟩ : Addr).add j = ⟨b, o + j, none⟩ := by unfold Addr.add; split <;> simp_all
set_option maxHeartbeats 1000000 in
theorem number_calls (n : Int) (hn : I64 n) (w : World) : Calls Tryz.prog 66 #[.int .i64 n] w fun e w' => e = .returned (.string ⟨(numL n).toArray⟩) ∧ Below w.heap.size w w' := by
 have HX := Lib.hid (xor_num hn)
 clear hn
 go_enter Tryz.func66, Tryz.ntmps66
 go_wp2
 have hx := HX.out
 have hmk : ∀ w, Sem.run Tryz.prog (Instr.makeSlice 101 (.int .i64 8) (.int .i64 8)) w = .ok (.slice (some ⟨w.heap.size, 0, none⟩) 8 8) (w.alloc (.cells #[.int .u8 0, .int .u8 0, .int .u8 0, .int .u8 0, .int .u8 0, .int .u8 0, .int .u8 0, .int .u8 0] 5)) := fun w => by kernel_rfl
 go_region
 clear hx hmk HX
 obtain ⟨u, hu⟩ : ∃ u, uN n = u := ⟨_, rfl⟩
 have HU := Lib.hid hu
 rw [hu]
 clear hu
 obtain ⟨cs, hcs⟩ : ∃ cs : Array Value, cs = #[.int .u8 0, .int .u8 0, .int .u8 0, .int .u8 0, .int .u8 0, .int .u8 0, .int .u8 0, .int .u8 0] := ⟨_, rfl⟩
 have hg : ((w.alloc (.cells cs 5)).drew).heap[w.heap.size]? = some (.cells cs 5 (0, 0)) := heap_alloc_new w _
 have hb : Below w.heap.size w ((w.alloc (.cells cs 5)).drew) := Below.drew ((Below.refl _ _).alloc (Nat.le_refl _) _)
 rw [← hcs]
 have H0 : RowKit.Hid (∃ rest : List Value, cs.toList = ((numL n).take 0).map u8C ++ rest ∧ 0 + rest.length = 8) := ⟨cs.toList, rfl, by rw [hcs]; rfl⟩
 clear hcs
 generalize (w.alloc (.cells cs 5)).drew = W at *
 obtain ⟨b, hbs⟩ : ∃ b, w.heap.size = b := ⟨_, rfl⟩
 rw [hbs] at hb hg ⊢
 have Hg := Lib.hid hg
 have Hb := Lib.hid hb
 clear hb hg
 go_wp2
 go_loopw [12] (fun i wr => ∃ k : Nat, k ≤ 8 ∧ i = .int .i64 k ∧ RowKit.Hid (Below b w wr ∧ ∃ (cs : Array Value) (rest : List Value), wr.heap[b]? = some (.cells cs 5 (0, 0)) ∧ cs.toList = ((numL n).take k).map u8C ++ rest ∧ k + rest.length = 8)) (fun i _ => 8 - (intOf i).toNat)
 case atStart => exact ⟨0, by omega, rfl, Hb.out, let ⟨r, h1, h2⟩ := H0.out; ⟨cs, r, Hg.out, h1, h2⟩⟩
 case round =>
  obtain ⟨k, hk, rfl, Hr⟩ := hrel
  obtain ⟨hbw, cs', rest, h1, h2, h3⟩ := Hr.out
  by_cases hlt : k < 8
  · have hsz : cs'.size = 8 := by
     have := congrArg List.length h2
     simp [numL] at this
     omega
    obtain ⟨old, c0⟩ : ∃ old, wr.cell? ⟨b, k, none⟩ = some old := ⟨cs'[k]'(by omega), by rw [cell_of_row wr b k cs' _ _ h1, Array.getElem?_eq_getElem]⟩
    have c1 : wr.frozen? ⟨b, k, none⟩ = false := frozen_of_row wr b k cs' _ h1
    have hbl := World.block_lt_of_cell? wr _ c0
    have i1 : (0 : Int) ≤ k := by omega
    have i2 : (k : Int) < 8 := by omega
    have i3 : IntKind.i64.wrap (8 * (k : Int)) = ((8 * k : Nat) : Int) := by rw [IntWalk.i64_in _ (by omega)]; omega
    have i4 : IntKind.i64.wrap (56 - ((8 * k : Nat) : Int)) = ((56 - 8 * k : Nat) : Int) := by rw [IntWalk.i64_in _ (by omega)]; omega
    have H1 := Lib.hid h1
    have H2 := Lib.hid h2
    have H3 := Lib.hid h3
    have Hbw := Lib.hid hbw
    have Hsz := Lib.hid hsz
    clear h1 h2 h3 hbw Hr hsz
    go_wp2
    go_roundw
    case rel =>
     refine ⟨k + 1, by omega, by go_num, Hbw.out.setCell (p := ⟨b, k, none⟩) (Nat.le_refl _) _, cs'.setIfInBounds k (u8C (numB n k)), rest.tail, ?_, ?_, ?_⟩
     · have hv : Value.int IntKind.u8 ((u : Int) / 2 ^ (56 - 8 * k) % 256) = u8C (numB n k) := by
        have : u / 2 ^ (56 - 8 * k) % 256 < 256 := Nat.mod_lt _ (by decide)
        rw [u8C, numB, HU.out, UInt8.toNat_ofNat_of_lt' this]
        rw [Int.natCast_emod, Int.natCast_ediv, Int.natCast_pow]
        rfl
       rw [hv]
       exact heap_setCell_same wr b k cs' 5 _ H1.out
     · have hl : (numL n).length = 8 := by simp [numL]
       rw [Array.toList_setIfInBounds, H2.out, List.take_add_one, List.map_append, List.append_assoc]
       rw [List.set_append_right _ _ (by simp [hl]; omega)]
       congr 1
       have e1 : k - (List.map u8C (List.take k (numL n))).length = 0 := by simp [hl]; omega
       rw [e1]
       cases rest with
       | nil => have := H3.out; simp at this; omega
       | cons x r =>
        have e2 : (numL n)[k]? = some (numB n k) := by simp [numL, hlt]
        rw [e2]
        rfl
     · have := H3.out
       simp
       omega
    case measure => simp [intOf]; omega
  · obtain rfl : k = 8 := by omega
    have hrest : rest = [] := List.length_eq_zero_iff.1 (by omega)
    subst hrest
    have hl : (numL n).length = 8 := by simp [numL]
    rw [List.take_of_length_le (by omega), List.append_nil] at h2
    have hcv : (convert 101 9 (.slice (some ⟨b, 0, none⟩) 8 8)).run Tryz.prog wr = .ok (.string ⟨(numL n).toArray⟩) wr := by
     rw [← hl]
     refine run_convert_bytes_back wr 101 9 5 ⟨b, 0, none⟩ _ (numL n) (by kernel_rfl) (by kernel_rfl) (by kernel_rfl) fun j hj => ?_
     rw [add_plain, Nat.zero_add, cell_of_row wr b j cs' _ _ h1, ← Array.getElem?_toList, h2, List.getElem?_map, List.getElem?_eq_getElem hj]
     rfl
    have Hbw := Lib.hid hbw
    have HB := Lib.hid hbs
    clear h1 h2 h3 hbw Hr hl hk hlt
    go_wp2
    go_ret
    exact ⟨rfl, by rw [HB.out]; exact Hbw.out⟩
end Go.Proofs.YtnefkkidfhmggaaGreat
/- The program's comparisons: of numbers, texts, values. -/
namespace Go.Proofs.YtnefkkidfhmggaaGreat
open Go.RowKit
theorem isnan_calls (a : Int) (w : World) : Calls Tryz.prog 107 #[.int .i64 a] w fun e w' => e = .returned (.bool false) ∧ w = w' := by
 go_enter Tryz.func107, Tryz.ntmps107
 go_wp2
 all_goals go_ret
 all_goals exact ⟨by simp, rfl⟩
theorem isnan2_calls (a : Int) (w : World) : Calls Tryz.prog 106 #[.int .i64 a] w fun e w' => e = .returned (.bool false) ∧ w = w' := by
 go_enter Tryz.func106, Tryz.ntmps106
 go_wp2
 all_goals go_ret
 all_goals exact ⟨by simp, rfl⟩
theorem compare_calls (a b : Int) (w : World) : Calls Tryz.prog 80 #[.int .i64 a, .int .i64 b] w fun e w' => e = .returned (.int .i64 (cmpS a b)) ∧ w = w' := by
 unfold cmpS
 go_enter Tryz.func80, Tryz.ntmps80
 go_wp2_with (first | (go_at_call 107; refine (isnan_calls _ _).mono ?_; rintro e w' ⟨rfl, rfl⟩))
 all_goals go_ret
 all_goals exact ⟨by simp [*], rfl⟩
theorem compare2_calls (a b : Int) (w : World) : Calls Tryz.prog 79 #[.int .i64 a, .int .i64 b] w fun e w' => e = .returned (.int .i64 (cmpS a b)) ∧ w = w' := by
 unfold cmpS
 go_enter Tryz.func79, Tryz.ntmps79
 go_wp2_with (first | (go_at_call 106; refine (isnan2_calls _ _).mono ?_; rintro e w' ⟨rfl, rfl⟩))
 all_goals go_ret
 all_goals exact ⟨by simp [*], rfl⟩
theorem run_cmpstring (a b : ByteArray) (w : World) : (callFunc 136 #[.string a, .string b]).run Tryz.prog w = .ok (.value (.int .i64 (Lib.compareBytes a.data.toList b.data.toList))) w := by
 rw [run_callFunc_extern Tryz.func136 (by kernel_rfl) (by kernel_rfl) (by kernel_rfl) (e := Extern.BytealgCompare.compare) (by kernel_rfl), Lib.run_compareString]
 rfl
theorem scompare_calls (a b : ByteArray) (w : World) : Calls Tryz.prog 81 #[.string a, .string b] w fun e w' => e = .returned (.int .i64 (Lib.compareBytes (bytes a) (bytes b))) ∧ w = w' := by
 have hr := run_cmpstring a b
 go_enter Tryz.func81, Tryz.ntmps81
 go_wp2
 go_ret
 exact ⟨rfl, rfl⟩
theorem or_calls3 (a b c : Int) (g : Nat) (w : World) (h0 : w.cell? ⟨g, 0, none⟩ = some (.int .i64 a)) (h1 : w.cell? ⟨g, 1, none⟩ = some (.int .i64 b)) (h2 : w.cell? ⟨g, 2, none⟩ = some (.int .i64 c)) :
 Calls Tryz.prog 78 #[.slice (some ⟨g, 0, none⟩) 3 3] w fun e w' => e = .returned (.int .i64 (orS a (orS b c))) ∧ w = w' := by
 unfold orS
 by_cases ha : a = 0
 · subst ha
   by_cases hb : b = 0
   · subst hb
     by_cases hc : c = 0
     · subst hc
       go_enter Tryz.func78, Tryz.ntmps78
       go_wp2
       refine wp_loop_rounds 4 ?_
       rw [rounds_succ]
       go_wp2
       rw [rounds_succ]
       go_wp2
       rw [rounds_succ]
       go_wp2
       rw [rounds_succ]
       go_wp2
       go_ret
       exact ⟨rfl, rfl⟩
     · have hc1 : (c != 0) = true := by simp [hc]
       go_enter Tryz.func78, Tryz.ntmps78
       go_wp2
       refine wp_loop_rounds 3 ?_
       rw [rounds_succ]
       go_wp2
       rw [rounds_succ]
       go_wp2
       rw [rounds_succ]
       go_wp2
       go_ret
       exact ⟨rfl, rfl⟩
   · have hb1 : (b != 0) = true := by simp [hb]
     rw [if_neg hb]
     go_enter Tryz.func78, Tryz.ntmps78
     go_wp2
     refine wp_loop_rounds 2 ?_
     rw [rounds_succ]
     go_wp2
     rw [rounds_succ]
     go_wp2
     go_ret
     exact ⟨rfl, rfl⟩
 · have ha1 : (a != 0) = true := by simp [ha]
   rw [if_neg ha]
   go_enter Tryz.func78, Tryz.ntmps78
   go_wp2
   refine wp_loop_rounds 1 ?_
   rw [rounds_succ]
   go_wp2
   go_ret
   exact ⟨rfl, rfl⟩
/-- value.Compare. -/
theorem cmpV_calls (a b : Vl) (w : World) : Calls Tryz.prog 39 #[.agg #[.int .i64 a.kind, .int .i64 a.int, .string a.text], .agg #[.int .i64 b.kind, .int .i64 b.int, .string b.text]] w fun e w' => e = .returned (.int .i64 (cmpV a b)) ∧ Below w.heap.size w w' := by
 have Hb0 : RowKit.Hid (∀ o o', Below w.heap.size w ((w.alloc o).alloc o')) := fun o o' => ((Below.refl _ _).alloc (Nat.le_refl _) o).alloc (by simp) o'
 have V1 := (VarIs.new w #[.int .i64 a.kind, .int .i64 a.int, .string a.text] 29).alloc (.cells #[.int .i64 b.kind, .int .i64 b.int, .string b.text] 29)
 have V2 := VarIs.new1 w (.cells #[.int .i64 a.kind, .int .i64 a.int, .string a.text] 29) #[.int .i64 b.kind, .int .i64 b.int, .string b.text] 29
 have hbw := Hb0.out (.cells #[.int .i64 a.kind, .int .i64 a.int, .string a.text] 29) (.cells #[.int .i64 b.kind, .int .i64 b.int, .string b.text] 29)
 go_enter Tryz.func39, Tryz.ntmps39
 go_wp2_with fail
 generalize (w.alloc (.cells #[.int .i64 a.kind, .int .i64 a.int, .string a.text] 29)).alloc (.cells #[.int .i64 b.kind, .int .i64 b.int, .string b.text] 29) = W at *
 have Hbw := Lib.hid hbw
 clear hbw Hb0
 obtain ⟨v1, v2, -⟩ := V1
 obtain ⟨u1, u2, -⟩ := V2
 go_region_held3 (fun w' => Below W.heap.size W w' ∧ ∀ b o, b < W.heap.size → w'.cell? ⟨b, o, none⟩ = W.cell? ⟨b, o, none⟩)
  (first | assumption | exact S_of (Below.drew (Below.refl _ _)) | exact S_alloc (by assumption) _)
  (first
   | (go_at_call 79; (with_reducible refine (compare2_calls _ _ _).mono ?_); rintro e w1 ⟨rfl, rfl⟩)
   | (go_at_call 80; (with_reducible refine (compare_calls _ _ _).mono ?_); rintro e w1 ⟨rfl, rfl⟩)
   | (go_at_call 81; (with_reducible refine (scompare_calls _ _ _).mono ?_); rintro e w1 ⟨rfl, rfl⟩)
   | (go_at_call 78; refine (or_calls3 (cmpS a.kind b.kind) (cmpS a.int b.int) (Lib.compareBytes (bytes a.text) (bytes b.text)) _ _ (by go_simp) (by go_simp) (by go_simp)).mono ?_; rintro e w1 ⟨rfl, rfl⟩))
 rename_i hH
 have H := Lib.hid (Hbw.out.trans (hH.1.mono Hbw.out.size))
 clear hH v1 v2 u1 u2
 go_wp2
 go_ret
 exact ⟨rfl, H.out⟩
end Go.Proofs.YtnefkkidfhmggaaGreat
/- The reference's comparisons: of numbers, texts, values, rows. -/
namespace Go.Proofs.YtnefkkidfhmggaaGreat
open Go.RowKit
theorem ints_calls (a b : Int) (w : World) : Calls Tryz.prog 76 #[.int .i64 a, .int .i64 b] w fun e w' => e = .returned (.int .i64 (cmpS a b)) ∧ w = w' := by
 unfold cmpS
 go_enter Tryz.func76, Tryz.ntmps76
 go_wp2
 all_goals go_ret
 all_goals exact ⟨by simp [*], rfl⟩
theorem cmpB_step {a b : List UInt8} {k : Nat} (h1 : k < a.length) (h2 : k < b.length) : Lib.compareBytes (a.drop k) (b.drop k) = if a[k] = b[k] then Lib.compareBytes (a.drop (k + 1)) (b.drop (k + 1)) else cmpS a[k].toNat b[k].toNat := by
 rw [List.drop_eq_getElem_cons h1, List.drop_eq_getElem_cons h2, Lib.compareBytes]
 unfold cmpS
 by_cases h : a[k] = b[k]
 · have : ¬ b[k] < b[k] := UInt8.lt_irrefl _
   simp [h, this]
 · have hne : a[k].toNat ≠ b[k].toNat := fun e => h (UInt8.toNat_inj.1 e)
   simp only [UInt8.lt_iff_toNat_lt, h, if_false]
   by_cases h3 : a[k].toNat < b[k].toNat
   · have : (a[k].toNat : Int) < b[k].toNat := by omega
     simp [h3, this]
   · have h4 : b[k].toNat < a[k].toNat := by omega
     have h5 : ¬ (a[k].toNat : Int) < b[k].toNat := by omega
     have h6 : (b[k].toNat : Int) < a[k].toNat := by omega
     simp [h3, h4, h5, h6]
theorem cmpB_end {a b : List UInt8} {k : Nat} (h : a.length ≤ k ∨ b.length ≤ k) (h1 : k ≤ a.length) (h2 : k ≤ b.length) : Lib.compareBytes (a.drop k) (b.drop k) = cmpS a.length b.length := by
 unfold cmpS
 by_cases h3 : a.length ≤ k
 · rw [List.drop_of_length_le h3]
   by_cases h4 : b.length ≤ k
   · rw [List.drop_of_length_le h4]
     have e : a.length = b.length := by omega
     simp [Lib.compareBytes, e]
   · rw [List.drop_eq_getElem_cons (by omega), Lib.compareBytes]
     have : (a.length : Int) < b.length := by omega
     simp [this]
 · have h4 : b.length ≤ k := by omega
   rw [List.drop_of_length_le h4, List.drop_eq_getElem_cons (by omega), Lib.compareBytes]
   have h5 : ¬ (a.length : Int) < b.length := by omega
   have h6 : (b.length : Int) < a.length := by omega
   simp [h5, h6]
set_option maxHeartbeats 2000000 in
set_option maxRecDepth 20000 in
theorem texts_calls (a b : ByteArray) (w : World) (ha : a.size ≤ maxLen) : Calls Tryz.prog 77 #[.string a, .string b] w fun e w' => e = .returned (.int .i64 (Lib.compareBytes (bytes a) (bytes b))) ∧ Below w.heap.size w w' := by
 unfold maxLen at ha
 have La : RowKit.Hid ((bytes a).length = a.size) := by show _ = _; simp [bytes]
 have Lb : RowKit.Hid ((bytes b).length = b.size) := by show _ = _; simp [bytes]
 go_enter Tryz.func77, Tryz.ntmps77
 go_wp2
 go_loopw [5] (fun i wr => ∃ k : Nat, k ≤ a.size ∧ k ≤ b.size ∧ i = .int .i64 k ∧ RowKit.Hid (Lib.compareBytes (bytes a) (bytes b) = Lib.compareBytes ((bytes a).drop k) ((bytes b).drop k)) ∧ RowKit.Hid (Below w.heap.size w wr)) (fun i _ => a.size - (intOf i).toNat)
 case atStart => exact ⟨0, Nat.zero_le _, Nat.zero_le _, rfl, rfl, Below.refl _ _⟩
 case round =>
  obtain ⟨k, hk, hk', rfl, He, Hb⟩ := hrel
  by_cases hlt : k < a.size ∧ k < b.size
  · obtain ⟨h1, h2⟩ := hlt
    have Hst := Lib.hid (cmpB_step (a := bytes a) (b := bytes b) (k := k) (by rw [La.out]; exact h1) (by rw [Lb.out]; exact h2))
    have ea : (bytes a)[k]'(by rw [La.out]; exact h1) = (a[k]'h1) := rfl
    have eb : (bytes b)[k]'(by rw [Lb.out]; exact h2) = (b[k]'h2) := rfl
    rw [ea, eb] at Hst
    have hx : ((a[k]'h1).toNat : Int) < 256 := by have := UInt8.toNat_lt (a[k]'h1); omega
    have hy : ((b[k]'h2).toNat : Int) < 256 := by have := UInt8.toNat_lt (b[k]'h2); omega
    have i1 : (0 : Int) ≤ k := by omega
    have i2 : (k : Int) < a.size := by omega
    have i3 : (k : Int) < b.size := by omega
    have m1 : IntKind.i64.wrap ((a[k]'h1).toNat : Int) = (a[k]'h1).toNat := IntWalk.i64_in _ (by omega)
    have m2 : IntKind.i64.wrap ((b[k]'h2).toNat : Int) = (b[k]'h2).toNat := IntWalk.i64_in _ (by omega)
    clear ea eb
    go_upto_region 4 with (fail)
    go_cut [24] (fun x wx => x = .bool (((a[k]'h1).toNat : Int) != (b[k]'h2).toNat) ∧ RowKit.Hid (Below w.heap.size w wx))
    case first =>
     go_region_held3 (fun w' => Below wr.heap.size wr w') (first | assumption | exact Below.drew (Below.refl _ _)) (fail)
     all_goals
      rename_i hH
      have Hb1 := Lib.hid (Hb.out.trans (hH.mono Hb.out.size))
      clear hH
      go_wp2_with fail
      go_meet
      exact ⟨rfl, Hb1⟩
    obtain ⟨rfl, Hb1⟩ := hcut
    by_cases he : (a[k]'h1) = (b[k]'h2)
    · have hne : (((a[k]'h1).toNat : Int) != (b[k]'h2).toNat) = false := by simp [he]
      have Hnext : RowKit.Hid (Lib.compareBytes (bytes a) (bytes b) = Lib.compareBytes ((bytes a).drop (k + 1)) ((bytes b).drop (k + 1))) := by show _ = _; rw [He.out, Hst.out, if_pos he]
      clear he m1 m2 hx hy
      go_wp2
      go_roundw
      case rel => exact ⟨k + 1, by omega, by omega, by go_num, Hnext, Hb1⟩
      case measure => simp [intOf]; omega
    · have hne : (((a[k]'h1).toNat : Int) != (b[k]'h2).toNat) = true := by
       have : (a[k]'h1).toNat ≠ (b[k]'h2).toNat := fun e => he (UInt8.toNat_inj.1 e)
       simp; omega
      have Hnext : RowKit.Hid (Lib.compareBytes (bytes a) (bytes b) = cmpS (a[k]'h1).toNat (b[k]'h2).toNat) := by show _ = _; rw [He.out, Hst.out, if_neg he]
      have Hm1 := Lib.hid m1
      have Hm2 := Lib.hid m2
      clear he m1 m2 hx hy
      go_upto_region 5 with (fail)
      have m1 := Hm1.out
      have m2 := Hm2.out
      go_region_held3 (fun w' => Below wc.heap.size wc w') (first | assumption | exact Below.drew (Below.refl _ _))
       (first | (go_at_call 76; refine (ints_calls _ _ _).mono ?_; rintro e w' ⟨rfl, rfl⟩))
      all_goals
       rename_i hH
       have Hb2 := Lib.hid (Hb1.out.trans (hH.mono Hb1.out.size))
       clear hH m1 m2
       go_wp2
       go_ret
       exact ⟨by rw [Hnext.out]; rfl, Hb2.out⟩
  · have Hend : RowKit.Hid (Lib.compareBytes (bytes a) (bytes b) = cmpS a.size b.size) := by
     show _ = _
     rw [He.out, cmpB_end (by rw [La.out, Lb.out]; omega) (by rw [La.out]; omega) (by rw [Lb.out]; omega), La.out, Lb.out]
    by_cases h1 : k < a.size
    · have h2 : b.size ≤ k := by omega
      clear hlt
      go_wp2_with (first | (go_at_call 76; refine (ints_calls _ _ _).mono ?_; rintro e w' ⟨rfl, rfl⟩))
      go_ret
      exact ⟨by rw [Hend.out]; rfl, Hb.out⟩
    · have h2 : a.size ≤ k := by omega
      clear hlt
      go_wp2_with (first | (go_at_call 76; refine (ints_calls _ _ _).mono ?_; rintro e w' ⟨rfl, rfl⟩))
      go_ret
      exact ⟨by rw [Hend.out]; rfl, Hb.out⟩
/-- The reference's Compare. -/
theorem rcmp_calls (a b : Vl) (w : World) (ha : a.text.size ≤ maxLen) : Calls Tryz.prog 35 #[.agg #[.int .i64 a.kind, .int .i64 a.int, .string a.text], .agg #[.int .i64 b.kind, .int .i64 b.int, .string b.text]] w fun e w' => e = .returned (.int .i64 (cmpV a b)) ∧ Below w.heap.size w w' := by
 have Hb0 : RowKit.Hid (∀ o o', Below w.heap.size w ((w.alloc o).alloc o')) := fun o o' => ((Below.refl _ _).alloc (Nat.le_refl _) o).alloc (by simp) o'
 have Hd : RowKit.Hid (cmpV a b = orS (cmpS a.kind b.kind) (orS (cmpS a.int b.int) (Lib.compareBytes (bytes a.text) (bytes b.text)))) := rfl
 by_cases h1 : a.kind = b.kind
 · have b1 : (a.kind != b.kind) = false := by simp [h1]
   have e1 : cmpS a.kind b.kind = 0 := cmpS_zero.2 h1
   by_cases h2 : a.int = b.int
   · have b2 : (a.int != b.int) = false := by simp [h2]
     have Hr : RowKit.Hid (cmpV a b = Lib.compareBytes (bytes a.text) (bytes b.text)) := by show _ = _; rw [Hd.out, e1, cmpS_zero.2 h2]; rfl
     clear h1 h2 e1
     go_enter Tryz.func35, Tryz.ntmps35
     go_wp2_with fail
     refine (texts_calls _ _ _ ha).mono ?_
     rintro e w1 ⟨rfl, hb1⟩
     have Hb1 := Lib.hid ((Hb0.out _ _).trans (hb1.mono (Hb0.out _ _).size))
     clear hb1
     go_wp2
     go_ret
     exact ⟨by rw [Hr.out]; rfl, Hb1.out⟩
   · have b2 : (a.int != b.int) = true := by simp [h2]
     have e2 : ¬ cmpS a.int b.int = 0 := fun h => h2 (cmpS_zero.1 h)
     have Hr : RowKit.Hid (cmpV a b = cmpS a.int b.int) := by show _ = _; rw [Hd.out, e1]; unfold orS; rw [if_pos rfl, if_neg e2]
     clear h1 h2 e1 e2
     go_enter Tryz.func35, Tryz.ntmps35
     go_wp2_with fail
     refine (ints_calls _ _ _).mono ?_
     rintro e w1 ⟨rfl, rfl⟩
     go_wp2
     go_ret
     exact ⟨by rw [Hr.out]; rfl, Hb0.out _ _⟩
 · have b1 : (a.kind != b.kind) = true := by simp [h1]
   have e1 : ¬ cmpS a.kind b.kind = 0 := fun h => h1 (cmpS_zero.1 h)
   have Hr : RowKit.Hid (cmpV a b = cmpS a.kind b.kind) := by show _ = _; rw [Hd.out]; unfold orS; rw [if_neg e1]
   clear h1 e1
   go_enter Tryz.func35, Tryz.ntmps35
   go_wp2_with fail
   refine (ints_calls _ _ _).mono ?_
   rintro e w1 ⟨rfl, rfl⟩
   go_wp2
   go_ret
   exact ⟨by rw [Hr.out]; rfl, Hb0.out _ _⟩
theorem cmpR_end {R S : Rw} {k : Nat} (h : R.length ≤ k ∨ S.length ≤ k) (h1 : k ≤ R.length) (h2 : k ≤ S.length) : cmpR (R.drop k) (S.drop k) = cmpS R.length S.length := by
 unfold cmpS
 by_cases h3 : R.length ≤ k
 · by_cases h4 : S.length ≤ k
   · rw [cmpR_both h3 h4]
     have e : R.length = S.length := by omega
     simp [e]
   · rw [cmpR_short h3 (by omega)]
     have : (R.length : Int) < S.length := by omega
     simp [this]
 · rw [cmpR_long (by omega) (by omega)]
   have h5 : ¬ (R.length : Int) < S.length := by omega
   have h6 : (S.length : Int) < R.length := by omega
   simp [h5, h6]
set_option maxHeartbeats 4000000 in
set_option maxRecDepth 20000 in
/-- The reference's Rows. -/
theorem rrows_calls (R S : Rw) (r s : Value) (w : World) (hr : ValsAt w R r) (hs : ValsAt w S s) : Calls Tryz.prog 72 #[r, s] w fun e w' => e = .returned (.int .i64 (cmpR R S)) ∧ Below w.heap.size w w' := by
 obtain ⟨a, n, c, rfl, hn, hm⟩ := hr.shape
 obtain ⟨a', n', c', rfl, hn', hm'⟩ := hs.shape
 unfold maxLen at hm hm'
 have Hr := Lib.hid hr
 have Hs := Lib.hid hs
 have Hn := Lib.hid hn
 have Hn' := Lib.hid hn'
 clear hr hs hn hn'
 go_enter Tryz.func72, Tryz.ntmps72
 go_wp2
 go_loopw [5] (fun i wr => ∃ k : Nat, k ≤ n ∧ k ≤ n' ∧ i = .int .i64 k ∧ RowKit.Hid (cmpR R S = cmpR (R.drop k) (S.drop k)) ∧ RowKit.Hid (Below w.heap.size w wr)) (fun i _ => n - (intOf i).toNat)
 case atStart => exact ⟨0, Nat.zero_le _, Nat.zero_le _, rfl, rfl, Below.refl _ _⟩
 case round =>
  obtain ⟨k, hk, hk', rfl, He, Hb⟩ := hrel
  by_cases hlt : k < n ∧ k < n'
  · obtain ⟨h1, h2⟩ := hlt
    have hk1 : k < R.length := by have := Hn.out; omega
    have hk2 : k < S.length := by have := Hn'.out; omega
    obtain ⟨b, o, rfl⟩ := Hr.out.has k h1
    obtain ⟨c0, c1, c2⟩ := (Hr.out.mono Hb.out).cell k hk1
    have hbl := (Hr.out.mono Hb.out).lt hk1
    obtain ⟨b', o', rfl⟩ := Hs.out.has k h2
    obtain ⟨d0, d1, d2⟩ := (Hs.out.mono Hb.out).cell k hk2
    have hbl' := (Hs.out.mono Hb.out).lt hk2
    have Hst := Lib.hid (cmpR_step hk1 hk2)
    have HC := Lib.hid (fun w' => rcmp_calls R[k] S[k] w' (Hr.out.txt _ (List.getElem_mem hk1)))
    generalize R[k] = x at *
    generalize S[k] = y at *
    clear hk1 hk2
    have i1 : (0 : Int) ≤ k := by omega
    have i2 : (k : Int) < n := by omega
    have i3 : (k : Int) < n' := by omega
    go_upto_region 4 with (fail)
    go_cut [6] (fun z wx => z = .int .i64 (cmpV x y) ∧ RowKit.Hid (Below w.heap.size w wx))
    case first =>
     go_region_held3 (fun w' => Below wr.heap.size wr w' ∧ ∀ b o, b < wr.heap.size → w'.cell? ⟨b, o, none⟩ = wr.cell? ⟨b, o, none⟩)
      (first | assumption | exact S_of (Below.drew (Below.refl _ _)) | exact S_step (by assumption) (by assumption))
      (first | (go_at_call 35; (with_reducible refine (HC.out _).mono ?_); rintro e w1 ⟨rfl, hb1⟩))
     all_goals
      rename_i hH
      have Hb1 := Lib.hid (Hb.out.trans (hH.1.mono Hb.out.size))
      clear hH
      go_wp2_with fail
      go_meet
      exact ⟨rfl, Hb1⟩
    obtain ⟨rfl, Hb1⟩ := hcut
    clear c0 c1 c2 d0 d1 d2 i1 i2 i3
    by_cases h0 : cmpV x y = 0
    · have b0 : (cmpV x y != 0) = false := by simp [h0]
      have Hnext : RowKit.Hid (cmpR R S = cmpR (R.drop (k + 1)) (S.drop (k + 1))) := by show _ = _; rw [He.out, Hst.out, if_pos h0]
      clear h0
      go_wp2
      go_roundw
      case rel => exact ⟨k + 1, by omega, by omega, by go_num, Hnext, Hb1⟩
      case measure => simp [intOf]; omega
    · have b0 : (cmpV x y != 0) = true := by simp [h0]
      have Hnext : RowKit.Hid (cmpR R S = cmpV x y) := by show _ = _; rw [He.out, Hst.out, if_neg h0]
      clear h0
      go_wp2
      go_ret
      exact ⟨by rw [Hnext.out]; rfl, Hb1.out⟩
  · have Hend : RowKit.Hid (cmpR R S = cmpS n n') := by
     show _ = _
     have e1 := Hn.out
     have e2 := Hn'.out
     rw [He.out, cmpR_end (by omega) (by omega) (by omega), e1, e2]
    by_cases h1 : k < n
    · have h2 : n' ≤ k := by omega
      clear hlt
      go_wp2_with (first | (go_at_call 76; refine (ints_calls _ _ _).mono ?_; rintro e w' ⟨rfl, rfl⟩))
      go_ret
      exact ⟨by rw [Hend.out]; rfl, Hb.out⟩
    · have h2 : n ≤ k := by omega
      clear hlt
      go_wp2_with (first | (go_at_call 76; refine (ints_calls _ _ _).mono ?_; rintro e w' ⟨rfl, rfl⟩))
      go_ret
      exact ⟨by rw [Hend.out]; rfl, Hb.out⟩
/-- The reference's Same (of two rows). -/
theorem rsame_calls (R S : Rw) (r s : Value) (w : World) (hr : ValsAt w R r) (hs : ValsAt w S s) : Calls Tryz.prog 29 #[r, s] w fun e w' => e = .returned (.bool (decide (R = S))) ∧ Below w.heap.size w w' := by
 have H := Lib.hid (rrows_calls R S r s w hr hs)
 have He : RowKit.Hid (decide (R = S) = (cmpR R S == 0)) := by
  show _ = _
  rw [Bool.eq_iff_iff]
  simp [cmpR_zero]
 clear hr hs
 go_enter Tryz.func29, Tryz.ntmps29
 go_wp2_with fail
 refine H.out.mono ?_
 rintro e w1 ⟨rfl, hb1⟩
 have Hb1 := Lib.hid hb1
 clear hb1
 go_wp2
 go_ret
 exact ⟨by rw [He.out]; rfl, Hb1.out⟩
end Go.Proofs.YtnefkkidfhmggaaGreat
/- Which values are valid: the program's and the reference's. -/
namespace Go.Proofs.YtnefkkidfhmggaaGreat
open Go Go.RowKit
def prB (b : UInt8) : Bool := !(decide (b < 32) || decide (126 < b))
def prS (s : ByteArray) : Bool := (bytes s).all prB
/-- A value is valid. -/
def okV (v : Vl) : Bool := if v.kind = 0 then decide (v.int = 0) && decide (v.text = .empty) else if v.kind = 1 then decide (v.text = .empty) else if v.kind = 2 then decide (v.int = 0) && (prS v.text && decide (v.text.size ≤ 16)) else false
theorem prS_step {s : ByteArray} {k : Nat} (h : k < s.size) : ((bytes s).drop k).all prB = (prB (s[k]'h) && ((bytes s).drop (k + 1)).all prB) := by
 have hl : (bytes s).length = s.size := by simp [bytes]
 rw [List.drop_eq_getElem_cons (by omega), List.all_cons]
 rfl
set_option maxHeartbeats 1000000 in
theorem printable_calls (s : ByteArray) (w : World) (hs : s.size ≤ maxLen) : Calls Tryz.prog 91 #[.string s] w fun e w' => e = .returned (.bool (prS s && decide (s.size ≤ 16))) ∧ w = w' := by
 unfold maxLen at hs
 obtain ⟨q, hq⟩ : ∃ q, prS s = q := ⟨_, rfl⟩
 have Hq : RowKit.Hid (((bytes s).drop 0).all prB = q) := by show _ = _; rw [List.drop_zero]; exact hq
 rw [hq]
 clear hq
 go_enter Tryz.func91, Tryz.ntmps91
 go_wp2
 go_loop [6] (fun i => ∃ k : Nat, k ≤ s.size ∧ i = .int .i64 k ∧ RowKit.Hid (((bytes s).drop k).all prB = q)) (fun i => s.size - (intOf i).toNat)
 case atStart => exact ⟨0, Nat.zero_le _, rfl, Hq⟩
 case round =>
  obtain ⟨k, hk, rfl, Hk⟩ := hrel
  by_cases hlt : k < s.size
  · have Hst := Lib.hid (prS_step hlt)
    have i1 : (0 : Int) ≤ k := by omega
    have i2 : (k : Int) < s.size := by omega
    by_cases h1 : (s[k]'hlt).toNat < 32
    · have Hr : RowKit.Hid (q = false) := by
       have h2 : (s[k]'hlt) < 32 := h1
       show _ = _
       rw [← Hk.out, Hst.out]
       simp [prB, h2]
      go_wp2
      go_ret
      exact ⟨by rw [Hr.out]; rfl, rfl⟩
    · by_cases h2 : 126 < (s[k]'hlt).toNat
      · have Hr : RowKit.Hid (q = false) := by
         have h2 : 126 < (s[k]'hlt) := h2
         show _ = _
         rw [← Hk.out, Hst.out]
         simp [prB, h2]
        go_wp2
        go_ret
        exact ⟨by rw [Hr.out]; rfl, rfl⟩
      · have Hn : RowKit.Hid (((bytes s).drop (k + 1)).all prB = q) := by
         have h3 : ¬ (s[k]'hlt) < 32 := h1
         have h4 : ¬ 126 < (s[k]'hlt) := h2
         show _ = _
         rw [← Hk.out, Hst.out]
         simp [prB, h3, h4]
        go_wp2
        go_round
        case rel => exact ⟨k + 1, by omega, by go_num, Hn⟩
        case measure => simp [intOf]; omega
  · have Hr : RowKit.Hid (q = true) := by
     have hl : (bytes s).length = s.size := by simp [bytes]
     show _ = _
     rw [← Hk.out, List.drop_of_length_le (by omega)]
     rfl
    go_wp2
    go_ret
    exact ⟨by rw [Hr.out]; simp; omega, rfl⟩
set_option maxHeartbeats 1000000 in
theorem rprintable_calls (s : ByteArray) (w : World) (hs : s.size ≤ maxLen) : Calls Tryz.prog 135 #[.string s] w fun e w' => e = .returned (.bool (prS s)) ∧ w = w' := by
 unfold maxLen at hs
 obtain ⟨q, hq⟩ : ∃ q, prS s = q := ⟨_, rfl⟩
 have Hq : RowKit.Hid (((bytes s).drop 0).all prB = q) := by show _ = _; rw [List.drop_zero]; exact hq
 rw [hq]
 clear hq
 go_enter Tryz.func135, Tryz.ntmps135
 go_wp2
 go_loop [3] (fun i => ∃ k : Nat, k ≤ s.size ∧ i = .int .i64 k ∧ RowKit.Hid (((bytes s).drop k).all prB = q)) (fun i => s.size - (intOf i).toNat)
 case atStart => exact ⟨0, Nat.zero_le _, rfl, Hq⟩
 case round =>
  obtain ⟨k, hk, rfl, Hk⟩ := hrel
  by_cases hlt : k < s.size
  · have Hst := Lib.hid (prS_step hlt)
    have i1 : (0 : Int) ≤ k := by omega
    have i2 : (k : Int) < s.size := by omega
    by_cases h1 : (s[k]'hlt).toNat < 32
    · have Hr : RowKit.Hid (q = false) := by
       have h2 : (s[k]'hlt) < 32 := h1
       show _ = _
       rw [← Hk.out, Hst.out]
       simp [prB, h2]
      go_wp2
      go_ret
      exact ⟨by rw [Hr.out]; rfl, rfl⟩
    · by_cases h2 : 126 < (s[k]'hlt).toNat
      · have Hr : RowKit.Hid (q = false) := by
         have h2 : 126 < (s[k]'hlt) := h2
         show _ = _
         rw [← Hk.out, Hst.out]
         simp [prB, h2]
        go_wp2
        go_ret
        exact ⟨by rw [Hr.out]; rfl, rfl⟩
      · have Hn : RowKit.Hid (((bytes s).drop (k + 1)).all prB = q) := by
         have h3 : ¬ (s[k]'hlt) < 32 := h1
         have h4 : ¬ 126 < (s[k]'hlt) := h2
         show _ = _
         rw [← Hk.out, Hst.out]
         simp [prB, h3, h4]
        go_wp2
        go_round
        case rel => exact ⟨k + 1, by omega, by go_num, Hn⟩
        case measure => simp [intOf]; omega
  · have Hr : RowKit.Hid (q = true) := by
     have hl : (bytes s).length = s.size := by simp [bytes]
     show _ = _
     rw [← Hk.out, List.drop_of_length_le (by omega)]
     rfl
    go_wp2
    go_ret
    exact ⟨by rw [Hr.out]; rfl, rfl⟩
theorem text_mt (s : ByteArray) : s.toList = [] ↔ s = .empty := by
 rw [ByteArray.toList_eq]
 obtain ⟨⟨l⟩⟩ := s
 constructor
 · intro h
   have h' : l = [] := h
   subst h'
   rfl
 · intro h
   exact congrArg (fun b : ByteArray => b.data.toList) h
theorem valid_calls (v : Vl) (w : World) (hs : v.text.size ≤ maxLen) : Calls Tryz.prog 57 #[v.val] w fun e w' => e = .returned (.bool (okV v)) ∧ Below w.heap.size w w' := by
 have HP := Lib.hid (fun w => printable_calls v.text w hs)
 have HB := Lib.hid ((Below.refl _ w).alloc (Nat.le_refl _) (.cells #[.int .i64 v.kind, .int .i64 v.int, .string v.text] 29))
 obtain ⟨c0, c1, c2⟩ : (w.alloc (.cells #[.int .i64 v.kind, .int .i64 v.int, .string v.text] 29)).cell? ⟨w.heap.size, 0, none⟩ = some (.int .i64 v.kind) ∧ (w.alloc (.cells #[.int .i64 v.kind, .int .i64 v.int, .string v.text] 29)).cell? ⟨w.heap.size, 1, none⟩ = some (.int .i64 v.int) ∧ (w.alloc (.cells #[.int .i64 v.kind, .int .i64 v.int, .string v.text] 29)).cell? ⟨w.heap.size, 2, none⟩ = some (.string v.text) :=
  ⟨World.cell?_alloc_new _ _ _ 0, World.cell?_alloc_new _ _ _ 1, World.cell?_alloc_new _ _ _ 2⟩
 unfold Vl.val
 obtain ⟨q, hq⟩ : ∃ q, okV v = q := ⟨_, rfl⟩
 have Hq : RowKit.Hid ((if v.kind = 0 then decide (v.int = 0) && decide (v.text = .empty) else if v.kind = 1 then decide (v.text = .empty) else if v.kind = 2 then decide (v.int = 0) && (prS v.text && decide (v.text.size ≤ 16)) else false) = q) := by show _ = _; rw [← hq]; rfl
 rw [hq]
 clear hq
 have HT : RowKit.Hid (v.text.toList = [] ↔ v.text = .empty) := text_mt _
 go_enter Tryz.func57, Tryz.ntmps57
 go_upto_region 1 with (fail)
 generalize hW : w.alloc _ = W at *
 clear hW
 have hbl := World.block_lt_of_cell? W _ c0
 by_cases ht : v.text.toList = [] <;> by_cases h3 : v.int = 0 <;> by_cases h0 : v.kind = 0 <;> by_cases h1 : v.kind = 1 <;> by_cases h2 : v.kind = 2
 all_goals first
  | (exfalso; omega)
  | (go_wp2_with (first | (with_reducible refine (HP.out _).mono ?_; rintro e w1 ⟨rfl, rfl⟩))
     all_goals go_ret
     all_goals
      refine ⟨?_, HB.out⟩
      rw [← Hq.out]
      first
       | (simp [← HT.out, *]; done)
       | (simp [← HT.out, *]; omega))
theorem rvalid_calls (v : Vl) (w : World) (hs : v.text.size ≤ maxLen) : Calls Tryz.prog 105 #[v.val] w fun e w' => e = .returned (.bool (okV v)) ∧ Below w.heap.size w w' := by
 have HP := Lib.hid (fun w => rprintable_calls v.text w hs)
 have HB := Lib.hid ((Below.refl _ w).alloc (Nat.le_refl _) (.cells #[.int .i64 v.kind, .int .i64 v.int, .string v.text] 29))
 obtain ⟨c0, c1, c2⟩ : (w.alloc (.cells #[.int .i64 v.kind, .int .i64 v.int, .string v.text] 29)).cell? ⟨w.heap.size, 0, none⟩ = some (.int .i64 v.kind) ∧ (w.alloc (.cells #[.int .i64 v.kind, .int .i64 v.int, .string v.text] 29)).cell? ⟨w.heap.size, 1, none⟩ = some (.int .i64 v.int) ∧ (w.alloc (.cells #[.int .i64 v.kind, .int .i64 v.int, .string v.text] 29)).cell? ⟨w.heap.size, 2, none⟩ = some (.string v.text) :=
  ⟨World.cell?_alloc_new _ _ _ 0, World.cell?_alloc_new _ _ _ 1, World.cell?_alloc_new _ _ _ 2⟩
 unfold Vl.val
 obtain ⟨q, hq⟩ : ∃ q, okV v = q := ⟨_, rfl⟩
 have Hq : RowKit.Hid ((if v.kind = 0 then decide (v.int = 0) && decide (v.text = .empty) else if v.kind = 1 then decide (v.text = .empty) else if v.kind = 2 then decide (v.int = 0) && (prS v.text && decide (v.text.size ≤ 16)) else false) = q) := by show _ = _; rw [← hq]; rfl
 rw [hq]
 clear hq
 have HT : RowKit.Hid (v.text.toList = [] ↔ v.text = .empty) := text_mt _
 go_enter Tryz.func105, Tryz.ntmps105
 go_upto_region 1 with (fail)
 generalize hW : w.alloc _ = W at *
 clear hW
 have hbl := World.block_lt_of_cell? W _ c0
 by_cases ht : v.text.toList = [] <;> by_cases h3 : v.int = 0 <;> by_cases h0 : v.kind = 0 <;> by_cases h1 : v.kind = 1 <;> by_cases h2 : v.kind = 2
 all_goals first
  | (exfalso; omega)
  | (go_wp2_with (first | (with_reducible refine (HP.out _).mono ?_; rintro e w1 ⟨rfl, rfl⟩))
     all_goals go_ret
     all_goals
      refine ⟨?_, HB.out⟩
      rw [← Hq.out]
      first
       | (simp [← HT.out, *]; done)
       | (simp [*]; omega))
end Go.Proofs.YtnefkkidfhmggaaGreat
/- Plain: encodings of values and rows, and their order. -/
namespace Go.Proofs.YtnefkkidfhmggaaGreat
open Go Go.RowKit
theorem cmpB_pre (p a b : List UInt8) : Lib.compareBytes (p ++ a) (p ++ b) = Lib.compareBytes a b := by
 induction p with
 | nil => rfl
 | cons c p ih =>
  rw [List.cons_append, List.cons_append, Lib.compareBytes]
  simp [UInt8.lt_irrefl, ih]
theorem cmpB_head {c d : UInt8} (h : c < d) (a b : List UInt8) : Lib.compareBytes (c :: a) (d :: b) = -1 := by
 rw [Lib.compareBytes, if_pos h]
theorem cmpB_nil_le (a : List UInt8) : ¬ Lib.compareBytes a [] < 0 := by
 cases a <;> simp [Lib.compareBytes]
theorem cmpB_le_app (p x : List UInt8) : ¬ Lib.compareBytes (p ++ x) p < 0 := by
 have := cmpB_pre p x []
 rw [List.append_nil] at this
 rw [this]
 exact cmpB_nil_le x
/-- k digits, the greatest first. -/
def beL : Nat → Nat → List UInt8
 | 0, _ => []
 | k + 1, u => UInt8.ofNat (u / 256 ^ k % 256) :: beL k u
theorem beL_lt : ∀ (k u v : Nat) (x y : List UInt8), u % 256 ^ k < v % 256 ^ k → Lib.compareBytes (beL k u ++ x) (beL k v ++ y) < 0
 | 0, u, v, _, _, h => by simp [Nat.mod_one] at h
 | k + 1, u, v, x, y, h => by
  rw [Nat.pow_succ, Nat.mod_mul, Nat.mod_mul] at h
  have hp : 0 < 256 ^ k := Nat.pow_pos (by decide)
  have h1 := Nat.mod_lt u hp
  have h2 := Nat.mod_lt v hp
  have h3 : u / 256 ^ k % 256 < 256 := Nat.mod_lt _ (by decide)
  have h4 : v / 256 ^ k % 256 < 256 := Nat.mod_lt _ (by decide)
  rw [beL, beL, List.cons_append, List.cons_append]
  by_cases e : u / 256 ^ k % 256 = v / 256 ^ k % 256
  · rw [e] at h ⊢
    have := beL_lt k u v x y (by omega)
    rw [Lib.compareBytes]
    simp only [UInt8.lt_irrefl, if_false]
    exact this
  · have hlt : u / 256 ^ k % 256 < v / 256 ^ k % 256 := by
     apply Classical.byContradiction
     intro hn
     have h5 : v / 256 ^ k % 256 + 1 ≤ u / 256 ^ k % 256 := by omega
     have h6 := Nat.mul_le_mul_left (256 ^ k) h5
     rw [Nat.mul_add, Nat.mul_one] at h6
     omega
    rw [cmpB_head (by rw [UInt8.lt_iff_toNat_lt, UInt8.toNat_ofNat_of_lt' h3, UInt8.toNat_ofNat_of_lt' h4]; exact hlt)]
    decide
theorem numL_be (n : Int) : numL n = beL 8 (uN n) := by
 simp [numL, beL, List.range, List.range.loop, numB]
theorem uN_lt {n : Int} (h : I64 n) : uN n < 256 ^ 8 := by
 obtain ⟨h1, h2⟩ := h
 unfold uN
 omega
theorem numL_lt {a b : Int} (ha : I64 a) (hb : I64 b) (h : a < b) (x y : List UInt8) : Lib.compareBytes (numL a ++ x) (numL b ++ y) < 0 := by
 rw [numL_be, numL_be]
 refine beL_lt 8 _ _ x y ?_
 rw [Nat.mod_eq_of_lt (uN_lt ha), Nat.mod_eq_of_lt (uN_lt hb)]
 obtain ⟨h1, h2⟩ := ha
 obtain ⟨h3, h4⟩ := hb
 unfold uN
 omega
theorem numL_length (n : Int) : (numL n).length = 8 := by simp [numL]
theorem numL_inj {a b : Int} (ha : I64 a) (hb : I64 b) (h : numL a = numL b) : a = b := by
 rcases Int.lt_trichotomy a b with h1 | h1 | h1
 · have := numL_lt ha hb h1 [] []
   rw [h, cmpB_zero.2 rfl] at this
   omega
 · exact h1
 · have := numL_lt hb ha h1 [] []
   rw [h, cmpB_zero.2 rfl] at this
   omega
theorem tail_inj {x y : List UInt8} {a b : Int} (ha : I64 a) (hb : I64 b) (h : x ++ numL a = y ++ numL b) : x = y ∧ a = b := by
 have := List.append_inj' h (by rw [numL_length, numL_length])
 exact ⟨this.1, numL_inj ha hb this.2⟩
/-- The bytes of a character in a text; of a value; of a row. -/
def escB (c : UInt8) : List UInt8 := if c ≤ 1 then [1, c + 1] else [c]
def encL (x : Vl) : List UInt8 := if x.kind = 1 then 2 :: numL x.int else if x.kind = 2 then 3 :: ((bytes x.text).flatMap escB ++ [0]) else [1]
def encR (r : Rw) : List UInt8 := r.flatMap encL
def nullV : Vl := ⟨0, 0, ⟨#[]⟩⟩
/-- A column of a row. -/
def colV (r : Rw) (c : Int) : Vl := if 0 ≤ c then r.getD c.toNat nullV else nullV
def keyL (r : Rw) (cs : List Int) : List UInt8 := cs.flatMap fun c => encL (colV r c)
def textOf (l : List UInt8) : ByteArray := ⟨l.toArray⟩
theorem bytes_textOf (l : List UInt8) : bytes (textOf l) = l := by simp [bytes, textOf]
theorem textOf_append (l m : List UInt8) : textOf l ++ textOf m = textOf (l ++ m) := by
 apply bytes_inj
 simp [bytes, textOf]
/-- The key of a row in an index. -/
def ixKey (id : Int) (r : Rw) (cs : List Int) : ByteArray := textOf (keyL r cs ++ numL id)
theorem ixKey_inj {a b : Int} (ha : I64 a) (hb : I64 b) {r s : Rw} {cs : List Int} (h : ixKey a r cs = ixKey b s cs) : a = b := by
 have h1 := congrArg bytes h
 rw [ixKey, ixKey, bytes_textOf, bytes_textOf] at h1
 exact (tail_inj ha hb h1).2
theorem esc_ok {s : ByteArray} (h : prS s = true) : (bytes s).flatMap escB = bytes s ∧ ∀ c ∈ bytes s, (0 : UInt8) < c := by
 unfold prS at h
 generalize bytes s = l at *
 induction l with
 | nil => exact ⟨rfl, by simp⟩
 | cons c l ih =>
  rw [List.all_cons, Bool.and_eq_true] at h
  obtain ⟨h1, h2⟩ := ih h.2
  have h3 : ¬ c < 32 := by
   intro e
   have := h.1
   simp [prB, e] at this
  rw [UInt8.lt_iff_toNat_lt] at h3
  have e32 : (32 : UInt8).toNat = 32 := rfl
  have h4 : ¬ c ≤ 1 := by
   rw [UInt8.le_iff_toNat_le]
   have e1 : (1 : UInt8).toNat = 1 := rfl
   omega
  refine ⟨by rw [List.flatMap_cons, h1, escB, if_neg h4]; rfl, fun d hd => ?_⟩
  rcases List.mem_cons.1 hd with rfl | hd
  · rw [UInt8.lt_iff_toNat_lt]
    have e0 : (0 : UInt8).toNat = 0 := rfl
    omega
  · exact h2 d hd
theorem text_lt : ∀ (a b x y : List UInt8), (∀ c ∈ b, (0 : UInt8) < c) → Lib.compareBytes a b < 0 → Lib.compareBytes (a ++ [0] ++ x) (b ++ [0] ++ y) < 0
 | [], [], _, _, _, h => by simp [Lib.compareBytes] at h
 | [], d :: b, x, y, h0, _ => by
  rw [List.nil_append, List.cons_append, List.cons_append, List.cons_append, cmpB_head (h0 d (by simp))]
  decide
 | _ :: _, [], _, _, _, h => by simp [Lib.compareBytes] at h
 | c :: a, d :: b, x, y, h0, h => by
  rw [Lib.compareBytes] at h
  rw [List.cons_append, List.cons_append, List.cons_append, List.cons_append, Lib.compareBytes]
  by_cases h1 : c < d
  · simp [h1]
  · by_cases h2 : d < c
    · simp [h1, h2] at h
    · simp only [h1, h2, if_false] at h ⊢
      exact text_lt a b x y (fun e he => h0 e (by simp [he])) h
theorem cmpV_kind {v w : Vl} (h : cmpV v w < 0) : v.kind < w.kind ∨ v.kind = w.kind ∧ (v.int < w.int ∨ v.int = w.int ∧ Lib.compareBytes (bytes v.text) (bytes w.text) < 0) := by
 unfold cmpV orS at h
 by_cases h1 : cmpS v.kind w.kind = 0
 · rw [if_pos h1] at h
   refine .inr ⟨cmpS_zero.1 h1, ?_⟩
   by_cases h2 : cmpS v.int w.int = 0
   · rw [if_pos h2] at h
     exact .inr ⟨cmpS_zero.1 h2, h⟩
   · rw [if_neg h2] at h
     exact .inl (cmpS_neg.1 h)
 · rw [if_neg h1] at h
   exact .inl (cmpS_neg.1 h)
theorem okV_cases {v : Vl} (h : okV v = true) : (v.kind = 0 ∧ v.int = 0 ∧ v.text = .empty) ∨ (v.kind = 1 ∧ v.text = .empty) ∨ (v.kind = 2 ∧ v.int = 0 ∧ prS v.text = true ∧ v.text.size ≤ 16) := by
 unfold okV at h
 by_cases h0 : v.kind = 0
 · rw [if_pos h0] at h
   simp at h
   exact .inl ⟨h0, h⟩
 · by_cases h1 : v.kind = 1
   · rw [if_neg h0, if_pos h1] at h
     simp at h
     exact .inr (.inl ⟨h1, h⟩)
   · by_cases h2 : v.kind = 2
     · rw [if_neg h0, if_neg h1, if_pos h2] at h
       simp at h
       exact .inr (.inr ⟨h2, h⟩)
     · rw [if_neg h0, if_neg h1, if_neg h2] at h
       cases h
/-- Encodings ascend as the values do. -/
theorem encL_lt {v w : Vl} (hv : okV v = true) (hw : okV w = true) (iv : I64 v.int) (iw : I64 w.int) (h : cmpV v w < 0) (x y : List UInt8) : Lib.compareBytes (encL v ++ x) (encL w ++ y) < 0 := by
 have hk := cmpV_kind h
 have e12 : (1 : UInt8) < 2 := by decide
 have e13 : (1 : UInt8) < 3 := by decide
 have e23 : (2 : UInt8) < 3 := by decide
 rcases okV_cases hv with ⟨a1, a2, a3⟩ | ⟨a1, a2⟩ | ⟨a1, a2, a3, a4⟩ <;> rcases okV_cases hw with ⟨b1, b2, b3⟩ | ⟨b1, b2⟩ | ⟨b1, b2, b3, b4⟩ <;> simp only [encL, a1, b1] at hk ⊢
 · rw [a2, b2, a3, b3] at hk
   simp [cmpB_zero.2 rfl] at hk
 · simp [cmpB_head e12]
 · simp [cmpB_head e13]
 · omega
 · rw [a2, b2, cmpB_zero.2 rfl] at hk
   have hlt : v.int < w.int := by omega
   have := numL_lt iv iw hlt x y
   simp only [if_true, List.cons_append]
   rw [Lib.compareBytes]
   simpa [UInt8.lt_irrefl] using this
 · simp [cmpB_head e23]
 · omega
 · omega
 · have ht : Lib.compareBytes (bytes v.text) (bytes w.text) < 0 := by omega
   obtain ⟨p1, p2⟩ := esc_ok a3
   obtain ⟨q1, q2⟩ := esc_ok b3
   have := text_lt _ _ x y q2 ht
   rw [p1, q1]
   simp only [show ¬ (2 : Int) = 1 by decide, if_false, if_true, List.cons_append]
   rw [Lib.compareBytes]
   simpa [UInt8.lt_irrefl] using this
/-- The least text behind all texts with a beginning. -/
def endR : List UInt8 → List UInt8
 | [] => []
 | c :: l => if c = 255 then endR l else (c + 1) :: l
def endL (p : List UInt8) : List UInt8 := (endR p.reverse).reverse
theorem endR_lt : ∀ (l x : List UInt8), (∃ c ∈ l, c ≠ 255) → Lib.compareBytes (l.reverse ++ x) (endR l).reverse < 0
 | [], _, h => by obtain ⟨c, h, _⟩ := h; cases h
 | c :: l, x, h => by
  rw [endR, List.reverse_cons, List.append_assoc]
  by_cases hc : c = 255
  · rw [if_pos hc]
    refine endR_lt l _ ?_
    obtain ⟨d, hd, hd'⟩ := h
    rcases List.mem_cons.1 hd with rfl | hd
    · exact absurd hc hd'
    · exact ⟨d, hd, hd'⟩
  · rw [if_neg hc, List.reverse_cons, cmpB_pre, List.singleton_append, cmpB_head]
    · decide
    · have h1 := c.toNat_lt
      have h2 : c.toNat ≠ 255 := fun e => hc (by rw [← UInt8.toNat_inj]; exact e)
      rw [UInt8.lt_iff_toNat_lt, UInt8.toNat_add]
      have e1 : (1 : UInt8).toNat = 1 := rfl
      rw [e1]
      omega
theorem endL_lt {p : List UInt8} (h : ∃ c ∈ p, c ≠ 255) (x : List UInt8) : Lib.compareBytes (p ++ x) (endL p) < 0 := by
 have := endR_lt p.reverse x (by simpa using h)
 rwa [List.reverse_reverse] at this
theorem encL_head (v : Vl) : ∃ c l, encL v = c :: l ∧ c ≠ 255 := by
 unfold encL
 split
 · exact ⟨_, _, rfl, by decide⟩
 · split
   · exact ⟨_, _, rfl, by decide⟩
   · exact ⟨_, _, rfl, by decide⟩
theorem encR_low {r : Rw} (h : r ≠ []) : ∃ c ∈ encR r, c ≠ 255 := by
 cases r with
 | nil => exact absurd rfl h
 | cons v r =>
  obtain ⟨c, l, e, hc⟩ := encL_head v
  exact ⟨c, by simp [encR, e], hc⟩
end Go.Proofs.YtnefkkidfhmggaaGreat
