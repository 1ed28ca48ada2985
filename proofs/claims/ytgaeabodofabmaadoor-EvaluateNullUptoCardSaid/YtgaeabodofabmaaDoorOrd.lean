/- A region that draws its order, walked in one given order: operations that yield in every world that meets S are taken as early as they may, the others form a chain. The order is checked once, by a Bool. -/
import Derived.Deep.RegionHeld3
namespace Go.Proofs.YtgaeabodofabmaaDoor
open Go

/-- The rest of a region in the order l: true: the operation yields in every world that meets S; false: it is carried out, and S is shown anew. -/
def wpOrd (P : Program) (ops : Array Oper) (Q : Exit → Act → World → Prop) (S : World → Prop) : List (Nat × Bool) → Act → World → Prop
  | [], a, w => Q .normal a w
  | (i, true) :: l, a, w => ∃ o v, ops[i]? = some o ∧ YieldsIf P ops S o v a ∧ wpOrd P ops Q S l (a.put o.dst v) w
  | (i, false) :: l, a, w => wpOp P ops Q i (fun a' w' => S w' ∧ wpOrd P ops Q S l a' w') a w

/-! The order is checked on numbers: of each operation the mask of those that it waits for, of the slots that it looks at, of the slot that it writes. -/
def edgeMask (o : Oper) : Nat := o.after.toList.foldr (fun e m => if Region.binds .any e then (1 <<< e.on) ||| m else m) 0
def lookMask (ops : Array Oper) (o : Oper) : Nat := (o.looksAt ops).foldr (fun t m => (1 <<< t) ||| m) 0
def dstMask (o : Oper) : Nat := match o.dst with | some d => 1 <<< d | none => 0
def sums (ops : Array Oper) : List (Nat × Nat × Nat) := ops.toList.map fun o => (edgeMask o, lookMask ops o, dstMask o)

def freeL (i Di Li listed : Nat) : Nat → List (Nat × Nat × Nat) → Bool
  | _, [] => true
  | j, (Ej, Lj, Dj) :: l => (Nat.beq j i || Nat.testBit listed j || Nat.testBit Ej i || (Nat.beq (Di &&& Lj) 0 && Nat.beq (Di &&& Dj) 0 && Nat.beq (Dj &&& Li) 0)) && freeL i Di Li listed (j + 1) l
def aloneL (i listed : Nat) : Nat → List (Nat × Nat × Nat) → Bool
  | _, [] => true
  | j, (Ej, _, _) :: l => (Nat.beq j i || Nat.testBit listed j || !Nat.beq (Ej &&& listed) Ej) && aloneL i listed (j + 1) l
def okL (inf : List (Nat × Nat × Nat)) : List (Nat × Bool) → Nat → Bool
  | [], listed => Nat.beq (listed + 1) (1 <<< inf.length)
  | (i, b) :: l, listed => match inf[i]? with
    | none => false
    | some (Ei, Li, Di) => !Nat.testBit listed i && Nat.beq (Ei &&& listed) Ei && (if b then freeL i Di Li listed 0 inf else aloneL i listed 0 inf) && okL inf l (listed ||| (1 <<< i))

theorem testBit_one_shift (t k : Nat) : Nat.testBit (1 <<< t) k = decide (t = k) := by
  rw [Nat.one_shiftLeft, Nat.testBit_two_pow]
theorem edge_bit (o : Oper) (k : Nat) : Nat.testBit (edgeMask o) k = true ↔ ∃ e ∈ o.after, Region.binds .any e = true ∧ e.on = k := by
  unfold edgeMask
  have : ∀ l : List Edge, Nat.testBit (l.foldr (fun e m => if Region.binds .any e then (1 <<< e.on) ||| m else m) 0) k = true ↔ ∃ e ∈ l, Region.binds .any e = true ∧ e.on = k := by
    intro l
    induction l with
    | nil => simp
    | cons e l ih =>
      simp only [List.foldr_cons]
      split
      · rename_i h
        rw [Nat.testBit_or, testBit_one_shift, Bool.or_eq_true, ih]
        simp [h]
      · rename_i h
        rw [ih]
        simp [h]
  rw [this]
  simp
theorem look_bit (ops : Array Oper) (o : Oper) (k : Nat) : Nat.testBit (lookMask ops o) k = true ↔ k ∈ o.looksAt ops := by
  unfold lookMask
  generalize o.looksAt ops = l
  induction l with
  | nil => simp
  | cons t l ih =>
    simp only [List.foldr_cons]
    rw [Nat.testBit_or, testBit_one_shift, Bool.or_eq_true, ih]
    simp [eq_comm]
theorem dst_bit (o : Oper) (k : Nat) : Nat.testBit (dstMask o) k = true ↔ o.dst = some k := by
  unfold dstMask
  cases o.dst with
  | none => simp
  | some d =>
    show Nat.testBit (1 <<< d) k = true ↔ _
    rw [testBit_one_shift]
    simp
theorem and_zero {a b : Nat} (h : a &&& b = 0) (k : Nat) (ha : Nat.testBit a k = true) : Nat.testBit b k = false := by
  have := congrArg (fun x => Nat.testBit x k) h
  simp [ha] at this
  exact this
theorem and_self {a b : Nat} (h : a &&& b = a) (k : Nat) (ha : Nat.testBit a k = true) : Nat.testBit b k = true := by
  have := congrArg (fun x => Nat.testBit x k) h
  simp [ha] at this
  exact this
theorem and_not_self {a b : Nat} (h : ¬ a &&& b = a) : ∃ k, Nat.testBit a k = true ∧ Nat.testBit b k = false := by
  apply Classical.byContradiction
  intro hn
  apply h
  apply Nat.eq_of_testBit_eq
  intro k
  rw [Nat.testBit_and]
  cases ha : Nat.testBit a k with
  | false => rfl
  | true =>
    cases hb : Nat.testBit b k with
    | true => rfl
    | false => exact absurd ⟨k, ha, hb⟩ hn
theorem apart_of {ops : Array Oper} {x y : Oper} (h1 : dstMask x &&& lookMask ops y = 0) (h2 : dstMask x &&& dstMask y = 0) (h3 : dstMask y &&& lookMask ops x = 0) : x.apart ops y = true := by
  unfold Oper.apart
  have e1 : ∀ d, x.dst = some d → d ∉ y.looksAt ops := fun d hd hm => by
    have := and_zero h1 d ((dst_bit x d).2 hd)
    rw [(look_bit ops y d).2 hm] at this
    cases this
  have e2 : ∀ d, x.dst = some d → y.dst ≠ some d := fun d hd hm => by
    have := and_zero h2 d ((dst_bit x d).2 hd)
    rw [(dst_bit y d).2 hm] at this
    cases this
  have e3 : ∀ d, y.dst = some d → d ∉ x.looksAt ops := fun d hd hm => by
    have := and_zero h3 d ((dst_bit y d).2 hd)
    rw [(look_bit ops x d).2 hm] at this
    cases this
  cases hx : x.dst <;> cases hy : y.dst <;> simp [hx, hy] at e1 e2 e3 ⊢
  · exact e3
  · exact e1
  · exact ⟨⟨e1, e2⟩, e3⟩
theorem nbeq (a b : Nat) : (Nat.beq a b = false) = ¬ a = b := by
  rw [← Nat.beq_eq]
  cases Nat.beq a b <;> simp
theorem freeL_spec {i Di Li listed : Nat} : ∀ (l : List (Nat × Nat × Nat)) (k : Nat), freeL i Di Li listed k l = true → ∀ j E L D, l[j]? = some (E, L, D) → k + j = i ∨ Nat.testBit listed (k + j) = true ∨ Nat.testBit E i = true ∨ (Di &&& L = 0 ∧ Di &&& D = 0 ∧ D &&& Li = 0)
  | [], k, _, j, E, L, D, h => by simp at h
  | (E0, L0, D0) :: l, k, hf, j, E, L, D, h => by
    simp only [freeL, Bool.and_eq_true, Bool.or_eq_true, Nat.beq_eq] at hf
    cases j with
    | zero =>
      simp at h
      obtain ⟨rfl, rfl, rfl⟩ := h
      rcases hf.1 with ((h | h) | h) | h
      · exact .inl h
      · exact .inr (.inl h)
      · exact .inr (.inr (.inl h))
      · exact .inr (.inr (.inr ⟨h.1.1, h.1.2, h.2⟩))
    | succ j =>
      have := freeL_spec l (k + 1) hf.2 j E L D (by simpa using h)
      rwa [show k + 1 + j = k + (j + 1) by omega] at this
theorem aloneL_spec {i listed : Nat} : ∀ (l : List (Nat × Nat × Nat)) (k : Nat), aloneL i listed k l = true → ∀ j E L D, l[j]? = some (E, L, D) → k + j = i ∨ Nat.testBit listed (k + j) = true ∨ ¬ E &&& listed = E
  | [], k, _, j, E, L, D, h => by simp at h
  | (E0, L0, D0) :: l, k, hf, j, E, L, D, h => by
    simp only [aloneL, Bool.and_eq_true, Bool.or_eq_true, Nat.beq_eq, Bool.not_eq_true', nbeq] at hf
    cases j with
    | zero =>
      simp at h
      obtain ⟨rfl, rfl, rfl⟩ := h
      rcases hf.1 with (h | h) | h
      · exact .inl h
      · exact .inr (.inl h)
      · exact .inr (.inr h)
    | succ j =>
      have := aloneL_spec l (k + 1) hf.2 j E L D (by simpa using h)
      rwa [show k + 1 + j = k + (j + 1) by omega] at this

/-- What the listed operations' array and the mask have in common. -/
def Same (n : Nat) (listed : Array Bool) (m : Nat) : Prop := listed.size = n ∧ ∀ k, listed.getD k false = Nat.testBit m k
theorem Same.set {n : Nat} {listed : Array Bool} {m i : Nat} (h : Same n listed m) (hi : i < n) : Same n (listed.setIfInBounds i true) (m ||| (1 <<< i)) := by
  refine ⟨by simpa using h.1, fun k => ?_⟩
  rw [Nat.testBit_or, testBit_one_shift, ← h.2 k]
  by_cases hk : i = k
  · subst hk
    simp [h.1, hi]
  · rw [getD_set_ne false hk]
    simp [hk]
theorem Same.true {n : Nat} {listed : Array Bool} {m k : Nat} (h : Same n listed m) (hk : k < n) : listed.getD k true = Nat.testBit m k := by
  rw [← h.2 k]
  have : k < listed.size := by rw [h.1]; exact hk
  simp [Array.getD, this]

theorem wpAnyH_of_ord {P : Program} {ops : Array Oper} {Q : Exit → Act → World → Prop} {S : World → Prop} (hs : ∀ (j : Nat) (o : Oper) cs b, ops[j]? = some o → o.op ≠ .select cs b) (hQ : ∀ c (a : Act) d v w, Q (.panic c) (a.put d v) w → Q (.panic c) a w) {inf : List (Nat × Nat × Nat)} (hinf : inf = sums ops) :
    ∀ (l : List (Nat × Bool)) (listed : Array Bool) (m : Nat) (a : Act) (w : World), okL inf l m = true → Same ops.size listed m → S w → wpOrd P ops Q S l a w → wpAnyH P .any ops Q S l.length listed a w
  | [], listed, m, a, w, hok, hsame, _, h => by
    refine wpAnyH_done ?_ h 0
    simp only [okL, Nat.beq_eq] at hok
    rw [List.eq_nil_iff_forall_not_mem]
    intro j hj
    obtain ⟨hun, oj, hoj, _⟩ := mem_ready.1 hj
    have hlt : j < ops.size := (Array.getElem?_eq_some_iff.1 hoj).1
    rw [hsame.true hlt] at hun
    have hm : m = 2 ^ ops.size - 1 := by
      rw [hinf, Nat.one_shiftLeft] at hok
      simp [sums] at hok
      omega
    rw [hm, Nat.testBit_two_pow_sub_one] at hun
    simp at hun
    omega
  | (i, b) :: l, listed, m, a, w, hok, hsame, hS, h => by
    simp only [okL] at hok
    cases hi : inf[i]? with
    | none => rw [hi] at hok; cases hok
    | some t =>
      obtain ⟨Ei, Li, Di⟩ := t
      rw [hi] at hok
      simp only [Bool.and_eq_true, Bool.not_eq_true', Nat.beq_eq] at hok
      obtain ⟨⟨⟨hun, hE⟩, hcase⟩, hrest⟩ := hok
      have hsum : ∀ (j : Nat) (oj : Oper), ops[j]? = some oj → inf[j]? = some (edgeMask oj, lookMask ops oj, dstMask oj) := fun j oj hj => by
        rw [hinf]
        simp [sums, hj]
      have hilt : i < ops.size := by
        have := (List.getElem?_eq_some_iff.1 hi).1
        rw [hinf] at this
        simpa [sums] using this
      obtain ⟨oi, hoi⟩ : ∃ oi, ops[i]? = some oi := ⟨_, Array.getElem?_eq_getElem hilt⟩
      have hii := hsum i oi hoi
      rw [hi] at hii
      simp only [Option.some.injEq, Prod.mk.injEq] at hii
      obtain ⟨rfl, rfl, rfl⟩ := hii
      have hready : i ∈ Region.ready .any ops listed := by
        refine mem_ready.2 ⟨by rw [hsame.true hilt]; exact hun, oi, hoi, fun e he hb => ?_⟩
        rw [hsame.2]
        exact and_self hE _ ((edge_bit oi e.on).2 ⟨e, he, hb, rfl⟩)
      have ih := fun a' w' => wpAnyH_of_ord (P := P) (S := S) hs hQ hinf l (listed.setIfInBounds i true) _ a' w' hrest (hsame.set hilt)
      cases b with
      | true =>
        simp only [if_true] at hcase
        obtain ⟨o, v, ho, hy, h'⟩ := h
        obtain rfl : o = oi := Option.some.inj (ho.symm.trans hoi)
        refine wpAnyH_first ho hs (fun c a w => hQ c a o.dst v w) l.length listed a w (fun j oj hj hne hunj hno => ?_) hready hy hS (ih _ _ hS h')
        rcases freeL_spec inf 0 hcase j _ _ _ (hsum j oj hj) with h1 | h1 | h1 | h1
        · omega
        · rw [Nat.zero_add, ← hsame.true ((Array.getElem?_eq_some_iff.1 hj).1), hunj] at h1
          cases h1
        · obtain ⟨e, he, hb, hon⟩ := (edge_bit oj i).1 h1
          exact absurd hon (hno e he hb)
        · exact apart_of h1.1 h1.2.1 h1.2.2
      | false =>
        simp only [Bool.false_eq_true, if_false] at hcase
        refine ⟨fun h0 => (by rw [h0] at hready; cases hready), fun j hj => ?_⟩
        obtain ⟨hunj, oj, hoj, hall⟩ := mem_ready.1 hj
        have hjlt : j < ops.size := (Array.getElem?_eq_some_iff.1 hoj).1
        have hji : j = i := by
          rcases aloneL_spec inf 0 hcase j _ _ _ (hsum j oj hoj) with h1 | h1 | h1
          · omega
          · rw [Nat.zero_add, ← hsame.true hjlt, hunj] at h1
            cases h1
          · obtain ⟨k, hk1, hk2⟩ := and_not_self h1
            obtain ⟨e, he, hb, rfl⟩ := (edge_bit oj k).1 hk1
            have := hall e he hb
            rw [hsame.2, hk2] at this
            cases this
        subst hji
        exact wpOp_mono (fun a' w' h' => ⟨h'.1, ih a' w' h'.1 h'.2⟩) h

theorem wp_region_ord {P : Program} {id : Nat} {ops ops' : Array Oper} {Q : Exit → Act → World → Prop} {S : World → Prop} {a : Act} {w : World} (l : List (Nat × Bool)) (inf : List (Nat × Nat × Nat)) (he : ops = ops') (hm : P.follows .mixedOrders = true)
    (hs : Region.noSelect ops' = true) (hl : l.length = ops'.size) (hinf : inf = sums ops') (hok : okL inf l 0 = true) (hS : S w.drew)
    (h : wpOrd P ops' (NoPanic Q) S l a w.drew) : (Code.region id ops true).wp P Q a w := by
  subst he
  have h0 : Same ops.size (Array.replicate ops.size false) 0 := ⟨by simp, fun k => by simp [Array.getD]⟩
  have h1 := wpAnyH_of_ord (Region.noSelect_spec hs) (fun _ _ _ _ _ h => h) hinf l _ 0 _ _ hok h0 hS h
  rw [hl] at h1
  exact wp_region_noPanic (wp_region_held (S := S) hm h1)

theorem ord_yield {P : Program} {ops : Array Oper} {Q : Exit → Act → World → Prop} {S : World → Prop} {i : Nat} {l : List (Nat × Bool)} {a : Act} {w : World} {o : Oper} {v : Value} (ho : ops[i]? = some o) (hw : Region.wanted o (yielded ops a.tmps) = true)
    (hy : ∀ w, S w → (execOp a.eval o).run P w = .ok (.value v) w) (h : wpOrd P ops Q S l (a.put o.dst v) w) : wpOrd P ops Q S ((i, true) :: l) a w :=
  ⟨o, v, ho, .inl ⟨hw, hy⟩, h⟩
theorem ord_skip {P : Program} {ops : Array Oper} {Q : Exit → Act → World → Prop} {S : World → Prop} {i : Nat} {l : List (Nat × Bool)} {a : Act} {w : World} {o : Oper} (ho : ops[i]? = some o) (hw : Region.wanted o (yielded ops a.tmps) = false)
    (h : wpOrd P ops Q S l (a.put o.dst undef) w) : wpOrd P ops Q S ((i, true) :: l) a w :=
  ⟨o, undef, ho, .inr ⟨hw, rfl⟩, h⟩
theorem ord_skip' {P : Program} {ops : Array Oper} {Q : Exit → Act → World → Prop} {S : World → Prop} {i : Nat} {l : List (Nat × Bool)} {a : Act} {w : World} {o : Oper} (ho : ops[i]? = some o) (hw : Region.wanted o (yielded ops a.tmps) = false)
    (hS : S w) (h : wpOrd P ops Q S l (a.put o.dst undef) w) : wpOrd P ops Q S ((i, false) :: l) a w := by
  unfold wpOrd wpOp
  simp only [ho, hw, Bool.false_eq_true, if_false]
  exact ⟨hS, h⟩
/-- An operation that is carried out: what follows is known of K alone. -/
theorem ord_step {P : Program} {ops : Array Oper} {Q : Exit → Act → World → Prop} {S : World → Prop} {i : Nat} {l : List (Nat × Bool)} {a : Act} {w : World} {o : Oper} (ho : ops[i]? = some o) (hw : Region.wanted o (yielded ops a.tmps) = true)
    (h : ∀ K : Act → World → Prop, Shut (∀ a w, S w → wpOrd P ops Q S l a w → K a w) → o.wp P a w K Q) : wpOrd P ops Q S ((i, false) :: l) a w := by
  unfold wpOrd wpOp
  simp only [ho, hw, if_true]
  exact .inl (h _ (fun a w hS h => ⟨hS, h⟩))
/-- A call of a Go function, met by its contract. -/
theorem ord_call {P : Program} {ops : Array Oper} {Q : Exit → Act → World → Prop} {S : World → Prop} {i : Nat} {l : List (Nat × Bool)} {a : Act} {w : World} {o : Oper} {f : FuncId} {args : Array Value} {R : Ending → World → Prop} (ho : ops[i]? = some o) (hw : Region.wanted o (yielded ops a.tmps) = true)
    (hc : (execOp a.eval o).run P w = .ok (.enter f args) w) (hR : Calls P f args w R) (h : ∀ e w', R e w' → ∃ v, e = .returned v ∧ S w' ∧ wpOrd P ops Q S l (a.put o.dst v) w') : wpOrd P ops Q S ((i, false) :: l) a w := by
  unfold wpOrd wpOp
  simp only [ho, hw, if_true, Oper.wp, hc, Oper.upon]
  refine .inl (hR.mono fun e w' hr => ?_)
  obtain ⟨v, rfl, hS, h'⟩ := h e w' hr
  exact ⟨hS, h'⟩
/-- An operation that yields a value and may lay a block. -/
theorem ord_value {P : Program} {ops : Array Oper} {Q : Exit → Act → World → Prop} {S : World → Prop} {i : Nat} {l : List (Nat × Bool)} {a : Act} {w w' : World} {o : Oper} {v : Value} (ho : ops[i]? = some o) (hw : Region.wanted o (yielded ops a.tmps) = true)
    (hc : (execOp a.eval o).run P w = .ok (.value v) w') (hS : S w') (h : wpOrd P ops Q S l (a.put o.dst v) w') : wpOrd P ops Q S ((i, false) :: l) a w := by
  unfold wpOrd wpOp
  simp only [ho, hw, if_true, Oper.wp, hc, Oper.upon]
  exact .inl ⟨hS, h⟩
/-- The operations of region number k. -/
def regionOf (k : Nat) : Code → Array Oper
  | .region id ops _ => if id = k then ops else #[]
  | .seq a b => regionOf k a ++ regionOf k b
  | .cond _ a b => regionOf k a ++ regionOf k b
  | .block _ b => regionOf k b
  | .loop b => regionOf k b
  | .scope b => regionOf k b
  | .rangeFunc _ _ a b => regionOf k a ++ regionOf k b
  | _ => #[]
def posOf (ops : Array Oper) (i : Nat) : String := ((ops[i]?).map (·.pos)).getD default
def aftOf (ops : Array Oper) (i : Nat) : Array Edge := ((ops[i]?).map (·.after)).getD default
end Go.Proofs.YtgaeabodofabmaaDoor
