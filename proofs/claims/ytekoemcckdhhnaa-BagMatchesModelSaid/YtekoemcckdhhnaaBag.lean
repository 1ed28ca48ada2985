/- Plain: a bag as ascending entries (a row, how often); what its operations do to its rows. -/
import Derived.Test.YtekoemcckdhhnaaRow
namespace Go.Proofs.Ytekoemcckdhhnaa

abbrev Ent := Rw × Nat
/-- Entries in strictly ascending order, each at least once. -/
structure Wf (b : List Ent) : Prop where
  asc : b.Pairwise fun x y => ltR x.1 y.1
  pos : ∀ x ∈ b, 0 < x.2
def rowsB (b : List Ent) : List Rw := b.flatMap fun e => List.replicate e.2 e.1
def lenB (b : List Ent) : Nat := (rowsB b).length
theorem wf_nil : Wf [] := ⟨List.Pairwise.nil, by simp⟩
theorem wf_tail {x : Ent} {b : List Ent} (h : Wf (x :: b)) : Wf b := ⟨(List.pairwise_cons.1 h.asc).2, fun y hy => h.pos y (List.mem_cons_of_mem _ hy)⟩
theorem rowsB_cons (x : Ent) (b : List Ent) : rowsB (x :: b) = List.replicate x.2 x.1 ++ rowsB b := by simp [rowsB]
theorem mem_rowsB {b : List Ent} {r : Rw} (h : r ∈ rowsB b) : ∃ x ∈ b, x.1 = r := by
  simp only [rowsB, List.mem_flatMap] at h
  obtain ⟨x, hx, hr⟩ := h
  exact ⟨x, hx, (List.mem_replicate.1 hr).2.symm⟩
theorem asc_rowsB {b : List Ent} (h : Wf b) : Asc (rowsB b) := by
  induction b with
  | nil => simp [rowsB, Asc]
  | cons x b ih =>
    rw [rowsB_cons]
    refine List.pairwise_append.2 ⟨?_, ih (wf_tail h), ?_⟩
    · refine List.pairwise_replicate.2 (.inr (ltR_irrefl _))
    · intro y hy z hz
      obtain rfl := (List.mem_replicate.1 hy).2
      obtain ⟨e, he, rfl⟩ := mem_rowsB hz
      exact ltR_asymm ((List.pairwise_cons.1 h.asc).1 e he)

/-- How often. -/
def cntB : List Ent → Rw → Nat
  | [], _ => 0
  | x :: b, r => if x.1 = r then x.2 else cntB b r
theorem cntB_none {b : List Ent} {r : Rw} (h : ∀ x ∈ b, x.1 ≠ r) : cntB b r = 0 := by
  induction b with
  | nil => rfl
  | cons x b ih => rw [cntB, if_neg (h x (by simp))]; exact ih fun y hy => h y (List.mem_cons_of_mem _ hy)
theorem count_rowsB {b : List Ent} (h : Wf b) (r : Rw) : (rowsB b).count r = cntB b r := by
  induction b with
  | nil => simp [rowsB, cntB]
  | cons x b ih =>
    rw [rowsB_cons, List.count_append, ih (wf_tail h), cntB]
    split
    · rename_i e
      subst e
      rw [List.count_replicate_self, cntB_none]
      · omega
      · intro y hy e
        have := (List.pairwise_cons.1 h.asc).1 y hy
        rw [e] at this
        exact ltR_irrefl _ this
    · rename_i e
      rw [List.count_replicate]
      simp [e]
/-- A bag is known by its counts. -/
theorem wf_ext : ∀ {b c : List Ent}, Wf b → Wf c → rowsB b = rowsB c → b = c
  | [], [], _, _, _ => rfl
  | [], x :: c, _, h2, h => by
    have := h2.pos x (by simp)
    rw [rowsB_cons] at h
    have h3 := congrArg List.length h
    simp [rowsB] at h3
    omega
  | x :: b, [], h1, _, h => by
    have := h1.pos x (by simp)
    rw [rowsB_cons] at h
    have h3 := congrArg List.length h
    simp [rowsB] at h3
    omega
  | x :: b, y :: c, h1, h2, h => by
    have hc : ∀ r, cntB (x :: b) r = cntB (y :: c) r := fun r => by rw [← count_rowsB h1, ← count_rowsB h2, h]
    have hx : x.1 = y.1 := by
      have px := h1.pos x (by simp)
      have py := h2.pos y (by simp)
      have a1 := hc x.1
      have a2 := hc y.1
      rw [cntB, if_pos rfl] at a1
      rw [show cntB (y :: c) y.1 = y.2 by rw [cntB, if_pos rfl]] at a2
      apply Classical.byContradiction
      intro hne
      rcases ltR_tri x.1 y.1 with h3 | h3 | h3
      · have : cntB (y :: c) x.1 = 0 := cntB_none fun z hz e => by
          rcases List.mem_cons.1 hz with rfl | hz
          · exact hne e.symm
          · have := (List.pairwise_cons.1 h2.asc).1 z hz
            rw [e] at this
            exact ltR_asymm h3 this
        omega
      · exact hne h3
      · have : cntB (x :: b) y.1 = 0 := cntB_none fun z hz e => by
          rcases List.mem_cons.1 hz with rfl | hz
          · exact hne e
          · have := (List.pairwise_cons.1 h1.asc).1 z hz
            rw [e] at this
            exact ltR_asymm h3 this
        omega
    have hn : x.2 = y.2 := by
      have a1 := hc x.1
      rw [cntB, if_pos rfl, cntB, if_pos hx.symm] at a1
      exact a1
    obtain ⟨xr, xn⟩ := x
    obtain ⟨yr, yn⟩ := y
    simp only at hx hn
    subst hx hn
    congr 1
    refine wf_ext (wf_tail h1) (wf_tail h2) ?_
    rw [rowsB_cons, rowsB_cons] at h
    exact List.append_cancel_left h

/-- How many entries come before a row. -/
def posB (b : List Ent) (r : Rw) : Nat := (b.takeWhile fun x => decide (ltR x.1 r)).length
/-- n more occurrences of a row. -/
def putB : List Ent → Rw → Nat → List Ent
  | [], r, n => [(r, n)]
  | x :: b, r, n => if ltR x.1 r then x :: putB b r n else if x.1 = r then (r, x.2 + n) :: b else (r, n) :: x :: b
theorem mem_putB {b : List Ent} {r : Rw} {n : Nat} {y : Ent} (h : y ∈ putB b r n) : y.1 = r ∨ y ∈ b := by
  induction b with
  | nil => simp [putB] at h; exact .inl (by rw [h])
  | cons x b ih =>
    rw [putB] at h
    split at h
    · rcases List.mem_cons.1 h with rfl | h
      · exact .inr (by simp)
      · rcases ih h with h | h
        · exact .inl h
        · exact .inr (List.mem_cons_of_mem _ h)
    · split at h
      · rcases List.mem_cons.1 h with rfl | h
        · exact .inl rfl
        · exact .inr (List.mem_cons_of_mem _ h)
      · rcases List.mem_cons.1 h with rfl | h
        · exact .inl rfl
        · exact .inr h
theorem wf_putB {b : List Ent} (h : Wf b) (r : Rw) {n : Nat} (hn : 0 < n) : Wf (putB b r n) := by
  induction b with
  | nil => exact ⟨List.pairwise_singleton _ _, by simp [putB, hn]⟩
  | cons x b ih =>
    have hx := List.pairwise_cons.1 h.asc
    rw [putB]
    split
    · rename_i hlt
      have := ih (wf_tail h)
      refine ⟨List.pairwise_cons.2 ⟨fun y hy => ?_, this.asc⟩, fun y hy => ?_⟩
      · rcases mem_putB hy with e | e
        · rw [e]; exact hlt
        · exact hx.1 y e
      · rcases List.mem_cons.1 hy with rfl | hy
        · exact h.pos _ (by simp)
        · exact this.pos y hy
    · split
      · rename_i e
        refine ⟨List.pairwise_cons.2 ⟨fun y hy => by rw [← e]; exact hx.1 y hy, hx.2⟩, fun y hy => ?_⟩
        rcases List.mem_cons.1 hy with rfl | hy
        · show 0 < x.2 + n
          omega
        · exact h.pos y (List.mem_cons_of_mem _ hy)
      · rename_i h1 h2
        have hlt : ltR r x.1 := ltR_of_not h1 h2
        refine ⟨List.pairwise_cons.2 ⟨fun y hy => ?_, h.asc⟩, fun y hy => ?_⟩
        · rcases List.mem_cons.1 hy with rfl | hy
          · exact hlt
          · exact ltR_trans hlt (hx.1 y hy)
        · rcases List.mem_cons.1 hy with rfl | hy
          · exact hn
          · exact h.pos y hy
theorem cnt_putB {b : List Ent} (h : Wf b) (r : Rw) (n : Nat) (q : Rw) : cntB (putB b r n) q = cntB b q + (if r = q then n else 0) := by
  induction b with
  | nil => simp [putB, cntB]
  | cons x b ih =>
    rw [putB]
    split
    · rename_i hlt
      rw [cntB, cntB, ih (wf_tail h)]
      split
      · rename_i e
        have : ¬ r = q := fun e2 => by rw [e, e2] at hlt; exact ltR_irrefl _ hlt
        simp [this]
      · rfl
    · split
      · rename_i e
        rw [cntB, cntB]
        simp only
        by_cases hq : r = q
        · simp [hq, e]
        · have : ¬ x.1 = q := fun e2 => hq (e ▸ e2)
          simp [hq, this]
      · rename_i h1 h2
        rw [cntB]
        simp only
        by_cases hq : r = q
        · subst hq
          rw [if_pos rfl, if_pos rfl, cntB_none]
          · omega
          · intro y hy e
            have hlt : ltR r x.1 := ltR_of_not h1 h2
            rcases List.mem_cons.1 hy with rfl | hy
            · exact h2 e
            · have := ltR_trans hlt ((List.pairwise_cons.1 h.asc).1 y hy)
              rw [e] at this
              exact ltR_irrefl _ this
        · simp [hq]
theorem rows_putB {b : List Ent} (h : Wf b) (r : Rw) : rowsB (putB b r 1) = putL (rowsB b) r := by
  refine asc_ext (asc_rowsB (wf_putB h r (by omega))) (asc_putL (asc_rowsB h) r) fun q => ?_
  rw [count_rowsB (wf_putB h r (by omega)), cnt_putB h, count_putL, count_rowsB h]
theorem len_putB {b : List Ent} (r : Rw) (n : Nat) : lenB (putB b r n) = lenB b + n := by
  unfold lenB
  induction b with
  | nil => simp [putB, rowsB]
  | cons x b ih =>
    rw [putB]
    split
    · rw [rowsB_cons, rowsB_cons, List.length_append, List.length_append, ih]; omega
    · split
      · rw [rowsB_cons, rowsB_cons, List.length_append, List.length_append]; simp; omega
      · rw [rowsB_cons, List.length_append]; simp; omega

/-- One occurrence less. -/
def subB : List Ent → Rw → List Ent
  | [], _ => []
  | x :: b, r => if x.1 = r then (if x.2 = 1 then b else (x.1, x.2 - 1) :: b) else x :: subB b r
theorem mem_subB {b : List Ent} {r : Rw} {y : Ent} (h : y ∈ subB b r) : ∃ x ∈ b, x.1 = y.1 := by
  induction b with
  | nil => simp [subB] at h
  | cons x b ih =>
    rw [subB] at h
    split at h
    · split at h
      · exact ⟨y, List.mem_cons_of_mem _ h, rfl⟩
      · rcases List.mem_cons.1 h with rfl | h
        · exact ⟨x, by simp, rfl⟩
        · exact ⟨y, List.mem_cons_of_mem _ h, rfl⟩
    · rcases List.mem_cons.1 h with rfl | h
      · exact ⟨y, by simp, rfl⟩
      · obtain ⟨z, hz, e⟩ := ih h
        exact ⟨z, List.mem_cons_of_mem _ hz, e⟩
theorem wf_subB {b : List Ent} (h : Wf b) (r : Rw) : Wf (subB b r) := by
  induction b with
  | nil => exact h
  | cons x b ih =>
    have hx := List.pairwise_cons.1 h.asc
    rw [subB]
    split
    · split
      · exact wf_tail h
      · rename_i h1 h2
        have := h.pos x (by simp)
        refine ⟨List.pairwise_cons.2 ⟨hx.1, hx.2⟩, fun y hy => ?_⟩
        rcases List.mem_cons.1 hy with rfl | hy
        · show 0 < x.2 - 1
          omega
        · exact h.pos y (List.mem_cons_of_mem _ hy)
    · have := ih (wf_tail h)
      refine ⟨List.pairwise_cons.2 ⟨fun y hy => ?_, this.asc⟩, fun y hy => ?_⟩
      · obtain ⟨z, hz, e⟩ := mem_subB hy
        rw [← e]
        exact hx.1 z hz
      · rcases List.mem_cons.1 hy with rfl | hy
        · exact h.pos _ (by simp)
        · exact this.pos y hy
theorem cnt_subB {b : List Ent} (h : Wf b) (r q : Rw) : cntB (subB b r) q = cntB b q - (if r = q then 1 else 0) := by
  induction b with
  | nil => simp [subB, cntB]
  | cons x b ih =>
    have hx := List.pairwise_cons.1 h.asc
    rw [subB]
    split
    · rename_i e
      split
      · rename_i h1
        rw [cntB]
        by_cases hq : r = q
        · rw [if_pos hq, if_pos (e.trans hq), h1, cntB_none]
          intro y hy e2
          have := hx.1 y hy
          rw [e2, e, hq] at this
          exact ltR_irrefl _ this
        · rw [if_neg hq, if_neg (fun e2 => hq (e.symm.trans e2))]
          omega
      · rw [cntB, cntB]
        simp only
        by_cases hq : r = q
        · rw [if_pos hq, if_pos (e.trans hq), if_pos (e.trans hq)]
        · rw [if_neg hq, if_neg (fun e2 => hq (e.symm.trans e2)), if_neg (fun e2 => hq (e.symm.trans e2))]
          omega
    · rename_i e
      rw [cntB, cntB, ih (wf_tail h)]
      split
      · rename_i e2
        have : ¬ r = q := fun e3 => e (e2.trans e3.symm)
        simp [this]
      · rfl
theorem rows_subB {b : List Ent} (h : Wf b) (r : Rw) : rowsB (subB b r) = dropL (rowsB b) r := by
  refine asc_ext (asc_rowsB (wf_subB h r)) (asc_dropL (asc_rowsB h) r) fun q => ?_
  rw [count_rowsB (wf_subB h r), cnt_subB h, count_dropL, count_rowsB h]

/-- What b has more often than c. -/
def diffB (b c : List Ent) : List Ent := b.filterMap fun x => if cntB c x.1 < x.2 then some (x.1, x.2 - cntB c x.1) else none
theorem diffB_cons (x : Ent) (b c : List Ent) : diffB (x :: b) c = if cntB c x.1 < x.2 then (x.1, x.2 - cntB c x.1) :: diffB b c else diffB b c := by
  unfold diffB
  rw [List.filterMap_cons]
  split <;> rename_i h <;> split at h <;> simp_all
theorem mem_diffB {b c : List Ent} {y : Ent} (h : y ∈ diffB b c) : ∃ x ∈ b, x.1 = y.1 ∧ 0 < y.2 := by
  simp only [diffB, List.mem_filterMap] at h
  obtain ⟨x, hx, e⟩ := h
  split at e
  · rename_i hlt
    cases e
    exact ⟨x, hx, rfl, by show 0 < x.2 - _; omega⟩
  · cases e
theorem wf_diffB {b : List Ent} (h : Wf b) (c : List Ent) : Wf (diffB b c) := by
  refine ⟨?_, fun y hy => (mem_diffB hy).choose_spec.2.2⟩
  induction b with
  | nil => simp [diffB]
  | cons x b ih =>
    rw [diffB_cons]
    split
    · refine List.pairwise_cons.2 ⟨fun y hy => ?_, ih (wf_tail h)⟩
      obtain ⟨z, hz, e, _⟩ := mem_diffB hy
      rw [← e]
      exact (List.pairwise_cons.1 h.asc).1 z hz
    · exact ih (wf_tail h)
theorem cnt_diffB {b : List Ent} (h : Wf b) (c : List Ent) (q : Rw) : cntB (diffB b c) q = cntB b q - cntB c q := by
  induction b with
  | nil => simp [diffB, cntB]
  | cons x b ih =>
    have hn : x.1 = q → cntB (diffB b c) q = 0 := fun e => cntB_none fun y hy e2 => by
      obtain ⟨z, hz, e3, _⟩ := mem_diffB hy
      have := (List.pairwise_cons.1 h.asc).1 z hz
      rw [e3, e2, e] at this
      exact ltR_irrefl _ this
    rw [diffB_cons]
    split
    · rename_i hlt
      rw [cntB, cntB]
      simp only
      split
      · rename_i e
        rw [e]
      · exact ih (wf_tail h)
    · rename_i hge
      rw [cntB]
      split
      · rename_i e
        rw [hn e, ← e]
        omega
      · exact ih (wf_tail h)
theorem rows_diffB {b c : List Ent} (h : Wf b) (hc : Wf c) : rowsB (diffB b c) = minusL (rowsB b) (rowsB c) := by
  refine asc_ext (asc_rowsB (wf_diffB h c)) (asc_minusL (asc_rowsB h) _) fun q => ?_
  rw [count_rowsB (wf_diffB h c), cnt_diffB h, count_minusL, count_rowsB h, count_rowsB hc]

/-- The bag of a list of rows. -/
def newB (l : List Rw) : List Ent := l.foldl (fun b r => putB b r 1) []
theorem newB_all (l : List Rw) : Wf (newB l) ∧ rowsB (newB l) = ofL l := by
  unfold newB ofL
  have : ∀ (l : List Rw) (b : List Ent), Wf b → Wf (l.foldl (fun b r => putB b r 1) b) ∧ rowsB (l.foldl (fun b r => putB b r 1) b) = l.foldl putL (rowsB b) := by
    intro l
    induction l with
    | nil => intro b h; exact ⟨h, rfl⟩
    | cons x l ih =>
      intro b h
      have := ih (putB b x 1) (wf_putB h x (by omega))
      rw [rows_putB h] at this
      exact this
  exact this l [] wf_nil
end Go.Proofs.Ytekoemcckdhhnaa
