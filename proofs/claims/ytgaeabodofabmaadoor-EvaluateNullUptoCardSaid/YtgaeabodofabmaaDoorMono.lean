/- Plain: replacing values that are NULL does not change a condition without IS NULL that is not Unknown. -/
import Derived.Test.YtgaeabodofabmaaDoorR1
import Derived.Test.YtgaeabodofabmaaDoorTyped
namespace Go.Proofs.YtgaeabodofabmaaDoor

/-- The first k values of R that are NULL are replaced by those of S. -/
def mix (R S : List Vl) (k : Nat) : List Vl := (List.range R.length).map fun i => if i < k ∧ (R.getD i Vl.null).kind = 0 then S.getD i Vl.null else R.getD i Vl.null
theorem length_mix (R S : List Vl) (k : Nat) : (mix R S k).length = R.length := by simp [mix]
theorem mix_zero (R S : List Vl) : mix R S 0 = R := by
  apply List.ext_getElem
  · simp [mix]
  · intro i h1 h2; simp [mix, h2]
theorem mix_get (R S : List Vl) (k : Nat) (i : Nat) (h : i < R.length) (hki : k ≤ i) : (mix R S k)[i]'(by rw [length_mix]; exact h) = R[i] := by
  simp [mix, h]; omega
theorem mix_hit (R S : List Vl) (k : Nat) (hk : k < R.length) (hs : k < S.length) (h : R[k].kind = 0) : mix R S (k + 1) = (mix R S k).set k S[k] := by
  apply List.ext_getElem
  · simp [mix]
  · intro i h1 h2
    have hi : i < R.length := by simpa [mix] using h1
    rw [List.getElem_set]
    by_cases hik : k = i
    · subst hik; simp [mix, hk, hs, h]
    · rw [if_neg hik]
      simp only [mix, List.getElem_map, List.getElem_range]
      have e : (i < k + 1) ↔ (i < k) := by omega
      simp only [e]
theorem mix_miss (R S : List Vl) (k : Nat) (hk : k < R.length) (h : R[k].kind ≠ 0) : mix R S (k + 1) = mix R S k := by
  apply List.ext_getElem
  · simp [mix]
  · intro i h1 h2
    have hi : i < R.length := by simpa [mix] using h1
    simp only [mix, List.getElem_map, List.getElem_range]
    by_cases hik : i = k
    · subst hik; simp [hk, h]
    · have e : (i < k + 1) ↔ (i < k) := by omega
      simp only [e]

section
variable {L : List Int} {R R' : List Vl}
/-- R' has what R has, where that is not NULL. -/
def Keeps (R R' : List Vl) : Prop := ∀ (i : Nat) (v : Vl), R[i]? = some v → v.kind ≠ 0 → R'[i]? = some v

theorem keeps_mix (R S : List Vl) (k : Nat) : Keeps R (mix R S k) := by
  intro i v h hv
  obtain ⟨hi, rfl⟩ := List.getElem?_eq_some_iff.1 h
  rw [List.getElem?_eq_getElem (by rw [length_mix]; exact hi)]
  simp [mix, hi]
  intro _ h0
  exact absurd h0 hv
theorem row_mix {S : List Vl} (hR : RowOf L R) (hS : RowOf L S) (k : Nat) : RowOf L (mix R S k) := by
  refine ⟨by rw [length_mix]; exact hR.1, fun i h h' => ?_⟩
  have hi : i < R.length := by rwa [length_mix] at h
  have his : i < S.length := by rw [hS.1]; exact h'
  simp only [mix, List.getElem_map, List.getElem_range]
  split
  · simp [his]; exact hS.2 i his h'
  · simp [hi]; exact hR.2 i hi h'

theorem value_keeps (hR : RowOf L R) (hk : Keeps R R') {t : Int} {E : Ex} (h : VT L t E) : ∀ v, Ex.value R E = some v → v.kind ≠ 0 → Ex.value R' E = some v := by
  induction h with
  | lit t tb nm ix v h => intro u hu _; simpa [Ex.value] using hu
  | col t tb nm i v h =>
    intro u hu h0
    simp only [Ex.value] at hu ⊢
    simp at hu ⊢
    exact hk i u hu h0
  | neg tb nm ix v A hA ih =>
    intro u hu h0
    obtain ⟨a, ha, _⟩ := vt_value hR hA
    by_cases hz : a.kind = 0
    · simp [Ex.value, Ex.values, ha, hz] at hu; subst hu; exact absurd rfl h0
    · have ha' := ih a ha hz
      simp [Ex.value, Ex.values, ha, ha', hz] at hu ⊢; exact hu
  | len tb nm ix v A hA ih =>
    intro u hu h0
    obtain ⟨a, ha, _⟩ := vt_value hR hA
    by_cases hz : a.kind = 0
    · simp [Ex.value, Ex.values, ha, hz] at hu; subst hu; exact absurd rfl h0
    · have ha' := ih a ha hz
      simp [Ex.value, Ex.values, ha, ha', hz] at hu ⊢; exact hu
  | bin op hop tb nm ix v A B hA hB ihA ihB =>
    intro u hu h0
    obtain ⟨a, ha, _⟩ := vt_value hR hA
    obtain ⟨b, hb, _⟩ := vt_value hR hB
    have h1 : ¬ op = 1 := by omega
    have h2 : ¬ op = 2 := by omega
    by_cases hz : a.kind = 0
    · simp [Ex.value, Ex.values, ha, hz, h1, h2] at hu; subst hu; exact absurd rfl h0
    · by_cases hz2 : b.kind = 0
      · simp [Ex.value, Ex.values, ha, hb, hz2, h1, h2] at hu; subst hu; exact absurd rfl h0
      · have ha' := ihA a ha hz
        have hb' := ihB b hb hz2
        simp [Ex.value, Ex.values, ha, ha', hb, hb', hz, hz2, h1, h2] at hu ⊢; exact hu
  | div op hop tb nm ix v A B d hA hB hc hd hkk h1' h2' ihA ihB =>
    intro u hu h0
    obtain ⟨a, ha, _⟩ := vt_value hR hA
    obtain ⟨b, hb, _⟩ := vt_value hR hB
    have h1 : ¬ op = 1 := by omega
    have h2 : ¬ op = 2 := by omega
    by_cases hz : a.kind = 0
    · simp [Ex.value, Ex.values, ha, hz, h1, h2] at hu; subst hu; exact absurd rfl h0
    · by_cases hz2 : b.kind = 0
      · simp [Ex.value, Ex.values, ha, hb, hz2, h1, h2] at hu; subst hu; exact absurd rfl h0
      · have ha' := ihA a ha hz
        have hb' := ihB b hb hz2
        simp [Ex.value, Ex.values, ha, ha', hb, hb', hz, hz2, h1, h2] at hu ⊢; exact hu

/-- **A condition without IS NULL that is not Unknown does not change.** -/
theorem cond_keeps (hR : RowOf L R) (hR' : RowOf L R') (hk : Keeps R R') {E : Ex} (h : CT L E) : E.nulls = false → ∀ x, Ex.cond R E = some x → x ≠ .u → Ex.cond R' E = some x := by
  induction h with
  | null tb nm ix v => intro _ x hx h0; simp [Ex.cond] at hx; exact absurd hx.symm h0
  | cmp op hop t tb nm ix v A B hA hB =>
    intro _ x hx h0
    obtain ⟨a, ha, _⟩ := vt_value hR hA
    obtain ⟨b, hb, _⟩ := vt_value hR hB
    rw [Ex.cond.eq_def] at hx ⊢
    simp only at hx ⊢
    rw [if_neg (by omega), if_neg (by omega), if_neg (by omega), if_neg (by omega), if_neg (by omega)] at hx ⊢
    rw [ha, hb] at hx
    simp only [Option.bind_some] at hx
    by_cases hz : a.kind = 0 ∨ b.kind = 0
    · rw [compS, if_pos hz] at hx; exact absurd (Option.some.inj hx).symm h0
    · rw [value_keeps hR hk hA a ha (fun h => hz (.inl h)), value_keeps hR hk hB b hb (fun h => hz (.inr h))]
      exact hx
  | isnull t tb nm ix v A hA => intro hn; simp [Ex.nulls] at hn
  | and tb nm ix v A B hA hB ihA ihB =>
    intro hn x hx h0
    simp [Ex.nulls, Ex.nullsL] at hn
    obtain ⟨p, hp⟩ := ct_cond hR hA
    obtain ⟨q, hq⟩ := ct_cond hR hB
    obtain ⟨p', hp'⟩ := ct_cond hR' hA
    obtain ⟨q', hq'⟩ := ct_cond hR' hB
    have h1 := ihA hn.1 p hp
    have h2 := ihB hn.2 q hq
    simp [Ex.cond, hp, hq] at hx
    simp only [Ex.cond, hp', hq'] at h1 h2 ⊢
    subst hx
    cases p <;> cases q <;> simp_all [T3.and] <;> cases p' <;> simp_all
  | or tb nm ix v A B hA hB ihA ihB =>
    intro hn x hx h0
    simp [Ex.nulls, Ex.nullsL] at hn
    obtain ⟨p, hp⟩ := ct_cond hR hA
    obtain ⟨q, hq⟩ := ct_cond hR hB
    obtain ⟨p', hp'⟩ := ct_cond hR' hA
    obtain ⟨q', hq'⟩ := ct_cond hR' hB
    have h1 := ihA hn.1 p hp
    have h2 := ihB hn.2 q hq
    simp [Ex.cond, hp, hq] at hx
    simp only [Ex.cond, hp', hq'] at h1 h2 ⊢
    subst hx
    cases p <;> cases q <;> simp_all [T3.or] <;> cases p' <;> simp_all
  | not tb nm ix v A hA ihA =>
    intro hn x hx h0
    simp [Ex.nulls, Ex.nullsL] at hn
    obtain ⟨p, hp⟩ := ct_cond hR hA
    have h1 := ihA hn p hp
    simp [Ex.cond, hp] at hx
    subst hx
    cases p <;> simp_all [T3.not, Ex.cond]
end
end Go.Proofs.YtgaeabodofabmaaDoor
