/- slices.Clone at rows. -/
import Derived.Test.YtekoemcckdhhnaaF0
import Derived.Lib.SliceRun
namespace Go.Proofs.Ytekoemcckdhhnaa
open Go.RowKit

theorem Try.info38' : (Try.prog.info? 38).map (fun i => (i.zero, i.size, i.bytes)) = some (some (.agg #[.int .i64 0, .int .i64 0, .string ⟨#[]⟩]), 3, 32) := by kernel_rfl
theorem ValsAt.flat {w : World} {R : Rw} {b o n c : Nat} (h : ValsAt w R (.slice (some ⟨b, o, none⟩) n c)) : ∀ j u, (Go.Proofs.Ytekoemcckdhhnaa.flat R)[j]? = some u → w.cell? ((⟨b, o, none⟩ : Addr).add j) = some u := by
  intro j u hu
  have hj := (List.getElem?_eq_some_iff.1 hu).1
  rw [length_flat] at hj
  have hi : j / 3 < R.length := by omega
  have e : (⟨b, o, none⟩ : Addr).add j = ⟨b, o + j, none⟩ := by unfold Addr.add; split <;> simp_all
  rw [e]
  cases h with
  | mt => simp at hi
  | lie _ b o n cap hn hlt hm hc =>
    have := hc (j / 3) hi (j % 3) (Nat.mod_lt _ (by omega))
    rw [show o + j = o + j / 3 * 3 + j % 3 by omega, this, ← flat_get R (j / 3) hi (j % 3) (Nat.mod_lt _ (by omega)), show j / 3 * 3 + j % 3 = j by omega]
    exact hu
theorem vals_src {w : World} {R : Rw} {a : Option Addr} {n c : Nat} (h : ValsAt w R (.slice a n c)) : (a = none ∧ n = 0 ∧ c = 0 ∧ R = []) ∨ ∃ ad, a = some ad ∧ ∀ j u, (Go.Proofs.Ytekoemcckdhhnaa.flat R)[j]? = some u → w.cell? (ad.add j) = some u := by
  cases a with
  | none =>
    cases h with
    | mt => exact .inl ⟨rfl, rfl, rfl, rfl⟩
  | some ad =>
    refine .inr ⟨ad, rfl, ?_⟩
    cases h with
    | mt => intro j u hu; simp [Go.Proofs.Ytekoemcckdhhnaa.flat] at hu
    | lie _ b o n cap hn hlt hm hc ht => exact ValsAt.flat (.lie _ b o n n hn hlt hm hc ht)

set_option maxHeartbeats 1000000 in
theorem clone_calls (R : Rw) (r : Value) (w : World) (hr : ValsAt w R r) (hlen : R.length < 1099511627776) :
    Calls Try.prog 32 #[r] w fun e w' => ∃ v, e = .returned v ∧ RowO w' w.heap.size R v ∧ Below w.heap.size w w' := by
  obtain ⟨a, n, c, rfl, hn, hm⟩ := hr.shape
  have Htx := Lib.hid hr.txt
  obtain ⟨i0, ii, iz0, iz1, iz2⟩ := info_parts Try.info38'
  rcases vals_src hr with ⟨rfl, rfl, rfl, rfl⟩ | ⟨ad, rfl, hsrc⟩
  · have hnil := fun w' => Lib.run_eql_slice_nil (P := Try.prog) w' 33 38 none 0 0 0 0 Try.underlying33
    simp only [Option.isNone_none] at hnil
    clear hr hn hm hlen
    go_enter Try.func32, Try.ntmps32
    go_wp2
    go_ret
    exact ⟨_, rfl, ⟨World.ownsRow_nil _ _ _ _, by simp⟩, Below.refl _ _⟩
  · have Hn := Lib.hid hn
    have hown0 := World.ownsRow_lit (e := 38) (size := 3) w #[] 0 (Nat.le_refl _) (by simp) (by simp)
    have hone := one_flat R
    have hsrc' : ∀ j u, (flat R)[j]? = some u → (w.alloc (.cells #[] 38)).cell? (ad.add j) = some u := by
      intro j u hu
      have h1 := hsrc j u hu
      rw [World.cell?_alloc_lt _ _ _ (World.block_lt_of_cell? w _ h1)]
      exact h1
    have HSRC := Lib.hid hsrc'
    have Hlen := Lib.hid hlen
    have hnil := fun w' => Lib.run_eql_slice_nil (P := Try.prog) w' 33 38 (some ad) n c 0 0 Try.underlying33
    simp only [Option.isNone_some] at hnil
    clear hr hn hm hsrc hsrc' hlen
    go_enter Try.func32, Try.ntmps32
    go_wp2_with (at_builtin; go_loud (refine wpList_append_own _ rfl _ _ 33 rfl w.heap.size 38 i0 (.agg #[.int .i64 0, .int .i64 0, .string ⟨#[]⟩]) 3 32 Try.underlying33 ii iz0 iz1 iz2 rfl (by decide) _ 0 [] rfl hown0 ad n c (flat R) rfl ?c0 ?c1 ?c2 ?c3 ?c4 ?c5 ?_))
    case c0 => rw [length_flat]; have := Hn.out; omega
    case c1 => exact HSRC.out
    case c2 => exact hone
    case c3 => unfold maxLen; have := Hn.out; have := Hlen.out; omega
    case c4 => have := Hn.out; have := Hlen.out; omega
    intro v' w' hown' hgrow _
    have H1 : RowKit.Hid (w'.ownsRow w.heap.size 38 3 v' R.length (flat R)) := by
      show World.ownsRow _ _ _ _ _ _ _
      have e : R.length = 0 + n := by have := Hn.out; omega
      rw [e]
      simpa using hown'
    have H2 : RowKit.Hid (Below w.heap.size w w') := ((Below.refl _ _).alloc (Nat.le_refl _) _).grown hgrow (by simp) (fun k hk => (hown0.lt k hk).1)
    clear hown' hgrow
    go_wp2
    go_ret
    exact ⟨_, rfl, ⟨H1.out, Htx.out⟩, H2.out⟩
end Go.Proofs.Ytekoemcckdhhnaa
