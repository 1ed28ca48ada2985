/- The program's comparisons: of numbers, texts, values. -/
import Derived.Test.YtekoemcckdhhnaaMem
namespace Go.Proofs.Ytekoemcckdhhnaa
open Go.RowKit

theorem isnan_calls (a : Int) (w : World) : Calls Try.prog 55 #[.int .i64 a] w fun e w' => e = .returned (.bool false) ∧ w = w' := by
  go_enter Try.func55, Try.ntmps55
  go_wp2
  all_goals go_ret
  all_goals exact ⟨by simp, rfl⟩
theorem isnan2_calls (a : Int) (w : World) : Calls Try.prog 54 #[.int .i64 a] w fun e w' => e = .returned (.bool false) ∧ w = w' := by
  go_enter Try.func54, Try.ntmps54
  go_wp2
  all_goals go_ret
  all_goals exact ⟨by simp, rfl⟩
theorem compare_calls (a b : Int) (w : World) : Calls Try.prog 51 #[.int .i64 a, .int .i64 b] w fun e w' => e = .returned (.int .i64 (cmpS a b)) ∧ w = w' := by
  unfold cmpS
  go_enter Try.func51, Try.ntmps51
  go_wp2_with (first | (go_at_call 55; refine (isnan_calls _ _).mono ?_; rintro e w' ⟨rfl, rfl⟩))
  all_goals go_ret
  all_goals exact ⟨by simp [*], rfl⟩
theorem compare2_calls (a b : Int) (w : World) : Calls Try.prog 50 #[.int .i64 a, .int .i64 b] w fun e w' => e = .returned (.int .i64 (cmpS a b)) ∧ w = w' := by
  unfold cmpS
  go_enter Try.func50, Try.ntmps50
  go_wp2_with (first | (go_at_call 54; refine (isnan2_calls _ _).mono ?_; rintro e w' ⟨rfl, rfl⟩))
  all_goals go_ret
  all_goals exact ⟨by simp [*], rfl⟩
theorem run_cmpstring (a b : ByteArray) (w : World) : (callFunc 58 #[.string a, .string b]).run Try.prog w = .ok (.value (.int .i64 (Lib.compareBytes a.data.toList b.data.toList))) w := by
  rw [run_callFunc_extern Try.func58 (by kernel_rfl) (by kernel_rfl) (by kernel_rfl) (e := Extern.BytealgCompare.compare) (by kernel_rfl), Lib.run_compareString]
  rfl
theorem scompare_calls (a b : ByteArray) (w : World) : Calls Try.prog 52 #[.string a, .string b] w fun e w' => e = .returned (.int .i64 (Lib.compareBytes (bytes a) (bytes b))) ∧ w = w' := by
  have hr := run_cmpstring a b
  go_enter Try.func52, Try.ntmps52
  go_wp2
  go_ret
  exact ⟨rfl, rfl⟩
theorem or_calls3 (a b c : Int) (g : Nat) (w : World) (h0 : w.cell? ⟨g, 0, none⟩ = some (.int .i64 a)) (h1 : w.cell? ⟨g, 1, none⟩ = some (.int .i64 b)) (h2 : w.cell? ⟨g, 2, none⟩ = some (.int .i64 c)) :
    Calls Try.prog 49 #[.slice (some ⟨g, 0, none⟩) 3 3] w fun e w' => e = .returned (.int .i64 (orS a (orS b c))) ∧ w = w' := by
  unfold orS
  by_cases ha : a = 0
  · subst ha
    by_cases hb : b = 0
    · subst hb
      by_cases hc : c = 0
      · subst hc
        go_enter Try.func49, Try.ntmps49
        go_wp2
        refine wp_loop_rounds 4 ?_
        rw [rounds_succ]
        go_wp2
        rw [rounds_succ]
        go_wp2
        rw [rounds_succ]
        go_wp2
        rw [rounds_succ]
        go_wp2
        go_ret
        exact ⟨rfl, rfl⟩
      · have hc1 : (c != 0) = true := by simp [hc]
        go_enter Try.func49, Try.ntmps49
        go_wp2
        refine wp_loop_rounds 3 ?_
        rw [rounds_succ]
        go_wp2
        rw [rounds_succ]
        go_wp2
        rw [rounds_succ]
        go_wp2
        go_ret
        exact ⟨rfl, rfl⟩
    · have hb1 : (b != 0) = true := by simp [hb]
      rw [if_neg hb]
      go_enter Try.func49, Try.ntmps49
      go_wp2
      refine wp_loop_rounds 2 ?_
      rw [rounds_succ]
      go_wp2
      rw [rounds_succ]
      go_wp2
      go_ret
      exact ⟨rfl, rfl⟩
  · have ha1 : (a != 0) = true := by simp [ha]
    rw [if_neg ha]
    go_enter Try.func49, Try.ntmps49
    go_wp2
    refine wp_loop_rounds 1 ?_
    rw [rounds_succ]
    go_wp2
    go_ret
    exact ⟨rfl, rfl⟩

/-- value.Compare. -/
theorem cmpV_calls (a b : Vl) (w : World) : Calls Try.prog 43 #[.agg #[.int .i64 a.kind, .int .i64 a.int, .string a.text], .agg #[.int .i64 b.kind, .int .i64 b.int, .string b.text]] w fun e w' => e = .returned (.int .i64 (cmpV a b)) ∧ Below w.heap.size w w' := by
  have Hb0 : RowKit.Hid (∀ o o', Below w.heap.size w ((w.alloc o).alloc o')) := fun o o' => ((Below.refl _ _).alloc (Nat.le_refl _) o).alloc (by simp) o'
  have V1 := (VarIs.new w #[.int .i64 a.kind, .int .i64 a.int, .string a.text] 38).alloc (.cells #[.int .i64 b.kind, .int .i64 b.int, .string b.text] 38)
  have V2 := VarIs.new1 w (.cells #[.int .i64 a.kind, .int .i64 a.int, .string a.text] 38) #[.int .i64 b.kind, .int .i64 b.int, .string b.text] 38
  have hbw := Hb0.out (.cells #[.int .i64 a.kind, .int .i64 a.int, .string a.text] 38) (.cells #[.int .i64 b.kind, .int .i64 b.int, .string b.text] 38)
  go_enter Try.func43, Try.ntmps43
  go_wp2_with fail
  generalize (w.alloc (.cells #[.int .i64 a.kind, .int .i64 a.int, .string a.text] 38)).alloc (.cells #[.int .i64 b.kind, .int .i64 b.int, .string b.text] 38) = W at *
  have Hbw := Lib.hid hbw
  clear hbw Hb0
  obtain ⟨v1, v2, -⟩ := V1
  obtain ⟨u1, u2, -⟩ := V2
  go_region_held3 (fun w' => Below W.heap.size W w' ∧ ∀ b o, b < W.heap.size → w'.cell? ⟨b, o, none⟩ = W.cell? ⟨b, o, none⟩)
    (first | assumption | exact S_of (Below.drew (Below.refl _ _)) | exact S_alloc (by assumption) _)
    (first
      | (go_at_call 50; (with_reducible refine (compare2_calls _ _ _).mono ?_); rintro e w1 ⟨rfl, rfl⟩)
      | (go_at_call 51; (with_reducible refine (compare_calls _ _ _).mono ?_); rintro e w1 ⟨rfl, rfl⟩)
      | (go_at_call 52; (with_reducible refine (scompare_calls _ _ _).mono ?_); rintro e w1 ⟨rfl, rfl⟩)
      | (go_at_call 49; refine (or_calls3 (cmpS a.kind b.kind) (cmpS a.int b.int) (Lib.compareBytes (bytes a.text) (bytes b.text)) _ _ (by go_simp) (by go_simp) (by go_simp)).mono ?_; rintro e w1 ⟨rfl, rfl⟩))
  rename_i hH
  have H := Lib.hid (Hbw.out.trans (hH.1.mono Hbw.out.size))
  clear hH v1 v2 u1 u2
  go_wp2
  go_ret
  exact ⟨rfl, H.out⟩
end Go.Proofs.Ytekoemcckdhhnaa
