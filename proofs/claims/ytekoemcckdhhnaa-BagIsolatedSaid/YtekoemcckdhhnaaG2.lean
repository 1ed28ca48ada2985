/- slices.Insert at entries. -/
import Derived.Test.YtekoemcckdhhnaaG3
namespace Go.Proofs.Ytekoemcckdhhnaa
open Go.RowKit

/-- What Insert leaves. -/
def Ins (w : World) (B : Nat) (s : Value) (n i : Nat) (cs vs : List Value) (e : Ending) (w' : World) : Prop :=
  ∃ s', e = .returned s' ∧ w'.ownsRow B 57 2 s' (n + 1) (cs.take (i * 2) ++ vs ++ cs.drop (i * 2)) ∧ w.grownBy w' s.ownBlock ∧ ∀ k, s'.ownBlock = some k → s.ownBlock = some k ∨ w.heap.size ≤ k

set_option maxHeartbeats 2000000 in
set_option maxRecDepth 100000 in
theorem insert_end (B : Nat) (s : Value) (n vb : Nat) (cs : List Value) (x : Value) (w : World) (hs : w.ownsRow B 57 2 s n cs) (hn : n < 1099511627776) (hB : B ≤ w.heap.size)
    (hv : w.heap[vb]? = some (.cells #[x, .int .i64 0] 57 (0, 0))) (hx : x.oneCell' = true) :
    Calls Try.prog 39 #[s, .int .i64 n, .slice (some ⟨vb, 0, none⟩) 1 1] w (Ins w B s n n cs [x, .int .i64 0]) := by
  obtain ⟨i0, ii, iz0, iz1, iz2⟩ := info_parts Try.info57'
  have Hs := Lib.hid hs
  have Hv : RowKit.Hid (∀ j u, [x, Value.int .i64 0][j]? = some u → w.cell? ((⟨vb, 0, none⟩ : Addr).add j) = some u) := by
    intro j u hu
    rw [Addr.add_lit, Nat.zero_add, cell_of_row w vb j _ 57 (0, 0) hv]
    simpa using hu
  have H1 : RowKit.Hid (∀ u ∈ [x, Value.int .i64 0], u.oneCell' = true) := by
    intro u hu
    simp at hu
    rcases hu with rfl | rfl
    · exact hx
    · rfl
  have Hfin : RowKit.Hid (∀ v' w', w'.ownsRow B 57 2 v' (n + 1) (cs ++ [x, .int .i64 0]) → w.grownBy w' s.ownBlock → (∀ k, v'.ownBlock = some k → s.ownBlock = some k ∨ w.heap.size ≤ k) → Ins w B s n n cs [x, .int .i64 0] (.returned v') w') := by
    intro v' w' h1 h2 h3
    refine ⟨v', rfl, ?_, h2, h3⟩
    have hl := hs.1
    rw [List.take_of_length_le (by omega), List.drop_of_length_le (by omega), List.append_nil]
    exact h1
  obtain ⟨a, c, hsl, hcn⟩ : ∃ a c, s = .slice a n c ∧ n ≤ c := by
    rcases hs.2 with ⟨rfl, rfl⟩ | ⟨g, cap, cur, rfl, _, _, h, _⟩
    · exact ⟨_, _, rfl, Nat.le_refl _⟩
    · exact ⟨_, _, rfl, h⟩
  subst hsl
  have hc63 : c ≤ maxLen := by
    rcases hs.2 with ⟨h, rfl⟩ | ⟨g, cap, cur, h, _, _, _, h2, _⟩
    · injection h with _ _ h; subst h; decide
    · injection h with _ _ h; subst h; exact h2
  unfold maxLen at hc63
  have Hsl : RowKit.Hid (a = none → n = 0 ∧ c = 0) := by
    intro ha
    rcases hs.2 with ⟨h, rfl⟩ | ⟨g, cap, cur, h, _⟩
    · injection h with _ _ h; exact ⟨rfl, h⟩
    · injection h with h; rw [ha] at h; cases h
  clear hs hv hx
  go_enter Try.func39, Try.ntmps39
  cases a with
  | none =>
    obtain ⟨rfl, rfl⟩ := Hsl.out rfl
    go_wp2_with (at_builtin; go_loud (refine wpList_append_block _ rfl _ _ 53 rfl B 57 i0 (.agg #[.slice none 0 0, .int .i64 0]) 2 32 Try.underlying53 ii iz0 iz1 iz2 rfl (by decide) _ _ _ rfl Hs.out ⟨vb, 0, none⟩ 1 1 [x, .int .i64 0] rfl rfl Hv.out H1.out (by decide) ?c1 ?c2 hB ?_))
    case c1 => unfold maxLen; omega
    intro v' w' h1 h2 h3
    have Hr := Lib.hid (Hfin.out v' w' h1 h2 h3.out)
    clear h1 h2 h3
    go_wp2
    go_ret
    exact Hr.out
  | some ad =>
    obtain ⟨ab, ao, asp⟩ := ad
    go_wp2_with (at_builtin; refine wpList_append_block _ rfl _ _ 53 rfl B 57 i0 (.agg #[.slice none 0 0, .int .i64 0]) 2 32 Try.underlying53 ii iz0 iz1 iz2 rfl (by decide) _ _ _ rfl Hs.out ⟨vb, 0, none⟩ 1 1 [x, .int .i64 0] rfl rfl Hv.out H1.out (by decide) (by unfold maxLen; omega) (by omega) hB ?_)
    all_goals
      intro v' w' h1 h2 h3
      have Hr := Lib.hid (Hfin.out v' w' h1 h2 h3.out)
      clear h1 h2 h3
      go_wp2
      go_ret
      exact Hr.out

set_option maxHeartbeats 2000000 in
set_option maxRecDepth 100000 in
theorem insert_shift (B : Nat) (g n c i vb : Nat) (cs : List Value) (cur : Array Value) (x : Value) (w : World) (hn : n < 1099511627776) (hin : i < n) (hnc : n < c) (hcm : c ≤ maxLen)
    (hg : w.heap[g]? = some (.cells cur 57 (0, 0))) (hbg : B ≤ g) (hcur : cur.size = c * 2) (htk : cur.toList.take (n * 2) = cs) (h1 : ∀ u ∈ cs, u.oneCell' = true)
    (hv : w.heap[vb]? = some (.cells #[x, .int .i64 0] 57 (0, 0))) (hx : x.oneCell' = true) (hne : vb ≠ g) :
    Calls Try.prog 39 #[.slice (some ⟨g, 0, none⟩) n c, .int .i64 i, .slice (some ⟨vb, 0, none⟩) 1 1] w (Ins w B (.slice (some ⟨g, 0, none⟩) n c) n i cs [x, .int .i64 0]) := by
  obtain ⟨i0, ii, iz0, iz1, iz2⟩ := info_parts Try.info57'
  have hov : ∀ lb cb, (callFunc 46 #[.slice (some ⟨vb, 0, none⟩) 1 1, .slice (some ⟨g, (i + 1) * 2, none⟩) lb cb]).run Try.prog w = .ok (.value (.bool false)) w := fun lb cb => by
    rw [run_callFunc_extern Try.func46 (by kernel_rfl) (by kernel_rfl) (by kernel_rfl) (e := Extern.SlicesOverlaps.overlaps #[53, 53] #[4]) (by kernel_rfl),
      Lib.run_overlaps_apart w 53 4 57 Try.underlying53 2 (fun w => by simp [sizeOf, typeInfo, ii, iz1]) ⟨vb, 0, none⟩ ⟨g, (i + 1) * 2, none⟩ 1 1 lb cb hne 57 57 2 (c * 2) (by simp [World.shape?, hv]) (by simp [World.shape?, hg, hcur]) (by omega) (by simp [World.frozen?, hv]) (by simp [World.frozen?, hv])]
    rfl
  have hsz : (Try.prog.info? 57).map (·.size) = some 2 := by rw [ii]; simp [iz1]
  have hl : cs.length = n * 2 := by rw [← htk]; simp; omega
  unfold maxLen at hcm
  have Hsrc : RowKit.Hid (∀ j u, (cs.drop (i * 2))[j]? = some u → w.cell? ((⟨g, i * 2, none⟩ : Addr).add j) = some u) := by
    intro j u hu
    rw [Addr.add_lit, cell_of_row w g _ cur 57 (0, 0) hg]
    rw [List.getElem?_drop, ← htk, List.getElem?_take] at hu
    split at hu
    · simpa using hu
    · cases hu
  have Hv : RowKit.Hid (∀ w', w.grownBy w' (some g) → ∀ j u, [x, Value.int .i64 0][j]? = some u → w'.cell? ((⟨vb, 0, none⟩ : Addr).add j) = some u) := by
    intro w' hw j u hu
    have hv' : w'.heap[vb]? = some (.cells #[x, .int .i64 0] 57 (0, 0)) := (hw.block vb (Array.getElem?_eq_some_iff.1 hv).1 (by simpa using hne)).trans hv
    rw [Addr.add_lit, Nat.zero_add, cell_of_row w' vb j _ 57 (0, 0) hv']
    simpa using hu
  have H1 : RowKit.Hid (∀ u ∈ [x, Value.int .i64 0], u.oneCell' = true) := by
    intro u hu
    simp at hu
    rcases hu with rfl | rfl
    · exact hx
    · rfl
  have H1c : RowKit.Hid (∀ u ∈ cs.drop (i * 2), u.oneCell' = true) := fun u hu => h1 u (List.mem_of_mem_drop hu)
  have Hg : RowKit.Hid (w.heap[g]? = some (.cells cur.toList.toArray 57 (0, 0))) := hg
  have Hfit : RowKit.Hid ((i + 1) * 2 + (cs.drop (i * 2)).length ≤ cur.toList.length) := by show _ ≤ _; simp; omega
  have Hmin : RowKit.Hid ((cs.drop (i * 2)).length = Nat.min (n + 1 - i) (n - i) * 2) := by show _ = _; simp only [List.length_drop, Nat.min_def]; split <;> omega
  have Hfit2 : RowKit.Hid (i * 2 + [x, Value.int .i64 0].length ≤ (splice cur.toList ((i + 1) * 2) (cs.drop (i * 2))).length) := by show _ ≤ _; rw [splice_length _ _ _ Hfit.out]; simp; omega
  have Hmin2 : RowKit.Hid ([x, Value.int .i64 0].length = Nat.min 1 (n + 1 - i) * 2) := by show _ = _; simp only [List.length_cons, List.length_nil, Nat.min_def]; split <;> omega
  have Hfin : RowKit.Hid (∀ w' w'', w.grownBy w' (some g) → w'.grownBy w'' (some g) → w''.heap[g]? = some (.cells (splice (splice cur.toList ((i + 1) * 2) (cs.drop (i * 2))) (i * 2) [x, .int .i64 0]).toArray 57 (0, 0)) →
      Ins w B (.slice (some ⟨g, 0, none⟩) n c) n i cs [x, .int .i64 0] (.returned (.slice (some ⟨g, 0, none⟩) (n + 1) c)) w'') := by
    intro w' w'' g1 g2 hw
    refine ⟨_, rfl, ⟨by simp; omega, .inr ⟨g, c, _, rfl, hbg, hw, by omega, by unfold maxLen; omega, ?_, ?_⟩⟩, ?_, fun k hk => .inl hk⟩
    · have := Hfit2.out
      have hh := Hfit.out
      simp only [List.size_toArray, splice_length _ _ _ this, splice_length _ _ _ hh, Array.length_toList, hcur]
    · have := row_shift cur.toList (i * 2) (n * 2) [x, .int .i64 0] (by simp; omega) (by omega)
      rw [htk] at this
      rw [show (n + 1) * 2 = n * 2 + [x, Value.int .i64 0].length by simp; omega, show (i + 1) * 2 = i * 2 + [x, Value.int .i64 0].length by simp; omega]
      simpa using this
    · exact ⟨g2.os.trans g1.os, g2.tape.trans g1.tape, g2.output.trans g1.output, Nat.le_trans g1.size g2.size, fun k hk hk' => (g2.block k (Nat.lt_of_lt_of_le hk g1.size) hk').trans (g1.block k hk hk')⟩
  have hw1 : IntKind.i64.wrap ((i : Int) + (1 : Int)) = (i : Int) + (1 : Int) := by rw [IntKind.wrap_i64]; omega
  have hb1 : (0 : Int) ≤ (i : Int) + (1 : Int) := by omega
  have htn : ((i : Int) + (1 : Int)).toNat = i + 1 := by omega
  have hb2 : ¬ (c = i + 1) := by omega
  have hb4 : ¬ (c = i) := by omega
  have hin' : i ≤ n := by omega
  have hi0 : (0 : Int) ≤ (i : Int) := by omega
  have hi1 : (i : Int) < (n : Int) := by omega
  have hi2 : (i : Int) ≤ (n : Int) + 1 := by omega
  have hz2 : ¬ ((i : Int) = (n : Int)) := by omega
  have hn0 : (n : Int) + 1 ≤ c := by omega
  clear hv hx h1 hg htk hl hcur hne
  go_enter Try.func39, Try.ntmps39
  go_wp2_with (simp only [hov])
  go_region_law ((refine step_copy2 rfl _ _ 53 53 rfl 57 2 Try.underlying53 hsz g ((i + 1) * 2) (n - i) (c - (i + 1)) ⟨g, i * 2, none⟩ (n + 1 - i) (c - i) (by simp [Act.eval, Act.put, *]) (by simp [Act.eval, Act.put, *]) cur.toList 57 Hg.out (cs.drop (i * 2)) Hmin.out Hsrc.out Hfit.out H1c.out ?_; intro W1 hW1 hG1))
  go_wp2_with (first | (refine wpList_copy2 rfl _ _ 53 53 rfl 57 2 Try.underlying53 hsz g (i * 2) (n + 1 - i) (c - i) ⟨vb, 0, none⟩ 1 1 rfl rfl (splice cur.toList ((i + 1) * 2) (cs.drop (i * 2))) 57 hW1.out [x, .int .i64 0] Hmin2.out ?e1 Hfit2.out H1.out ?_))
  case e1 => exact Hv.out W1 (grown_drew hG1.out)
  intro W2 hW2 hG2
  have Hr := Lib.hid (Hfin.out W1 W2 (grown_drew hG1.out) hG2.out hW2.out)
  clear hG1 hG2 hW1 hW2
  go_wp2
  go_ret
  exact Hr.out

set_option maxHeartbeats 2000000 in
set_option maxRecDepth 100000 in
theorem insert_grow (B : Nat) (g n i vb : Nat) (cs : List Value) (cur : Array Value) (x : Value) (w : World) (hn : n < 1099511627776) (hin : i < n) (hB : B ≤ w.heap.size)
    (hg : w.heap[g]? = some (.cells cur 57 (0, 0))) (hcur : cur.size = n * 2) (htk : cur.toList.take (n * 2) = cs) (h1 : ∀ u ∈ cs, u.oneCell' = true)
    (hv : w.heap[vb]? = some (.cells #[x, .int .i64 0] 57 (0, 0))) (hx : x.oneCell' = true) :
    Calls Try.prog 39 #[.slice (some ⟨g, 0, none⟩) n n, .int .i64 i, .slice (some ⟨vb, 0, none⟩) 1 1] w (Ins w B (.slice (some ⟨g, 0, none⟩) n n) n i cs [x, .int .i64 0]) := by
  obtain ⟨i0, ii, iz0, iz1, iz2⟩ := info_parts Try.info57'
  have hsz : (Try.prog.info? 57).map (·.size) = some 2 := by rw [ii]; simp [iz1]
  have hl : cs.length = n * 2 := by rw [← htk]; simp; omega
  have hgl : g < w.heap.size := (Array.getElem?_eq_some_iff.1 hg).1
  have hvl : vb < w.heap.size := (Array.getElem?_eq_some_iff.1 hv).1
  have Hold : RowKit.Hid (∀ j u, (cs.take (i * 2))[j]? = some u → w.cell? ⟨g, j, none⟩ = some u) := by
    intro j u hu
    rw [cell_of_row w g _ cur 57 (0, 0) hg]
    rw [List.getElem?_take] at hu
    split at hu
    · rw [← htk, List.getElem?_take] at hu
      split at hu
      · simpa using hu
      · cases hu
    · cases hu
  have Hsrc : RowKit.Hid (∀ w', Below w.heap.size w w' → ∀ j u, (cs.drop (i * 2))[j]? = some u → w'.cell? ((⟨g, i * 2, none⟩ : Addr).add j) = some u) := by
    intro w' hb j u hu
    rw [Addr.add_lit, cell_of_row w' g _ cur 57 (0, 0) ((hb.block g hgl).trans hg)]
    rw [List.getElem?_drop, ← htk, List.getElem?_take] at hu
    split at hu
    · simpa using hu
    · cases hu
  have Hv : RowKit.Hid (∀ w', Below w.heap.size w w' → ∀ j u, [x, Value.int .i64 0][j]? = some u → w'.cell? ((⟨vb, 0, none⟩ : Addr).add j) = some u) := by
    intro w' hb j u hu
    rw [Addr.add_lit, Nat.zero_add, cell_of_row w' vb j _ 57 (0, 0) ((hb.block vb hvl).trans hv)]
    simpa using hu
  have H1 : RowKit.Hid (∀ u ∈ [x, Value.int .i64 0], u.oneCell' = true) := by
    intro u hu
    simp at hu
    rcases hu with rfl | rfl
    · exact hx
    · rfl
  have H1c : RowKit.Hid (∀ u ∈ cs.drop (i * 2), u.oneCell' = true) := fun u hu => h1 u (List.mem_of_mem_drop hu)
  have Hlt : RowKit.Hid ((cs.take (i * 2)).length = i * 2) := by show _ = _; simp; omega
  have Hmin2 : RowKit.Hid (∀ m, 1 ≤ m → [x, Value.int .i64 0].length = Nat.min 1 m * 2) := by intro m hm; simp only [List.length_cons, List.length_nil, Nat.min_def]; split <;> omega
  have Hmin : RowKit.Hid ((cs.drop (i * 2)).length = Nat.min (n - i) (n - i) * 2) := by show _ = _; simp only [List.length_drop, Nat.min_def]; split <;> omega
  have Hfit : RowKit.Hid (∀ G Z, Z.length = (G - i) * 2 → n + 1 ≤ G → i * 2 + [x, Value.int .i64 0].length ≤ (cs.take (i * 2) ++ Z).length) := by intro G Z h1 h2; simp; omega
  have Hfit2 : RowKit.Hid (∀ G Z, Z.length = (G - i) * 2 → n + 1 ≤ G → (i + 1) * 2 + (cs.drop (i * 2)).length ≤ (splice (cs.take (i * 2) ++ Z) (i * 2) [x, Value.int .i64 0]).length) := by
    intro G Z h1 h2; rw [splice_length _ _ _ (Hfit.out G Z h1 h2)]; simp; omega
  have Hfin : RowKit.Hid (∀ w1 w2 w3 G Z, Z.length = (G - i) * 2 → n + 1 ≤ G → G ≤ maxLen → w.grownBy w1 none → w1.grownBy w2 (some w.heap.size) → w2.grownBy w3 (some w.heap.size) → w3.heap[w.heap.size]? = some (.cells (splice (splice (cs.take (i * 2) ++ Z) (i * 2) [x, .int .i64 0]) ((i + 1) * 2) (cs.drop (i * 2))).toArray 57 (0, 0)) →
      Ins w B (.slice (some ⟨g, 0, none⟩) n n) n i cs [x, .int .i64 0] (.returned (.slice (some ⟨w.heap.size, 0, none⟩) (n + 1) G)) w3) := by
    intro w1 w2 w3 G Z hZ hG hGm g1 g2 g3 hw
    have f1 := Hfit.out G Z hZ hG
    have f2 := Hfit2.out G Z hZ hG
    refine ⟨_, rfl, ⟨by simp; omega, .inr ⟨w.heap.size, G, _, rfl, hB, hw, hG, hGm, ?_, ?_⟩⟩, ?_, fun k hk => .inr ?_⟩
    · simp only [List.size_toArray, splice_length _ _ _ f2, splice_length _ _ _ f1]
      simp; omega
    · have := row_grow cs Z (i * 2) [x, .int .i64 0] (by omega) (by simp; omega)
      rw [show (n + 1) * 2 = cs.length + [x, Value.int .i64 0].length by simp; omega, show (i + 1) * 2 = i * 2 + [x, Value.int .i64 0].length by simp; omega]
      simpa using this
    · refine ⟨g3.os.trans (g2.os.trans g1.os), g3.tape.trans (g2.tape.trans g1.tape), g3.output.trans (g2.output.trans g1.output), Nat.le_trans g1.size (Nat.le_trans g2.size g3.size), fun k hk hk' => ?_⟩
      have a1 : some k ≠ some w.heap.size := by intro e; injection e; omega
      have := g1.size
      have := g2.size
      exact (g3.block k (by omega) a1).trans ((g2.block k (by omega) a1).trans (g1.block k hk (by simp)))
    · simp [Value.ownBlock] at hk; omega
  have Hb1 : RowKit.Hid (∀ w1, w.grownBy w1 none → Below w.heap.size w w1) := fun w1 g1 => (Below.refl _ _).grown g1 (Nat.le_refl _) (by simp)
  have Hb2 : RowKit.Hid (∀ w1 w2, w.grownBy w1 none → w1.grownBy w2 (some w.heap.size) → Below w.heap.size w w2) := fun w1 w2 g1 g2 => (Hb1.out w1 g1).grown g2 g1.size (by intro k hk; injection hk; omega)
  have hw1 : IntKind.i64.wrap ((i : Int) + (1 : Int)) = (i : Int) + (1 : Int) := by rw [IntKind.wrap_i64]; omega
  have hb1 : (0 : Int) ≤ (i : Int) + (1 : Int) := by omega
  have htn : ((i : Int) + (1 : Int)).toNat = i + 1 := by omega
  have hb4 : ¬ (n = i) := by omega
  have hin' : i ≤ n := by omega
  have hi0 : (0 : Int) ≤ (i : Int) := by omega
  have hi1 : (i : Int) < (n : Int) := by omega
  have hi2 : (i : Int) ≤ (n : Int) + 1 := by omega
  have hi3 : (i : Int) ≤ (n : Int) := by omega
  have hz2 : ¬ ((i : Int) = (n : Int)) := by omega
  have hk1 : (n : Int) + 1 - (i : Int) = ((n + 1 - i : Nat) : Int) := by omega
  have Hk2 : RowKit.Hid (i + (n + 1 - i) = n + 1) := by show _ = _; omega
  clear hv hx h1 hg htk hl hcur hgl hvl
  go_enter Try.func39, Try.ntmps39
  go_wp2_with (at_builtin; refine wpList_append_zeros rfl _ _ 53 3 rfl 57 i0 (.agg #[.slice none 0 0, .int .i64 0]) 2 32 .i64 .i64 Try.underlying53 (by kernel_rfl) ii iz0 iz1 iz2 rfl (by decide) g i n rfl (n + 1 - i) rfl (cs.take (i * 2)) Hlt.out Hold.out (by omega) (by omega) hin' (by omega) (by omega) ?_)
  intro w1 G Z hw1' hZ hGn hGm hg1
  rw [Hk2.out] at hGn ⊢
  have Hb3 := Lib.hid (Hb1.out w1 hg1.out)
  have hG1 : ¬ (G = i) := by omega
  have hG2 : ¬ (G = i + 1) := by omega
  go_wp2_with (first | (refine wpList_copy2 rfl _ _ 53 53 rfl 57 2 Try.underlying53 hsz w.heap.size (i * 2) (n + 1 - i) (G - i) ⟨vb, 0, none⟩ 1 1 rfl rfl (cs.take (i * 2) ++ Z) 57 hw1'.out [x, .int .i64 0] (Hmin2.out _ (by omega)) (Hv.out _ Hb3.out) (Hfit.out G Z hZ.out hGn) H1.out ?_))
  intro w2 hw2' hg2
  have Hb4 := Lib.hid (Hb2.out w1 w2 hg1.out hg2.out)
  go_wp2
  go_region_law ((refine step_copy2 rfl _ _ 53 53 rfl 57 2 Try.underlying53 hsz w.heap.size ((i + 1) * 2) (n - i) (G - (i + 1)) ⟨g, i * 2, none⟩ (n - i) (n - i) (by simp [Act.eval, Act.put, *]) (by simp [Act.eval, Act.put, *]) (splice (cs.take (i * 2) ++ Z) (i * 2) [x, .int .i64 0]) 57 hw2'.out (cs.drop (i * 2)) Hmin.out (Hsrc.out _ (Below.drew Hb4.out)) (Hfit2.out G Z hZ.out hGn) H1c.out ?_; intro w3 hw3' hg3))
  have Hr := Lib.hid (Hfin.out w1 w2 w3 G Z hZ.out hGn hGm.out hg1.out hg2.out (grown_drew hg3.out) hw3'.out)
  clear hg1 hg2 hg3 hw1' hw2' hw3' hZ hGm
  go_wp2
  go_ret
  exact Hr.out

theorem insert_calls (B : Nat) (s : Value) (n i vb : Nat) (cs : List Value) (x : Value) (w : World) (hs : w.ownsRow B 57 2 s n cs) (h1 : ∀ u ∈ cs, u.oneCell' = true) (hn : n < 1099511627776) (hi : i ≤ n) (hB : B ≤ w.heap.size)
    (hv : w.heap[vb]? = some (.cells #[x, .int .i64 0] 57 (0, 0))) (hx : x.oneCell' = true) (hne : s.ownBlock ≠ some vb) :
    Calls Try.prog 39 #[s, .int .i64 i, .slice (some ⟨vb, 0, none⟩) 1 1] w (Ins w B s n i cs [x, .int .i64 0]) := by
  by_cases he : i = n
  · subst he
    exact insert_end B s i vb cs x w hs hn hB hv hx
  · obtain ⟨hl, ⟨rfl, h0⟩ | ⟨g, c, cur, rfl, hbg, hg, hnc, hcm, hcur, htk⟩⟩ := hs
    · omega
    · have hne' : vb ≠ g := by intro e; subst e; exact hne rfl
      by_cases hc : n = c
      · subst hc
        exact insert_grow B g n i vb cs cur x w hn (by omega) hB hg hcur htk h1 hv hx
      · exact insert_shift B g n c i vb cs cur x w hn (by omega) (by omega) hcm hg hbg hcur htk h1 hv hx hne'
end Go.Proofs.Ytekoemcckdhhnaa
