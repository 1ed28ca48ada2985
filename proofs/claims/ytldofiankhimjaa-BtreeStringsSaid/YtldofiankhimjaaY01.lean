/- Part 1 of the proof: InsS, InsI, InsQ, PuRS, PuS, ClS, ClI, ClQ -/
import Derived.Test.YtldofiankhimjaaY00
import Derived.Deep.DeepCutAuto
import Derived.BigQuiet
/- slices.Insert and slices.Delete at elements of one cell (S). -/
namespace Go.Proofs.Ytldofiankhimjaa
open Go.RowKit

theorem infoS : (Try.prog.info? 9).map (fun i => (i.zero, i.size, i.bytes)) = some (some (.string .empty), 1, 16) := by kernel_rfl
theorem zeroS : ∀ u ∈ (Builtin.zeroCells ((.string .empty) : Value).cells 1).toList, u.oneCell' = true := by
  intro u hu
  simp only [Builtin.zeroCells, Array.mem_toList_iff, Array.mem_map, Array.mem_range] at hu
  obtain ⟨a, ha, rfl⟩ := hu
  have : a = 0 := by simp [Value.cells] at ha; omega
  subst this
  rfl
/-- What Insert leaves. -/
def InsS (w : World) (B : Nat) (s : Value) (n i : Nat) (cs vs : List Value) (e : Ending) (w' : World) : Prop :=
  ∃ s', e = .returned s' ∧ w'.ownsRow B 9 1 s' (n + 1) (cs.take (i) ++ vs ++ cs.drop (i)) ∧ w.grownBy w' s.ownBlock ∧ ∀ k, s'.ownBlock = some k → s.ownBlock = some k ∨ w.heap.size ≤ k

set_option maxHeartbeats 2000000 in
set_option maxRecDepth 100000 in
theorem ins_S_end (B : Nat) (s : Value) (n vb : Nat) (cs : List Value) (x : Value) (w : World) (hs : w.ownsRow B 9 1 s n cs) (hn : n < 1099511627776) (hB : B ≤ w.heap.size)
    (hv : w.heap[vb]? = some (.cells #[x] 9 (0, 0))) (hx : x.oneCell' = true) :
    Calls Try.prog 65 #[s, .int .i64 n, .slice (some ⟨vb, 0, none⟩) 1 1] w (InsS w B s n n cs [x]) := by
  obtain ⟨i0, ii, iz0, iz1, iz2⟩ := info_parts infoS
  have Hs := Lib.hid hs
  have Hv : RowKit.Hid (∀ j u, [x][j]? = some u → w.cell? ((⟨vb, 0, none⟩ : Addr).add j) = some u) := by
    intro j u hu
    rw [Addr.add_lit, Nat.zero_add, cell_of_row w vb j _ 9 (0, 0) hv]
    simpa using hu
  have H1 : RowKit.Hid (∀ u ∈ [x], u.oneCell' = true) := by
    intro u hu
    simp at hu
    subst hu
    exact hx
  have Hfin : RowKit.Hid (∀ v' w', w'.ownsRow B 9 1 v' (n + 1) (cs ++ [x]) → w.grownBy w' s.ownBlock → (∀ k, v'.ownBlock = some k → s.ownBlock = some k ∨ w.heap.size ≤ k) → InsS w B s n n cs [x] (.returned v') w') := by
    intro v' w' h1 h2 h3
    refine ⟨v', rfl, ?_, h2, h3⟩
    have hl := hs.1
    rw [List.take_of_length_le (by omega), List.drop_of_length_le (by omega), List.append_nil]
    exact h1
  obtain ⟨a, c, hsl, hcn⟩ : ∃ a c, s = .slice a n c ∧ n ≤ c := by
    rcases hs.2 with ⟨rfl, rfl⟩ | ⟨g, cap, cur, rfl, _, _, h, _⟩
    · exact ⟨_, _, rfl, Nat.le_refl _⟩
    · exact ⟨_, _, rfl, h⟩
  subst hsl
  have hc63 : c ≤ maxLen := by
    rcases hs.2 with ⟨h, rfl⟩ | ⟨g, cap, cur, h, _, _, _, h2, _⟩
    · injection h with _ _ h; subst h; decide
    · injection h with _ _ h; subst h; exact h2
  unfold maxLen at hc63
  have Hsl : RowKit.Hid (a = none → n = 0 ∧ c = 0) := by
    intro ha
    rcases hs.2 with ⟨h, rfl⟩ | ⟨g, cap, cur, h, _⟩
    · injection h with _ _ h; exact ⟨rfl, h⟩
    · injection h with h; rw [ha] at h; cases h
  clear hs hv hx
  go_enter Try.func65, Try.ntmps65
  cases a with
  | none =>
    obtain ⟨rfl, rfl⟩ := Hsl.out rfl
    go_wp2_with (at_builtin; go_loud (refine wpList_append_block _ rfl _ _ 37 rfl B 9 i0 (.string .empty) 1 16 Try.underlying37 ii iz0 iz1 iz2 rfl (by decide) _ _ _ rfl Hs.out ⟨vb, 0, none⟩ 1 1 [x] rfl rfl Hv.out H1.out (by decide) ?c1 ?c2 hB ?_))
    case c1 => unfold maxLen; omega
    intro v' w' h1 h2 h3
    have Hr := Lib.hid (Hfin.out v' w' h1 h2 h3.out)
    clear h1 h2 h3
    go_wp2
    go_ret
    exact Hr.out
  | some ad =>
    obtain ⟨ab, ao, asp⟩ := ad
    go_wp2_with (at_builtin; refine wpList_append_block _ rfl _ _ 37 rfl B 9 i0 (.string .empty) 1 16 Try.underlying37 ii iz0 iz1 iz2 rfl (by decide) _ _ _ rfl Hs.out ⟨vb, 0, none⟩ 1 1 [x] rfl rfl Hv.out H1.out (by decide) (by unfold maxLen; omega) (by omega) hB ?_)
    all_goals
      intro v' w' h1 h2 h3
      have Hr := Lib.hid (Hfin.out v' w' h1 h2 h3.out)
      clear h1 h2 h3
      go_wp2
      go_ret
      exact Hr.out

set_option maxHeartbeats 2000000 in
set_option maxRecDepth 100000 in
theorem ins_S_shift (B : Nat) (g n c i vb : Nat) (cs : List Value) (cur : Array Value) (x : Value) (w : World) (hn : n < 1099511627776) (hin : i < n) (hnc : n < c) (hcm : c ≤ maxLen)
    (hg : w.heap[g]? = some (.cells cur 9 (0, 0))) (hbg : B ≤ g) (hcur : cur.size = c) (htk : cur.toList.take (n) = cs) (h1 : ∀ u ∈ cs, u.oneCell' = true)
    (hv : w.heap[vb]? = some (.cells #[x] 9 (0, 0))) (hx : x.oneCell' = true) (hne : vb ≠ g) :
    Calls Try.prog 65 #[.slice (some ⟨g, 0, none⟩) n c, .int .i64 i, .slice (some ⟨vb, 0, none⟩) 1 1] w (InsS w B (.slice (some ⟨g, 0, none⟩) n c) n i cs [x]) := by
  obtain ⟨i0, ii, iz0, iz1, iz2⟩ := info_parts infoS
  have hov : ∀ lb cb, (callFunc 81 #[.slice (some ⟨vb, 0, none⟩) 1 1, .slice (some ⟨g, (i + 1), none⟩) lb cb]).run Try.prog w = .ok (.value (.bool false)) w := fun lb cb => by
    rw [run_callFunc_extern Try.func81 (by kernel_rfl) (by kernel_rfl) (by kernel_rfl) (e := Extern.SlicesOverlaps.overlaps #[37, 37] #[4]) (by kernel_rfl),
      Lib.run_overlaps_apart w 37 4 9 Try.underlying37 1 (fun w => by simp [sizeOf, typeInfo, ii, iz1]) ⟨vb, 0, none⟩ ⟨g, (i + 1), none⟩ 1 1 lb cb hne 9 9 1 c (by simp [World.shape?, hv]) (by simp [World.shape?, hg, hcur]) (by omega) (by simp [World.frozen?, hv]) (by simp [World.frozen?, hv])]
    rfl
  have hsz : (Try.prog.info? 9).map (·.size) = some 1 := by rw [ii]; simp [iz1]
  have hl : cs.length = n := by rw [← htk]; simp; omega
  unfold maxLen at hcm
  have Hsrc : RowKit.Hid (∀ j u, (cs.drop (i))[j]? = some u → w.cell? ((⟨g, i, none⟩ : Addr).add j) = some u) := by
    intro j u hu
    rw [Addr.add_lit, cell_of_row w g _ cur 9 (0, 0) hg]
    rw [List.getElem?_drop, ← htk, List.getElem?_take] at hu
    split at hu
    · simpa using hu
    · cases hu
  have Hv : RowKit.Hid (∀ w', w.grownBy w' (some g) → ∀ j u, [x][j]? = some u → w'.cell? ((⟨vb, 0, none⟩ : Addr).add j) = some u) := by
    intro w' hw j u hu
    have hv' : w'.heap[vb]? = some (.cells #[x] 9 (0, 0)) := (hw.block vb (Array.getElem?_eq_some_iff.1 hv).1 (by simpa using hne)).trans hv
    rw [Addr.add_lit, Nat.zero_add, cell_of_row w' vb j _ 9 (0, 0) hv']
    simpa using hu
  have H1 : RowKit.Hid (∀ u ∈ [x], u.oneCell' = true) := by
    intro u hu
    simp at hu
    subst hu
    exact hx
  have H1c : RowKit.Hid (∀ u ∈ cs.drop (i), u.oneCell' = true) := fun u hu => h1 u (List.mem_of_mem_drop hu)
  have Hg : RowKit.Hid (w.heap[g]? = some (.cells cur.toList.toArray 9 (0, 0))) := hg
  have Hfit : RowKit.Hid ((i + 1) + (cs.drop (i)).length ≤ cur.toList.length) := by show _ ≤ _; simp; omega
  have Hmin : RowKit.Hid ((cs.drop (i)).length = Nat.min (n + 1 - i) (n - i) * 1) := by show _ = _; simp only [List.length_drop, Nat.min_def]; split <;> omega
  have Hfit2 : RowKit.Hid (i + [x].length ≤ (splice cur.toList ((i + 1)) (cs.drop (i))).length) := by show _ ≤ _; rw [splice_length _ _ _ Hfit.out]; simp; omega
  have Hmin2 : RowKit.Hid ([x].length = Nat.min 1 (n + 1 - i) * 1) := by show _ = _; simp only [List.length_cons, List.length_nil, Nat.min_def]; split <;> omega
  have Hfin : RowKit.Hid (∀ w' w'', w.grownBy w' (some g) → w'.grownBy w'' (some g) → w''.heap[g]? = some (.cells (splice (splice cur.toList ((i + 1)) (cs.drop (i))) (i) [x]).toArray 9 (0, 0)) →
      InsS w B (.slice (some ⟨g, 0, none⟩) n c) n i cs [x] (.returned (.slice (some ⟨g, 0, none⟩) (n + 1) c)) w'') := by
    intro w' w'' g1 g2 hw
    refine ⟨_, rfl, ⟨by simp; omega, .inr ⟨g, c, _, rfl, hbg, hw, by omega, by unfold maxLen; omega, ?_, ?_⟩⟩, ?_, fun k hk => .inl hk⟩
    · have := Hfit2.out
      have hh := Hfit.out
      simp only [List.size_toArray, splice_length _ _ _ this, splice_length _ _ _ hh, Array.length_toList, hcur, Nat.mul_one]
    · have := row_shift cur.toList (i) (n) [x] (by simp; omega) (by omega)
      rw [htk] at this
      rw [Nat.mul_one, show (n + 1) = n + [x].length from rfl, show (i + 1) = i + [x].length from rfl]
      simpa using this
    · exact ⟨g2.os.trans g1.os, g2.tape.trans g1.tape, g2.output.trans g1.output, Nat.le_trans g1.size g2.size, fun k hk hk' => (g2.block k (Nat.lt_of_lt_of_le hk g1.size) hk').trans (g1.block k hk hk')⟩
  have hw1 : IntKind.i64.wrap ((i : Int) + (1 : Int)) = (i : Int) + (1 : Int) := by rw [IntKind.wrap_i64]; omega
  have hb1 : (0 : Int) ≤ (i : Int) + (1 : Int) := by omega
  have htn : ((i : Int) + (1 : Int)).toNat = i + 1 := by omega
  have hb2 : ¬ (c = i + 1) := by omega
  have hb4 : ¬ (c = i) := by omega
  have hin' : i ≤ n := by omega
  have hi0 : (0 : Int) ≤ (i : Int) := by omega
  have hi1 : (i : Int) < (n : Int) := by omega
  have hi2 : (i : Int) ≤ (n : Int) + 1 := by omega
  have hz2 : ¬ ((i : Int) = (n : Int)) := by omega
  have hn0 : (n : Int) + 1 ≤ c := by omega
  clear hv hx h1 hg htk hl hcur hne
  go_enter Try.func65, Try.ntmps65
  go_wp2_with (simp only [hov])
  go_region_law ((refine step_copy2 rfl _ _ 37 37 rfl 9 1 Try.underlying37 hsz g ((i + 1)) (n - i) (c - (i + 1)) ⟨g, i, none⟩ (n + 1 - i) (c - i) (by simp [Act.eval, Act.put, *]) (by simp [Act.eval, Act.put, *]) cur.toList 9 Hg.out (cs.drop (i)) Hmin.out Hsrc.out Hfit.out H1c.out ?_; intro W1 hW1 hG1))
  go_wp2_with (first | (refine wpList_copy2 rfl _ _ 37 37 rfl 9 1 Try.underlying37 hsz g (i) (n + 1 - i) (c - i) ⟨vb, 0, none⟩ 1 1 rfl rfl (splice cur.toList ((i + 1)) (cs.drop (i))) 9 hW1.out [x] Hmin2.out ?e1 Hfit2.out H1.out ?_))
  case e1 => exact Hv.out W1 (grown_drew hG1.out)
  intro W2 hW2 hG2
  have Hr := Lib.hid (Hfin.out W1 W2 (grown_drew hG1.out) hG2.out hW2.out)
  clear hG1 hG2 hW1 hW2
  go_wp2
  go_ret
  exact Hr.out

set_option maxHeartbeats 2000000 in
set_option maxRecDepth 100000 in
theorem ins_S_grow (B : Nat) (g n i vb : Nat) (cs : List Value) (cur : Array Value) (x : Value) (w : World) (hn : n < 1099511627776) (hin : i < n) (hB : B ≤ w.heap.size)
    (hg : w.heap[g]? = some (.cells cur 9 (0, 0))) (hcur : cur.size = n) (htk : cur.toList.take (n) = cs) (h1 : ∀ u ∈ cs, u.oneCell' = true)
    (hv : w.heap[vb]? = some (.cells #[x] 9 (0, 0))) (hx : x.oneCell' = true) :
    Calls Try.prog 65 #[.slice (some ⟨g, 0, none⟩) n n, .int .i64 i, .slice (some ⟨vb, 0, none⟩) 1 1] w (InsS w B (.slice (some ⟨g, 0, none⟩) n n) n i cs [x]) := by
  obtain ⟨i0, ii, iz0, iz1, iz2⟩ := info_parts infoS
  have hsz : (Try.prog.info? 9).map (·.size) = some 1 := by rw [ii]; simp [iz1]
  have hl : cs.length = n := by rw [← htk]; simp; omega
  have hgl : g < w.heap.size := (Array.getElem?_eq_some_iff.1 hg).1
  have hvl : vb < w.heap.size := (Array.getElem?_eq_some_iff.1 hv).1
  have Hold : RowKit.Hid (∀ j u, (cs.take (i))[j]? = some u → w.cell? ⟨g, j, none⟩ = some u) := by
    intro j u hu
    rw [cell_of_row w g _ cur 9 (0, 0) hg]
    rw [List.getElem?_take] at hu
    split at hu
    · rw [← htk, List.getElem?_take] at hu
      split at hu
      · simpa using hu
      · cases hu
    · cases hu
  have Hsrc : RowKit.Hid (∀ w', Below w.heap.size w w' → ∀ j u, (cs.drop (i))[j]? = some u → w'.cell? ((⟨g, i, none⟩ : Addr).add j) = some u) := by
    intro w' hb j u hu
    rw [Addr.add_lit, cell_of_row w' g _ cur 9 (0, 0) ((hb.block g hgl).trans hg)]
    rw [List.getElem?_drop, ← htk, List.getElem?_take] at hu
    split at hu
    · simpa using hu
    · cases hu
  have Hv : RowKit.Hid (∀ w', Below w.heap.size w w' → ∀ j u, [x][j]? = some u → w'.cell? ((⟨vb, 0, none⟩ : Addr).add j) = some u) := by
    intro w' hb j u hu
    rw [Addr.add_lit, Nat.zero_add, cell_of_row w' vb j _ 9 (0, 0) ((hb.block vb hvl).trans hv)]
    simpa using hu
  have H1 : RowKit.Hid (∀ u ∈ [x], u.oneCell' = true) := by
    intro u hu
    simp at hu
    subst hu
    exact hx
  have H1c : RowKit.Hid (∀ u ∈ cs.drop (i), u.oneCell' = true) := fun u hu => h1 u (List.mem_of_mem_drop hu)
  have Hlt : RowKit.Hid ((cs.take (i)).length = i * 1) := by show _ = _; simp; omega
  have Hmin2 : RowKit.Hid (∀ m, 1 ≤ m → [x].length = Nat.min 1 m * 1) := by intro m hm; simp only [List.length_cons, List.length_nil, Nat.min_def]; split <;> omega
  have Hmin : RowKit.Hid ((cs.drop (i)).length = Nat.min (n - i) (n - i) * 1) := by show _ = _; simp only [List.length_drop, Nat.min_def]; split <;> omega
  have Hfit : RowKit.Hid (∀ G Z, Z.length = G - i → n + 1 ≤ G → i + [x].length ≤ (cs.take (i) ++ Z).length) := by intro G Z h1 h2; simp; omega
  have Hfit2 : RowKit.Hid (∀ G Z, Z.length = G - i → n + 1 ≤ G → (i + 1) + (cs.drop (i)).length ≤ (splice (cs.take (i) ++ Z) (i) [x]).length) := by
    intro G Z h1 h2; rw [splice_length _ _ _ (Hfit.out G Z h1 h2)]; simp; omega
  have Hfin : RowKit.Hid (∀ w1 w2 w3 G Z, Z.length = G - i → n + 1 ≤ G → G ≤ maxLen → w.grownBy w1 none → w1.grownBy w2 (some w.heap.size) → w2.grownBy w3 (some w.heap.size) → w3.heap[w.heap.size]? = some (.cells (splice (splice (cs.take (i) ++ Z) (i) [x]) ((i + 1)) (cs.drop (i))).toArray 9 (0, 0)) →
      InsS w B (.slice (some ⟨g, 0, none⟩) n n) n i cs [x] (.returned (.slice (some ⟨w.heap.size, 0, none⟩) (n + 1) G)) w3) := by
    intro w1 w2 w3 G Z hZ hG hGm g1 g2 g3 hw
    have f1 := Hfit.out G Z hZ hG
    have f2 := Hfit2.out G Z hZ hG
    refine ⟨_, rfl, ⟨by simp; omega, .inr ⟨w.heap.size, G, _, rfl, hB, hw, hG, hGm, ?_, ?_⟩⟩, ?_, fun k hk => .inr ?_⟩
    · simp only [List.size_toArray, splice_length _ _ _ f2, splice_length _ _ _ f1]
      simp; omega
    · have := row_grow cs Z (i) [x] (by omega) (by simp; omega)
      rw [Nat.mul_one, show (n + 1) = cs.length + [x].length by simp; omega, show (i + 1) = i + [x].length from rfl]
      simpa using this
    · refine ⟨g3.os.trans (g2.os.trans g1.os), g3.tape.trans (g2.tape.trans g1.tape), g3.output.trans (g2.output.trans g1.output), Nat.le_trans g1.size (Nat.le_trans g2.size g3.size), fun k hk hk' => ?_⟩
      have a1 : some k ≠ some w.heap.size := by intro e; injection e; omega
      have := g1.size
      have := g2.size
      exact (g3.block k (by omega) a1).trans ((g2.block k (by omega) a1).trans (g1.block k hk (by simp)))
    · simp [Value.ownBlock] at hk; omega
  have Hb1 : RowKit.Hid (∀ w1, w.grownBy w1 none → Below w.heap.size w w1) := fun w1 g1 => (Below.refl _ _).grown g1 (Nat.le_refl _) (by simp)
  have Hb2 : RowKit.Hid (∀ w1 w2, w.grownBy w1 none → w1.grownBy w2 (some w.heap.size) → Below w.heap.size w w2) := fun w1 w2 g1 g2 => (Hb1.out w1 g1).grown g2 g1.size (by intro k hk; injection hk; omega)
  have hw1 : IntKind.i64.wrap ((i : Int) + (1 : Int)) = (i : Int) + (1 : Int) := by rw [IntKind.wrap_i64]; omega
  have hb1 : (0 : Int) ≤ (i : Int) + (1 : Int) := by omega
  have htn : ((i : Int) + (1 : Int)).toNat = i + 1 := by omega
  have hb4 : ¬ (n = i) := by omega
  have hin' : i ≤ n := by omega
  have hi0 : (0 : Int) ≤ (i : Int) := by omega
  have hi1 : (i : Int) < (n : Int) := by omega
  have hi2 : (i : Int) ≤ (n : Int) + 1 := by omega
  have hi3 : (i : Int) ≤ (n : Int) := by omega
  have hz2 : ¬ ((i : Int) = (n : Int)) := by omega
  have hk1 : (n : Int) + 1 - (i : Int) = ((n + 1 - i : Nat) : Int) := by omega
  have Hk2 : RowKit.Hid (i + (n + 1 - i) = n + 1) := by show _ = _; omega
  clear hv hx h1 hg htk hl hcur hgl hvl
  go_enter Try.func65, Try.ntmps65
  go_wp2_with (at_builtin; refine wpList_append_zeros rfl _ _ 37 3 rfl 9 i0 (.string .empty) 1 16 .i64 .i64 Try.underlying37 (by kernel_rfl) ii iz0 iz1 iz2 rfl (by decide) g i n rfl (n + 1 - i) rfl (cs.take (i)) Hlt.out Hold.out (by omega) (by omega) hin' (by omega) (by omega) ?_)
  intro w1 G Z hw1' hZ hGn hGm hg1
  rw [Hk2.out] at hGn ⊢
  have Hb3 := Lib.hid (Hb1.out w1 hg1.out)
  have hG1 : ¬ (G = i) := by omega
  have hG2 : ¬ (G = i + 1) := by omega
  go_wp2_with (first | (refine wpList_copy2 rfl _ _ 37 37 rfl 9 1 Try.underlying37 hsz w.heap.size (i) (n + 1 - i) (G - i) ⟨vb, 0, none⟩ 1 1 rfl rfl (cs.take (i) ++ Z) 9 hw1'.out [x] (Hmin2.out _ (by omega)) (Hv.out _ Hb3.out) (Hfit.out G Z hZ.out hGn) H1.out ?_))
  intro w2 hw2' hg2
  have Hb4 := Lib.hid (Hb2.out w1 w2 hg1.out hg2.out)
  go_wp2
  go_region_law ((refine step_copy2 rfl _ _ 37 37 rfl 9 1 Try.underlying37 hsz w.heap.size ((i + 1)) (n - i) (G - (i + 1)) ⟨g, i, none⟩ (n - i) (n - i) (by simp [Act.eval, Act.put, *]) (by simp [Act.eval, Act.put, *]) (splice (cs.take (i) ++ Z) (i) [x]) 9 hw2'.out (cs.drop (i)) Hmin.out (Hsrc.out _ (Below.drew Hb4.out)) (Hfit2.out G Z hZ.out hGn) H1c.out ?_; intro w3 hw3' hg3))
  have Hr := Lib.hid (Hfin.out w1 w2 w3 G Z hZ.out hGn hGm.out hg1.out hg2.out (grown_drew hg3.out) hw3'.out)
  clear hg1 hg2 hg3 hw1' hw2' hw3' hZ hGm
  go_wp2
  go_ret
  exact Hr.out

theorem ins_S_calls (B : Nat) (s : Value) (n i vb : Nat) (cs : List Value) (x : Value) (w : World) (hs : w.ownsRow B 9 1 s n cs) (h1 : ∀ u ∈ cs, u.oneCell' = true) (hn : n < 1099511627776) (hi : i ≤ n) (hB : B ≤ w.heap.size)
    (hv : w.heap[vb]? = some (.cells #[x] 9 (0, 0))) (hx : x.oneCell' = true) (hne : s.ownBlock ≠ some vb) :
    Calls Try.prog 65 #[s, .int .i64 i, .slice (some ⟨vb, 0, none⟩) 1 1] w (InsS w B s n i cs [x]) := by
  by_cases he : i = n
  · subst he
    exact ins_S_end B s i vb cs x w hs hn hB hv hx
  · obtain ⟨hl, ⟨rfl, h0⟩ | ⟨g, c, cur, rfl, hbg, hg, hnc, hcm, hcur, htk⟩⟩ := hs
    · omega
    · have hne' : vb ≠ g := by intro e; subst e; exact hne rfl
      by_cases hc : n = c
      · subst hc
        exact ins_S_grow B g n i vb cs cur x w hn (by omega) hB hg (by simpa using hcur) (by simpa using htk) h1 hv hx
      · exact ins_S_shift B g n c i vb cs cur x w hn (by omega) (by omega) hcm hg hbg (by simpa using hcur) (by simpa using htk) h1 hv hx hne'
/-- Insert, at a piece. -/
theorem insS_calls (v : Value) (xs : List Value) (i vb : Nat) (x : Value) (w : World) {f : List Nat} (h : (slA 9 v xs).p w f) (hi : i ≤ xs.length) (hlen : xs.length < 1099511627776) (h1 : ∀ u ∈ xs, u.oneCell' = true) (hx : x.oneCell' = true)
    (hv : w.heap[vb]? = some (.cells #[x] 9 (0, 0))) (hne : vb ∉ f) :
    Calls Try.prog 65 #[v, .int .i64 i, .slice (some ⟨vb, 0, none⟩) 1 1] w fun e w' => ∃ a n c f', e = .returned (.slice a n c) ∧ (slA 9 (.slice a n c) (xs.take i ++ x :: xs.drop i)).p w' f' ∧ Tr w w' f f' := by
  obtain ⟨ho, rfl⟩ := h
  refine (ins_S_calls 0 v xs.length i vb xs x w ho h1 hlen hi (Nat.zero_le _) hv hx (fun e => hne (by rw [e]; simp))).mono ?_
  rintro e w' ⟨s', rfl, h2, h3, h4⟩
  have hsh : ∃ a n c, s' = .slice a n c := by rcases h2.2 with ⟨rfl, _⟩ | ⟨g, cap, cur, rfl, _⟩ <;> exact ⟨_, _, _, rfl⟩
  obtain ⟨a, n, c, rfl⟩ := hsh
  refine ⟨a, n, c, _, rfl, ⟨?_, rfl⟩, Tr.of_grown h3 h4⟩
  have e : (xs.take i ++ x :: xs.drop i).length = xs.length + 1 := by simp; omega
  rw [e]
  simpa using h2
end Go.Proofs.Ytldofiankhimjaa
/- slices.Insert and slices.Delete at elements of one cell (I). -/
namespace Go.Proofs.Ytldofiankhimjaa
open Go.RowKit

theorem infoI : (Try.prog.info? 3).map (fun i => (i.zero, i.size, i.bytes)) = some (some (.int .i64 0), 1, 8) := by kernel_rfl
theorem zeroI : ∀ u ∈ (Builtin.zeroCells ((.int .i64 0) : Value).cells 1).toList, u.oneCell' = true := by
  intro u hu
  simp only [Builtin.zeroCells, Array.mem_toList_iff, Array.mem_map, Array.mem_range] at hu
  obtain ⟨a, ha, rfl⟩ := hu
  have : a = 0 := by simp [Value.cells] at ha; omega
  subst this
  rfl
/-- What Insert leaves. -/
def InsI (w : World) (B : Nat) (s : Value) (n i : Nat) (cs vs : List Value) (e : Ending) (w' : World) : Prop :=
  ∃ s', e = .returned s' ∧ w'.ownsRow B 3 1 s' (n + 1) (cs.take (i) ++ vs ++ cs.drop (i)) ∧ w.grownBy w' s.ownBlock ∧ ∀ k, s'.ownBlock = some k → s.ownBlock = some k ∨ w.heap.size ≤ k

set_option maxHeartbeats 2000000 in
set_option maxRecDepth 100000 in
theorem ins_I_end (B : Nat) (s : Value) (n vb : Nat) (cs : List Value) (x : Value) (w : World) (hs : w.ownsRow B 3 1 s n cs) (hn : n < 1099511627776) (hB : B ≤ w.heap.size)
    (hv : w.heap[vb]? = some (.cells #[x] 3 (0, 0))) (hx : x.oneCell' = true) :
    Calls Try.prog 58 #[s, .int .i64 n, .slice (some ⟨vb, 0, none⟩) 1 1] w (InsI w B s n n cs [x]) := by
  obtain ⟨i0, ii, iz0, iz1, iz2⟩ := info_parts infoI
  have Hs := Lib.hid hs
  have Hv : RowKit.Hid (∀ j u, [x][j]? = some u → w.cell? ((⟨vb, 0, none⟩ : Addr).add j) = some u) := by
    intro j u hu
    rw [Addr.add_lit, Nat.zero_add, cell_of_row w vb j _ 3 (0, 0) hv]
    simpa using hu
  have H1 : RowKit.Hid (∀ u ∈ [x], u.oneCell' = true) := by
    intro u hu
    simp at hu
    subst hu
    exact hx
  have Hfin : RowKit.Hid (∀ v' w', w'.ownsRow B 3 1 v' (n + 1) (cs ++ [x]) → w.grownBy w' s.ownBlock → (∀ k, v'.ownBlock = some k → s.ownBlock = some k ∨ w.heap.size ≤ k) → InsI w B s n n cs [x] (.returned v') w') := by
    intro v' w' h1 h2 h3
    refine ⟨v', rfl, ?_, h2, h3⟩
    have hl := hs.1
    rw [List.take_of_length_le (by omega), List.drop_of_length_le (by omega), List.append_nil]
    exact h1
  obtain ⟨a, c, hsl, hcn⟩ : ∃ a c, s = .slice a n c ∧ n ≤ c := by
    rcases hs.2 with ⟨rfl, rfl⟩ | ⟨g, cap, cur, rfl, _, _, h, _⟩
    · exact ⟨_, _, rfl, Nat.le_refl _⟩
    · exact ⟨_, _, rfl, h⟩
  subst hsl
  have hc63 : c ≤ maxLen := by
    rcases hs.2 with ⟨h, rfl⟩ | ⟨g, cap, cur, h, _, _, _, h2, _⟩
    · injection h with _ _ h; subst h; decide
    · injection h with _ _ h; subst h; exact h2
  unfold maxLen at hc63
  have Hsl : RowKit.Hid (a = none → n = 0 ∧ c = 0) := by
    intro ha
    rcases hs.2 with ⟨h, rfl⟩ | ⟨g, cap, cur, h, _⟩
    · injection h with _ _ h; exact ⟨rfl, h⟩
    · injection h with h; rw [ha] at h; cases h
  clear hs hv hx
  go_enter Try.func58, Try.ntmps58
  cases a with
  | none =>
    obtain ⟨rfl, rfl⟩ := Hsl.out rfl
    go_wp2_with (at_builtin; go_loud (refine wpList_append_block _ rfl _ _ 22 rfl B 3 i0 (.int .i64 0) 1 8 Try.underlying22 ii iz0 iz1 iz2 rfl (by decide) _ _ _ rfl Hs.out ⟨vb, 0, none⟩ 1 1 [x] rfl rfl Hv.out H1.out (by decide) ?c1 ?c2 hB ?_))
    case c1 => unfold maxLen; omega
    intro v' w' h1 h2 h3
    have Hr := Lib.hid (Hfin.out v' w' h1 h2 h3.out)
    clear h1 h2 h3
    go_wp2
    go_ret
    exact Hr.out
  | some ad =>
    obtain ⟨ab, ao, asp⟩ := ad
    go_wp2_with (at_builtin; refine wpList_append_block _ rfl _ _ 22 rfl B 3 i0 (.int .i64 0) 1 8 Try.underlying22 ii iz0 iz1 iz2 rfl (by decide) _ _ _ rfl Hs.out ⟨vb, 0, none⟩ 1 1 [x] rfl rfl Hv.out H1.out (by decide) (by unfold maxLen; omega) (by omega) hB ?_)
    all_goals
      intro v' w' h1 h2 h3
      have Hr := Lib.hid (Hfin.out v' w' h1 h2 h3.out)
      clear h1 h2 h3
      go_wp2
      go_ret
      exact Hr.out

set_option maxHeartbeats 2000000 in
set_option maxRecDepth 100000 in
theorem ins_I_shift (B : Nat) (g n c i vb : Nat) (cs : List Value) (cur : Array Value) (x : Value) (w : World) (hn : n < 1099511627776) (hin : i < n) (hnc : n < c) (hcm : c ≤ maxLen)
    (hg : w.heap[g]? = some (.cells cur 3 (0, 0))) (hbg : B ≤ g) (hcur : cur.size = c) (htk : cur.toList.take (n) = cs) (h1 : ∀ u ∈ cs, u.oneCell' = true)
    (hv : w.heap[vb]? = some (.cells #[x] 3 (0, 0))) (hx : x.oneCell' = true) (hne : vb ≠ g) :
    Calls Try.prog 58 #[.slice (some ⟨g, 0, none⟩) n c, .int .i64 i, .slice (some ⟨vb, 0, none⟩) 1 1] w (InsI w B (.slice (some ⟨g, 0, none⟩) n c) n i cs [x]) := by
  obtain ⟨i0, ii, iz0, iz1, iz2⟩ := info_parts infoI
  have hov : ∀ lb cb, (callFunc 77 #[.slice (some ⟨vb, 0, none⟩) 1 1, .slice (some ⟨g, (i + 1), none⟩) lb cb]).run Try.prog w = .ok (.value (.bool false)) w := fun lb cb => by
    rw [run_callFunc_extern Try.func77 (by kernel_rfl) (by kernel_rfl) (by kernel_rfl) (e := Extern.SlicesOverlaps.overlaps #[22, 22] #[4]) (by kernel_rfl),
      Lib.run_overlaps_apart w 22 4 3 Try.underlying22 1 (fun w => by simp [sizeOf, typeInfo, ii, iz1]) ⟨vb, 0, none⟩ ⟨g, (i + 1), none⟩ 1 1 lb cb hne 3 3 1 c (by simp [World.shape?, hv]) (by simp [World.shape?, hg, hcur]) (by omega) (by simp [World.frozen?, hv]) (by simp [World.frozen?, hv])]
    rfl
  have hsz : (Try.prog.info? 3).map (·.size) = some 1 := by rw [ii]; simp [iz1]
  have hl : cs.length = n := by rw [← htk]; simp; omega
  unfold maxLen at hcm
  have Hsrc : RowKit.Hid (∀ j u, (cs.drop (i))[j]? = some u → w.cell? ((⟨g, i, none⟩ : Addr).add j) = some u) := by
    intro j u hu
    rw [Addr.add_lit, cell_of_row w g _ cur 3 (0, 0) hg]
    rw [List.getElem?_drop, ← htk, List.getElem?_take] at hu
    split at hu
    · simpa using hu
    · cases hu
  have Hv : RowKit.Hid (∀ w', w.grownBy w' (some g) → ∀ j u, [x][j]? = some u → w'.cell? ((⟨vb, 0, none⟩ : Addr).add j) = some u) := by
    intro w' hw j u hu
    have hv' : w'.heap[vb]? = some (.cells #[x] 3 (0, 0)) := (hw.block vb (Array.getElem?_eq_some_iff.1 hv).1 (by simpa using hne)).trans hv
    rw [Addr.add_lit, Nat.zero_add, cell_of_row w' vb j _ 3 (0, 0) hv']
    simpa using hu
  have H1 : RowKit.Hid (∀ u ∈ [x], u.oneCell' = true) := by
    intro u hu
    simp at hu
    subst hu
    exact hx
  have H1c : RowKit.Hid (∀ u ∈ cs.drop (i), u.oneCell' = true) := fun u hu => h1 u (List.mem_of_mem_drop hu)
  have Hg : RowKit.Hid (w.heap[g]? = some (.cells cur.toList.toArray 3 (0, 0))) := hg
  have Hfit : RowKit.Hid ((i + 1) + (cs.drop (i)).length ≤ cur.toList.length) := by show _ ≤ _; simp; omega
  have Hmin : RowKit.Hid ((cs.drop (i)).length = Nat.min (n + 1 - i) (n - i) * 1) := by show _ = _; simp only [List.length_drop, Nat.min_def]; split <;> omega
  have Hfit2 : RowKit.Hid (i + [x].length ≤ (splice cur.toList ((i + 1)) (cs.drop (i))).length) := by show _ ≤ _; rw [splice_length _ _ _ Hfit.out]; simp; omega
  have Hmin2 : RowKit.Hid ([x].length = Nat.min 1 (n + 1 - i) * 1) := by show _ = _; simp only [List.length_cons, List.length_nil, Nat.min_def]; split <;> omega
  have Hfin : RowKit.Hid (∀ w' w'', w.grownBy w' (some g) → w'.grownBy w'' (some g) → w''.heap[g]? = some (.cells (splice (splice cur.toList ((i + 1)) (cs.drop (i))) (i) [x]).toArray 3 (0, 0)) →
      InsI w B (.slice (some ⟨g, 0, none⟩) n c) n i cs [x] (.returned (.slice (some ⟨g, 0, none⟩) (n + 1) c)) w'') := by
    intro w' w'' g1 g2 hw
    refine ⟨_, rfl, ⟨by simp; omega, .inr ⟨g, c, _, rfl, hbg, hw, by omega, by unfold maxLen; omega, ?_, ?_⟩⟩, ?_, fun k hk => .inl hk⟩
    · have := Hfit2.out
      have hh := Hfit.out
      simp only [List.size_toArray, splice_length _ _ _ this, splice_length _ _ _ hh, Array.length_toList, hcur, Nat.mul_one]
    · have := row_shift cur.toList (i) (n) [x] (by simp; omega) (by omega)
      rw [htk] at this
      rw [Nat.mul_one, show (n + 1) = n + [x].length from rfl, show (i + 1) = i + [x].length from rfl]
      simpa using this
    · exact ⟨g2.os.trans g1.os, g2.tape.trans g1.tape, g2.output.trans g1.output, Nat.le_trans g1.size g2.size, fun k hk hk' => (g2.block k (Nat.lt_of_lt_of_le hk g1.size) hk').trans (g1.block k hk hk')⟩
  have hw1 : IntKind.i64.wrap ((i : Int) + (1 : Int)) = (i : Int) + (1 : Int) := by rw [IntKind.wrap_i64]; omega
  have hb1 : (0 : Int) ≤ (i : Int) + (1 : Int) := by omega
  have htn : ((i : Int) + (1 : Int)).toNat = i + 1 := by omega
  have hb2 : ¬ (c = i + 1) := by omega
  have hb4 : ¬ (c = i) := by omega
  have hin' : i ≤ n := by omega
  have hi0 : (0 : Int) ≤ (i : Int) := by omega
  have hi1 : (i : Int) < (n : Int) := by omega
  have hi2 : (i : Int) ≤ (n : Int) + 1 := by omega
  have hz2 : ¬ ((i : Int) = (n : Int)) := by omega
  have hn0 : (n : Int) + 1 ≤ c := by omega
  clear hv hx h1 hg htk hl hcur hne
  go_enter Try.func58, Try.ntmps58
  go_wp2_with (simp only [hov])
  go_region_law ((refine step_copy2 rfl _ _ 22 22 rfl 3 1 Try.underlying22 hsz g ((i + 1)) (n - i) (c - (i + 1)) ⟨g, i, none⟩ (n + 1 - i) (c - i) (by simp [Act.eval, Act.put, *]) (by simp [Act.eval, Act.put, *]) cur.toList 3 Hg.out (cs.drop (i)) Hmin.out Hsrc.out Hfit.out H1c.out ?_; intro W1 hW1 hG1))
  go_wp2_with (first | (refine wpList_copy2 rfl _ _ 22 22 rfl 3 1 Try.underlying22 hsz g (i) (n + 1 - i) (c - i) ⟨vb, 0, none⟩ 1 1 rfl rfl (splice cur.toList ((i + 1)) (cs.drop (i))) 3 hW1.out [x] Hmin2.out ?e1 Hfit2.out H1.out ?_))
  case e1 => exact Hv.out W1 (grown_drew hG1.out)
  intro W2 hW2 hG2
  have Hr := Lib.hid (Hfin.out W1 W2 (grown_drew hG1.out) hG2.out hW2.out)
  clear hG1 hG2 hW1 hW2
  go_wp2
  go_ret
  exact Hr.out

set_option maxHeartbeats 2000000 in
set_option maxRecDepth 100000 in
theorem ins_I_grow (B : Nat) (g n i vb : Nat) (cs : List Value) (cur : Array Value) (x : Value) (w : World) (hn : n < 1099511627776) (hin : i < n) (hB : B ≤ w.heap.size)
    (hg : w.heap[g]? = some (.cells cur 3 (0, 0))) (hcur : cur.size = n) (htk : cur.toList.take (n) = cs) (h1 : ∀ u ∈ cs, u.oneCell' = true)
    (hv : w.heap[vb]? = some (.cells #[x] 3 (0, 0))) (hx : x.oneCell' = true) :
    Calls Try.prog 58 #[.slice (some ⟨g, 0, none⟩) n n, .int .i64 i, .slice (some ⟨vb, 0, none⟩) 1 1] w (InsI w B (.slice (some ⟨g, 0, none⟩) n n) n i cs [x]) := by
  obtain ⟨i0, ii, iz0, iz1, iz2⟩ := info_parts infoI
  have hsz : (Try.prog.info? 3).map (·.size) = some 1 := by rw [ii]; simp [iz1]
  have hl : cs.length = n := by rw [← htk]; simp; omega
  have hgl : g < w.heap.size := (Array.getElem?_eq_some_iff.1 hg).1
  have hvl : vb < w.heap.size := (Array.getElem?_eq_some_iff.1 hv).1
  have Hold : RowKit.Hid (∀ j u, (cs.take (i))[j]? = some u → w.cell? ⟨g, j, none⟩ = some u) := by
    intro j u hu
    rw [cell_of_row w g _ cur 3 (0, 0) hg]
    rw [List.getElem?_take] at hu
    split at hu
    · rw [← htk, List.getElem?_take] at hu
      split at hu
      · simpa using hu
      · cases hu
    · cases hu
  have Hsrc : RowKit.Hid (∀ w', Below w.heap.size w w' → ∀ j u, (cs.drop (i))[j]? = some u → w'.cell? ((⟨g, i, none⟩ : Addr).add j) = some u) := by
    intro w' hb j u hu
    rw [Addr.add_lit, cell_of_row w' g _ cur 3 (0, 0) ((hb.block g hgl).trans hg)]
    rw [List.getElem?_drop, ← htk, List.getElem?_take] at hu
    split at hu
    · simpa using hu
    · cases hu
  have Hv : RowKit.Hid (∀ w', Below w.heap.size w w' → ∀ j u, [x][j]? = some u → w'.cell? ((⟨vb, 0, none⟩ : Addr).add j) = some u) := by
    intro w' hb j u hu
    rw [Addr.add_lit, Nat.zero_add, cell_of_row w' vb j _ 3 (0, 0) ((hb.block vb hvl).trans hv)]
    simpa using hu
  have H1 : RowKit.Hid (∀ u ∈ [x], u.oneCell' = true) := by
    intro u hu
    simp at hu
    subst hu
    exact hx
  have H1c : RowKit.Hid (∀ u ∈ cs.drop (i), u.oneCell' = true) := fun u hu => h1 u (List.mem_of_mem_drop hu)
  have Hlt : RowKit.Hid ((cs.take (i)).length = i * 1) := by show _ = _; simp; omega
  have Hmin2 : RowKit.Hid (∀ m, 1 ≤ m → [x].length = Nat.min 1 m * 1) := by intro m hm; simp only [List.length_cons, List.length_nil, Nat.min_def]; split <;> omega
  have Hmin : RowKit.Hid ((cs.drop (i)).length = Nat.min (n - i) (n - i) * 1) := by show _ = _; simp only [List.length_drop, Nat.min_def]; split <;> omega
  have Hfit : RowKit.Hid (∀ G Z, Z.length = G - i → n + 1 ≤ G → i + [x].length ≤ (cs.take (i) ++ Z).length) := by intro G Z h1 h2; simp; omega
  have Hfit2 : RowKit.Hid (∀ G Z, Z.length = G - i → n + 1 ≤ G → (i + 1) + (cs.drop (i)).length ≤ (splice (cs.take (i) ++ Z) (i) [x]).length) := by
    intro G Z h1 h2; rw [splice_length _ _ _ (Hfit.out G Z h1 h2)]; simp; omega
  have Hfin : RowKit.Hid (∀ w1 w2 w3 G Z, Z.length = G - i → n + 1 ≤ G → G ≤ maxLen → w.grownBy w1 none → w1.grownBy w2 (some w.heap.size) → w2.grownBy w3 (some w.heap.size) → w3.heap[w.heap.size]? = some (.cells (splice (splice (cs.take (i) ++ Z) (i) [x]) ((i + 1)) (cs.drop (i))).toArray 3 (0, 0)) →
      InsI w B (.slice (some ⟨g, 0, none⟩) n n) n i cs [x] (.returned (.slice (some ⟨w.heap.size, 0, none⟩) (n + 1) G)) w3) := by
    intro w1 w2 w3 G Z hZ hG hGm g1 g2 g3 hw
    have f1 := Hfit.out G Z hZ hG
    have f2 := Hfit2.out G Z hZ hG
    refine ⟨_, rfl, ⟨by simp; omega, .inr ⟨w.heap.size, G, _, rfl, hB, hw, hG, hGm, ?_, ?_⟩⟩, ?_, fun k hk => .inr ?_⟩
    · simp only [List.size_toArray, splice_length _ _ _ f2, splice_length _ _ _ f1]
      simp; omega
    · have := row_grow cs Z (i) [x] (by omega) (by simp; omega)
      rw [Nat.mul_one, show (n + 1) = cs.length + [x].length by simp; omega, show (i + 1) = i + [x].length from rfl]
      simpa using this
    · refine ⟨g3.os.trans (g2.os.trans g1.os), g3.tape.trans (g2.tape.trans g1.tape), g3.output.trans (g2.output.trans g1.output), Nat.le_trans g1.size (Nat.le_trans g2.size g3.size), fun k hk hk' => ?_⟩
      have a1 : some k ≠ some w.heap.size := by intro e; injection e; omega
      have := g1.size
      have := g2.size
      exact (g3.block k (by omega) a1).trans ((g2.block k (by omega) a1).trans (g1.block k hk (by simp)))
    · simp [Value.ownBlock] at hk; omega
  have Hb1 : RowKit.Hid (∀ w1, w.grownBy w1 none → Below w.heap.size w w1) := fun w1 g1 => (Below.refl _ _).grown g1 (Nat.le_refl _) (by simp)
  have Hb2 : RowKit.Hid (∀ w1 w2, w.grownBy w1 none → w1.grownBy w2 (some w.heap.size) → Below w.heap.size w w2) := fun w1 w2 g1 g2 => (Hb1.out w1 g1).grown g2 g1.size (by intro k hk; injection hk; omega)
  have hw1 : IntKind.i64.wrap ((i : Int) + (1 : Int)) = (i : Int) + (1 : Int) := by rw [IntKind.wrap_i64]; omega
  have hb1 : (0 : Int) ≤ (i : Int) + (1 : Int) := by omega
  have htn : ((i : Int) + (1 : Int)).toNat = i + 1 := by omega
  have hb4 : ¬ (n = i) := by omega
  have hin' : i ≤ n := by omega
  have hi0 : (0 : Int) ≤ (i : Int) := by omega
  have hi1 : (i : Int) < (n : Int) := by omega
  have hi2 : (i : Int) ≤ (n : Int) + 1 := by omega
  have hi3 : (i : Int) ≤ (n : Int) := by omega
  have hz2 : ¬ ((i : Int) = (n : Int)) := by omega
  have hk1 : (n : Int) + 1 - (i : Int) = ((n + 1 - i : Nat) : Int) := by omega
  have Hk2 : RowKit.Hid (i + (n + 1 - i) = n + 1) := by show _ = _; omega
  clear hv hx h1 hg htk hl hcur hgl hvl
  go_enter Try.func58, Try.ntmps58
  go_wp2_with (at_builtin; refine wpList_append_zeros rfl _ _ 22 3 rfl 3 i0 (.int .i64 0) 1 8 .i64 .i64 Try.underlying22 (by kernel_rfl) ii iz0 iz1 iz2 rfl (by decide) g i n rfl (n + 1 - i) rfl (cs.take (i)) Hlt.out Hold.out (by omega) (by omega) hin' (by omega) (by omega) ?_)
  intro w1 G Z hw1' hZ hGn hGm hg1
  rw [Hk2.out] at hGn ⊢
  have Hb3 := Lib.hid (Hb1.out w1 hg1.out)
  have hG1 : ¬ (G = i) := by omega
  have hG2 : ¬ (G = i + 1) := by omega
  go_wp2_with (first | (refine wpList_copy2 rfl _ _ 22 22 rfl 3 1 Try.underlying22 hsz w.heap.size (i) (n + 1 - i) (G - i) ⟨vb, 0, none⟩ 1 1 rfl rfl (cs.take (i) ++ Z) 3 hw1'.out [x] (Hmin2.out _ (by omega)) (Hv.out _ Hb3.out) (Hfit.out G Z hZ.out hGn) H1.out ?_))
  intro w2 hw2' hg2
  have Hb4 := Lib.hid (Hb2.out w1 w2 hg1.out hg2.out)
  go_wp2
  go_region_law ((refine step_copy2 rfl _ _ 22 22 rfl 3 1 Try.underlying22 hsz w.heap.size ((i + 1)) (n - i) (G - (i + 1)) ⟨g, i, none⟩ (n - i) (n - i) (by simp [Act.eval, Act.put, *]) (by simp [Act.eval, Act.put, *]) (splice (cs.take (i) ++ Z) (i) [x]) 3 hw2'.out (cs.drop (i)) Hmin.out (Hsrc.out _ (Below.drew Hb4.out)) (Hfit2.out G Z hZ.out hGn) H1c.out ?_; intro w3 hw3' hg3))
  have Hr := Lib.hid (Hfin.out w1 w2 w3 G Z hZ.out hGn hGm.out hg1.out hg2.out (grown_drew hg3.out) hw3'.out)
  clear hg1 hg2 hg3 hw1' hw2' hw3' hZ hGm
  go_wp2
  go_ret
  exact Hr.out

theorem ins_I_calls (B : Nat) (s : Value) (n i vb : Nat) (cs : List Value) (x : Value) (w : World) (hs : w.ownsRow B 3 1 s n cs) (h1 : ∀ u ∈ cs, u.oneCell' = true) (hn : n < 1099511627776) (hi : i ≤ n) (hB : B ≤ w.heap.size)
    (hv : w.heap[vb]? = some (.cells #[x] 3 (0, 0))) (hx : x.oneCell' = true) (hne : s.ownBlock ≠ some vb) :
    Calls Try.prog 58 #[s, .int .i64 i, .slice (some ⟨vb, 0, none⟩) 1 1] w (InsI w B s n i cs [x]) := by
  by_cases he : i = n
  · subst he
    exact ins_I_end B s i vb cs x w hs hn hB hv hx
  · obtain ⟨hl, ⟨rfl, h0⟩ | ⟨g, c, cur, rfl, hbg, hg, hnc, hcm, hcur, htk⟩⟩ := hs
    · omega
    · have hne' : vb ≠ g := by intro e; subst e; exact hne rfl
      by_cases hc : n = c
      · subst hc
        exact ins_I_grow B g n i vb cs cur x w hn (by omega) hB hg (by simpa using hcur) (by simpa using htk) h1 hv hx
      · exact ins_I_shift B g n c i vb cs cur x w hn (by omega) (by omega) hcm hg hbg (by simpa using hcur) (by simpa using htk) h1 hv hx hne'
/-- Insert, at a piece. -/
theorem insI_calls (v : Value) (xs : List Value) (i vb : Nat) (x : Value) (w : World) {f : List Nat} (h : (slA 3 v xs).p w f) (hi : i ≤ xs.length) (hlen : xs.length < 1099511627776) (h1 : ∀ u ∈ xs, u.oneCell' = true) (hx : x.oneCell' = true)
    (hv : w.heap[vb]? = some (.cells #[x] 3 (0, 0))) (hne : vb ∉ f) :
    Calls Try.prog 58 #[v, .int .i64 i, .slice (some ⟨vb, 0, none⟩) 1 1] w fun e w' => ∃ a n c f', e = .returned (.slice a n c) ∧ (slA 3 (.slice a n c) (xs.take i ++ x :: xs.drop i)).p w' f' ∧ Tr w w' f f' := by
  obtain ⟨ho, rfl⟩ := h
  refine (ins_I_calls 0 v xs.length i vb xs x w ho h1 hlen hi (Nat.zero_le _) hv hx (fun e => hne (by rw [e]; simp))).mono ?_
  rintro e w' ⟨s', rfl, h2, h3, h4⟩
  have hsh : ∃ a n c, s' = .slice a n c := by rcases h2.2 with ⟨rfl, _⟩ | ⟨g, cap, cur, rfl, _⟩ <;> exact ⟨_, _, _, rfl⟩
  obtain ⟨a, n, c, rfl⟩ := hsh
  refine ⟨a, n, c, _, rfl, ⟨?_, rfl⟩, Tr.of_grown h3 h4⟩
  have e : (xs.take i ++ x :: xs.drop i).length = xs.length + 1 := by simp; omega
  rw [e]
  simpa using h2
end Go.Proofs.Ytldofiankhimjaa
/- slices.Insert and slices.Delete at elements of one cell (Q). -/
namespace Go.Proofs.Ytldofiankhimjaa
open Go.RowKit

theorem infoQ : (Try.prog.info? 82).map (fun i => (i.zero, i.size, i.bytes)) = some (some (.pointer none), 1, 8) := by kernel_rfl
theorem zeroQ : ∀ u ∈ (Builtin.zeroCells ((.pointer none) : Value).cells 1).toList, u.oneCell' = true := by
  intro u hu
  simp only [Builtin.zeroCells, Array.mem_toList_iff, Array.mem_map, Array.mem_range] at hu
  obtain ⟨a, ha, rfl⟩ := hu
  have : a = 0 := by simp [Value.cells] at ha; omega
  subst this
  rfl
/-- What Insert leaves. -/
def InsQ (w : World) (B : Nat) (s : Value) (n i : Nat) (cs vs : List Value) (e : Ending) (w' : World) : Prop :=
  ∃ s', e = .returned s' ∧ w'.ownsRow B 82 1 s' (n + 1) (cs.take (i) ++ vs ++ cs.drop (i)) ∧ w.grownBy w' s.ownBlock ∧ ∀ k, s'.ownBlock = some k → s.ownBlock = some k ∨ w.heap.size ≤ k

set_option maxHeartbeats 2000000 in
set_option maxRecDepth 100000 in
theorem ins_Q_end (B : Nat) (s : Value) (n vb : Nat) (cs : List Value) (x : Value) (w : World) (hs : w.ownsRow B 82 1 s n cs) (hn : n < 1099511627776) (hB : B ≤ w.heap.size)
    (hv : w.heap[vb]? = some (.cells #[x] 82 (0, 0))) (hx : x.oneCell' = true) :
    Calls Try.prog 68 #[s, .int .i64 n, .slice (some ⟨vb, 0, none⟩) 1 1] w (InsQ w B s n n cs [x]) := by
  obtain ⟨i0, ii, iz0, iz1, iz2⟩ := info_parts infoQ
  have Hs := Lib.hid hs
  have Hv : RowKit.Hid (∀ j u, [x][j]? = some u → w.cell? ((⟨vb, 0, none⟩ : Addr).add j) = some u) := by
    intro j u hu
    rw [Addr.add_lit, Nat.zero_add, cell_of_row w vb j _ 82 (0, 0) hv]
    simpa using hu
  have H1 : RowKit.Hid (∀ u ∈ [x], u.oneCell' = true) := by
    intro u hu
    simp at hu
    subst hu
    exact hx
  have Hfin : RowKit.Hid (∀ v' w', w'.ownsRow B 82 1 v' (n + 1) (cs ++ [x]) → w.grownBy w' s.ownBlock → (∀ k, v'.ownBlock = some k → s.ownBlock = some k ∨ w.heap.size ≤ k) → InsQ w B s n n cs [x] (.returned v') w') := by
    intro v' w' h1 h2 h3
    refine ⟨v', rfl, ?_, h2, h3⟩
    have hl := hs.1
    rw [List.take_of_length_le (by omega), List.drop_of_length_le (by omega), List.append_nil]
    exact h1
  obtain ⟨a, c, hsl, hcn⟩ : ∃ a c, s = .slice a n c ∧ n ≤ c := by
    rcases hs.2 with ⟨rfl, rfl⟩ | ⟨g, cap, cur, rfl, _, _, h, _⟩
    · exact ⟨_, _, rfl, Nat.le_refl _⟩
    · exact ⟨_, _, rfl, h⟩
  subst hsl
  have hc63 : c ≤ maxLen := by
    rcases hs.2 with ⟨h, rfl⟩ | ⟨g, cap, cur, h, _, _, _, h2, _⟩
    · injection h with _ _ h; subst h; decide
    · injection h with _ _ h; subst h; exact h2
  unfold maxLen at hc63
  have Hsl : RowKit.Hid (a = none → n = 0 ∧ c = 0) := by
    intro ha
    rcases hs.2 with ⟨h, rfl⟩ | ⟨g, cap, cur, h, _⟩
    · injection h with _ _ h; exact ⟨rfl, h⟩
    · injection h with h; rw [ha] at h; cases h
  clear hs hv hx
  go_enter Try.func68, Try.ntmps68
  cases a with
  | none =>
    obtain ⟨rfl, rfl⟩ := Hsl.out rfl
    go_wp2_with (at_builtin; go_loud (refine wpList_append_block _ rfl _ _ 83 rfl B 82 i0 (.pointer none) 1 8 Try.underlying83 ii iz0 iz1 iz2 rfl (by decide) _ _ _ rfl Hs.out ⟨vb, 0, none⟩ 1 1 [x] rfl rfl Hv.out H1.out (by decide) ?c1 ?c2 hB ?_))
    case c1 => unfold maxLen; omega
    intro v' w' h1 h2 h3
    have Hr := Lib.hid (Hfin.out v' w' h1 h2 h3.out)
    clear h1 h2 h3
    go_wp2
    go_ret
    exact Hr.out
  | some ad =>
    obtain ⟨ab, ao, asp⟩ := ad
    go_wp2_with (at_builtin; refine wpList_append_block _ rfl _ _ 83 rfl B 82 i0 (.pointer none) 1 8 Try.underlying83 ii iz0 iz1 iz2 rfl (by decide) _ _ _ rfl Hs.out ⟨vb, 0, none⟩ 1 1 [x] rfl rfl Hv.out H1.out (by decide) (by unfold maxLen; omega) (by omega) hB ?_)
    all_goals
      intro v' w' h1 h2 h3
      have Hr := Lib.hid (Hfin.out v' w' h1 h2 h3.out)
      clear h1 h2 h3
      go_wp2
      go_ret
      exact Hr.out

set_option maxHeartbeats 2000000 in
set_option maxRecDepth 100000 in
theorem ins_Q_shift (B : Nat) (g n c i vb : Nat) (cs : List Value) (cur : Array Value) (x : Value) (w : World) (hn : n < 1099511627776) (hin : i < n) (hnc : n < c) (hcm : c ≤ maxLen)
    (hg : w.heap[g]? = some (.cells cur 82 (0, 0))) (hbg : B ≤ g) (hcur : cur.size = c) (htk : cur.toList.take (n) = cs) (h1 : ∀ u ∈ cs, u.oneCell' = true)
    (hv : w.heap[vb]? = some (.cells #[x] 82 (0, 0))) (hx : x.oneCell' = true) (hne : vb ≠ g) :
    Calls Try.prog 68 #[.slice (some ⟨g, 0, none⟩) n c, .int .i64 i, .slice (some ⟨vb, 0, none⟩) 1 1] w (InsQ w B (.slice (some ⟨g, 0, none⟩) n c) n i cs [x]) := by
  obtain ⟨i0, ii, iz0, iz1, iz2⟩ := info_parts infoQ
  have hov : ∀ lb cb, (callFunc 83 #[.slice (some ⟨vb, 0, none⟩) 1 1, .slice (some ⟨g, (i + 1), none⟩) lb cb]).run Try.prog w = .ok (.value (.bool false)) w := fun lb cb => by
    rw [run_callFunc_extern Try.func83 (by kernel_rfl) (by kernel_rfl) (by kernel_rfl) (e := Extern.SlicesOverlaps.overlaps #[83, 83] #[4]) (by kernel_rfl),
      Lib.run_overlaps_apart w 83 4 82 Try.underlying83 1 (fun w => by simp [sizeOf, typeInfo, ii, iz1]) ⟨vb, 0, none⟩ ⟨g, (i + 1), none⟩ 1 1 lb cb hne 82 82 1 c (by simp [World.shape?, hv]) (by simp [World.shape?, hg, hcur]) (by omega) (by simp [World.frozen?, hv]) (by simp [World.frozen?, hv])]
    rfl
  have hsz : (Try.prog.info? 82).map (·.size) = some 1 := by rw [ii]; simp [iz1]
  have hl : cs.length = n := by rw [← htk]; simp; omega
  unfold maxLen at hcm
  have Hsrc : RowKit.Hid (∀ j u, (cs.drop (i))[j]? = some u → w.cell? ((⟨g, i, none⟩ : Addr).add j) = some u) := by
    intro j u hu
    rw [Addr.add_lit, cell_of_row w g _ cur 82 (0, 0) hg]
    rw [List.getElem?_drop, ← htk, List.getElem?_take] at hu
    split at hu
    · simpa using hu
    · cases hu
  have Hv : RowKit.Hid (∀ w', w.grownBy w' (some g) → ∀ j u, [x][j]? = some u → w'.cell? ((⟨vb, 0, none⟩ : Addr).add j) = some u) := by
    intro w' hw j u hu
    have hv' : w'.heap[vb]? = some (.cells #[x] 82 (0, 0)) := (hw.block vb (Array.getElem?_eq_some_iff.1 hv).1 (by simpa using hne)).trans hv
    rw [Addr.add_lit, Nat.zero_add, cell_of_row w' vb j _ 82 (0, 0) hv']
    simpa using hu
  have H1 : RowKit.Hid (∀ u ∈ [x], u.oneCell' = true) := by
    intro u hu
    simp at hu
    subst hu
    exact hx
  have H1c : RowKit.Hid (∀ u ∈ cs.drop (i), u.oneCell' = true) := fun u hu => h1 u (List.mem_of_mem_drop hu)
  have Hg : RowKit.Hid (w.heap[g]? = some (.cells cur.toList.toArray 82 (0, 0))) := hg
  have Hfit : RowKit.Hid ((i + 1) + (cs.drop (i)).length ≤ cur.toList.length) := by show _ ≤ _; simp; omega
  have Hmin : RowKit.Hid ((cs.drop (i)).length = Nat.min (n + 1 - i) (n - i) * 1) := by show _ = _; simp only [List.length_drop, Nat.min_def]; split <;> omega
  have Hfit2 : RowKit.Hid (i + [x].length ≤ (splice cur.toList ((i + 1)) (cs.drop (i))).length) := by show _ ≤ _; rw [splice_length _ _ _ Hfit.out]; simp; omega
  have Hmin2 : RowKit.Hid ([x].length = Nat.min 1 (n + 1 - i) * 1) := by show _ = _; simp only [List.length_cons, List.length_nil, Nat.min_def]; split <;> omega
  have Hfin : RowKit.Hid (∀ w' w'', w.grownBy w' (some g) → w'.grownBy w'' (some g) → w''.heap[g]? = some (.cells (splice (splice cur.toList ((i + 1)) (cs.drop (i))) (i) [x]).toArray 82 (0, 0)) →
      InsQ w B (.slice (some ⟨g, 0, none⟩) n c) n i cs [x] (.returned (.slice (some ⟨g, 0, none⟩) (n + 1) c)) w'') := by
    intro w' w'' g1 g2 hw
    refine ⟨_, rfl, ⟨by simp; omega, .inr ⟨g, c, _, rfl, hbg, hw, by omega, by unfold maxLen; omega, ?_, ?_⟩⟩, ?_, fun k hk => .inl hk⟩
    · have := Hfit2.out
      have hh := Hfit.out
      simp only [List.size_toArray, splice_length _ _ _ this, splice_length _ _ _ hh, Array.length_toList, hcur, Nat.mul_one]
    · have := row_shift cur.toList (i) (n) [x] (by simp; omega) (by omega)
      rw [htk] at this
      rw [Nat.mul_one, show (n + 1) = n + [x].length from rfl, show (i + 1) = i + [x].length from rfl]
      simpa using this
    · exact ⟨g2.os.trans g1.os, g2.tape.trans g1.tape, g2.output.trans g1.output, Nat.le_trans g1.size g2.size, fun k hk hk' => (g2.block k (Nat.lt_of_lt_of_le hk g1.size) hk').trans (g1.block k hk hk')⟩
  have hw1 : IntKind.i64.wrap ((i : Int) + (1 : Int)) = (i : Int) + (1 : Int) := by rw [IntKind.wrap_i64]; omega
  have hb1 : (0 : Int) ≤ (i : Int) + (1 : Int) := by omega
  have htn : ((i : Int) + (1 : Int)).toNat = i + 1 := by omega
  have hb2 : ¬ (c = i + 1) := by omega
  have hb4 : ¬ (c = i) := by omega
  have hin' : i ≤ n := by omega
  have hi0 : (0 : Int) ≤ (i : Int) := by omega
  have hi1 : (i : Int) < (n : Int) := by omega
  have hi2 : (i : Int) ≤ (n : Int) + 1 := by omega
  have hz2 : ¬ ((i : Int) = (n : Int)) := by omega
  have hn0 : (n : Int) + 1 ≤ c := by omega
  clear hv hx h1 hg htk hl hcur hne
  go_enter Try.func68, Try.ntmps68
  go_wp2_with (simp only [hov])
  go_region_law ((refine step_copy2 rfl _ _ 83 83 rfl 82 1 Try.underlying83 hsz g ((i + 1)) (n - i) (c - (i + 1)) ⟨g, i, none⟩ (n + 1 - i) (c - i) (by simp [Act.eval, Act.put, *]) (by simp [Act.eval, Act.put, *]) cur.toList 82 Hg.out (cs.drop (i)) Hmin.out Hsrc.out Hfit.out H1c.out ?_; intro W1 hW1 hG1))
  go_wp2_with (first | (refine wpList_copy2 rfl _ _ 83 83 rfl 82 1 Try.underlying83 hsz g (i) (n + 1 - i) (c - i) ⟨vb, 0, none⟩ 1 1 rfl rfl (splice cur.toList ((i + 1)) (cs.drop (i))) 82 hW1.out [x] Hmin2.out ?e1 Hfit2.out H1.out ?_))
  case e1 => exact Hv.out W1 (grown_drew hG1.out)
  intro W2 hW2 hG2
  have Hr := Lib.hid (Hfin.out W1 W2 (grown_drew hG1.out) hG2.out hW2.out)
  clear hG1 hG2 hW1 hW2
  go_wp2
  go_ret
  exact Hr.out

set_option maxHeartbeats 2000000 in
set_option maxRecDepth 100000 in
theorem ins_Q_grow (B : Nat) (g n i vb : Nat) (cs : List Value) (cur : Array Value) (x : Value) (w : World) (hn : n < 1099511627776) (hin : i < n) (hB : B ≤ w.heap.size)
    (hg : w.heap[g]? = some (.cells cur 82 (0, 0))) (hcur : cur.size = n) (htk : cur.toList.take (n) = cs) (h1 : ∀ u ∈ cs, u.oneCell' = true)
    (hv : w.heap[vb]? = some (.cells #[x] 82 (0, 0))) (hx : x.oneCell' = true) :
    Calls Try.prog 68 #[.slice (some ⟨g, 0, none⟩) n n, .int .i64 i, .slice (some ⟨vb, 0, none⟩) 1 1] w (InsQ w B (.slice (some ⟨g, 0, none⟩) n n) n i cs [x]) := by
  obtain ⟨i0, ii, iz0, iz1, iz2⟩ := info_parts infoQ
  have hsz : (Try.prog.info? 82).map (·.size) = some 1 := by rw [ii]; simp [iz1]
  have hl : cs.length = n := by rw [← htk]; simp; omega
  have hgl : g < w.heap.size := (Array.getElem?_eq_some_iff.1 hg).1
  have hvl : vb < w.heap.size := (Array.getElem?_eq_some_iff.1 hv).1
  have Hold : RowKit.Hid (∀ j u, (cs.take (i))[j]? = some u → w.cell? ⟨g, j, none⟩ = some u) := by
    intro j u hu
    rw [cell_of_row w g _ cur 82 (0, 0) hg]
    rw [List.getElem?_take] at hu
    split at hu
    · rw [← htk, List.getElem?_take] at hu
      split at hu
      · simpa using hu
      · cases hu
    · cases hu
  have Hsrc : RowKit.Hid (∀ w', Below w.heap.size w w' → ∀ j u, (cs.drop (i))[j]? = some u → w'.cell? ((⟨g, i, none⟩ : Addr).add j) = some u) := by
    intro w' hb j u hu
    rw [Addr.add_lit, cell_of_row w' g _ cur 82 (0, 0) ((hb.block g hgl).trans hg)]
    rw [List.getElem?_drop, ← htk, List.getElem?_take] at hu
    split at hu
    · simpa using hu
    · cases hu
  have Hv : RowKit.Hid (∀ w', Below w.heap.size w w' → ∀ j u, [x][j]? = some u → w'.cell? ((⟨vb, 0, none⟩ : Addr).add j) = some u) := by
    intro w' hb j u hu
    rw [Addr.add_lit, Nat.zero_add, cell_of_row w' vb j _ 82 (0, 0) ((hb.block vb hvl).trans hv)]
    simpa using hu
  have H1 : RowKit.Hid (∀ u ∈ [x], u.oneCell' = true) := by
    intro u hu
    simp at hu
    subst hu
    exact hx
  have H1c : RowKit.Hid (∀ u ∈ cs.drop (i), u.oneCell' = true) := fun u hu => h1 u (List.mem_of_mem_drop hu)
  have Hlt : RowKit.Hid ((cs.take (i)).length = i * 1) := by show _ = _; simp; omega
  have Hmin2 : RowKit.Hid (∀ m, 1 ≤ m → [x].length = Nat.min 1 m * 1) := by intro m hm; simp only [List.length_cons, List.length_nil, Nat.min_def]; split <;> omega
  have Hmin : RowKit.Hid ((cs.drop (i)).length = Nat.min (n - i) (n - i) * 1) := by show _ = _; simp only [List.length_drop, Nat.min_def]; split <;> omega
  have Hfit : RowKit.Hid (∀ G Z, Z.length = G - i → n + 1 ≤ G → i + [x].length ≤ (cs.take (i) ++ Z).length) := by intro G Z h1 h2; simp; omega
  have Hfit2 : RowKit.Hid (∀ G Z, Z.length = G - i → n + 1 ≤ G → (i + 1) + (cs.drop (i)).length ≤ (splice (cs.take (i) ++ Z) (i) [x]).length) := by
    intro G Z h1 h2; rw [splice_length _ _ _ (Hfit.out G Z h1 h2)]; simp; omega
  have Hfin : RowKit.Hid (∀ w1 w2 w3 G Z, Z.length = G - i → n + 1 ≤ G → G ≤ maxLen → w.grownBy w1 none → w1.grownBy w2 (some w.heap.size) → w2.grownBy w3 (some w.heap.size) → w3.heap[w.heap.size]? = some (.cells (splice (splice (cs.take (i) ++ Z) (i) [x]) ((i + 1)) (cs.drop (i))).toArray 82 (0, 0)) →
      InsQ w B (.slice (some ⟨g, 0, none⟩) n n) n i cs [x] (.returned (.slice (some ⟨w.heap.size, 0, none⟩) (n + 1) G)) w3) := by
    intro w1 w2 w3 G Z hZ hG hGm g1 g2 g3 hw
    have f1 := Hfit.out G Z hZ hG
    have f2 := Hfit2.out G Z hZ hG
    refine ⟨_, rfl, ⟨by simp; omega, .inr ⟨w.heap.size, G, _, rfl, hB, hw, hG, hGm, ?_, ?_⟩⟩, ?_, fun k hk => .inr ?_⟩
    · simp only [List.size_toArray, splice_length _ _ _ f2, splice_length _ _ _ f1]
      simp; omega
    · have := row_grow cs Z (i) [x] (by omega) (by simp; omega)
      rw [Nat.mul_one, show (n + 1) = cs.length + [x].length by simp; omega, show (i + 1) = i + [x].length from rfl]
      simpa using this
    · refine ⟨g3.os.trans (g2.os.trans g1.os), g3.tape.trans (g2.tape.trans g1.tape), g3.output.trans (g2.output.trans g1.output), Nat.le_trans g1.size (Nat.le_trans g2.size g3.size), fun k hk hk' => ?_⟩
      have a1 : some k ≠ some w.heap.size := by intro e; injection e; omega
      have := g1.size
      have := g2.size
      exact (g3.block k (by omega) a1).trans ((g2.block k (by omega) a1).trans (g1.block k hk (by simp)))
    · simp [Value.ownBlock] at hk; omega
  have Hb1 : RowKit.Hid (∀ w1, w.grownBy w1 none → Below w.heap.size w w1) := fun w1 g1 => (Below.refl _ _).grown g1 (Nat.le_refl _) (by simp)
  have Hb2 : RowKit.Hid (∀ w1 w2, w.grownBy w1 none → w1.grownBy w2 (some w.heap.size) → Below w.heap.size w w2) := fun w1 w2 g1 g2 => (Hb1.out w1 g1).grown g2 g1.size (by intro k hk; injection hk; omega)
  have hw1 : IntKind.i64.wrap ((i : Int) + (1 : Int)) = (i : Int) + (1 : Int) := by rw [IntKind.wrap_i64]; omega
  have hb1 : (0 : Int) ≤ (i : Int) + (1 : Int) := by omega
  have htn : ((i : Int) + (1 : Int)).toNat = i + 1 := by omega
  have hb4 : ¬ (n = i) := by omega
  have hin' : i ≤ n := by omega
  have hi0 : (0 : Int) ≤ (i : Int) := by omega
  have hi1 : (i : Int) < (n : Int) := by omega
  have hi2 : (i : Int) ≤ (n : Int) + 1 := by omega
  have hi3 : (i : Int) ≤ (n : Int) := by omega
  have hz2 : ¬ ((i : Int) = (n : Int)) := by omega
  have hk1 : (n : Int) + 1 - (i : Int) = ((n + 1 - i : Nat) : Int) := by omega
  have Hk2 : RowKit.Hid (i + (n + 1 - i) = n + 1) := by show _ = _; omega
  clear hv hx h1 hg htk hl hcur hgl hvl
  go_enter Try.func68, Try.ntmps68
  go_wp2_with (at_builtin; refine wpList_append_zeros rfl _ _ 83 3 rfl 82 i0 (.pointer none) 1 8 .i64 .i64 Try.underlying83 (by kernel_rfl) ii iz0 iz1 iz2 rfl (by decide) g i n rfl (n + 1 - i) rfl (cs.take (i)) Hlt.out Hold.out (by omega) (by omega) hin' (by omega) (by omega) ?_)
  intro w1 G Z hw1' hZ hGn hGm hg1
  rw [Hk2.out] at hGn ⊢
  have Hb3 := Lib.hid (Hb1.out w1 hg1.out)
  have hG1 : ¬ (G = i) := by omega
  have hG2 : ¬ (G = i + 1) := by omega
  go_wp2_with (first | (refine wpList_copy2 rfl _ _ 83 83 rfl 82 1 Try.underlying83 hsz w.heap.size (i) (n + 1 - i) (G - i) ⟨vb, 0, none⟩ 1 1 rfl rfl (cs.take (i) ++ Z) 82 hw1'.out [x] (Hmin2.out _ (by omega)) (Hv.out _ Hb3.out) (Hfit.out G Z hZ.out hGn) H1.out ?_))
  intro w2 hw2' hg2
  have Hb4 := Lib.hid (Hb2.out w1 w2 hg1.out hg2.out)
  go_wp2
  go_region_law ((refine step_copy2 rfl _ _ 83 83 rfl 82 1 Try.underlying83 hsz w.heap.size ((i + 1)) (n - i) (G - (i + 1)) ⟨g, i, none⟩ (n - i) (n - i) (by simp [Act.eval, Act.put, *]) (by simp [Act.eval, Act.put, *]) (splice (cs.take (i) ++ Z) (i) [x]) 82 hw2'.out (cs.drop (i)) Hmin.out (Hsrc.out _ (Below.drew Hb4.out)) (Hfit2.out G Z hZ.out hGn) H1c.out ?_; intro w3 hw3' hg3))
  have Hr := Lib.hid (Hfin.out w1 w2 w3 G Z hZ.out hGn hGm.out hg1.out hg2.out (grown_drew hg3.out) hw3'.out)
  clear hg1 hg2 hg3 hw1' hw2' hw3' hZ hGm
  go_wp2
  go_ret
  exact Hr.out

theorem ins_Q_calls (B : Nat) (s : Value) (n i vb : Nat) (cs : List Value) (x : Value) (w : World) (hs : w.ownsRow B 82 1 s n cs) (h1 : ∀ u ∈ cs, u.oneCell' = true) (hn : n < 1099511627776) (hi : i ≤ n) (hB : B ≤ w.heap.size)
    (hv : w.heap[vb]? = some (.cells #[x] 82 (0, 0))) (hx : x.oneCell' = true) (hne : s.ownBlock ≠ some vb) :
    Calls Try.prog 68 #[s, .int .i64 i, .slice (some ⟨vb, 0, none⟩) 1 1] w (InsQ w B s n i cs [x]) := by
  by_cases he : i = n
  · subst he
    exact ins_Q_end B s i vb cs x w hs hn hB hv hx
  · obtain ⟨hl, ⟨rfl, h0⟩ | ⟨g, c, cur, rfl, hbg, hg, hnc, hcm, hcur, htk⟩⟩ := hs
    · omega
    · have hne' : vb ≠ g := by intro e; subst e; exact hne rfl
      by_cases hc : n = c
      · subst hc
        exact ins_Q_grow B g n i vb cs cur x w hn (by omega) hB hg (by simpa using hcur) (by simpa using htk) h1 hv hx
      · exact ins_Q_shift B g n c i vb cs cur x w hn (by omega) (by omega) hcm hg hbg (by simpa using hcur) (by simpa using htk) h1 hv hx hne'
/-- Insert, at a piece. -/
theorem insQ_calls (v : Value) (xs : List Value) (i vb : Nat) (x : Value) (w : World) {f : List Nat} (h : (slA 82 v xs).p w f) (hi : i ≤ xs.length) (hlen : xs.length < 1099511627776) (h1 : ∀ u ∈ xs, u.oneCell' = true) (hx : x.oneCell' = true)
    (hv : w.heap[vb]? = some (.cells #[x] 82 (0, 0))) (hne : vb ∉ f) :
    Calls Try.prog 68 #[v, .int .i64 i, .slice (some ⟨vb, 0, none⟩) 1 1] w fun e w' => ∃ a n c f', e = .returned (.slice a n c) ∧ (slA 82 (.slice a n c) (xs.take i ++ x :: xs.drop i)).p w' f' ∧ Tr w w' f f' := by
  obtain ⟨ho, rfl⟩ := h
  refine (ins_Q_calls 0 v xs.length i vb xs x w ho h1 hlen hi (Nat.zero_le _) hv hx (fun e => hne (by rw [e]; simp))).mono ?_
  rintro e w' ⟨s', rfl, h2, h3, h4⟩
  have hsh : ∃ a n c, s' = .slice a n c := by rcases h2.2 with ⟨rfl, _⟩ | ⟨g, cap, cur, rfl, _⟩ <;> exact ⟨_, _, _, rfl⟩
  obtain ⟨a, n, c, rfl⟩ := hsh
  refine ⟨a, n, c, _, rfl, ⟨?_, rfl⟩, Tr.of_grown h3 h4⟩
  have e : (xs.take i ++ x :: xs.drop i).length = xs.length + 1 := by simp; omega
  rw [e]
  simpa using h2
end Go.Proofs.Ytldofiankhimjaa
/- put: its region of two calls of Insert (S). -/
namespace Go.Proofs.Ytldofiankhimjaa
open Go Go.RowKit
noncomputable def oPut4S : Array Oper := ((Try.f43.body).bind fun c => opsOf c 4).getD #[]
set_option maxHeartbeats 4000000 in
set_option maxRecDepth 100000 in
theorem rPut4S {Q : Exit → Act → World → Prop} {a : Act} {w w0 : World} {fp0 : List Nat} (b gk nk ck gv nv cv : Nat) (ps : Value) (es : M ByteArray Int) (k : ByteArray) (v : Int) (i : Nat) (hi : i < es.length) (hik : i < nk) (hiv : i < nv) (R : List Asn) (ops : Array Oper) (hops : ops = oPut4S) (hsz : a.tmps.size = 106) (h1 : a.eval (.tmp 1) = .pointer (some ⟨b, 0, none⟩)) (h2 : a.eval (.tmp 2) = encS k) (h3 : a.eval (.tmp 3) = valS v) (h10 : a.eval (.tmp 10) = .int .i64 i)
    (hS : St w0 fp0 ([blkA b 85 #[.slice (some ⟨gk, 0, none⟩) nk ck, .slice (some ⟨gv, 0, none⟩) nv cv, ps], pick false (slA 9 (.slice (some ⟨gk, 0, none⟩) nk ck) ((keysS es).set i (encS k))) (slA 9 (.slice (some ⟨gk, 0, none⟩) nk ck) (keysS es)), pick false (slA 3 (.slice (some ⟨gv, 0, none⟩) nv cv) ((valsS es).set i (valS v))) (slA 3 (.slice (some ⟨gv, 0, none⟩) nv cv) (valsS es))] ++ R) w)
    (hQ : ∀ (u : Nat → Value) w1, St w0 fp0 ([blkA b 85 #[.slice (some ⟨gk, 0, none⟩) nk ck, .slice (some ⟨gv, 0, none⟩) nv cv, ps], pick true (slA 9 (.slice (some ⟨gk, 0, none⟩) nk ck) ((keysS es).set i (encS k))) (slA 9 (.slice (some ⟨gk, 0, none⟩) nk ck) (keysS es)), pick true (slA 3 (.slice (some ⟨gv, 0, none⟩) nv cv) ((valsS es).set i (valS v))) (slA 3 (.slice (some ⟨gv, 0, none⟩) nv cv) (valsS es))] ++ R) w1 → Q .normal (putL a (([30, 31, 32, 33, 34, 35, 36, 37, 38, 39, 40, 41, 42, 43] : List Nat).map fun d => (d, u d))) w1) : (Code.region 4 ops true).wp Try.prog Q a w := by
  subst hops
  have hsize : oPut4S.size = 16 := by kernel_rfl
  have hE : Looks (fun L g w => St w0 fp0 ([blkA b 85 #[.slice (some ⟨gk, 0, none⟩) nk ck, .slice (some ⟨gv, 0, none⟩) nv cv, ps], pick (L 13) (slA 9 (.slice (some ⟨gk, 0, none⟩) nk ck) ((keysS es).set i (encS k))) (slA 9 (.slice (some ⟨gk, 0, none⟩) nk ck) (keysS es)), pick (L 15) (slA 3 (.slice (some ⟨gv, 0, none⟩) nv cv) ((valsS es).set i (valS v))) (slA 3 (.slice (some ⟨gv, 0, none⟩) nv cv) (valsS es))] ++ R) w) [13, 15] [] := by
    intro L L' g g' w hL hg h
    simpa only [← hL 13 (by decide), ← hL 15 (by decide)] using h
  have hn1 : (([(0, 30, .pointer (some ⟨b, 0, none⟩)), (1, 31, .pointer (some ⟨b, 0, none⟩)), (2, 32, .pointer (some ⟨b, 0, none⟩)), (3, 33, .slice (some ⟨gk, 0, none⟩) nk ck), (4, 34, .int .i64 i), (5, 35, .pointer (some ⟨b, 0, none⟩)), (6, 36, .pointer (some ⟨b, 0, none⟩)), (7, 37, .pointer (some ⟨b, 1, none⟩)), (8, 38, .slice (some ⟨gv, 0, none⟩) nv cv), (9, 39, .int .i64 i), (10, 40, encS k), (11, 41, valS v), (12, 42, .pointer (some ⟨gk, i, none⟩)), (14, 43, .pointer (some ⟨gv, i, none⟩))] : List (Nat × Nat × Value)).map (·.1)).Nodup := by
    show List.Nodup [0, 1, 2, 3, 4, 5, 6, 7, 8, 9, 10, 11, 12, 14]
    decide
  have hn2 : (([(0, 30, .pointer (some ⟨b, 0, none⟩)), (1, 31, .pointer (some ⟨b, 0, none⟩)), (2, 32, .pointer (some ⟨b, 0, none⟩)), (3, 33, .slice (some ⟨gk, 0, none⟩) nk ck), (4, 34, .int .i64 i), (5, 35, .pointer (some ⟨b, 0, none⟩)), (6, 36, .pointer (some ⟨b, 0, none⟩)), (7, 37, .pointer (some ⟨b, 1, none⟩)), (8, 38, .slice (some ⟨gv, 0, none⟩) nv cv), (9, 39, .int .i64 i), (10, 40, encS k), (11, 41, valS v), (12, 42, .pointer (some ⟨gk, i, none⟩)), (14, 43, .pointer (some ⟨gv, i, none⟩))] : List (Nat × Nat × Value)).map (·.2.1)).Nodup := by
    show List.Nodup [30, 31, 32, 33, 34, 35, 36, 37, 38, 39, 40, 41, 42, 43]
    decide
  refine wp_region_vals (ops' := oPut4S) [30, 31, 32, 33, 34, 35, 36, 37, 38, 39, 40, 41, 42, 43] [(0, 30, .pointer (some ⟨b, 0, none⟩)), (1, 31, .pointer (some ⟨b, 0, none⟩)), (2, 32, .pointer (some ⟨b, 0, none⟩)), (3, 33, .slice (some ⟨gk, 0, none⟩) nk ck), (4, 34, .int .i64 i), (5, 35, .pointer (some ⟨b, 0, none⟩)), (6, 36, .pointer (some ⟨b, 0, none⟩)), (7, 37, .pointer (some ⟨b, 1, none⟩)), (8, 38, .slice (some ⟨gv, 0, none⟩) nv cv), (9, 39, .int .i64 i), (10, 40, encS k), (11, 41, valS v), (12, 42, .pointer (some ⟨gk, i, none⟩)), (14, 43, .pointer (some ⟨gv, i, none⟩))] (fun L g w => St w0 fp0 ([blkA b 85 #[.slice (some ⟨gk, 0, none⟩) nk ck, .slice (some ⟨gv, 0, none⟩) nv cv, ps], pick (L 13) (slA 9 (.slice (some ⟨gk, 0, none⟩) nk ck) ((keysS es).set i (encS k))) (slA 9 (.slice (some ⟨gk, 0, none⟩) nk ck) (keysS es)), pick (L 15) (slA 3 (.slice (some ⟨gv, 0, none⟩) nv cv) ((valsS es).set i (valS v))) (slA 3 (.slice (some ⟨gv, 0, none⟩) nv cv) (valsS es))] ++ R) w) rfl (by kernel_rfl) (by kernel_rfl) (hS.mono (below_drew w)) ?_ ?_
  · intro oi o L a1 w1 ho hL hdep hI
    have hoi : oi < 16 := by have := (Array.getElem?_eq_some_iff.1 ho).1; omega
    have h1sz : a1.tmps.size = 106 := hI.frame.size.trans hsz
    rcases (by omega : oi = 0 ∨ oi = 1 ∨ oi = 2 ∨ oi = 3 ∨ oi = 4 ∨ oi = 5 ∨ oi = 6 ∨ oi = 7 ∨ oi = 8 ∨ oi = 9 ∨ oi = 10 ∨ oi = 11 ∨ oi = 12 ∨ oi = 13 ∨ oi = 14 ∨ oi = 15) with rfl | rfl | rfl | rfl | rfl | rfl | rfl | rfl | rfl | rfl | rfl | rfl | rfl | rfl | rfl | rfl
    · have hl : oPut4S[0]? = some ⟨some 30, Op.move (Operand.tmp 1), _, _, _, none⟩ := rfl
      obtain rfl := oI ho hl
      have x1 := hI.old 1 (.pointer (some ⟨b, 0, none⟩)) (by decide) h1
      exact hI.rd hE hsz 0 30 (.pointer (some ⟨b, 0, none⟩)) ho rfl rfl hdep (by decide) (vals_at hn1 hn2 0 rfl) (by simp [go_sem, execOp, Act.eval, x1])
    · have hl : oPut4S[1]? = some ⟨some 31, Op.nilCheck (Operand.tmp 30), _, _, _, none⟩ := rfl
      obtain rfl := oI ho hl
      have x30 := hI.val 0 30 (.pointer (some ⟨b, 0, none⟩)) (mG (i := 0) rfl) (dK ho hdep (by kernel_rfl : waitsB oPut4S 1 0 = true))
      exact hI.rd hE hsz 1 31 (.pointer (some ⟨b, 0, none⟩)) ho rfl rfl hdep (by decide) (vals_at hn1 hn2 1 rfl) (by simp [go_sem, execOp, Act.eval, x30])
    · have hl : oPut4S[2]? = some ⟨some 32, Op.fieldAddr _ (Operand.tmp 31) 0, _, _, _, none⟩ := rfl
      obtain rfl := oI ho hl
      have x31 := hI.val 1 31 (.pointer (some ⟨b, 0, none⟩)) (mG (i := 1) rfl) (dK ho hdep (by kernel_rfl : waitsB oPut4S 2 1 = true))
      exact hI.rd hE hsz 2 32 (.pointer (some ⟨b, 0, none⟩)) ho rfl rfl hdep (by decide) (vals_at hn1 hn2 2 rfl) (by simp [go_sem, execOp, Act.eval, x31])
    · have hl : oPut4S[3]? = some ⟨some 33, Op.load _ (Operand.tmp 32), _, _, _, none⟩ := rfl
      obtain rfl := oI ho hl
      have x32 := hI.val 2 32 (.pointer (some ⟨b, 0, none⟩)) (mG (i := 2) rfl) (dK ho hdep (by kernel_rfl : waitsB oPut4S 3 2 = true))
      have hS1 := hI.eff
      have e13 : L 13 = false := hI.no hL (by kernel_rfl : waitsB oPut4S 13 3 = true)
      have e15 : L 15 = false := hI.no hL (by kernel_rfl : waitsB oPut4S 15 3 = true)
      simp only [e13, e15, pick_false] at hS1
      obtain ⟨_, hp⟩ := hS1.has 0 rfl
      have hcell := (blk_get hp).1 0
      have hlt := (blk_get hp).2.2
      simp only [List.getElem?_toArray, List.getElem?_cons_zero] at hcell
      exact hI.rd hE hsz 3 33 (.slice (some ⟨gk, 0, none⟩) nk ck) ho rfl rfl hdep (by decide) (vals_at hn1 hn2 3 rfl) (by simp [go_sem, execOp, Act.eval, x32, hcell])
    · have hl : oPut4S[4]? = some ⟨some 34, Op.move (Operand.tmp 10), _, _, _, none⟩ := rfl
      obtain rfl := oI ho hl
      have x10 := hI.old 10 (.int .i64 i) (by decide) h10
      exact hI.rd hE hsz 4 34 (.int .i64 i) ho rfl rfl hdep (by decide) (vals_at hn1 hn2 4 rfl) (by simp [go_sem, execOp, Act.eval, x10])
    · have hl : oPut4S[5]? = some ⟨some 35, Op.move (Operand.tmp 1), _, _, _, none⟩ := rfl
      obtain rfl := oI ho hl
      have x1 := hI.old 1 (.pointer (some ⟨b, 0, none⟩)) (by decide) h1
      exact hI.rd hE hsz 5 35 (.pointer (some ⟨b, 0, none⟩)) ho rfl rfl hdep (by decide) (vals_at hn1 hn2 5 rfl) (by simp [go_sem, execOp, Act.eval, x1])
    · have hl : oPut4S[6]? = some ⟨some 36, Op.nilCheck (Operand.tmp 35), _, _, _, none⟩ := rfl
      obtain rfl := oI ho hl
      have x35 := hI.val 5 35 (.pointer (some ⟨b, 0, none⟩)) (mG (i := 5) rfl) (dK ho hdep (by kernel_rfl : waitsB oPut4S 6 5 = true))
      exact hI.rd hE hsz 6 36 (.pointer (some ⟨b, 0, none⟩)) ho rfl rfl hdep (by decide) (vals_at hn1 hn2 6 rfl) (by simp [go_sem, execOp, Act.eval, x35])
    · have hl : oPut4S[7]? = some ⟨some 37, Op.fieldAddr _ (Operand.tmp 36) 1, _, _, _, none⟩ := rfl
      obtain rfl := oI ho hl
      have x36 := hI.val 6 36 (.pointer (some ⟨b, 0, none⟩)) (mG (i := 6) rfl) (dK ho hdep (by kernel_rfl : waitsB oPut4S 7 6 = true))
      exact hI.rd hE hsz 7 37 (.pointer (some ⟨b, 1, none⟩)) ho rfl rfl hdep (by decide) (vals_at hn1 hn2 7 rfl) (by simp [go_sem, execOp, Act.eval, x36])
    · have hl : oPut4S[8]? = some ⟨some 38, Op.load _ (Operand.tmp 37), _, _, _, none⟩ := rfl
      obtain rfl := oI ho hl
      have x37 := hI.val 7 37 (.pointer (some ⟨b, 1, none⟩)) (mG (i := 7) rfl) (dK ho hdep (by kernel_rfl : waitsB oPut4S 8 7 = true))
      have hS1 := hI.eff
      have e13 : L 13 = false := hI.no hL (by kernel_rfl : waitsB oPut4S 13 8 = true)
      have e15 : L 15 = false := hI.no hL (by kernel_rfl : waitsB oPut4S 15 8 = true)
      simp only [e13, e15, pick_false] at hS1
      obtain ⟨_, hp⟩ := hS1.has 0 rfl
      have hcell := (blk_get hp).1 1
      have hlt := (blk_get hp).2.2
      simp only [List.getElem?_toArray, List.getElem?_cons_zero, List.getElem?_cons_succ] at hcell
      exact hI.rd hE hsz 8 38 (.slice (some ⟨gv, 0, none⟩) nv cv) ho rfl rfl hdep (by decide) (vals_at hn1 hn2 8 rfl) (by simp [go_sem, execOp, Act.eval, x37, hcell])
    · have hl : oPut4S[9]? = some ⟨some 39, Op.move (Operand.tmp 10), _, _, _, none⟩ := rfl
      obtain rfl := oI ho hl
      have x10 := hI.old 10 (.int .i64 i) (by decide) h10
      exact hI.rd hE hsz 9 39 (.int .i64 i) ho rfl rfl hdep (by decide) (vals_at hn1 hn2 9 rfl) (by simp [go_sem, execOp, Act.eval, x10])
    · have hl : oPut4S[10]? = some ⟨some 40, Op.move (Operand.tmp 2), _, _, _, none⟩ := rfl
      obtain rfl := oI ho hl
      have x2 := hI.old 2 (encS k) (by decide) h2
      exact hI.rd hE hsz 10 40 (encS k) ho rfl rfl hdep (by decide) (vals_at hn1 hn2 10 rfl) (by simp [go_sem, execOp, Act.eval, x2])
    · have hl : oPut4S[11]? = some ⟨some 41, Op.move (Operand.tmp 3), _, _, _, none⟩ := rfl
      obtain rfl := oI ho hl
      have x3 := hI.old 3 (valS v) (by decide) h3
      exact hI.rd hE hsz 11 41 (valS v) ho rfl rfl hdep (by decide) (vals_at hn1 hn2 11 rfl) (by simp [go_sem, execOp, Act.eval, x3])
    · have hl : oPut4S[12]? = some ⟨some 42, Op.indexAddr _ (Operand.tmp 33) (Operand.tmp 34), _, _, _, none⟩ := rfl
      obtain rfl := oI ho hl
      have x33 := hI.val 3 33 (.slice (some ⟨gk, 0, none⟩) nk ck) (mG (i := 3) rfl) (dK ho hdep (by kernel_rfl : waitsB oPut4S 12 3 = true))
      have x34 := hI.val 4 34 (.int .i64 i) (mG (i := 4) rfl) (dK ho hdep (by kernel_rfl : waitsB oPut4S 12 4 = true))
      exact hI.rd hE hsz 12 42 (.pointer (some ⟨gk, i, none⟩)) ho rfl rfl hdep (by decide) (vals_at hn1 hn2 12 rfl) (by simp [go_sem, execOp, Act.eval, x33, x34, hik])
    · have hl : oPut4S[13]? = some ⟨none, Op.store _ (Operand.tmp 42) (Operand.tmp 40), _, _, _, none⟩ := rfl
      obtain rfl := oI ho hl
      have x42 := hI.val 12 42 (.pointer (some ⟨gk, i, none⟩)) (mG (i := 12) rfl) (dK ho hdep (by kernel_rfl : waitsB oPut4S 13 12 = true))
      have x40 := hI.val 10 40 (encS k) (mG (i := 10) rfl) (dK ho hdep (by kernel_rfl : waitsB oPut4S 13 10 = true))
      have hS1 := hI.eff
      have e13 : L 13 = false := hL
      have e15 : L 15 = false := hI.no hL (by kernel_rfl : waitsB oPut4S 15 13 = true)
      simp only [e13, e15, pick_false] at hS1
      obtain ⟨f, hp, hset⟩ := hS1.get 1 rfl
      obtain ⟨hcell, hfz, hlt, _⟩ := sl_elem hp (i) (by rw [keysS_length]; exact hi)
      refine inv_stored ho rfl rfl (by simp [go_sem, execOp, Act.eval, x42, x40, hcell, hfz, encS]; rfl) (hI.step 13 ho hdep (by intro t ht; exact vals_ne1 rfl (by decide : 13 ∉ [0, 1, 2, 3, 4, 5, 6, 7, 8, 9, 10, 11, 12, 14]) ht) ?_)
      obtain ⟨hb2, ht2⟩ := sl_set hp (i) (encS k)
      have hS2 := hset _ _ _ hb2 ht2
      simp only [e13, e15, Bool.or_false, Bool.or_true, Nat.reduceEqDiff, decide_true, decide_false, pick_true, pick_false]
      exact hS2
    · have hl : oPut4S[14]? = some ⟨some 43, Op.indexAddr _ (Operand.tmp 38) (Operand.tmp 39), _, _, _, none⟩ := rfl
      obtain rfl := oI ho hl
      have x38 := hI.val 8 38 (.slice (some ⟨gv, 0, none⟩) nv cv) (mG (i := 8) rfl) (dK ho hdep (by kernel_rfl : waitsB oPut4S 14 8 = true))
      have x39 := hI.val 9 39 (.int .i64 i) (mG (i := 9) rfl) (dK ho hdep (by kernel_rfl : waitsB oPut4S 14 9 = true))
      exact hI.rd hE hsz 14 43 (.pointer (some ⟨gv, i, none⟩)) ho rfl rfl hdep (by decide) (vals_at hn1 hn2 13 rfl) (by simp [go_sem, execOp, Act.eval, x38, x39, hiv])
    · have hl : oPut4S[15]? = some ⟨none, Op.store _ (Operand.tmp 43) (Operand.tmp 41), _, _, _, none⟩ := rfl
      obtain rfl := oI ho hl
      have x43 := hI.val 14 43 (.pointer (some ⟨gv, i, none⟩)) (mG (i := 13) rfl) (dK ho hdep (by kernel_rfl : waitsB oPut4S 15 14 = true))
      have x41 := hI.val 11 41 (valS v) (mG (i := 11) rfl) (dK ho hdep (by kernel_rfl : waitsB oPut4S 15 11 = true))
      have hS1 := hI.eff
      have e13 : L 13 = true := dK ho hdep (by kernel_rfl : waitsB oPut4S 15 13 = true)
      have e15 : L 15 = false := hL
      simp only [e13, e15, pick_true, pick_false] at hS1
      obtain ⟨f, hp, hset⟩ := hS1.get 2 rfl
      obtain ⟨hcell, hfz, hlt, _⟩ := sl_elem hp (i) (by rw [valsS_length]; exact hi)
      refine inv_stored ho rfl rfl (by simp [go_sem, execOp, Act.eval, x43, x41, hcell, hfz, valS]; rfl) (hI.step 15 ho hdep (by intro t ht; exact vals_ne1 rfl (by decide : 15 ∉ [0, 1, 2, 3, 4, 5, 6, 7, 8, 9, 10, 11, 12, 14]) ht) ?_)
      obtain ⟨hb2, ht2⟩ := sl_set hp (i) (valS v)
      have hS2 := hset _ _ _ hb2 ht2
      simp only [e13, e15, Bool.or_false, Bool.or_true, Nat.reduceEqDiff, decide_true, decide_false, pick_true]
      exact hS2
  · intro L a1 w1 hL hI
    have hS1 := hI.eff
    simp only [hL 13 (by rw [hsize]; decide), hL 15 (by rw [hsize]; decide), pick_true] at hS1
    have := hQ (fun d => a1.eval (.tmp d)) w1 hS1
    have e := hI.frame.eq
    rw [e]
    exact this
noncomputable def oPut7S : Array Oper := ((Try.f43.body).bind fun c => opsOf c 7).getD #[]
set_option maxHeartbeats 4000000 in
set_option maxRecDepth 100000 in
theorem rPut7S {Q : Exit → Act → World → Prop} {a : Act} {w w0 : World} {fp0 : List Nat} (b : Nat) (ks vs ps : Value) (es : M ByteArray Int) (k : ByteArray) (v : Int) (i : Nat) (hi : i ≤ es.length) (hlen : es.length < 1099511627776) (R : List Asn) (ops : Array Oper) (hops : ops = oPut7S) (hsz : a.tmps.size = 106) (h1 : a.eval (.tmp 1) = .pointer (some ⟨b, 0, none⟩)) (h2 : a.eval (.tmp 2) = encS k) (h3 : a.eval (.tmp 3) = valS v) (h10 : a.eval (.tmp 10) = .int .i64 i)
    (hS : St w0 fp0 ([pick false (boxA 9 (a.eval (.tmp 55)) (encS k)) emp, pick false (boxA 3 (a.eval (.tmp 63)) (valS v)) emp, blkA b 85 #[vpick false (a.eval (.tmp 56)) ks, vpick false (a.eval (.tmp 64)) vs, ps], pick false (slA 9 (a.eval (.tmp 56)) ((keysS es).take i ++ encS k :: (keysS es).drop i)) (slA 9 ks (keysS es)), pick false (slA 3 (a.eval (.tmp 64)) ((valsS es).take i ++ valS v :: (valsS es).drop i)) (slA 3 vs (valsS es))] ++ R) w)
    (hQ : ∀ (u : Nat → Value) w1, St w0 fp0 ([pick true (boxA 9 (u 55) (encS k)) emp, pick true (boxA 3 (u 63) (valS v)) emp, blkA b 85 #[vpick true (u 56) ks, vpick true (u 64) vs, ps], pick true (slA 9 (u 56) ((keysS es).take i ++ encS k :: (keysS es).drop i)) (slA 9 ks (keysS es)), pick true (slA 3 (u 64) ((valsS es).take i ++ valS v :: (valsS es).drop i)) (slA 3 vs (valsS es))] ++ R) w1 → Q .normal (putL a (([47, 48, 49, 50, 51, 52, 53, 54, 55, 56, 57, 58, 59, 60, 61, 62, 63, 64, 65, 66, 67, 68] : List Nat).map fun d => (d, u d))) w1) : (Code.region 7 ops true).wp Try.prog Q a w := by
  subst hops
  have hsize : oPut7S.size = 24 := by kernel_rfl
  have hE : Looks (fun L g w => St w0 fp0 ([pick (L 8) (boxA 9 (g 55) (encS k)) emp, pick (L 16) (boxA 3 (g 63) (valS v)) emp, blkA b 85 #[vpick (L 20) (g 56) ks, vpick (L 23) (g 64) vs, ps], pick (L 9) (slA 9 (g 56) ((keysS es).take i ++ encS k :: (keysS es).drop i)) (slA 9 ks (keysS es)), pick (L 17) (slA 3 (g 64) ((valsS es).take i ++ valS v :: (valsS es).drop i)) (slA 3 vs (valsS es))] ++ R) w) [8, 9, 16, 17, 20, 23] [55, 56, 63, 64] := by
    intro L L' g g' w hL hg h
    simpa only [← hL 8 (by decide), ← hL 9 (by decide), ← hL 16 (by decide), ← hL 17 (by decide), ← hL 20 (by decide), ← hL 23 (by decide), ← hg 55 (by decide), ← hg 56 (by decide), ← hg 63 (by decide), ← hg 64 (by decide)] using h
  have hn1 : (([(0, 47, .pointer (some ⟨b, 0, none⟩)), (1, 48, .pointer (some ⟨b, 0, none⟩)), (2, 49, .pointer (some ⟨b, 0, none⟩)), (3, 50, .pointer (some ⟨b, 0, none⟩)), (4, 51, .pointer (some ⟨b, 0, none⟩)), (5, 52, ks), (6, 53, .int .i64 i), (7, 54, encS k), (10, 57, .pointer (some ⟨b, 0, none⟩)), (11, 58, .pointer (some ⟨b, 0, none⟩)), (12, 59, .pointer (some ⟨b, 1, none⟩)), (13, 60, vs), (14, 61, .int .i64 i), (15, 62, valS v), (18, 65, .pointer (some ⟨b, 0, none⟩)), (19, 66, .pointer (some ⟨b, 0, none⟩)), (21, 67, .pointer (some ⟨b, 0, none⟩)), (22, 68, .pointer (some ⟨b, 1, none⟩))] : List (Nat × Nat × Value)).map (·.1)).Nodup := by
    show List.Nodup [0, 1, 2, 3, 4, 5, 6, 7, 10, 11, 12, 13, 14, 15, 18, 19, 21, 22]
    decide
  have hn2 : (([(0, 47, .pointer (some ⟨b, 0, none⟩)), (1, 48, .pointer (some ⟨b, 0, none⟩)), (2, 49, .pointer (some ⟨b, 0, none⟩)), (3, 50, .pointer (some ⟨b, 0, none⟩)), (4, 51, .pointer (some ⟨b, 0, none⟩)), (5, 52, ks), (6, 53, .int .i64 i), (7, 54, encS k), (10, 57, .pointer (some ⟨b, 0, none⟩)), (11, 58, .pointer (some ⟨b, 0, none⟩)), (12, 59, .pointer (some ⟨b, 1, none⟩)), (13, 60, vs), (14, 61, .int .i64 i), (15, 62, valS v), (18, 65, .pointer (some ⟨b, 0, none⟩)), (19, 66, .pointer (some ⟨b, 0, none⟩)), (21, 67, .pointer (some ⟨b, 0, none⟩)), (22, 68, .pointer (some ⟨b, 1, none⟩))] : List (Nat × Nat × Value)).map (·.2.1)).Nodup := by
    show List.Nodup [47, 48, 49, 50, 51, 52, 53, 54, 57, 58, 59, 60, 61, 62, 65, 66, 67, 68]
    decide
  refine wp_region_vals (ops' := oPut7S) [47, 48, 49, 50, 51, 52, 53, 54, 55, 56, 57, 58, 59, 60, 61, 62, 63, 64, 65, 66, 67, 68] [(0, 47, .pointer (some ⟨b, 0, none⟩)), (1, 48, .pointer (some ⟨b, 0, none⟩)), (2, 49, .pointer (some ⟨b, 0, none⟩)), (3, 50, .pointer (some ⟨b, 0, none⟩)), (4, 51, .pointer (some ⟨b, 0, none⟩)), (5, 52, ks), (6, 53, .int .i64 i), (7, 54, encS k), (10, 57, .pointer (some ⟨b, 0, none⟩)), (11, 58, .pointer (some ⟨b, 0, none⟩)), (12, 59, .pointer (some ⟨b, 1, none⟩)), (13, 60, vs), (14, 61, .int .i64 i), (15, 62, valS v), (18, 65, .pointer (some ⟨b, 0, none⟩)), (19, 66, .pointer (some ⟨b, 0, none⟩)), (21, 67, .pointer (some ⟨b, 0, none⟩)), (22, 68, .pointer (some ⟨b, 1, none⟩))] (fun L g w => St w0 fp0 ([pick (L 8) (boxA 9 (g 55) (encS k)) emp, pick (L 16) (boxA 3 (g 63) (valS v)) emp, blkA b 85 #[vpick (L 20) (g 56) ks, vpick (L 23) (g 64) vs, ps], pick (L 9) (slA 9 (g 56) ((keysS es).take i ++ encS k :: (keysS es).drop i)) (slA 9 ks (keysS es)), pick (L 17) (slA 3 (g 64) ((valsS es).take i ++ valS v :: (valsS es).drop i)) (slA 3 vs (valsS es))] ++ R) w) rfl (by kernel_rfl) (by kernel_rfl) (hS.mono (below_drew w)) ?_ ?_
  · intro oi o L a1 w1 ho hL hdep hI
    have hoi : oi < 24 := by have := (Array.getElem?_eq_some_iff.1 ho).1; omega
    have h1sz : a1.tmps.size = 106 := hI.frame.size.trans hsz
    rcases (by omega : oi = 0 ∨ oi = 1 ∨ oi = 2 ∨ oi = 3 ∨ oi = 4 ∨ oi = 5 ∨ oi = 6 ∨ oi = 7 ∨ oi = 8 ∨ oi = 9 ∨ oi = 10 ∨ oi = 11 ∨ oi = 12 ∨ oi = 13 ∨ oi = 14 ∨ oi = 15 ∨ oi = 16 ∨ oi = 17 ∨ oi = 18 ∨ oi = 19 ∨ oi = 20 ∨ oi = 21 ∨ oi = 22 ∨ oi = 23) with rfl | rfl | rfl | rfl | rfl | rfl | rfl | rfl | rfl | rfl | rfl | rfl | rfl | rfl | rfl | rfl | rfl | rfl | rfl | rfl | rfl | rfl | rfl | rfl
    · have hl : oPut7S[0]? = some ⟨some 47, Op.move (Operand.tmp 1), _, _, _, none⟩ := rfl
      obtain rfl := oI ho hl
      have x1 := hI.old 1 (.pointer (some ⟨b, 0, none⟩)) (by decide) h1
      exact hI.rd hE hsz 0 47 (.pointer (some ⟨b, 0, none⟩)) ho rfl rfl hdep (by decide) (vals_at hn1 hn2 0 rfl) (by simp [go_sem, execOp, Act.eval, x1])
    · have hl : oPut7S[1]? = some ⟨some 48, Op.move (Operand.tmp 1), _, _, _, none⟩ := rfl
      obtain rfl := oI ho hl
      have x1 := hI.old 1 (.pointer (some ⟨b, 0, none⟩)) (by decide) h1
      exact hI.rd hE hsz 1 48 (.pointer (some ⟨b, 0, none⟩)) ho rfl rfl hdep (by decide) (vals_at hn1 hn2 1 rfl) (by simp [go_sem, execOp, Act.eval, x1])
    · have hl : oPut7S[2]? = some ⟨some 49, Op.move (Operand.tmp 1), _, _, _, none⟩ := rfl
      obtain rfl := oI ho hl
      have x1 := hI.old 1 (.pointer (some ⟨b, 0, none⟩)) (by decide) h1
      exact hI.rd hE hsz 2 49 (.pointer (some ⟨b, 0, none⟩)) ho rfl rfl hdep (by decide) (vals_at hn1 hn2 2 rfl) (by simp [go_sem, execOp, Act.eval, x1])
    · have hl : oPut7S[3]? = some ⟨some 50, Op.nilCheck (Operand.tmp 49), _, _, _, none⟩ := rfl
      obtain rfl := oI ho hl
      have x49 := hI.val 2 49 (.pointer (some ⟨b, 0, none⟩)) (mG (i := 2) rfl) (dK ho hdep (by kernel_rfl : waitsB oPut7S 3 2 = true))
      exact hI.rd hE hsz 3 50 (.pointer (some ⟨b, 0, none⟩)) ho rfl rfl hdep (by decide) (vals_at hn1 hn2 3 rfl) (by simp [go_sem, execOp, Act.eval, x49])
    · have hl : oPut7S[4]? = some ⟨some 51, Op.fieldAddr _ (Operand.tmp 50) 0, _, _, _, none⟩ := rfl
      obtain rfl := oI ho hl
      have x50 := hI.val 3 50 (.pointer (some ⟨b, 0, none⟩)) (mG (i := 3) rfl) (dK ho hdep (by kernel_rfl : waitsB oPut7S 4 3 = true))
      exact hI.rd hE hsz 4 51 (.pointer (some ⟨b, 0, none⟩)) ho rfl rfl hdep (by decide) (vals_at hn1 hn2 4 rfl) (by simp [go_sem, execOp, Act.eval, x50])
    · have hl : oPut7S[5]? = some ⟨some 52, Op.load _ (Operand.tmp 51), _, _, _, none⟩ := rfl
      obtain rfl := oI ho hl
      have x51 := hI.val 4 51 (.pointer (some ⟨b, 0, none⟩)) (mG (i := 4) rfl) (dK ho hdep (by kernel_rfl : waitsB oPut7S 5 4 = true))
      have hS1 := hI.eff
      have e9 : L 9 = false := hI.no hL (by kernel_rfl : waitsB oPut7S 9 5 = true)
      have e17 : L 17 = false := hI.no (hI.no hL (by kernel_rfl : waitsB oPut7S 9 5 = true)) (by kernel_rfl : waitsB oPut7S 17 9 = true)
      have e20 : L 20 = false := hI.no hL (by kernel_rfl : waitsB oPut7S 20 5 = true)
      have e23 : L 23 = false := hI.no hL (by kernel_rfl : waitsB oPut7S 23 5 = true)
      simp only [e9, e17, e20, e23, pick_false, vpick_false] at hS1
      obtain ⟨_, hp⟩ := hS1.has 2 rfl
      have hcell := (blk_get hp).1 0
      have hlt := (blk_get hp).2.2
      simp only [List.getElem?_toArray, List.getElem?_cons_zero] at hcell
      exact hI.rd hE hsz 5 52 (ks) ho rfl rfl hdep (by decide) (vals_at hn1 hn2 5 rfl) (by simp [go_sem, execOp, Act.eval, x51, hcell])
    · have hl : oPut7S[6]? = some ⟨some 53, Op.move (Operand.tmp 10), _, _, _, none⟩ := rfl
      obtain rfl := oI ho hl
      have x10 := hI.old 10 (.int .i64 i) (by decide) h10
      exact hI.rd hE hsz 6 53 (.int .i64 i) ho rfl rfl hdep (by decide) (vals_at hn1 hn2 6 rfl) (by simp [go_sem, execOp, Act.eval, x10])
    · have hl : oPut7S[7]? = some ⟨some 54, Op.move (Operand.tmp 2), _, _, _, none⟩ := rfl
      obtain rfl := oI ho hl
      have x2 := hI.old 2 (encS k) (by decide) h2
      exact hI.rd hE hsz 7 54 (encS k) ho rfl rfl hdep (by decide) (vals_at hn1 hn2 7 rfl) (by simp [go_sem, execOp, Act.eval, x2])
    · have hl : oPut7S[8]? = some ⟨some 55, Op.buildSlice _ 1 #[(0, Operand.tmp 54)], _, _, _, none⟩ := rfl
      obtain rfl := oI ho hl
      have x54 := hI.val 7 54 (encS k) (mG (i := 7) rfl) (dK ho hdep (by kernel_rfl : waitsB oPut7S 8 7 = true))
      have hS1 := hI.eff
      have e8 : L 8 = false := hL
      have e9 : L 9 = false := hI.no hL (by kernel_rfl : waitsB oPut7S 9 8 = true)
      have e17 : L 17 = false := hI.no (hI.no hL (by kernel_rfl : waitsB oPut7S 9 8 = true)) (by kernel_rfl : waitsB oPut7S 17 9 = true)
      have e20 : L 20 = false := hI.no hL (by kernel_rfl : waitsB oPut7S 20 8 = true)
      have e23 : L 23 = false := hI.no hL (by kernel_rfl : waitsB oPut7S 23 8 = true)
      simp only [e8, e9, e17, e20, e23, pick_false, vpick_false] at hS1
      refine inv_value ho rfl (v := .slice (some ⟨w1.heap.size, 0, none⟩) 1 1) (w' := w1.alloc (.cells #[encS k] 9)) (by simp [go_sem, execOp, Act.eval, x54, encS]) (hI.put 8 55 _ ho hdep (by decide) (by intro t ht; exact vals_ne2 rfl rfl (by decide : 8 ∉ [0, 1, 2, 3, 4, 5, 6, 7, 10, 11, 12, 13, 14, 15, 18, 19, 21, 22]) (by decide : 55 ∉ [47, 48, 49, 50, 51, 52, 53, 54, 57, 58, 59, 60, 61, 62, 65, 66, 67, 68]) ht) ?_)
      have hS2 := St.box hS1 0 rfl 9 (encS k)
      simp only [e8, e9, e17, e20, e23, Bool.or_false, Bool.or_true, Nat.reduceEqDiff, decide_true, decide_false, pick_true, pick_false, vpick_false, eval_put_same (by rw [h1sz]; decide : 55 < a1.tmps.size), eval_put_ne (by decide : 55 ≠ 56), eval_put_ne (by decide : 55 ≠ 63), eval_put_ne (by decide : 55 ≠ 64)]
      exact hS2
    · have hl : oPut7S[9]? = some ⟨some 56, Op.call ⟨Callee.value (Operand.func _), #[Operand.tmp 52, Operand.tmp 53, Operand.tmp 55], _⟩, _, _, _, none⟩ := rfl
      obtain rfl := oI ho hl
      have x52 := hI.val 5 52 (ks) (mG (i := 5) rfl) (dK ho hdep (by kernel_rfl : waitsB oPut7S 9 5 = true))
      have x53 := hI.val 6 53 (.int .i64 i) (mG (i := 6) rfl) (dK ho hdep (by kernel_rfl : waitsB oPut7S 9 6 = true))
      have hS1 := hI.eff
      have e8 : L 8 = true := dK ho hdep (by kernel_rfl : waitsB oPut7S 9 8 = true)
      have e9 : L 9 = false := hL
      have e17 : L 17 = false := hI.no hL (by kernel_rfl : waitsB oPut7S 17 9 = true)
      have e20 : L 20 = false := hI.no hL (by kernel_rfl : waitsB oPut7S 20 9 = true)
      have e23 : L 23 = false := hI.no hL (by kernel_rfl : waitsB oPut7S 23 9 = true)
      simp only [e8, e9, e17, e20, e23, pick_true, pick_false, vpick_false] at hS1
      obtain ⟨f, g, hbx, hsl, hd, _, hset⟩ := hS1.two 0 3 (by decide) rfl rfl
      obtain ⟨vb, hgb, hvb, rfl⟩ := hbx
      have xb := eval_spell hgb
      refine inv_call ho rfl (f := 65) (by simp [go_sem, Act.eval, x52, x53, xb]; rfl) (insS_calls _ _ (_) _ _ _ hsl (by rw [keysS_length]; exact hi) (by rw [keysS_length]; exact hlen) (keysS_one es) rfl hvb (fun hm => hd _ (by simp) hm)) ?_
      rintro e w2 ⟨an, nn, cn, f', rfl, hsl', htr⟩
      refine ⟨_, rfl, hI.put 9 56 _ ho hdep (by decide) (by intro t ht; exact vals_ne2 rfl rfl (by decide : 9 ∉ [0, 1, 2, 3, 4, 5, 6, 7, 10, 11, 12, 13, 14, 15, 18, 19, 21, 22]) (by decide : 56 ∉ [47, 48, 49, 50, 51, 52, 53, 54, 57, 58, 59, 60, 61, 62, 65, 66, 67, 68]) ht) ?_⟩
      have hS2 := hset _ _ _ hsl' htr
      simp only [e8, e9, e17, e20, e23, Bool.or_false, Bool.or_true, Nat.reduceEqDiff, decide_true, decide_false, pick_true, pick_false, vpick_false, eval_put_same (by rw [h1sz]; decide : 56 < a1.tmps.size), eval_put_ne (by decide : 56 ≠ 55), eval_put_ne (by decide : 56 ≠ 63), eval_put_ne (by decide : 56 ≠ 64)]
      exact hS2
    · have hl : oPut7S[10]? = some ⟨some 57, Op.move (Operand.tmp 1), _, _, _, none⟩ := rfl
      obtain rfl := oI ho hl
      have x1 := hI.old 1 (.pointer (some ⟨b, 0, none⟩)) (by decide) h1
      exact hI.rd hE hsz 10 57 (.pointer (some ⟨b, 0, none⟩)) ho rfl rfl hdep (by decide) (vals_at hn1 hn2 8 rfl) (by simp [go_sem, execOp, Act.eval, x1])
    · have hl : oPut7S[11]? = some ⟨some 58, Op.nilCheck (Operand.tmp 57), _, _, _, none⟩ := rfl
      obtain rfl := oI ho hl
      have x57 := hI.val 10 57 (.pointer (some ⟨b, 0, none⟩)) (mG (i := 8) rfl) (dK ho hdep (by kernel_rfl : waitsB oPut7S 11 10 = true))
      exact hI.rd hE hsz 11 58 (.pointer (some ⟨b, 0, none⟩)) ho rfl rfl hdep (by decide) (vals_at hn1 hn2 9 rfl) (by simp [go_sem, execOp, Act.eval, x57])
    · have hl : oPut7S[12]? = some ⟨some 59, Op.fieldAddr _ (Operand.tmp 58) 1, _, _, _, none⟩ := rfl
      obtain rfl := oI ho hl
      have x58 := hI.val 11 58 (.pointer (some ⟨b, 0, none⟩)) (mG (i := 9) rfl) (dK ho hdep (by kernel_rfl : waitsB oPut7S 12 11 = true))
      exact hI.rd hE hsz 12 59 (.pointer (some ⟨b, 1, none⟩)) ho rfl rfl hdep (by decide) (vals_at hn1 hn2 10 rfl) (by simp [go_sem, execOp, Act.eval, x58])
    · have hl : oPut7S[13]? = some ⟨some 60, Op.load _ (Operand.tmp 59), _, _, _, none⟩ := rfl
      obtain rfl := oI ho hl
      have x59 := hI.val 12 59 (.pointer (some ⟨b, 1, none⟩)) (mG (i := 10) rfl) (dK ho hdep (by kernel_rfl : waitsB oPut7S 13 12 = true))
      have hS1 := hI.eff
      have e17 : L 17 = false := hI.no hL (by kernel_rfl : waitsB oPut7S 17 13 = true)
      have e20 : L 20 = false := hI.no hL (by kernel_rfl : waitsB oPut7S 20 13 = true)
      have e23 : L 23 = false := hI.no hL (by kernel_rfl : waitsB oPut7S 23 13 = true)
      simp only [e17, e20, e23, pick_false, vpick_false] at hS1
      obtain ⟨_, hp⟩ := hS1.has 2 rfl
      have hcell := (blk_get hp).1 1
      have hlt := (blk_get hp).2.2
      simp only [List.getElem?_toArray, List.getElem?_cons_zero, List.getElem?_cons_succ] at hcell
      exact hI.rd hE hsz 13 60 (vs) ho rfl rfl hdep (by decide) (vals_at hn1 hn2 11 rfl) (by simp [go_sem, execOp, Act.eval, x59, hcell])
    · have hl : oPut7S[14]? = some ⟨some 61, Op.move (Operand.tmp 10), _, _, _, none⟩ := rfl
      obtain rfl := oI ho hl
      have x10 := hI.old 10 (.int .i64 i) (by decide) h10
      exact hI.rd hE hsz 14 61 (.int .i64 i) ho rfl rfl hdep (by decide) (vals_at hn1 hn2 12 rfl) (by simp [go_sem, execOp, Act.eval, x10])
    · have hl : oPut7S[15]? = some ⟨some 62, Op.move (Operand.tmp 3), _, _, _, none⟩ := rfl
      obtain rfl := oI ho hl
      have x3 := hI.old 3 (valS v) (by decide) h3
      exact hI.rd hE hsz 15 62 (valS v) ho rfl rfl hdep (by decide) (vals_at hn1 hn2 13 rfl) (by simp [go_sem, execOp, Act.eval, x3])
    · have hl : oPut7S[16]? = some ⟨some 63, Op.buildSlice _ 1 #[(0, Operand.tmp 62)], _, _, _, none⟩ := rfl
      obtain rfl := oI ho hl
      have x62 := hI.val 15 62 (valS v) (mG (i := 13) rfl) (dK ho hdep (by kernel_rfl : waitsB oPut7S 16 15 = true))
      have hS1 := hI.eff
      have e16 : L 16 = false := hL
      have e17 : L 17 = false := hI.no hL (by kernel_rfl : waitsB oPut7S 17 16 = true)
      have e20 : L 20 = false := hI.no (hI.no hL (by kernel_rfl : waitsB oPut7S 17 16 = true)) (by kernel_rfl : waitsB oPut7S 20 17 = true)
      have e23 : L 23 = false := hI.no hL (by kernel_rfl : waitsB oPut7S 23 16 = true)
      simp only [e16, e17, e20, e23, pick_false, vpick_false] at hS1
      refine inv_value ho rfl (v := .slice (some ⟨w1.heap.size, 0, none⟩) 1 1) (w' := w1.alloc (.cells #[valS v] 3)) (by simp [go_sem, execOp, Act.eval, x62, valS]) (hI.put 16 63 _ ho hdep (by decide) (by intro t ht; exact vals_ne2 rfl rfl (by decide : 16 ∉ [0, 1, 2, 3, 4, 5, 6, 7, 10, 11, 12, 13, 14, 15, 18, 19, 21, 22]) (by decide : 63 ∉ [47, 48, 49, 50, 51, 52, 53, 54, 57, 58, 59, 60, 61, 62, 65, 66, 67, 68]) ht) ?_)
      have hS2 := St.box hS1 1 rfl 3 (valS v)
      simp only [e16, e17, e20, e23, Bool.or_false, Bool.or_true, Nat.reduceEqDiff, decide_true, decide_false, pick_true, pick_false, vpick_false, eval_put_same (by rw [h1sz]; decide : 63 < a1.tmps.size), eval_put_ne (by decide : 63 ≠ 55), eval_put_ne (by decide : 63 ≠ 56), eval_put_ne (by decide : 63 ≠ 64)]
      exact hS2
    · have hl : oPut7S[17]? = some ⟨some 64, Op.call ⟨Callee.value (Operand.func _), #[Operand.tmp 60, Operand.tmp 61, Operand.tmp 63], _⟩, _, _, _, none⟩ := rfl
      obtain rfl := oI ho hl
      have x60 := hI.val 13 60 (vs) (mG (i := 11) rfl) (dK ho hdep (by kernel_rfl : waitsB oPut7S 17 13 = true))
      have x61 := hI.val 14 61 (.int .i64 i) (mG (i := 12) rfl) (dK ho hdep (by kernel_rfl : waitsB oPut7S 17 14 = true))
      have hS1 := hI.eff
      have e8 : L 8 = true := hI.yes (dK ho hdep (by kernel_rfl : waitsB oPut7S 17 9 = true)) (by kernel_rfl : waitsB oPut7S 9 8 = true)
      have e9 : L 9 = true := dK ho hdep (by kernel_rfl : waitsB oPut7S 17 9 = true)
      have e16 : L 16 = true := dK ho hdep (by kernel_rfl : waitsB oPut7S 17 16 = true)
      have e17 : L 17 = false := hL
      have e20 : L 20 = false := hI.no hL (by kernel_rfl : waitsB oPut7S 20 17 = true)
      have e23 : L 23 = false := hI.no hL (by kernel_rfl : waitsB oPut7S 23 17 = true)
      simp only [e8, e9, e16, e17, e20, e23, pick_true, pick_false, vpick_false] at hS1
      obtain ⟨f, g, hbx, hsl, hd, _, hset⟩ := hS1.two 1 4 (by decide) rfl rfl
      obtain ⟨vb, hgb, hvb, rfl⟩ := hbx
      have xb := eval_spell hgb
      refine inv_call ho rfl (f := 58) (by simp [go_sem, Act.eval, x60, x61, xb]; rfl) (insI_calls _ _ (_) _ _ _ hsl (by rw [valsS_length]; exact hi) (by rw [valsS_length]; exact hlen) (valsS_one es) rfl hvb (fun hm => hd _ (by simp) hm)) ?_
      rintro e w2 ⟨an, nn, cn, f', rfl, hsl', htr⟩
      refine ⟨_, rfl, hI.put 17 64 _ ho hdep (by decide) (by intro t ht; exact vals_ne2 rfl rfl (by decide : 17 ∉ [0, 1, 2, 3, 4, 5, 6, 7, 10, 11, 12, 13, 14, 15, 18, 19, 21, 22]) (by decide : 64 ∉ [47, 48, 49, 50, 51, 52, 53, 54, 57, 58, 59, 60, 61, 62, 65, 66, 67, 68]) ht) ?_⟩
      have hS2 := hset _ _ _ hsl' htr
      simp only [e8, e9, e16, e17, e20, e23, Bool.or_false, Bool.or_true, Nat.reduceEqDiff, decide_true, decide_false, pick_true, vpick_false, eval_put_same (by rw [h1sz]; decide : 64 < a1.tmps.size), eval_put_ne (by decide : 64 ≠ 55), eval_put_ne (by decide : 64 ≠ 56), eval_put_ne (by decide : 64 ≠ 63)]
      exact hS2
    · have hl : oPut7S[18]? = some ⟨some 65, Op.nilCheck (Operand.tmp 47), _, _, _, none⟩ := rfl
      obtain rfl := oI ho hl
      have x47 := hI.val 0 47 (.pointer (some ⟨b, 0, none⟩)) (mG (i := 0) rfl) (dK ho hdep (by kernel_rfl : waitsB oPut7S 18 0 = true))
      exact hI.rd hE hsz 18 65 (.pointer (some ⟨b, 0, none⟩)) ho rfl rfl hdep (by decide) (vals_at hn1 hn2 14 rfl) (by simp [go_sem, execOp, Act.eval, x47])
    · have hl : oPut7S[19]? = some ⟨some 66, Op.fieldAddr _ (Operand.tmp 65) 0, _, _, _, none⟩ := rfl
      obtain rfl := oI ho hl
      have x65 := hI.val 18 65 (.pointer (some ⟨b, 0, none⟩)) (mG (i := 14) rfl) (dK ho hdep (by kernel_rfl : waitsB oPut7S 19 18 = true))
      exact hI.rd hE hsz 19 66 (.pointer (some ⟨b, 0, none⟩)) ho rfl rfl hdep (by decide) (vals_at hn1 hn2 15 rfl) (by simp [go_sem, execOp, Act.eval, x65])
    · have hl : oPut7S[20]? = some ⟨none, Op.store _ (Operand.tmp 66) (Operand.tmp 56), _, _, _, none⟩ := rfl
      obtain rfl := oI ho hl
      have x66 := hI.val 19 66 (.pointer (some ⟨b, 0, none⟩)) (mG (i := 15) rfl) (dK ho hdep (by kernel_rfl : waitsB oPut7S 20 19 = true))
      have hS1 := hI.eff
      have e8 : L 8 = true := dK ho hdep (by kernel_rfl : waitsB oPut7S 20 8 = true)
      have e9 : L 9 = true := dK ho hdep (by kernel_rfl : waitsB oPut7S 20 9 = true)
      have e16 : L 16 = true := hI.yes (dK ho hdep (by kernel_rfl : waitsB oPut7S 20 17 = true)) (by kernel_rfl : waitsB oPut7S 17 16 = true)
      have e17 : L 17 = true := dK ho hdep (by kernel_rfl : waitsB oPut7S 20 17 = true)
      have e20 : L 20 = false := hL
      have e23 : L 23 = false := hI.no hL (by kernel_rfl : waitsB oPut7S 23 20 = true)
      simp only [e8, e9, e16, e17, e20, e23, pick_true, vpick_false] at hS1
      obtain ⟨_, hpv⟩ := hS1.has 3 rfl
      obtain ⟨av, nv, cv, hv⟩ := sl_shape hpv
      have xv := eval_spell hv
      obtain ⟨f, hp, hset⟩ := hS1.get 2 rfl
      have hcell := (blk_get hp).1 0
      have hfz := (blk_get hp).2.1 0
      have hlt := (blk_get hp).2.2
      simp only [List.getElem?_toArray, List.getElem?_cons_zero] at hcell
      refine inv_stored ho rfl rfl (by simp [go_sem, execOp, Act.eval, x66, xv, hcell, hfz]; rfl) (hI.step 20 ho hdep (by intro t ht; exact vals_ne1 rfl (by decide : 20 ∉ [0, 1, 2, 3, 4, 5, 6, 7, 10, 11, 12, 13, 14, 15, 18, 19, 21, 22]) ht) ?_)
      obtain ⟨hb2, ht2⟩ := blk_set hp 0 (a1.eval (.tmp 56))
      have hS2 := hset _ _ _ hb2 ht2
      simp only [e8, e9, e16, e17, e20, e23, Bool.or_false, Bool.or_true, Nat.reduceEqDiff, decide_true, decide_false, pick_true, vpick_true, vpick_false]
      rw [hv] at hS2
      rw [hv]
      exact hS2
    · have hl : oPut7S[21]? = some ⟨some 67, Op.nilCheck (Operand.tmp 48), _, _, _, none⟩ := rfl
      obtain rfl := oI ho hl
      have x48 := hI.val 1 48 (.pointer (some ⟨b, 0, none⟩)) (mG (i := 1) rfl) (dK ho hdep (by kernel_rfl : waitsB oPut7S 21 1 = true))
      exact hI.rd hE hsz 21 67 (.pointer (some ⟨b, 0, none⟩)) ho rfl rfl hdep (by decide) (vals_at hn1 hn2 16 rfl) (by simp [go_sem, execOp, Act.eval, x48])
    · have hl : oPut7S[22]? = some ⟨some 68, Op.fieldAddr _ (Operand.tmp 67) 1, _, _, _, none⟩ := rfl
      obtain rfl := oI ho hl
      have x67 := hI.val 21 67 (.pointer (some ⟨b, 0, none⟩)) (mG (i := 16) rfl) (dK ho hdep (by kernel_rfl : waitsB oPut7S 22 21 = true))
      exact hI.rd hE hsz 22 68 (.pointer (some ⟨b, 1, none⟩)) ho rfl rfl hdep (by decide) (vals_at hn1 hn2 17 rfl) (by simp [go_sem, execOp, Act.eval, x67])
    · have hl : oPut7S[23]? = some ⟨none, Op.store _ (Operand.tmp 68) (Operand.tmp 64), _, _, _, none⟩ := rfl
      obtain rfl := oI ho hl
      have x68 := hI.val 22 68 (.pointer (some ⟨b, 1, none⟩)) (mG (i := 17) rfl) (dK ho hdep (by kernel_rfl : waitsB oPut7S 23 22 = true))
      have hS1 := hI.eff
      have e8 : L 8 = true := dK ho hdep (by kernel_rfl : waitsB oPut7S 23 8 = true)
      have e9 : L 9 = true := dK ho hdep (by kernel_rfl : waitsB oPut7S 23 9 = true)
      have e16 : L 16 = true := dK ho hdep (by kernel_rfl : waitsB oPut7S 23 16 = true)
      have e17 : L 17 = true := dK ho hdep (by kernel_rfl : waitsB oPut7S 23 17 = true)
      have e20 : L 20 = true := dK ho hdep (by kernel_rfl : waitsB oPut7S 23 20 = true)
      have e23 : L 23 = false := hL
      simp only [e8, e9, e16, e17, e20, e23, pick_true, vpick_true, vpick_false] at hS1
      obtain ⟨_, hpv⟩ := hS1.has 4 rfl
      obtain ⟨av, nv, cv, hv⟩ := sl_shape hpv
      have xv := eval_spell hv
      obtain ⟨f, hp, hset⟩ := hS1.get 2 rfl
      have hcell := (blk_get hp).1 1
      have hfz := (blk_get hp).2.1 1
      have hlt := (blk_get hp).2.2
      simp only [List.getElem?_toArray, List.getElem?_cons_zero, List.getElem?_cons_succ] at hcell
      refine inv_stored ho rfl rfl (by simp [go_sem, execOp, Act.eval, x68, xv, hcell, hfz]; rfl) (hI.step 23 ho hdep (by intro t ht; exact vals_ne1 rfl (by decide : 23 ∉ [0, 1, 2, 3, 4, 5, 6, 7, 10, 11, 12, 13, 14, 15, 18, 19, 21, 22]) ht) ?_)
      obtain ⟨hb2, ht2⟩ := blk_set hp 1 (a1.eval (.tmp 64))
      have hS2 := hset _ _ _ hb2 ht2
      simp only [e8, e9, e16, e17, e20, e23, Bool.or_false, Bool.or_true, Nat.reduceEqDiff, decide_true, decide_false, pick_true, vpick_true]
      rw [hv] at hS2
      rw [hv]
      exact hS2
  · intro L a1 w1 hL hI
    have hS1 := hI.eff
    simp only [hL 8 (by rw [hsize]; decide), hL 9 (by rw [hsize]; decide), hL 16 (by rw [hsize]; decide), hL 17 (by rw [hsize]; decide), hL 20 (by rw [hsize]; decide), hL 23 (by rw [hsize]; decide), pick_true, vpick_true] at hS1
    have := hQ (fun d => a1.eval (.tmp d)) w1 hS1
    have e := hI.frame.eq
    rw [e]
    exact this
end Go.Proofs.Ytldofiankhimjaa
/- put: the leaf (S). -/
namespace Go.Proofs.Ytldofiankhimjaa
open Go.RowKit
theorem St.keysS {w0 w : World} {fp0 : List Nat} {L : List Asn} (hs : St w0 fp0 L w) (i : Nat) {es : M ByteArray Int} {ks : Value} (hi : L[i]? = some (slA 9 ks (keysS es))) : KeysS w es ks := by
  obtain ⟨f, h⟩ := hs.has i hi
  exact ⟨f, h⟩
set_option maxHeartbeats 4000000 in
theorem putleafS (t : Value) (nb : Nat) (ks vs : Value) (pa : Option Addr) (pc : Nat) (es : M ByteArray Int) (k : ByteArray) (v : Int) (w0 w : World) (fp0 : List Nat) (R : List Asn) (ha : AscM es) (hlen : es.length < 1099511627776) (hno : hasK es k = false)
    (hS : St w0 fp0 (blkA nb 85 #[ks, vs, .slice pa 0 pc] :: slA 9 ks (keysS es) :: slA 3 vs (valsS es) :: R) w) :
    Calls Try.prog 43 #[t, ptrS nb, encS k, valS v] w fun e w' => e = .returned (.tuple #[valS 0, .bool false]) ∧ ∃ ks' vs', St w0 fp0 (blkA nb 85 #[ks', vs', .slice pa 0 pc] :: slA 9 ks' (keysS (es.take (posK es k) ++ (k, v) :: es.drop (posK es k))) :: slA 3 vs' (valsS (es.take (posK es k) ++ (k, v) :: es.drop (posK es k))) :: R) w' := by
  have HS := Lib.hid hS
  obtain ⟨_, hb⟩ := hS.has 0 rfl
  have HF := Lib.hid (findS_calls nb ks vs (.slice pa 0 pc) es k w hb (hS.keysS 1 rfl) ha hlen)
  rw [hno] at HF
  have Hfin : RowKit.Hid (∀ ks' vs' w', St w0 fp0 (blkA nb 85 #[ks', vs', .slice pa 0 pc] :: slA 9 ks' ((keysS es).take (posK es k) ++ encS k :: (keysS es).drop (posK es k)) :: slA 3 vs' ((valsS es).take (posK es k) ++ valS v :: (valsS es).drop (posK es k)) :: R) w' →
      St w0 fp0 (blkA nb 85 #[ks', vs', .slice pa 0 pc] :: slA 9 ks' (keysS (es.take (posK es k) ++ (k, v) :: es.drop (posK es k))) :: slA 3 vs' (valsS (es.take (posK es k) ++ (k, v) :: es.drop (posK es k))) :: R) w') := by
    intro ks' vs' w' h
    simpa only [keysS, valsS, List.map_append, List.map_take, List.map_drop, List.map_cons, valS] using h
  have hple := posK_le es k
  generalize posK es k = i at *
  obtain ⟨kk, hkk⟩ : ∃ kk, encS k = kk := ⟨_, rfl⟩
  have Hkk := Lib.hid hkk
  rw [hkk] at HF ⊢
  have Hlen := Lib.hid hlen
  clear hS hb hkk hlen hno ha
  unfold ptrS valS at *
  go_enter Try.func43, Try.ntmps43
  go_wp2_with fail
  (with_reducible refine HF.out.mono ?_)
  rintro e w1 ⟨rfl, hb1⟩
  have HS1 := Lib.hid (HS.out.mono hb1)
  obtain ⟨_, hb2⟩ := HS1.out.has 0 rfl
  have HL := Lib.hid (leafS_calls nb ks vs pa 0 pc w1 hb2)
  unfold ptrS at HL
  clear hb1 hb2 HF
  go_wp2_with fail
  (with_reducible refine HL.out.mono ?_)
  rintro e w2 ⟨rfl, rfl⟩
  clear HL
  go_upto_region 7 with (fail)
  go_cut [] (fun wx => ∃ ks' vs', RowKit.Hid (St w0 fp0 (blkA nb 85 #[ks', vs', .slice pa 0 pc] :: slA 9 ks' ((keysS es).take i ++ encS k :: (keysS es).drop i) :: slA 3 vs' ((valsS es).take i ++ valS v :: (valsS es).drop i) :: R) wx))
  case first =>
    refine rPut7S (w0 := w0) (fp0 := fp0) nb ks vs (.slice pa 0 pc) es k v i hple Hlen.out R _ (by kernel_rfl) rfl rfl Hkk.out.symm rfl rfl ?_ ?_
    · exact St.emp.2 (St.emp.2 HS1.out)
    · intro u w3 h3
      have h4 := Lib.hid h3.drop.drop
      clear h3
      simp only [putL, List.map, List.foldl, Act.put, List.setIfInBounds_toArray, List.set_cons_succ, List.set_cons_zero]
      go_step
      go_step
      go_meet
      exact ⟨_, _, h4⟩
  obtain ⟨ks', vs', h5⟩ := hcut
  go_wp2
  exact bodyPost_ret (v := .tuple #[.int .i64 0, .bool false]) (by simp [results, Try.results43, go_sem]) rfl ⟨rfl, _, _, Hfin.out _ _ _ h5.out⟩
set_option maxHeartbeats 4000000 in
theorem putfoundS (t : Value) (nb : Nat) (ks vs ps : Value) (es : M ByteArray Int) (k : ByteArray) (v : Int) (w0 w : World) (fp0 : List Nat) (R : List Asn) (ha : AscM es) (hlen : es.length < 1099511627776) (hyes : hasK es k = true)
    (hS : St w0 fp0 (blkA nb 85 #[ks, vs, ps] :: slA 9 ks (keysS es) :: slA 3 vs (valsS es) :: R) w) :
    Calls Try.prog 43 #[t, ptrS nb, encS k, valS v] w fun e w' => ∃ y, es[posK es k]? = some y ∧ e = .returned (.tuple #[valS y.2, .bool true]) ∧ St w0 fp0 (blkA nb 85 #[ks, vs, ps] :: slA 9 ks (keysS (es.set (posK es k) (k, v))) :: slA 3 vs (valsS (es.set (posK es k) (k, v))) :: R) w' := by
  have HS := Lib.hid hS
  obtain ⟨_, hb⟩ := hS.has 0 rfl
  obtain ⟨_, hk⟩ := hS.has 1 rfl
  obtain ⟨_, hv⟩ := hS.has 2 rfl
  have HF := Lib.hid (findS_calls nb ks vs ps es k w hb (hS.keysS 1 rfl) ha hlen)
  rw [hyes] at HF
  have Hfin : RowKit.Hid (∀ w', St w0 fp0 (blkA nb 85 #[ks, vs, ps] :: slA 9 ks ((keysS es).set (posK es k) (encS k)) :: slA 3 vs ((valsS es).set (posK es k) (valS v)) :: R) w' →
      St w0 fp0 (blkA nb 85 #[ks, vs, ps] :: slA 9 ks (keysS (es.set (posK es k) (k, v))) :: slA 3 vs (valsS (es.set (posK es k) (k, v))) :: R) w') := by
    intro w' h
    simpa only [keysS, valsS, List.map_set] using h
  obtain ⟨y, m, hd, he⟩ := hasK_yes hyes
  have hy : es[posK es k]? = some y := by rw [getElem?_drop0, hd]; rfl
  have hi : posK es k < es.length := (List.getElem?_eq_some_iff.1 hy).1
  have Hy := Lib.hid hy
  generalize posK es k = i at *
  obtain ⟨n, hn⟩ : ∃ n, es.length = n := ⟨_, rfl⟩
  obtain ⟨gk, ck, e1, _, _⟩ := sl_some hk (by rw [keysS_length]; omega)
  obtain ⟨gv, cv, e2, _, _⟩ := sl_some hv (by rw [valsS_length]; omega)
  rw [keysS_length, hn] at e1
  rw [valsS_length, hn] at e2
  subst e1 e2
  have hin : i < n := by omega
  have Hel : RowKit.Hid (∀ wx, St w0 fp0 (blkA nb 85 #[.slice (some ⟨gk, 0, none⟩) n ck, .slice (some ⟨gv, 0, none⟩) n cv, ps] :: slA 9 (.slice (some ⟨gk, 0, none⟩) n ck) (keysS es) :: slA 3 (.slice (some ⟨gv, 0, none⟩) n cv) (valsS es) :: R) wx →
      wx.cell? ⟨nb, 1, none⟩ = some (.slice (some ⟨gv, 0, none⟩) n cv) ∧ nb < wx.heap.size ∧ wx.cell? ⟨gv, i, none⟩ = some (valS y.2) ∧ gv < wx.heap.size) := by
    intro wx hx
    obtain ⟨_, h1⟩ := hx.has 0 rfl
    obtain ⟨_, h2⟩ := hx.has 2 rfl
    obtain ⟨h3, _, h4, _⟩ := sl_elem h2 i (by rw [valsS_length]; exact hi)
    refine ⟨(blk_get h1).1 1, (blk_get h1).2.2, h3.trans ?_, h4⟩
    simp only [valsS, List.getElem_map]
    rw [(List.getElem?_eq_some_iff.1 hy).2]
  obtain ⟨kk, hkk⟩ : ∃ kk, encS k = kk := ⟨_, rfl⟩
  have Hkk := Lib.hid hkk
  rw [hkk] at HF ⊢
  obtain ⟨old, hold⟩ : ∃ old, valS y.2 = old := ⟨_, rfl⟩
  have Hold := Lib.hid hold
  rw [hold] at Hel
  have Hyy := Lib.hid he
  clear hS hb hk hv hkk hyes ha hd he hy hold hn
  unfold ptrS at *
  go_enter Try.func43, Try.ntmps43
  go_wp2_with fail
  (with_reducible refine HF.out.mono ?_)
  rintro e w1 ⟨rfl, hb1⟩
  have HS1 := Lib.hid (HS.out.mono hb1)
  obtain ⟨c1, c2, c3, c4⟩ := Hel.out _ HS1.out
  have i1 : (i : Int) < n := by omega
  clear hb1 HF
  go_upto_region 4 with (fail)
  go_cut [] (fun wx => RowKit.Hid (St w0 fp0 (blkA nb 85 #[.slice (some ⟨gk, 0, none⟩) n ck, .slice (some ⟨gv, 0, none⟩) n cv, ps] :: slA 9 (.slice (some ⟨gk, 0, none⟩) n ck) ((keysS es).set i (encS k)) :: slA 3 (.slice (some ⟨gv, 0, none⟩) n cv) ((valsS es).set i (valS v)) :: R) wx))
  case first =>
    refine rPut4S (w0 := w0) (fp0 := fp0) nb gk n ck gv n cv ps es k v i hi hin hin R _ (by kernel_rfl) rfl rfl Hkk.out.symm rfl rfl HS1.out ?_
    intro u w3 h3
    have h4 := Lib.hid h3
    clear h3
    simp only [putL, List.map, List.foldl, Act.put, List.setIfInBounds_toArray, List.set_cons_succ, List.set_cons_zero]
    go_step
    go_step
    go_meet
    exact h4
  clear c1 c2 c3 c4 HS1
  go_wp2
  exact bodyPost_ret (v := .tuple #[old, .bool true]) (by simp [results, Try.results43, go_sem]) rfl ⟨y, Hy.out, by rw [Hold.out], Hfin.out _ hcut.out⟩
set_option maxHeartbeats 4000000 in
theorem putinnerS {h o : Nat} (_ho' : o ≤ 1024) (tb : Nat) (r nn : Value) (es : M ByteArray Int) (cs : List TS) (c c' : TS) (nb : Nat) (ks vs ps : Value) (bs : List Nat) (cb : Nat) (k : ByteArray) (v old : Int) (was : Bool) (w0 w : World) (fp0 : List Nat) (R : List Asn)
    (ha : AscM es) (hlen : es.length < 1099511627776) (hno : hasK es k = false) (hcl : cs.length = es.length + 1) (hl : bs.length = cs.length) (hb : bs[posK es k]? = some cb)
    (HIH : ∀ w, St w0 fp0 (treeS h c cb :: blkA tb 87 #[r, .int .i64 o, nn] :: blkA nb 85 #[ks, vs, ps] :: slA 9 ks (keysS es) :: slA 3 vs (valsS es) :: slA 82 ps (bs.map ptrS) :: restS h (posK es k) (posK es k + 1) cs bs :: R) w →
      Calls Try.prog 43 #[ptrS tb, ptrS cb, encS k, valS v] w fun e w' => e = .returned (.tuple #[valS old, .bool was]) ∧ St w0 fp0 (treeS h c' cb :: blkA tb 87 #[r, .int .i64 o, nn] :: blkA nb 85 #[ks, vs, ps] :: slA 9 ks (keysS es) :: slA 3 vs (valsS es) :: slA 82 ps (bs.map ptrS) :: restS h (posK es k) (posK es k + 1) cs bs :: R) w')
    (HSP : ∀ w, o ≤ c'.es.length → St w0 fp0 (treeS (h + 1) (.node es (cs.set (posK es k) c')) nb :: blkA tb 87 #[r, .int .i64 o, nn] :: R) w →
      Calls Try.prog 44 #[ptrS tb, ptrS nb, .int .i64 (posK es k)] w fun e w' => e = .returned (.tuple #[]) ∧ St w0 fp0 (treeS (h + 1) (splitT o (posK es k) (.node es (cs.set (posK es k) c'))) nb :: blkA tb 87 #[r, .int .i64 o, nn] :: R) w')
    (hS : St w0 fp0 (blkA nb 85 #[ks, vs, ps] :: slA 9 ks (keysS es) :: slA 3 vs (valsS es) :: slA 82 ps (bs.map ptrS) :: restS h (posK es k) (posK es k + 1) cs bs :: treeS h c cb :: blkA tb 87 #[r, .int .i64 o, nn] :: R) w) :
    Calls Try.prog 43 #[ptrS tb, ptrS nb, encS k, valS v] w fun e w' => e = .returned (.tuple #[valS old, .bool was]) ∧ St w0 fp0 (treeS (h + 1) (if o ≤ c'.es.length then splitT o (posK es k) (.node es (cs.set (posK es k) c')) else .node es (cs.set (posK es k) c')) nb :: blkA tb 87 #[r, .int .i64 o, nn] :: R) w' := by
  have HS := Lib.hid hS
  obtain ⟨_, hp⟩ := hS.has 3 rfl
  have hple := posK_le es k
  have hil : posK es k < bs.length := (List.getElem?_eq_some_iff.1 hb).1
  obtain ⟨n, hn⟩ : ∃ n, bs.length = n := ⟨_, rfl⟩
  obtain ⟨gp, pc, e1, _, _⟩ := sl_some hp (by rw [List.length_map]; omega)
  rw [List.length_map, hn] at e1
  subst e1
  obtain ⟨_, hb0⟩ := hS.has 0 rfl
  have HF := Lib.hid (findS_calls nb ks vs _ es k w hb0 (hS.keysS 1 rfl) ha hlen)
  rw [hno] at HF
  have HIH2 := Lib.hid HIH
  have HSP2 := Lib.hid HSP
  clear HIH HSP
  have Hun : RowKit.Hid (∀ w, St w0 fp0 (treeS h c' cb :: blkA tb 87 #[r, .int .i64 o, nn] :: blkA nb 85 #[ks, vs, .slice (some ⟨gp, 0, none⟩) n pc] :: slA 9 ks (keysS es) :: slA 3 vs (valsS es) :: slA 82 (.slice (some ⟨gp, 0, none⟩) n pc) (bs.map ptrS) :: restS h (posK es k) (posK es k + 1) cs bs :: R) w →
      St w0 fp0 (treeS (h + 1) (.node es (cs.set (posK es k) c')) nb :: blkA tb 87 #[r, .int .i64 o, nn] :: R) w) := by
    intro w hw
    refine St.unviewS (ks := ks) (vs := vs) (ps := .slice (some ⟨gp, 0, none⟩) n pc) hl hb (hw.perm ?_)
    classical
    refine List.perm_iff_count.2 fun a => ?_
    simp only [List.count_cons]
    omega
  have Hin : RowKit.Hid (∀ w, St w0 fp0 (blkA nb 85 #[ks, vs, .slice (some ⟨gp, 0, none⟩) n pc] :: slA 9 ks (keysS es) :: slA 3 vs (valsS es) :: slA 82 (.slice (some ⟨gp, 0, none⟩) n pc) (bs.map ptrS) :: restS h (posK es k) (posK es k + 1) cs bs :: treeS h c cb :: blkA tb 87 #[r, .int .i64 o, nn] :: R) w →
      St w0 fp0 (treeS h c cb :: blkA tb 87 #[r, .int .i64 o, nn] :: blkA nb 85 #[ks, vs, .slice (some ⟨gp, 0, none⟩) n pc] :: slA 9 ks (keysS es) :: slA 3 vs (valsS es) :: slA 82 (.slice (some ⟨gp, 0, none⟩) n pc) (bs.map ptrS) :: restS h (posK es k) (posK es k + 1) cs bs :: R) w) := by
    intro w hw
    refine hw.perm ?_
    classical
    refine List.perm_iff_count.2 fun a => ?_
    simp only [List.count_cons]
    omega
  have Hel : RowKit.Hid (∀ (q : TS) wx, St w0 fp0 (treeS h q cb :: blkA tb 87 #[r, .int .i64 o, nn] :: blkA nb 85 #[ks, vs, .slice (some ⟨gp, 0, none⟩) n pc] :: slA 9 ks (keysS es) :: slA 3 vs (valsS es) :: slA 82 (.slice (some ⟨gp, 0, none⟩) n pc) (bs.map ptrS) :: restS h (posK es k) (posK es k + 1) cs bs :: R) wx →
      (wx.cell? ⟨nb, 2, none⟩ = some (.slice (some ⟨gp, 0, none⟩) n pc) ∧ nb < wx.heap.size ∧ wx.cell? ⟨gp, posK es k, none⟩ = some (.pointer (some ⟨cb, 0, none⟩)) ∧ gp < wx.heap.size) ∧ (wx.cell? ⟨tb, 1, none⟩ = some (.int .i64 o) ∧ tb < wx.heap.size) ∧ ∃ ka kc, wx.cell? ⟨cb, 0, none⟩ = some (.slice ka q.es.length kc) ∧ cb < wx.heap.size) := by
    intro q wx hx
    obtain ⟨_, h0⟩ := hx.has 0 rfl
    obtain ⟨_, h1⟩ := hx.has 2 rfl
    obtain ⟨_, h2⟩ := hx.has 5 rfl
    obtain ⟨_, h5⟩ := hx.has 1 rfl
    obtain ⟨h3, _, h4, _⟩ := sl_elem h2 (posK es k) (by rw [List.length_map]; exact hil)
    obtain ⟨ka, kc, _, _, h6, _, _, h7⟩ := tree_lookS h0
    refine ⟨⟨(blk_get h1).1 2, (blk_get h1).2.2, h3.trans ?_, h4⟩, ⟨(blk_get h5).1 1, (blk_get h5).2.2⟩, ka, kc, h6, h7⟩
    simp only [List.getElem_map]
    rw [(List.getElem?_eq_some_iff.1 hb).2]
    rfl
  have hin : posK es k < n := by omega
  have hn0 : 0 < n := by omega
  generalize posK es k = i at *
  obtain ⟨kk, hkk⟩ : ∃ kk, encS k = kk := ⟨_, rfl⟩
  obtain ⟨vv, hvv⟩ : ∃ vv, valS v = vv := ⟨_, rfl⟩
  obtain ⟨ov, hov⟩ : ∃ ov, valS old = ov := ⟨_, rfl⟩
  rw [hkk] at HF
  rw [hkk, hvv, hov] at HIH2 ⊢
  obtain ⟨m, hm⟩ : ∃ m, c'.es.length = m := ⟨_, rfl⟩
  rw [hm] at HSP2 ⊢
  obtain ⟨yy, hyy⟩ : ∃ yy, (if o ≤ m then splitT o i (.node es (cs.set i c')) else .node es (cs.set i c')) = yy := ⟨_, rfl⟩
  rw [hyy]
  have Hyy := Lib.hid hyy
  clear hyy
  have Hm := Lib.hid hm
  clear hS hp hb0 hkk hvv hov hlen hno ha hb hil hcl hl hple hn hm
  unfold ptrS at *
  go_enter Try.func43, Try.ntmps43
  go_wp2_with fail
  (with_reducible refine HF.out.mono ?_)
  rintro e w1 ⟨rfl, hb1⟩
  have HS1 := Lib.hid (HS.out.mono hb1)
  obtain ⟨_, hb2⟩ := HS1.out.has 0 rfl
  have HL := Lib.hid (leafS_calls nb ks vs (some ⟨gp, 0, none⟩) n pc w1 hb2)
  unfold ptrS at HL
  have hz : (n == 0) = false := by simp; omega
  rw [hz] at HL
  have i1 : (i : Int) < n := by omega
  clear hb1 hb2 HF hz
  go_wp2_with fail
  (with_reducible refine HL.out.mono ?_)
  rintro e w2 ⟨rfl, rfl⟩
  clear HL
  obtain ⟨⟨c1, c2, c3, c4⟩, ⟨c5, c6⟩, _⟩ := Hel.out c _ (Hin.out _ HS1.out)
  go_wp2_with fail
  (with_reducible refine (HIH2.out _ (Hin.out _ HS1.out)).mono ?_)
  rintro e w3 ⟨rfl, hs3⟩
  have HS3 := Lib.hid hs3
  clear hs3 c1 c2 c3 c4 c5 c6
  obtain ⟨⟨c1, c2, c3, c4⟩, ⟨c5, c6⟩, ka, kc, c7, c8⟩ := Hel.out c' _ HS3.out
  rw [Hm.out] at c7
  have Hend : RowKit.Hid (∀ nq, St w0 fp0 (treeS (h + 1) (.node es (cs.set i c')) nb :: blkA tb 87 #[r, .int .i64 o, nn] :: R) (w3.drewN nq)) := fun nq => Hun.out _ (HS3.out.mono (below_drewN _ _))
  by_cases hom : o ≤ m
  · rw [if_pos hom] at Hyy
    have b1 : decide ((o : Int) ≤ m) = true := by simp; omega
    go_upto_region 11 with (fail)
    go_cut [99] (fun z wx => z = .bool true ∧ ∃ nq, wx = w3.drewN nq)
    case first =>
      go_quiet (fail)
      go_step
      go_step
      go_meet
      exact ⟨by simp <;> omega, _, rfl⟩
    obtain ⟨rfl, nq, rfl⟩ := hcut
    have HSPx := Lib.hid (HSP2.out _ hom (Hend.out nq))
    clear c1 c2 c3 c4 c5 c6 c7 c8
    go_wp2_with fail
    (with_reducible refine HSPx.out.mono ?_)
    rintro e w4 ⟨rfl, hs4⟩
    have HS4 := Lib.hid hs4
    clear hs4
    go_wp2
    exact bodyPost_ret (v := .tuple #[ov, .bool was]) (by simp [results, Try.results43, go_sem]) rfl ⟨rfl, by rw [← Hyy.out]; exact HS4.out⟩
  · rw [if_neg hom] at Hyy
    have b1 : decide ((o : Int) ≤ m) = false := by simp; omega
    go_upto_region 11 with (fail)
    go_cut [99] (fun z wx => z = .bool false ∧ ∃ nq, wx = w3.drewN nq)
    case first =>
      go_quiet (fail)
      go_step
      go_step
      go_meet
      exact ⟨by simp <;> omega, _, rfl⟩
    obtain ⟨rfl, nq, rfl⟩ := hcut
    clear c1 c2 c3 c4 c5 c6 c7 c8
    go_wp2
    exact bodyPost_ret (v := .tuple #[ov, .bool was]) (by simp [results, Try.results43, go_sem]) rfl ⟨rfl, by rw [← Hyy.out]; exact Hend.out nq⟩
end Go.Proofs.Ytldofiankhimjaa
/- slices.Clone at elements of one cell (S). -/
namespace Go.Proofs.Ytldofiankhimjaa
open Go.RowKit
/-- Values that can be read at a slice. -/
def SrcS (w : World) (xs : List Value) (v : Value) : Prop :=
  (v = .slice none 0 0 ∧ xs = []) ∨ ∃ ad c, v = .slice (some ad) xs.length c ∧ ∀ j u, xs[j]? = some u → w.cell? (ad.add j) = some u

set_option maxHeartbeats 1000000 in
theorem cloneS_calls (xs : List Value) (v : Value) (w : World) (hs : SrcS w xs v) (h1 : ∀ u ∈ xs, u.oneCell' = true) (hlen : xs.length < 1099511627776) :
    Calls Try.prog 66 #[v] w fun e w' => ∃ v' f', e = .returned v' ∧ (slA 9 v' xs).p w' f' ∧ Below w.heap.size w w' ∧ ∀ k ∈ f', w.heap.size ≤ k := by
  obtain ⟨i0, ii, iz0, iz1, iz2⟩ := info_parts infoS
  rcases hs with ⟨rfl, rfl⟩ | ⟨ad, c, rfl, hsrc⟩
  · have hnil := fun w' => Lib.run_eql_slice_nil (P := Try.prog) w' 37 9 none 0 0 0 0 Try.underlying37
    simp only [Option.isNone_none] at hnil
    clear hlen h1
    go_enter Try.func66, Try.ntmps66
    go_wp2
    go_ret
    exact ⟨_, [], rfl, ⟨World.ownsRow_nil _ _ _ _, rfl⟩, Below.refl _ _, by simp⟩
  · have hown0 := World.ownsRow_lit (e := 9) (size := 1) w #[] 0 (Nat.le_refl _) (by simp) (by simp)
    have HSRC : RowKit.Hid (∀ j u, xs[j]? = some u → (w.alloc (.cells #[] 9)).cell? (ad.add j) = some u) := by
      intro j u hu
      have h1 := hsrc j u hu
      rw [World.cell?_alloc_lt _ _ _ (World.block_lt_of_cell? w _ h1)]
      exact h1
    have H1 := Lib.hid h1
    obtain ⟨n, hn⟩ : ∃ n, xs.length = n := ⟨_, rfl⟩
    have Hn := Lib.hid hn
    have Hown0 := Lib.hid hown0
    have hnil := fun w' => Lib.run_eql_slice_nil (P := Try.prog) w' 37 9 (some ad) n c 0 0 Try.underlying37
    simp only [Option.isNone_some] at hnil
    rw [hn] at hlen ⊢
    clear hsrc h1 hn hown0
    go_enter Try.func66, Try.ntmps66
    go_wp2_with (at_builtin; refine wpList_append_own _ rfl _ _ 37 rfl w.heap.size 9 i0 (.string .empty) 1 16 Try.underlying37 ii iz0 iz1 iz2 rfl (by decide) _ 0 [] rfl Hown0.out ad n c xs rfl ?c0 HSRC.out H1.out ?c3 ?c4 ?c5 ?_)
    case c0 => exact Hn.out
    case c3 => unfold maxLen; omega
    case c4 => omega
    intro v' w' hown' hgrow _
    have HO : RowKit.Hid ((slA 9 v' xs).p w' v'.ownBlock.toList ∧ Below w.heap.size w w' ∧ ∀ k ∈ v'.ownBlock.toList, w.heap.size ≤ k) := by
      refine ⟨⟨?_, rfl⟩, ((Below.refl _ _).alloc (Nat.le_refl _) _).grown hgrow (by simp) (fun k hk => (Hown0.out.lt k hk).1), fun k hk => ?_⟩
      · rw [Hn.out]
        have : w'.ownsRow w.heap.size 9 1 v' n xs := by simpa using hown'
        refine ⟨this.1, ?_⟩
        rcases this.2 with e | ⟨g, cap, cur, e1, _, r⟩
        · exact .inl e
        · exact .inr ⟨g, cap, cur, e1, Nat.zero_le _, r⟩
      · exact (hown'.lt k (by cases hv : v'.ownBlock <;> simp_all)).1
    clear hown' hgrow
    go_wp2
    go_ret
    exact ⟨_, _, rfl, HO.out.1, HO.out.2.1, HO.out.2.2⟩
theorem srcdropS {w : World} {g n c : Nat} {xs : List Value} {f : List Nat} (h : (slA 9 (.slice (some ⟨g, 0, none⟩) n c) xs).p w f) (d : Nat) (_hd : d < xs.length) : SrcS w (xs.drop d) (.slice (some ⟨g, d, none⟩) (n - d) (c - d)) := by
  obtain ⟨a, c', h1, _, _, h4⟩ := sl_get h
  injection h1 with h5 h6 h7
  rcases h4 with ⟨e, _⟩ | ⟨g', e, h8, h9, h10⟩
  · rw [e] at h5; cases h5
  · rw [e] at h5
    injection h5 with h5
    injection h5 with h5
    subst h5 h6
    refine .inr ⟨_, _, by rw [List.length_drop], fun j u hu => ?_⟩
    rw [List.getElem?_drop] at hu
    have hj := (List.getElem?_eq_some_iff.1 hu).1
    rw [Addr.add_lit, h9 (d + j) hj]
    exact hu
theorem srctakeS {w : World} {g n c : Nat} {xs : List Value} {f : List Nat} (h : (slA 9 (.slice (some ⟨g, 0, none⟩) n c) xs).p w f) (d : Nat) (hd : d ≤ xs.length) : SrcS w (xs.take d) (.slice (some ⟨g, 0, none⟩) d c) := by
  obtain ⟨a, c', h1, _, _, h4⟩ := sl_get h
  injection h1 with h5 h6 h7
  rcases h4 with ⟨e, _⟩ | ⟨g', e, h8, h9, h10⟩
  · rw [e] at h5; cases h5
  · rw [e] at h5
    injection h5 with h5
    injection h5 with h5
    subst h5 h6
    refine .inr ⟨_, _, by rw [List.length_take, Nat.min_eq_left hd], fun j u hu => ?_⟩
    have hj := (List.getElem?_eq_some_iff.1 hu).1
    rw [List.length_take] at hj
    rw [Addr.add_lit, Nat.zero_add, h9 j (by omega)]
    rw [List.getElem?_take] at hu
    split at hu
    · exact hu
    · cases hu
end Go.Proofs.Ytldofiankhimjaa
/- slices.Clone at elements of one cell (I). -/
namespace Go.Proofs.Ytldofiankhimjaa
open Go.RowKit
/-- Values that can be read at a slice. -/
def SrcI (w : World) (xs : List Value) (v : Value) : Prop :=
  (v = .slice none 0 0 ∧ xs = []) ∨ ∃ ad c, v = .slice (some ad) xs.length c ∧ ∀ j u, xs[j]? = some u → w.cell? (ad.add j) = some u

set_option maxHeartbeats 1000000 in
theorem cloneI_calls (xs : List Value) (v : Value) (w : World) (hs : SrcI w xs v) (h1 : ∀ u ∈ xs, u.oneCell' = true) (hlen : xs.length < 1099511627776) :
    Calls Try.prog 59 #[v] w fun e w' => ∃ v' f', e = .returned v' ∧ (slA 3 v' xs).p w' f' ∧ Below w.heap.size w w' ∧ ∀ k ∈ f', w.heap.size ≤ k := by
  obtain ⟨i0, ii, iz0, iz1, iz2⟩ := info_parts infoI
  rcases hs with ⟨rfl, rfl⟩ | ⟨ad, c, rfl, hsrc⟩
  · have hnil := fun w' => Lib.run_eql_slice_nil (P := Try.prog) w' 22 3 none 0 0 0 0 Try.underlying22
    simp only [Option.isNone_none] at hnil
    clear hlen h1
    go_enter Try.func59, Try.ntmps59
    go_wp2
    go_ret
    exact ⟨_, [], rfl, ⟨World.ownsRow_nil _ _ _ _, rfl⟩, Below.refl _ _, by simp⟩
  · have hown0 := World.ownsRow_lit (e := 3) (size := 1) w #[] 0 (Nat.le_refl _) (by simp) (by simp)
    have HSRC : RowKit.Hid (∀ j u, xs[j]? = some u → (w.alloc (.cells #[] 3)).cell? (ad.add j) = some u) := by
      intro j u hu
      have h1 := hsrc j u hu
      rw [World.cell?_alloc_lt _ _ _ (World.block_lt_of_cell? w _ h1)]
      exact h1
    have H1 := Lib.hid h1
    obtain ⟨n, hn⟩ : ∃ n, xs.length = n := ⟨_, rfl⟩
    have Hn := Lib.hid hn
    have Hown0 := Lib.hid hown0
    have hnil := fun w' => Lib.run_eql_slice_nil (P := Try.prog) w' 22 3 (some ad) n c 0 0 Try.underlying22
    simp only [Option.isNone_some] at hnil
    rw [hn] at hlen ⊢
    clear hsrc h1 hn hown0
    go_enter Try.func59, Try.ntmps59
    go_wp2_with (at_builtin; refine wpList_append_own _ rfl _ _ 22 rfl w.heap.size 3 i0 (.int .i64 0) 1 8 Try.underlying22 ii iz0 iz1 iz2 rfl (by decide) _ 0 [] rfl Hown0.out ad n c xs rfl ?c0 HSRC.out H1.out ?c3 ?c4 ?c5 ?_)
    case c0 => exact Hn.out
    case c3 => unfold maxLen; omega
    case c4 => omega
    intro v' w' hown' hgrow _
    have HO : RowKit.Hid ((slA 3 v' xs).p w' v'.ownBlock.toList ∧ Below w.heap.size w w' ∧ ∀ k ∈ v'.ownBlock.toList, w.heap.size ≤ k) := by
      refine ⟨⟨?_, rfl⟩, ((Below.refl _ _).alloc (Nat.le_refl _) _).grown hgrow (by simp) (fun k hk => (Hown0.out.lt k hk).1), fun k hk => ?_⟩
      · rw [Hn.out]
        have : w'.ownsRow w.heap.size 3 1 v' n xs := by simpa using hown'
        refine ⟨this.1, ?_⟩
        rcases this.2 with e | ⟨g, cap, cur, e1, _, r⟩
        · exact .inl e
        · exact .inr ⟨g, cap, cur, e1, Nat.zero_le _, r⟩
      · exact (hown'.lt k (by cases hv : v'.ownBlock <;> simp_all)).1
    clear hown' hgrow
    go_wp2
    go_ret
    exact ⟨_, _, rfl, HO.out.1, HO.out.2.1, HO.out.2.2⟩
theorem srcdropI {w : World} {g n c : Nat} {xs : List Value} {f : List Nat} (h : (slA 3 (.slice (some ⟨g, 0, none⟩) n c) xs).p w f) (d : Nat) (_hd : d < xs.length) : SrcI w (xs.drop d) (.slice (some ⟨g, d, none⟩) (n - d) (c - d)) := by
  obtain ⟨a, c', h1, _, _, h4⟩ := sl_get h
  injection h1 with h5 h6 h7
  rcases h4 with ⟨e, _⟩ | ⟨g', e, h8, h9, h10⟩
  · rw [e] at h5; cases h5
  · rw [e] at h5
    injection h5 with h5
    injection h5 with h5
    subst h5 h6
    refine .inr ⟨_, _, by rw [List.length_drop], fun j u hu => ?_⟩
    rw [List.getElem?_drop] at hu
    have hj := (List.getElem?_eq_some_iff.1 hu).1
    rw [Addr.add_lit, h9 (d + j) hj]
    exact hu
theorem srctakeI {w : World} {g n c : Nat} {xs : List Value} {f : List Nat} (h : (slA 3 (.slice (some ⟨g, 0, none⟩) n c) xs).p w f) (d : Nat) (hd : d ≤ xs.length) : SrcI w (xs.take d) (.slice (some ⟨g, 0, none⟩) d c) := by
  obtain ⟨a, c', h1, _, _, h4⟩ := sl_get h
  injection h1 with h5 h6 h7
  rcases h4 with ⟨e, _⟩ | ⟨g', e, h8, h9, h10⟩
  · rw [e] at h5; cases h5
  · rw [e] at h5
    injection h5 with h5
    injection h5 with h5
    subst h5 h6
    refine .inr ⟨_, _, by rw [List.length_take, Nat.min_eq_left hd], fun j u hu => ?_⟩
    have hj := (List.getElem?_eq_some_iff.1 hu).1
    rw [List.length_take] at hj
    rw [Addr.add_lit, Nat.zero_add, h9 j (by omega)]
    rw [List.getElem?_take] at hu
    split at hu
    · exact hu
    · cases hu
end Go.Proofs.Ytldofiankhimjaa
/- slices.Clone at elements of one cell (Q). -/
namespace Go.Proofs.Ytldofiankhimjaa
open Go.RowKit
/-- Values that can be read at a slice. -/
def SrcQ (w : World) (xs : List Value) (v : Value) : Prop :=
  (v = .slice none 0 0 ∧ xs = []) ∨ ∃ ad c, v = .slice (some ad) xs.length c ∧ ∀ j u, xs[j]? = some u → w.cell? (ad.add j) = some u

set_option maxHeartbeats 1000000 in
theorem cloneQ_calls (xs : List Value) (v : Value) (w : World) (hs : SrcQ w xs v) (h1 : ∀ u ∈ xs, u.oneCell' = true) (hlen : xs.length < 1099511627776) :
    Calls Try.prog 67 #[v] w fun e w' => ∃ v' f', e = .returned v' ∧ (slA 82 v' xs).p w' f' ∧ Below w.heap.size w w' ∧ ∀ k ∈ f', w.heap.size ≤ k := by
  obtain ⟨i0, ii, iz0, iz1, iz2⟩ := info_parts infoQ
  rcases hs with ⟨rfl, rfl⟩ | ⟨ad, c, rfl, hsrc⟩
  · have hnil := fun w' => Lib.run_eql_slice_nil (P := Try.prog) w' 83 82 none 0 0 0 0 Try.underlying83
    simp only [Option.isNone_none] at hnil
    clear hlen h1
    go_enter Try.func67, Try.ntmps67
    go_wp2
    go_ret
    exact ⟨_, [], rfl, ⟨World.ownsRow_nil _ _ _ _, rfl⟩, Below.refl _ _, by simp⟩
  · have hown0 := World.ownsRow_lit (e := 82) (size := 1) w #[] 0 (Nat.le_refl _) (by simp) (by simp)
    have HSRC : RowKit.Hid (∀ j u, xs[j]? = some u → (w.alloc (.cells #[] 82)).cell? (ad.add j) = some u) := by
      intro j u hu
      have h1 := hsrc j u hu
      rw [World.cell?_alloc_lt _ _ _ (World.block_lt_of_cell? w _ h1)]
      exact h1
    have H1 := Lib.hid h1
    obtain ⟨n, hn⟩ : ∃ n, xs.length = n := ⟨_, rfl⟩
    have Hn := Lib.hid hn
    have Hown0 := Lib.hid hown0
    have hnil := fun w' => Lib.run_eql_slice_nil (P := Try.prog) w' 83 82 (some ad) n c 0 0 Try.underlying83
    simp only [Option.isNone_some] at hnil
    rw [hn] at hlen ⊢
    clear hsrc h1 hn hown0
    go_enter Try.func67, Try.ntmps67
    go_wp2_with (at_builtin; refine wpList_append_own _ rfl _ _ 83 rfl w.heap.size 82 i0 (.pointer none) 1 8 Try.underlying83 ii iz0 iz1 iz2 rfl (by decide) _ 0 [] rfl Hown0.out ad n c xs rfl ?c0 HSRC.out H1.out ?c3 ?c4 ?c5 ?_)
    case c0 => exact Hn.out
    case c3 => unfold maxLen; omega
    case c4 => omega
    intro v' w' hown' hgrow _
    have HO : RowKit.Hid ((slA 82 v' xs).p w' v'.ownBlock.toList ∧ Below w.heap.size w w' ∧ ∀ k ∈ v'.ownBlock.toList, w.heap.size ≤ k) := by
      refine ⟨⟨?_, rfl⟩, ((Below.refl _ _).alloc (Nat.le_refl _) _).grown hgrow (by simp) (fun k hk => (Hown0.out.lt k hk).1), fun k hk => ?_⟩
      · rw [Hn.out]
        have : w'.ownsRow w.heap.size 82 1 v' n xs := by simpa using hown'
        refine ⟨this.1, ?_⟩
        rcases this.2 with e | ⟨g, cap, cur, e1, _, r⟩
        · exact .inl e
        · exact .inr ⟨g, cap, cur, e1, Nat.zero_le _, r⟩
      · exact (hown'.lt k (by cases hv : v'.ownBlock <;> simp_all)).1
    clear hown' hgrow
    go_wp2
    go_ret
    exact ⟨_, _, rfl, HO.out.1, HO.out.2.1, HO.out.2.2⟩
theorem srcdropQ {w : World} {g n c : Nat} {xs : List Value} {f : List Nat} (h : (slA 82 (.slice (some ⟨g, 0, none⟩) n c) xs).p w f) (d : Nat) (_hd : d < xs.length) : SrcQ w (xs.drop d) (.slice (some ⟨g, d, none⟩) (n - d) (c - d)) := by
  obtain ⟨a, c', h1, _, _, h4⟩ := sl_get h
  injection h1 with h5 h6 h7
  rcases h4 with ⟨e, _⟩ | ⟨g', e, h8, h9, h10⟩
  · rw [e] at h5; cases h5
  · rw [e] at h5
    injection h5 with h5
    injection h5 with h5
    subst h5 h6
    refine .inr ⟨_, _, by rw [List.length_drop], fun j u hu => ?_⟩
    rw [List.getElem?_drop] at hu
    have hj := (List.getElem?_eq_some_iff.1 hu).1
    rw [Addr.add_lit, h9 (d + j) hj]
    exact hu
theorem srctakeQ {w : World} {g n c : Nat} {xs : List Value} {f : List Nat} (h : (slA 82 (.slice (some ⟨g, 0, none⟩) n c) xs).p w f) (d : Nat) (hd : d ≤ xs.length) : SrcQ w (xs.take d) (.slice (some ⟨g, 0, none⟩) d c) := by
  obtain ⟨a, c', h1, _, _, h4⟩ := sl_get h
  injection h1 with h5 h6 h7
  rcases h4 with ⟨e, _⟩ | ⟨g', e, h8, h9, h10⟩
  · rw [e] at h5; cases h5
  · rw [e] at h5
    injection h5 with h5
    injection h5 with h5
    subst h5 h6
    refine .inr ⟨_, _, by rw [List.length_take, Nat.min_eq_left hd], fun j u hu => ?_⟩
    have hj := (List.getElem?_eq_some_iff.1 hu).1
    rw [List.length_take] at hj
    rw [Addr.add_lit, Nat.zero_add, h9 j (by omega)]
    rw [List.getElem?_take] at hu
    split at hu
    · exact hu
    · cases hu
end Go.Proofs.Ytldofiankhimjaa
