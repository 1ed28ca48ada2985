/- The bag's put. -/
import Derived.Test.YtekoemcckdhhnaaH0
import Derived.Test.YtekoemcckdhhnaaG2
import Derived.Test.YtekoemcckdhhnaaF6
import Derived.Deep.RegionWith
namespace Go.Proofs.Ytekoemcckdhhnaa
open Go.RowKit

/-- What is there behind the Insert of put, and when its result is stored. -/
def InsB (w : World) (B pb : Nat) (s : Value) (b1 : List Ent) (m : Int) (v : Value) (w' : World) : Prop :=
  w'.heap[pb]? = some (.cells #[s, .int .i64 m] 55 (0, 0)) ∧ BagRaw (w'.setCell ⟨pb, 0, none⟩ v) B pb v b1 m ∧ Chg w (w'.setCell ⟨pb, 0, none⟩ v) pb s.ownBlock ∧ ∀ k, v.ownBlock = some k → s.ownBlock = some k ∨ w.heap.size ≤ k

theorem insert_bag (B pb : Nat) (s : Value) (b : List Ent) (R : Rw) (w W : World) (vb : Nat) (x : Value) (hb : BagAt w B pb s b) (hW : Below w.heap.size w W) (hvb : w.heap.size ≤ vb) (hx : RowO W w.heap.size R x)
    (hv : W.heap[vb]? = some (.cells #[x, .int .i64 0] 57 (0, 0))) (hlen : b.length < 1099511627776) :
    Calls Try.prog 39 #[s, .int .i64 (posB b R), .slice (some ⟨vb, 0, none⟩) 1 1] W fun e w' => ∃ a m c, e = .returned (.slice a m c) ∧ InsB w B pb s (b.take (posB b R) ++ (R, 0) :: b.drop (posB b R)) (lenB b) (.slice a m c) w' := by
  have hpl := posB_le b R
  have hpb := hb.lt
  have hraw := hb.raw
  have hge := hb.ge
  obtain ⟨cs, ho, he⟩ := hb.ent
  have hx1 : x.oneCell' = true := by obtain ⟨a, n, c, rfl, _⟩ := hx.vals.shape; rfl
  have hlt : ∀ k, s.ownBlock = some k → k < w.heap.size := fun k hk => (ho.lt k hk).2
  refine (insert_calls B s b.length (posB b R) vb cs x W (own_below ho hW) he.one hlen hpl (by have := hW.size; omega) hv hx1 (fun e => by have := hlt vb e; omega)).mono ?_
  rintro e w' ⟨s1, rfl, h1, h2, h3⟩
  have hsh : ∃ a m c, s1 = .slice a m c := by
    rcases h1.2 with ⟨rfl, _⟩ | ⟨g, cap, cur, rfl, _⟩ <;> exact ⟨_, _, _, rfl⟩
  obtain ⟨a, m, c, rfl⟩ := hsh
  have hcW : Chg w W pb s.ownBlock := Chg.of_below hW _ _
  have hc1 : Chg w w' pb s.ownBlock := hcW.trans (Chg.of_grown h2 pb) (fun k hk => .inl hk)
  have hptr : w'.heap[pb]? = some (.cells #[s, .int .i64 (lenB b)] 55 (0, 0)) := by
    rw [h2.block pb (Nat.lt_of_lt_of_le hpb hW.size) (fun e => hraw.ne e.symm), hW.block pb hpb]
    exact hb.ptr
  have hnew : ∀ k, (Value.slice a m c).ownBlock = some k → s.ownBlock = some k ∨ w.heap.size ≤ k := by
    intro k hk
    rcases h3 k hk with h | h
    · exact .inl h
    · exact .inr (Nat.le_trans hW.size h)
  have hne : (Value.slice a m c).ownBlock ≠ some pb := by
    intro e
    rcases hnew pb e with h | h
    · exact hraw.ne h
    · omega
  have hset := setCell_chg w' pb 0 (.slice a m c) none
  refine ⟨a, m, c, rfl, hptr, ⟨hge, heap_setCell_same w' pb 0 _ 55 _ hptr, cs.take (posB b R * 2) ++ [x, .int .i64 0] ++ cs.drop (posB b R * 2), ?_, ?_⟩, hc1.trans hset (by simp), hnew⟩
  · have hlen' : (b.take (posB b R) ++ (R, 0) :: b.drop (posB b R)).length = b.length + 1 := by simp; omega
    rw [hlen']
    refine ⟨h1.1, ?_⟩
    rcases h1.2 with e | ⟨g, cap, cur, hvv, hbb, hg, rest⟩
    · exact .inl e
    · refine .inr ⟨g, cap, cur, hvv, hbb, ?_, rest⟩
      rw [Below.heap_setCell w' ⟨pb, 0, none⟩ _ g (fun e => hne (by rw [hvv]; show some g = _; rw [e]))]
      exact hg
  · have k1 : EntVs W B b cs := he.mono hW
    have k2 : EntVs W B [((R, 0) : Ent)] [x, .int .i64 0] := .cons (hx.base (by omega)) .nil
    have k3 := ((k1.take (posB b R)).append k2).append (k1.drop (posB b R))
    simp only [List.append_assoc, List.cons_append, List.nil_append] at k3
    have hno : ∀ k, s.ownBlock = some k → ∀ cur fr, W.heap[k]? ≠ some (.cells cur 38 fr) := by
      intro k hk
      obtain ⟨cur, fr, e⟩ := ownBlock57 (own_below ho hW) k hk
      exact no38 e (by decide)
    have hno1 : ∀ cur fr, W.heap[pb]? ≠ some (.cells cur 38 fr) := no38 ((hW.block pb hpb).trans hb.ptr) (by decide)
    have k4 := (k3.chg (Chg.of_grown h2 pb) hno1 hno).chg hset (no38 hptr (by decide)) (by simp)
    simpa using k4

set_option maxHeartbeats 2000000 in
set_option maxRecDepth 20000 in
theorem bput_calls (B pb : Nat) (s : Value) (b : List Ent) (R : Rw) (n : Nat) (r : Value) (w : World) (hb : BagAt w B pb s b) (hr : ValsAt w R r) (hn0 : 0 < n) (hR : R.length < 1099511627776) (hlen : lenB b + n < 1099511627776) :
    Calls Try.prog 30 #[.pointer (some ⟨pb, 0, none⟩), r, .int .i64 n] w fun e w' => e = .returned (.tuple #[]) ∧ Mut w B pb s (putB b R n) w' := by
  have hbl := length_le_len hb.wf
  have hcl := cnt_le_len hb.wf R
  have hpl := posB_le b R
  have HC := Lib.hid (find_calls B pb s b R r w hb hr (by omega))
  have Hbag := Lib.hid hb
  have Hr := Lib.hid hr
  have HR := Lib.hid hR
  obtain ⟨ar, nr, cr, rfl, p3, p4⟩ := hr.shape
  clear hb hr hR p3 p4
  go_enter Try.func30, Try.ntmps30
  go_wp2_with fail
  (with_reducible refine HC.out.mono ?_)
  rintro e w1 ⟨rfl, hb1⟩
  have Hb1 := Lib.hid hb1
  clear hb1 HC
  go_upto_if 15 with (fail)
  go_cut [7] (fun _q wx => ∃ (s1 : Value) (b1 : List Ent) (N : Nat), N ≤ lenB b ∧ RowKit.Hid (BagRaw wx B pb s1 b1 (lenB b)) ∧ RowKit.Hid (Chg w wx pb s.ownBlock) ∧ RowKit.Hid (∀ k, s1.ownBlock = some k → s.ownBlock = some k ∨ w.heap.size ≤ k) ∧ RowKit.Hid (∃ h : posB b R < b1.length, b1[posB b R].2 = N ∧ b1.set (posB b R) (b1[posB b R].1, N + n) = putB b R n))
  case first =>
    have Hbag1 := Lib.hid (Hbag.out.mono Hb1.out)
    cases hh : hasB b R
    · have Hset : RowKit.Hid (∃ h : posB b R < (b.take (posB b R) ++ (R, 0) :: b.drop (posB b R)).length, (b.take (posB b R) ++ (R, 0) :: b.drop (posB b R))[posB b R].2 = 0 ∧ (b.take (posB b R) ++ (R, 0) :: b.drop (posB b R)).set (posB b R) ((b.take (posB b R) ++ (R, 0) :: b.drop (posB b R))[posB b R].1, 0 + n) = putB b R n) := by
        have hg : (b.take (posB b R) ++ (R, 0) :: b.drop (posB b R))[posB b R]? = some (R, 0) := by
          rw [List.getElem?_append_right (by rw [List.length_take]; omega)]
          rw [List.length_take, Nat.min_eq_left hpl, Nat.sub_self]
          rfl
        obtain ⟨h1, h2⟩ := List.getElem?_eq_some_iff.1 hg
        refine ⟨h1, by rw [h2], ?_⟩
        rw [h2, set_ins b _ hpl, putB_not Hbag.out.wf hh, Nat.zero_add]
      have HCl := Lib.hid (fun w' (h : Below w1.heap.size w1 w') => clone_calls R _ w' ((Hr.out.mono Hb1.out).mono h) HR.out)
      have HI := Lib.hid (fun W vb x (hW : Below w1.heap.size w1 W) hvb hx hv => insert_bag B pb s b R w1 W vb x Hbag1.out hW hvb hx hv (by omega))
      obtain ⟨c0, c1⟩ := Hbag1.out.cell
      have hlt := Hbag1.out.lt
      have Hptr := Lib.hid Hbag1.out.ptr
      clear c1
      go_wp2_with fail
      go_region_with (first
        | (go_at_call 32; (with_reducible refine (HCl.out _ (Below.drew (Below.refl _ _))).mono ?_); rintro e w2 ⟨cv, rfl, hcv, hb2⟩;
           obtain ⟨ac, nc, cc, rfl, -, -⟩ := hcv.vals.shape;
           have hb2' : Below w1.heap.size w1 w2 := (Below.drew (Below.refl _ _)).trans hb2;
           have HI2 := Lib.hid (HI.out (w2.alloc (.cells #[.slice ac nc cc, .int .i64 0] 57)) w2.heap.size (.slice ac nc cc) (hb2'.alloc hb2'.size _) hb2'.size (hcv.alloc _) (heap_alloc_new w2 _));
           have c2 : w2.cell? ⟨pb, 0, none⟩ = some s := (hb2'.cell (p := ⟨pb, 0, none⟩) hlt).trans c0;
           have hlt2 : pb < w2.heap.size := Nat.lt_of_lt_of_le hlt hb2'.size;
           have HB2 := Lib.hid hb2'; clear hb2 hb2' hcv)
        | (go_at_call 39; (with_reducible refine HI2.out.mono ?_); rintro e w3 ⟨a3, m3, c3, rfl, hI⟩;
           have d0 := cell_of_row w3 pb 0 _ 55 (0, 0) hI.1; have d1 := frozen_of_row w3 pb 0 _ 55 hI.1; have d2 := (Array.getElem?_eq_some_iff.1 hI.1).1; simp only [List.getElem?_toArray, List.getElem?_cons_zero] at d0; have HI3 := Lib.hid hI; clear hI))
      all_goals
        have Hnew : RowKit.Hid (∀ k, (Value.slice a3 m3 c3).ownBlock = some k → s.ownBlock = some k ∨ w.heap.size ≤ k) := by
          intro k hk
          rcases HI3.out.2.2.2 k hk with h | h
          · exact .inl h
          · exact .inr (Nat.le_trans Hb1.out.size h)
        clear d0 d1 d2 c0 c2 hlt hlt2
        go_wp2
        go_meet
        exact ⟨_, _, 0, Nat.zero_le _, HI3.out.2.1, (Chg.of_below Hb1.out _ _).trans HI3.out.2.2.1 (fun k hk => .inl hk), Hnew, Hset⟩
    · obtain ⟨h1, h2, h3⟩ := hasB_pos Hbag.out.wf hh
      have Hset : RowKit.Hid (∃ h : posB b R < b.length, b[posB b R].2 = cntB b R ∧ b.set (posB b R) (b[posB b R].1, cntB b R + n) = putB b R n) := ⟨h1, h3, by rw [h2, putB_has Hbag.out.wf hh]⟩
      clear h2 h3
      go_wp2
      go_meet
      exact ⟨s, b, cntB b R, hcl, Hbag1.out.raw, Chg.of_below Hb1.out _ _, fun k hk => .inl hk, Hset⟩
  obtain ⟨s1, b1, N, hN, Hraw, Hc, Hnew, Hset⟩ := hcut
  obtain ⟨hi, hN1, hset⟩ := Hset.out
  obtain ⟨a1, c1, rfl, hg⟩ : ∃ a c, s1 = .slice a b1.length c ∧ ∃ g, a = some ⟨g, 0, none⟩ := by
    obtain ⟨cs, ⟨_, ⟨h1, h2⟩ | ⟨g, cap, cur, hv, _⟩⟩, _⟩ := Hraw.out.ent
    · omega
    · exact ⟨_, cap, hv, g, rfl⟩
  obtain ⟨g, rfl⟩ := hg
  have hraw := Hraw.out
  have hne := hraw.ne
  simp only [Value.ownBlock, ne_eq, Option.some.injEq] at hne
  have hne' : ¬ pb = g := fun e => hne e.symm
  obtain ⟨d0, d1, d2⟩ := hraw.cell
  have hlt := hraw.lt
  obtain ⟨cs, ho, he⟩ := hraw.ent
  obtain ⟨x, e0, e1, e2⟩ := he.get (posB b R) hi
  have e3 := ho.cellAt (posB b R * 2 + 1) (by omega)
  have e4 := ho.frozenAt (posB b R * 2 + 1)
  have hgl := (ho.lt g rfl).2
  rw [e1, hN1] at e3
  have Hfin : RowKit.Hid (Mut w B pb s (putB b R n) ((wc.setCell ⟨g, posB b R * 2 + 1, none⟩ (.int .i64 ((N : Int) + n))).setCell ⟨pb, 1, none⟩ (.int .i64 ((lenB b : Int) + n)))) := by
    have k1 := hraw.count (posB b R) hi (N + n)
    rw [hset] at k1
    have k2 := k1.1
    rw [show ((N + n : Nat) : Int) = (N : Int) + n by simp] at k1
    obtain ⟨k3, k4⟩ := k2.length ((lenB b : Int) + n)
    have el : (lenB b : Int) + n = (lenB (putB b R n) : Nat) := by rw [len_putB]; simp
    rw [show ((N + n : Nat) : Int) = (N : Int) + n by simp] at k3 k4
    refine ⟨_, BagRaw.bag (by rw [← el]; exact k3) (wf_putB Hbag.out.wf R hn0), ?_, Hnew.out⟩
    exact (Hc.out.trans k1.2 (fun k hk => by injection hk with hk; subst hk; exact Hnew.out _ rfl)).trans k4 (by simp)
  have i1 : (0 : Int) ≤ posB b R := by omega
  have i2 : (posB b R : Int) < b1.length := by omega
  clear hset hne hraw ho he e0 e1 e2 hN1 Hset Hraw Hnew
  generalize posB b R = p at *
  generalize b1.length = m1 at *
  generalize lenB b = q at *
  go_wp2
  refine bodyPost_end (results_none rfl _ _ _) rfl ?_
  exact ⟨rfl, Hfin.out⟩
end Go.Proofs.Ytekoemcckdhhnaa
