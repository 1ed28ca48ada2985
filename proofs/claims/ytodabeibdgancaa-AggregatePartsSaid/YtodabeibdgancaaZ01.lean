/- Part 1 of the proof: Rc, Rd, Re -/
import Derived.Test.YtodabeibdgancaaZ00
/- symMergeCmpFunc: the two ends of its recursion. -/
namespace Go.Proofs.Ytodabeibdgancaa
open Go Go.RowKit
def cc (c : Rw → Rw → Int) (x y : Cel) : Int := c x.r y.r
/-- A function value that compares the rows of d0, whatever a sort makes of block g. -/
structure CmpOk (K : FuncId) (cap : Array Value) (c : Rw → Rw → Int) (d0 : List Cel) (w0 : World) (g : Nat) : Prop where
  enter : ∀ args w, (callFunc K args).run Try.prog w = .ok (.enter K args) w
  call : ∀ x ∈ d0, ∀ y ∈ d0, ∀ w', w0.grownBy w' (some g) → Calls Try.prog K (#[.slice x.a x.n x.c, .slice y.a y.n y.c] ++ cap) w' fun e w'' => e = .returned (.int .i64 (c x.r y.r)) ∧ Below w'.heap.size w' w''
  ord : Ord3 (cc c)
/-- Where a search for the place of x among Y stands. -/
structure SrA (c : Rw → Rw → Int) (x : Cel) (Y : List Cel) (i j : Nat) : Prop where
  lo : ∀ y ∈ Y.take i, cc c y x < 0
  hi : ∀ y ∈ Y.drop j, ¬ cc c y x < 0
theorem SrA.up {c : Rw → Rw → Int} (hc : Ord3 (cc c)) {x : Cel} {Y : List Cel} {i j h : Nat} (s : SrA c x Y i j) (ha : AscC (cc c) Y) (hh : h < Y.length) (hl : cc c Y[h] x < 0) : SrA c x Y (h + 1) j := by
  refine ⟨fun y hy => ?_, s.hi⟩
  rw [List.take_succ_eq_append_getElem hh] at hy
  rcases List.mem_append.1 hy with hy | hy
  · have : AscC (cc c) (Y.take h ++ Y[h] :: Y.drop (h + 1)) := by rwa [← List.drop_eq_getElem_cons hh, List.take_append_drop]
    exact hc.le_lt (this.cross y hy Y[h] (List.mem_cons_self ..)) hl
  · rw [List.mem_singleton.1 hy]; exact hl
theorem SrA.dn {c : Rw → Rw → Int} (hc : Ord3 (cc c)) {x : Cel} {Y : List Cel} {i j h : Nat} (s : SrA c x Y i j) (ha : AscC (cc c) Y) (hh : h < Y.length) (hl : ¬ cc c Y[h] x < 0) : SrA c x Y i h := by
  refine ⟨s.lo, fun y hy h2 => hl ?_⟩
  rw [List.drop_eq_getElem_cons hh] at hy
  rcases List.mem_cons.1 hy with rfl | hy
  · exact h2
  · have : AscC (cc c) (Y.take h ++ (Y[h] :: Y.drop (h + 1))) := by rwa [← List.drop_eq_getElem_cons hh, List.take_append_drop]
    exact hc.le_lt ((List.pairwise_cons.1 this.right).1 y hy) h2
theorem SrA.done {c : Rw → Rw → Int} (hc : Ord3 (cc c)) {x : Cel} {Y : List Cel} {i : Nat} (s : SrA c x Y i i) (ha : AscC (cc c) Y) : AscC (cc c) (Y.take i ++ [x] ++ Y.drop i) ∧ StEq (cc c) ([x] ++ Y) (Y.take i ++ [x] ++ Y.drop i) := by
  have h : AscC (cc c) (Y.take i ++ Y.drop i) := by rwa [List.take_append_drop]
  refine ⟨(h.left.app (List.pairwise_singleton _ _) fun a ha b hb => ?_).app h.right fun a ha b hb => ?_, ?_⟩
  · rw [List.mem_singleton.1 hb]; have := s.lo a ha; omega
  · rcases List.mem_append.1 ha with ha | ha
    · exact h.cross a ha b hb
    · rw [List.mem_singleton.1 ha]; exact hc.le (s.hi b hb)
  · have h1 : StEq (cc c) ([x] ++ Y.take i) (Y.take i ++ [x]) := StEq.swap hc fun a ha b hb => by rw [List.mem_singleton.1 ha]; exact s.lo b hb
    have := h1.app (StEq.refl (c := cc c) (Y.drop i))
    rwa [List.append_assoc, List.take_append_drop] at this
set_option maxHeartbeats 8000000 in
set_option maxRecDepth 100000 in
theorem symA_calls (K : FuncId) (cap : Array Value) (c : Rw → Rw → Int) (d0 : List Cel) (w0 : World) (B g n cp : Nat) (P Y S : List Cel) (x : Cel) (w : World) (a m b : Nat) (hp : P.length = a) (hm : a + 1 = m) (hb : m + Y.length = b)
    (hC : CmpOk K cap c d0 w0 g) (hmem : ∀ y ∈ x :: Y, y ∈ d0) (hY : AscC (cc c) Y) (hA : Arr w0 B g n cp (P ++ [x] ++ Y ++ S) w) (hmx : n ≤ 1099511627776) :
    Calls Try.prog 49 #[.slice (some ⟨g, 0, none⟩) n cp, .int .i64 a, .int .i64 m, .int .i64 b, .func (.func K) #[] cap] w fun e w' => e = .returned (.tuple #[]) ∧ ∃ Z, AscC (cc c) Z ∧ StEq (cc c) ([x] ++ Y) Z ∧ Arr w0 B g n cp (P ++ Z ++ S) w' := by
  have hlen := hA.len
  simp only [List.length_append, List.length_cons, List.length_nil] at hlen
  have b1 : b ≤ n := by omega
  have b2 : m ≤ b := by omega
  have b3 : a < m := by omega
  have ht : ((m : Int) - a == 1) = true := by simp; omega
  have HL := Lib.hid (show P.length = a ∧ a + 1 = m ∧ m + Y.length = b from ⟨hp, hm, hb⟩)
  have HA := Lib.hid hA
  have HC := Lib.hid hC
  have HY := Lib.hid hY
  have HMem := Lib.hid hmem
  have eg := hC.enter
  clear hA hlen hp hm hb hC hmem hY
  go_enter Try.func49, Try.ntmps49
  go_wp2
  go_loopw [10, 11] (fun z10 z11 wr => ∃ i j : Nat, m ≤ i ∧ i ≤ j ∧ j ≤ b ∧ z10 = .int .i64 i ∧ z11 = .int .i64 j ∧ RowKit.Hid (SrA c x Y (i - m) (j - m)) ∧ RowKit.Hid (Arr w0 B g n cp (P ++ [x] ++ Y ++ S) wr)) (fun z10 z11 _ => (intOf z11).toNat - (intOf z10).toNat)
  case atStart => exact ⟨m, b, Nat.le_refl _, b2, Nat.le_refl _, rfl, rfl, ⟨by simp, by rw [List.drop_of_length_le (by have := HL.out; omega)]; simp⟩, HA⟩
  case round =>
    obtain ⟨i, j, hmi, hij, hjb, rfl, rfl, Hs, H⟩ := hrel
    by_cases hlt : i < j
    · obtain ⟨h, hh⟩ : ∃ h : Nat, h = (i + j) / 2 := ⟨_, rfl⟩
      have hh1 : i ≤ h := by omega
      have hh2 : h < j := by omega
      have hk : h - m < Y.length := by have := HL.out; omega
      have hget : (P ++ [x] ++ Y ++ S)[h]? = some Y[h - m] := by
        have e : (P ++ [x]).length = m := by have := HL.out; simp; omega
        have := mid_get (P := P ++ [x]) (u := Y) (S := S) hk
        rwa [e, show m + (h - m) = h by omega] at this
      have hgx : (P ++ [x] ++ Y ++ S)[a]? = some x := by
        have := mid_get (P := P) (u := [x]) (S := Y ++ S) (i := 0) (by simp)
        have e := HL.out.1
        rw [Nat.add_zero, e] at this
        rw [List.append_assoc]
        exact this
      have cy := H.out.cell hget
      have cx := H.out.cell hgx
      have hg := H.out.lt
      have hup := fun hl => Hs.out.up HC.out.ord HY.out hk (j := j - m) hl
      have hdn := fun hl => Hs.out.dn HC.out.ord HY.out hk (i := i - m) hl
      have HU := Lib.hid (show (cc c Y[h - m] x < 0 → SrA c x Y (h + 1 - m) (j - m)) ∧ (¬ cc c Y[h - m] x < 0 → SrA c x Y (i - m) (h - m)) from ⟨fun hl => by have := hup hl; rwa [show h - m + 1 = h + 1 - m by omega] at this, hdn⟩)
      have HK := Lib.hid (fun w' (hb : Below wr.heap.size wr w') => HC.out.call Y[h - m] (HMem.out _ (List.mem_cons_of_mem _ (List.getElem_mem _))) x (HMem.out _ (List.mem_cons_self ..)) w' (grownBy_bel H.out.gr hb))
      clear hup hdn hget hgx
      unfold cc at HU
      generalize Y[h - m] = y at *
      generalize c y.r x.r = r at *
      clear hk
      have Hh := Lib.hid hh
      have i1 : (0 : Int) ≤ h := by omega
      have i2 : (h : Int) < n := by omega
      have i3 : (0 : Int) ≤ a := by omega
      have i4 : (a : Int) < n := by omega
      clear hh
      go_upto_region 4 with (fail)
      go_cut [12] (fun z wx => z = .int .i64 h ∧ wx = wr)
      case first =>
        go_wp2_with fail
        go_meet
        exact ⟨by have := Hh.out; congr 1; omega, rfl⟩
      obtain ⟨rfl, rfl⟩ := hcut
      go_upto_region 5 with (fail)
      go_cut [50] (fun z wx => ∃ q : Bool, z = .bool q ∧ RowKit.Hid (q = decide (r < 0)) ∧ RowKit.Hid (Below wc.heap.size wc wx))
      case first =>
        go_region_held3 (fun w' => Below wc.heap.size wc w' ∧ ∀ b o, b < wc.heap.size → w'.cell? ⟨b, o, none⟩ = wc.cell? ⟨b, o, none⟩)
          (first | assumption | exact S_of (Below.drew (Below.refl _ _)) | exact S_step (by assumption) (by assumption))
          (first | ((with_reducible refine (HK.out _ (by first | assumption | exact And.left (by assumption))).mono ?_); rintro e w1 ⟨rfl, hb1⟩))
        all_goals
          rename_i hH
          have Hb := Lib.hid hH.1
          clear hH
          go_step
          go_step
          go_meet
          exact ⟨_, rfl, rfl, Hb⟩
      obtain ⟨q, rfl, Hq, Hb⟩ := hcut
      have HA1 := Lib.hid (H.out.below Hb.out)
      clear cy cx hg HK H Hb
      cases q
      · have hr : ¬ r < 0 := by simpa using Hq.out
        have Hs1 := Lib.hid (HU.out.2 hr)
        clear HU Hq hr Hs
        go_wp2
        go_roundw
        case rel => exact ⟨i, h, hmi, hh1, by omega, rfl, rfl, Hs1, HA1⟩
        case measure => simp [intOf]; omega
      · have hr : r < 0 := by simpa using Hq.out
        have Hs1 := Lib.hid (HU.out.1 hr)
        clear HU Hq hr Hs
        go_wp2
        go_roundw
        case rel => exact ⟨h + 1, j, by omega, by omega, hjb, by go_num, rfl, Hs1, HA1⟩
        case measure => simp [intOf]; omega
    · obtain rfl : i = j := by omega
      obtain ⟨hs1, hs2⟩ := Hs.out.done HC.out.ord HY.out
      have HZ := Lib.hid hs1
      have HE := Lib.hid hs2
      have HL2 := Lib.hid (show (Y.take (i - m)).length = i - m by rw [List.length_take, Nat.min_eq_left]; have := HL.out; omega)
      have HA1 : RowKit.Hid (Arr w0 B g n cp (P ++ [x] ++ Y.take (i - m) ++ (Y.drop (i - m) ++ S)) wr) := by
        have := H.out
        rw [← List.take_append_drop (i - m) Y] at this
        exact Lib.hid (by simpa only [List.append_assoc] using this)
      have HM2 := Lib.hid HL.out.1
      generalize Y.take (i - m) = Y1 at *
      generalize Y.drop (i - m) = Y2 at *
      clear hs1 hs2 Hs H HA HC HMem HY hlt hij
      go_wp2
      go_loopw [13] (fun z wr => ∃ k t : Nat, k = a + t ∧ t ≤ i - m ∧ z = .int .i64 k ∧ RowKit.Hid (Arr w0 B g n cp (P ++ Y1.take t ++ [x] ++ Y1.drop t ++ (Y2 ++ S)) wr)) (fun z _ => i - (intOf z).toNat)
      case atStart => exact ⟨a, 0, by omega, Nat.zero_le _, rfl, Lib.hid (by simpa using HA1.out)⟩
      case round =>
        clear HA1
        obtain ⟨k, t, hkt, hti, rfl, H⟩ := hrel
        have hai : a + (i - m) + 1 = i := by have := HL.out; omega
        have hi1 : (0 : Int) ≤ i - 1 := by omega
        by_cases hlt : t < i - m
        · obtain ⟨y, hy⟩ : ∃ y, Y1[t]? = some y := ⟨_, List.getElem?_eq_getElem (by rw [HL2.out]; exact hlt)⟩
          have ht1 : t < Y1.length := by rw [HL2.out]; exact hlt
          have e0 : Y1.drop t = y :: Y1.drop (t + 1) := by
            rw [List.drop_eq_getElem_cons ht1]
            rw [List.getElem?_eq_getElem ht1] at hy
            rw [Option.some.inj hy]
          have e1 : Y1.take (t + 1) = Y1.take t ++ [y] := by
            rw [List.take_succ_eq_append_getElem ht1]
            rw [List.getElem?_eq_getElem ht1] at hy
            rw [Option.some.inj hy]
          have eq0 : P ++ Y1.take t ++ [x] ++ Y1.drop t ++ (Y2 ++ S) = (P ++ Y1.take t) ++ x :: [] ++ y :: (Y1.drop (t + 1) ++ (Y2 ++ S)) := by rw [e0]; simp only [List.append_assoc, List.cons_append, List.nil_append]
          have hA := H.out
          rw [eq0] at hA
          have lP : (P ++ Y1.take t).length = k := by rw [List.length_append, List.length_take, HL2.out, HM2.out, Nat.min_eq_left (by omega)]; omega
          have hs := swp_at (P := P ++ Y1.take t) (Q := []) (S := Y1.drop (t + 1) ++ (Y2 ++ S)) (x := x) (y := y)
          rw [lP, List.length_nil, Nat.add_zero] at hs
          have hx : ((P ++ Y1.take t) ++ x :: [] ++ y :: (Y1.drop (t + 1) ++ (Y2 ++ S)))[k]? = some x := by
            rw [List.append_assoc, List.getElem?_append_right (by rw [lP]; exact Nat.le_refl _), lP]; simp
          have hyy : ((P ++ Y1.take t) ++ x :: [] ++ y :: (Y1.drop (t + 1) ++ (Y2 ++ S)))[k + 1]? = some y := by
            rw [List.append_assoc, List.getElem?_append_right (by rw [lP]; omega), lP]; simp
          have hA2 := hA.drew.swap hx hyy
          have hA3 := hA.drew.swap hyy hx
          rw [swp_comm] at hA3
          rw [hs] at hA2 hA3
          have e2 : P ++ Y1.take (t + 1) ++ [x] ++ Y1.drop (t + 1) ++ (Y2 ++ S) = (P ++ Y1.take t) ++ y :: [] ++ x :: (Y1.drop (t + 1) ++ (Y2 ++ S)) := by rw [e1]; simp only [List.append_assoc, List.cons_append, List.nil_append]
          rw [← e2] at hA2 hA3
          have H2 := Lib.hid hA2
          have H3 := Lib.hid hA3
          have cx := hA.cell hx
          have cy := hA.cell hyy
          have fx := hA.free k
          have fy := hA.free (k + 1)
          have hg := hA.lt
          have hki : (k : Int) < i - 1 := by omega
          have hkn : (k : Int) + 1 < n := by omega
          clear hA hA2 hA3 e2 e1 e0 eq0 hx hyy hs lP hy ht1 H
          clear hai
          have Hkt := Lib.hid hkt
          clear hkt
          go_wp2
          go_region
          go_wp2
          go_roundw
          case rel => exact ⟨k + 1, t + 1, by have := Hkt.out; omega, by omega, by go_num, by first | exact H2 | exact H3⟩
          case measure => simp [intOf]; omega
        · obtain rfl : t = i - m := by omega
          have hki : ¬ (k : Int) < i - 1 := by omega
          have Hkt := Lib.hid hkt
          clear hkt hai
          go_wp2
          refine bodyPost_ret (v := .tuple #[]) (results_none rfl _ _ _) rfl ?_
          refine ⟨rfl, _, HZ.out, HE.out, ?_⟩
          have := H.out
          rw [List.take_of_length_le (by rw [HL2.out]; exact Nat.le_refl _), List.drop_of_length_le (by rw [HL2.out]; exact Nat.le_refl _)] at this
          simpa only [List.append_assoc, List.append_nil, List.nil_append] using this
end Go.Proofs.Ytodabeibdgancaa
/- symMergeCmpFunc: the other end of its recursion. -/
namespace Go.Proofs.Ytodabeibdgancaa
open Go Go.RowKit
/-- Where a search for the place of y among X stands. -/
structure SrB (c : Rw → Rw → Int) (y : Cel) (X : List Cel) (i j : Nat) : Prop where
  lo : ∀ x ∈ X.take i, ¬ cc c y x < 0
  hi : ∀ x ∈ X.drop j, cc c y x < 0
theorem SrB.up {c : Rw → Rw → Int} (hc : Ord3 (cc c)) {y : Cel} {X : List Cel} {i j h : Nat} (s : SrB c y X i j) (ha : AscC (cc c) X) (hh : h < X.length) (hl : ¬ cc c y X[h] < 0) : SrB c y X (h + 1) j := by
  refine ⟨fun x hx h2 => hl ?_, s.hi⟩
  rw [List.take_succ_eq_append_getElem hh] at hx
  rcases List.mem_append.1 hx with hx | hx
  · have : AscC (cc c) (X.take h ++ X[h] :: X.drop (h + 1)) := by rwa [← List.drop_eq_getElem_cons hh, List.take_append_drop]
    exact hc.lt_le h2 (this.cross x hx X[h] (List.mem_cons_self ..))
  · rw [List.mem_singleton.1 hx] at h2; exact h2
theorem SrB.dn {c : Rw → Rw → Int} (hc : Ord3 (cc c)) {y : Cel} {X : List Cel} {i j h : Nat} (s : SrB c y X i j) (ha : AscC (cc c) X) (hh : h < X.length) (hl : cc c y X[h] < 0) : SrB c y X i h := by
  refine ⟨s.lo, fun x hx => ?_⟩
  rw [List.drop_eq_getElem_cons hh] at hx
  rcases List.mem_cons.1 hx with rfl | hx
  · exact hl
  · have : AscC (cc c) (X.take h ++ (X[h] :: X.drop (h + 1))) := by rwa [← List.drop_eq_getElem_cons hh, List.take_append_drop]
    exact hc.lt_le hl ((List.pairwise_cons.1 this.right).1 x hx)
theorem SrB.done {c : Rw → Rw → Int} (hc : Ord3 (cc c)) {y : Cel} {X : List Cel} {i : Nat} (s : SrB c y X i i) (ha : AscC (cc c) X) : AscC (cc c) (X.take i ++ [y] ++ X.drop i) ∧ StEq (cc c) (X ++ [y]) (X.take i ++ [y] ++ X.drop i) := by
  have h : AscC (cc c) (X.take i ++ X.drop i) := by rwa [List.take_append_drop]
  refine ⟨(h.left.app (List.pairwise_singleton _ _) fun a ha b hb => ?_).app h.right fun a ha b hb => ?_, ?_⟩
  · rw [List.mem_singleton.1 hb]; exact hc.le (s.lo a ha)
  · rcases List.mem_append.1 ha with ha | ha
    · exact h.cross a ha b hb
    · rw [List.mem_singleton.1 ha]; have := s.hi b hb; omega
  · have h1 : StEq (cc c) (X.drop i ++ [y]) ([y] ++ X.drop i) := StEq.swap hc fun a ha b hb => by rw [List.mem_singleton.1 hb]; exact s.hi a ha
    have := (StEq.refl (c := cc c) (X.take i)).app h1
    rwa [← List.append_assoc, List.take_append_drop, ← List.append_assoc] at this
set_option maxHeartbeats 8000000 in
set_option maxRecDepth 100000 in
theorem symB_calls (K : FuncId) (cap : Array Value) (c : Rw → Rw → Int) (d0 : List Cel) (w0 : World) (B g n cp : Nat) (P X S : List Cel) (y : Cel) (w : World) (a m b : Nat) (hp : P.length = a) (hm : a + X.length = m) (hb : m + 1 = b) (hX2 : 2 ≤ X.length)
    (hC : CmpOk K cap c d0 w0 g) (hmem : ∀ x ∈ y :: X, x ∈ d0) (hX : AscC (cc c) X) (hA : Arr w0 B g n cp (P ++ X ++ [y] ++ S) w) (hmx : n ≤ 1099511627776) :
    Calls Try.prog 49 #[.slice (some ⟨g, 0, none⟩) n cp, .int .i64 a, .int .i64 m, .int .i64 b, .func (.func K) #[] cap] w fun e w' => e = .returned (.tuple #[]) ∧ ∃ Z, AscC (cc c) Z ∧ StEq (cc c) (X ++ [y]) Z ∧ Arr w0 B g n cp (P ++ Z ++ S) w' := by
  have hlen := hA.len
  simp only [List.length_append, List.length_cons, List.length_nil] at hlen
  have b1 : b ≤ n := by omega
  have b2 : m ≤ b := by omega
  have b3 : a < m := by omega
  have b4 : m < n := by omega
  have ht : ((m : Int) - a == 1) = false := by simp; omega
  have ht2 : ((b : Int) - m == 1) = true := by simp; omega
  have HL := Lib.hid (show P.length = a ∧ a + X.length = m ∧ m + 1 = b from ⟨hp, hm, hb⟩)
  have HA := Lib.hid hA
  have HC := Lib.hid hC
  have HX := Lib.hid hX
  have HMem := Lib.hid hmem
  have eg := hC.enter
  clear hA hlen hp hm hb hC hmem hX hX2
  go_enter Try.func49, Try.ntmps49
  go_wp2
  go_loopw [14, 15] (fun z10 z11 wr => ∃ i j : Nat, a ≤ i ∧ i ≤ j ∧ j ≤ m ∧ z10 = .int .i64 i ∧ z11 = .int .i64 j ∧ RowKit.Hid (SrB c y X (i - a) (j - a)) ∧ RowKit.Hid (Arr w0 B g n cp (P ++ X ++ [y] ++ S) wr)) (fun z10 z11 _ => (intOf z11).toNat - (intOf z10).toNat)
  case atStart => exact ⟨a, m, Nat.le_refl _, by omega, Nat.le_refl _, rfl, rfl, ⟨by simp, by rw [List.drop_of_length_le (by have := HL.out; omega)]; simp⟩, HA⟩
  case round =>
    obtain ⟨i, j, hmi, hij, hjb, rfl, rfl, Hs, H⟩ := hrel
    by_cases hlt : i < j
    · obtain ⟨h, hh⟩ : ∃ h : Nat, h = (i + j) / 2 := ⟨_, rfl⟩
      have hh1 : i ≤ h := by omega
      have hh2 : h < j := by omega
      have hk : h - a < X.length := by have := HL.out; omega
      have hget : (P ++ X ++ [y] ++ S)[h]? = some X[h - a] := by
        have := mid_get (P := P) (u := X) (S := [y] ++ S) hk
        rw [HL.out.1, show a + (h - a) = h by omega] at this
        rw [List.append_assoc (P ++ X)]
        exact this
      have hgx : (P ++ X ++ [y] ++ S)[m]? = some y := by
        have := mid_get (P := P ++ X) (u := [y]) (S := S) (i := 0) (by simp)
        rw [Nat.add_zero, List.length_append, HL.out.1, HL.out.2.1] at this
        exact this
      have cx := H.out.cell hget
      have cy := H.out.cell hgx
      have hg := H.out.lt
      have hup := fun hl => Hs.out.up HC.out.ord HX.out hk (j := j - a) hl
      have hdn := fun hl => Hs.out.dn HC.out.ord HX.out hk (i := i - a) hl
      have HU := Lib.hid (show (¬ cc c y X[h - a] < 0 → SrB c y X (h + 1 - a) (j - a)) ∧ (cc c y X[h - a] < 0 → SrB c y X (i - a) (h - a)) from ⟨fun hl => by have := hup hl; rwa [show h - a + 1 = h + 1 - a by omega] at this, hdn⟩)
      have HK := Lib.hid (fun w' (hb : Below wr.heap.size wr w') => HC.out.call y (HMem.out _ (List.mem_cons_self ..)) X[h - a] (HMem.out _ (List.mem_cons_of_mem _ (List.getElem_mem _))) w' (grownBy_bel H.out.gr hb))
      clear hup hdn hget hgx
      unfold cc at HU
      generalize X[h - a] = x at *
      generalize c y.r x.r = r at *
      clear hk
      have Hh := Lib.hid hh
      have i1 : (0 : Int) ≤ h := by omega
      have i2 : (h : Int) < n := by omega
      have i3 : (0 : Int) ≤ m := by omega
      have i4 : (m : Int) < n := by omega
      clear hh
      go_upto_region 16 with (fail)
      go_cut [16] (fun z wx => z = .int .i64 h ∧ wx = wr)
      case first =>
        go_wp2_with fail
        go_meet
        exact ⟨by have := Hh.out; congr 1; omega, rfl⟩
      obtain ⟨rfl, rfl⟩ := hcut
      go_upto_region 17 with (fail)
      go_cut [103] (fun z wx => ∃ q : Bool, z = .bool q ∧ RowKit.Hid (q = !decide (r < 0)) ∧ RowKit.Hid (Below wc.heap.size wc wx))
      case first =>
        go_region_held3 (fun w' => Below wc.heap.size wc w' ∧ ∀ b o, b < wc.heap.size → w'.cell? ⟨b, o, none⟩ = wc.cell? ⟨b, o, none⟩)
          (first | assumption | exact S_of (Below.drew (Below.refl _ _)) | exact S_step (by assumption) (by assumption))
          (first | ((with_reducible refine (HK.out _ (by first | assumption | exact And.left (by assumption))).mono ?_); rintro e w1 ⟨rfl, hb1⟩))
        all_goals
          rename_i hH
          have Hb := Lib.hid hH.1
          clear hH
          go_step
          go_step
          go_meet
          exact ⟨_, rfl, rfl, Hb⟩
      obtain ⟨q, rfl, Hq, Hb⟩ := hcut
      have HA1 := Lib.hid (H.out.below Hb.out)
      clear cy cx hg HK H Hb
      cases q
      · have hr : r < 0 := by simpa using Hq.out
        have Hs1 := Lib.hid (HU.out.2 hr)
        clear HU Hq hr Hs
        go_wp2
        go_roundw
        case rel => exact ⟨i, h, hmi, hh1, by omega, rfl, rfl, Hs1, HA1⟩
        case measure => simp [intOf]; omega
      · have hr : ¬ r < 0 := by simpa using Hq.out
        have Hs1 := Lib.hid (HU.out.1 hr)
        clear HU Hq hr Hs
        go_wp2
        go_roundw
        case rel => exact ⟨h + 1, j, by omega, by omega, hjb, by go_num, rfl, Hs1, HA1⟩
        case measure => simp [intOf]; omega
    · obtain rfl : i = j := by omega
      obtain ⟨hs1, hs2⟩ := Hs.out.done HC.out.ord HX.out
      have HZ := Lib.hid hs1
      have HE := Lib.hid hs2
      have HL2 := Lib.hid (show (P ++ X.take (i - a)).length = i ∧ (X.drop (i - a)).length = m - i by rw [List.length_append, List.length_take, Nat.min_eq_left (by have := HL.out; omega), List.length_drop]; have := HL.out; omega)
      have HA1 : RowKit.Hid (Arr w0 B g n cp ((P ++ X.take (i - a)) ++ X.drop (i - a) ++ [y] ++ S) wr) := by
        have := H.out
        rw [← List.take_append_drop (i - a) X] at this
        exact Lib.hid (by simpa only [List.append_assoc] using this)
      generalize X.take (i - a) = X1 at *
      generalize X.drop (i - a) = X2 at *
      clear hs1 hs2 Hs H HA HC HMem HX hlt hij
      go_wp2
      go_loopw [17] (fun z wr => ∃ k t : Nat, k = i + t ∧ k ≤ m ∧ z = .int .i64 k ∧ RowKit.Hid (Arr w0 B g n cp ((P ++ X1) ++ X2.take t ++ [y] ++ X2.drop t ++ S) wr)) (fun z _ => (intOf z).toNat - i)
      case atStart => exact ⟨m, m - i, by omega, Nat.le_refl _, rfl, Lib.hid (by rw [List.take_of_length_le (by rw [HL2.out.2]; exact Nat.le_refl _), List.drop_of_length_le (by rw [HL2.out.2]; exact Nat.le_refl _)]; simpa using HA1.out)⟩
      case round =>
        clear HA1
        obtain ⟨k, t, hkt, hkm, rfl, H⟩ := hrel
        by_cases hlt : 0 < t
        · obtain ⟨t', rfl⟩ : ∃ t', t = t' + 1 := ⟨t - 1, by omega⟩
          have ht1 : t' < X2.length := by rw [HL2.out.2]; omega
          obtain ⟨x, hy⟩ : ∃ x, X2[t'] = x := ⟨_, rfl⟩
          have e0 : X2.drop t' = x :: X2.drop (t' + 1) := by rw [List.drop_eq_getElem_cons ht1, hy]
          have e1 : X2.take (t' + 1) = X2.take t' ++ [x] := by rw [List.take_succ_eq_append_getElem ht1, hy]
          have eq0 : (P ++ X1) ++ X2.take (t' + 1) ++ [y] ++ X2.drop (t' + 1) ++ S = (P ++ X1 ++ X2.take t') ++ x :: [] ++ y :: (X2.drop (t' + 1) ++ S) := by rw [e1]; simp only [List.append_assoc, List.cons_append, List.nil_append]
          have hA := H.out
          rw [eq0] at hA
          obtain ⟨k', rfl⟩ : ∃ k', k = k' + 1 := ⟨k - 1, by omega⟩
          have lP : (P ++ X1 ++ X2.take t').length = k' := by rw [List.length_append, List.length_take, HL2.out.1, HL2.out.2, Nat.min_eq_left (by omega)]; omega
          have hs := swp_at (P := P ++ X1 ++ X2.take t') (Q := []) (S := X2.drop (t' + 1) ++ S) (x := x) (y := y)
          rw [lP, List.length_nil, Nat.add_zero] at hs
          have hx : ((P ++ X1 ++ X2.take t') ++ x :: [] ++ y :: (X2.drop (t' + 1) ++ S))[k']? = some x := by
            rw [List.append_assoc, List.getElem?_append_right (by rw [lP]; exact Nat.le_refl _), lP]; simp
          have hyy : ((P ++ X1 ++ X2.take t') ++ x :: [] ++ y :: (X2.drop (t' + 1) ++ S))[k' + 1]? = some y := by
            rw [List.append_assoc, List.getElem?_append_right (by rw [lP]; omega), lP]; simp
          have hA2 := hA.drew.swap hx hyy
          have hA3 := hA.drew.swap hyy hx
          rw [swp_comm] at hA3
          rw [hs] at hA2 hA3
          have e2 : (P ++ X1) ++ X2.take t' ++ [y] ++ X2.drop t' ++ S = (P ++ X1 ++ X2.take t') ++ y :: [] ++ x :: (X2.drop (t' + 1) ++ S) := by rw [e0]; simp only [List.append_assoc, List.cons_append, List.nil_append]
          rw [← e2] at hA2 hA3
          have H2 := Lib.hid hA2
          have H3 := Lib.hid hA3
          have cx := hA.cell hx
          have cy := hA.cell hyy
          have fx := hA.free k'
          have fy := hA.free (k' + 1)
          have hg := hA.lt
          have hki : (i : Int) < (k' + 1 : Nat) := by omega
          have hkn : (k' : Int) + 1 < n := by omega
          clear hA hA2 hA3 e2 e1 e0 eq0 hx hyy hs lP hy ht1 H
          have Hkt := Lib.hid hkt
          clear hkt
          go_wp2
          go_region
          go_wp2
          go_roundw
          case rel => exact ⟨k', t', by have := Hkt.out; omega, by omega, by go_num, by first | exact H2 | exact H3⟩
          case measure => simp [intOf]; omega
        · obtain rfl : t = 0 := by omega
          obtain rfl : k = i := by omega
          clear hkt
          go_wp2
          refine bodyPost_ret (v := .tuple #[]) (results_none rfl _ _ _) rfl ?_
          refine ⟨rfl, _, HZ.out, HE.out, ?_⟩
          have := H.out
          rw [List.take_zero, List.drop_zero] at this
          simpa only [List.append_assoc, List.append_nil, List.nil_append] using this
end Go.Proofs.Ytodabeibdgancaa
/- symMergeCmpFunc: the law of its halves. -/
namespace Go.Proofs.Ytodabeibdgancaa
open Go Go.RowKit
/-- Where the search for the cut of X and Y stands: k elements go to the left half. -/
structure SrC (c : Rw → Rw → Int) (X Y : List Cel) (k i j : Nat) : Prop where
  lo : i = 0 ∨ Y.length ≤ k - i ∨ ∃ x y, 1 ≤ i ∧ X[i - 1]? = some x ∧ Y[k - i]? = some y ∧ ¬ cc c y x < 0
  hi : X.length ≤ j ∨ k ≤ j ∨ ∃ x y, X[j]? = some x ∧ Y[k - (j + 1)]? = some y ∧ j + 1 ≤ k ∧ cc c y x < 0
theorem asc_last {c : Cel → Cel → Int} {l : List Cel} (h : AscC c l) {i j : Nat} {x y : Cel} (hx : l[i]? = some x) (hy : l[j]? = some y) (hij : i ≤ j) (hc : Ord3 c) : c x y ≤ 0 := by
  obtain ⟨h1, rfl⟩ := List.getElem?_eq_some_iff.1 hx
  obtain ⟨h2, rfl⟩ := List.getElem?_eq_some_iff.1 hy
  by_cases e : i = j
  · subst e; rw [hc.self]; exact Int.le_refl _
  · exact (List.pairwise_iff_getElem.1 h) i j h1 h2 (by omega)
theorem SrC.done {c : Rw → Rw → Int} (hc : Ord3 (cc c)) {X Y : List Cel} {k s : Nat} (h : SrC c X Y k s s) (hX : AscC (cc c) X) (hY : AscC (cc c) Y) :
    (∀ x ∈ X.drop s, ∀ y ∈ Y.take (k - s), cc c y x < 0) ∧ (∀ x ∈ X.take s, ∀ y ∈ Y.drop (k - s), cc c x y ≤ 0) := by
  constructor
  · intro x hx y hy
    obtain ⟨i, hi⟩ := List.mem_iff_getElem?.1 hx
    obtain ⟨j, hj⟩ := List.mem_iff_getElem?.1 hy
    rw [List.getElem?_drop] at hi
    rw [List.getElem?_take] at hj
    split at hj
    · have h1 := (List.getElem?_eq_some_iff.1 hi).1
      rcases h.hi with h2 | h2 | ⟨x', y', hx', hy', h2, h3⟩
      · omega
      · omega
      · exact hc.lt_le (hc.le_lt (asc_last hY hj hy' (by omega) hc) h3) (asc_last hX hx' hi (by omega) hc)
    · cases hj
  · intro x hx y hy
    obtain ⟨i, hi⟩ := List.mem_iff_getElem?.1 hx
    obtain ⟨j, hj⟩ := List.mem_iff_getElem?.1 hy
    rw [List.getElem?_drop] at hj
    rw [List.getElem?_take] at hi
    split at hi
    · have h1 := (List.getElem?_eq_some_iff.1 hj).1
      rcases h.lo with h2 | h2 | ⟨x', y', h2, hx', hy', h3⟩
      · omega
      · omega
      · exact hc.trans _ _ _ (asc_last hX hi hx' (by omega) hc) (hc.trans _ _ _ (hc.le h3) (asc_last hY hy' hj (by omega) hc))
    · cases hi
/-- Both halves merged. -/
theorem merge_join {c : Rw → Rw → Int} (hc : Ord3 (cc c)) {u1 u2 v1 v2 W1 W2 : List Cel} (hX : AscC (cc c) (u1 ++ u2)) (hY : AscC (cc c) (v1 ++ v2)) (h1 : ∀ x ∈ u2, ∀ y ∈ v1, cc c y x < 0) (h2 : ∀ x ∈ u1, ∀ y ∈ v2, cc c x y ≤ 0)
    (a1 : AscC (cc c) W1) (a2 : AscC (cc c) W2) (e1 : StEq (cc c) (u1 ++ v1) W1) (e2 : StEq (cc c) (u2 ++ v2) W2) : AscC (cc c) (W1 ++ W2) ∧ StEq (cc c) ((u1 ++ u2) ++ (v1 ++ v2)) (W1 ++ W2) := by
  refine ⟨a1.app a2 fun x hx y hy => ?_, ?_⟩
  · have hx' := e1.mem hc hx
    have hy' := e2.mem hc hy
    rcases List.mem_append.1 hx' with hx' | hx' <;> rcases List.mem_append.1 hy' with hy' | hy'
    · exact hX.cross x hx' y hy'
    · exact h2 x hx' y hy'
    · have := h1 y hy' x hx'; omega
    · exact hY.cross x hx' y hy'
  · have h3 : StEq (cc c) (u2 ++ v1) (v1 ++ u2) := StEq.swap hc h1
    have h4 := ((StEq.refl (c := cc c) u1).app h3).app (StEq.refl (c := cc c) v2)
    have h5 := h4.trans (show StEq (cc c) _ (W1 ++ W2) from by rw [show u1 ++ (v1 ++ u2) ++ v2 = (u1 ++ v1) ++ (u2 ++ v2) by simp]; exact e1.app e2)
    rwa [show u1 ++ (u2 ++ v1) ++ v2 = (u1 ++ u2) ++ (v1 ++ v2) by simp] at h5
end Go.Proofs.Ytodabeibdgancaa
