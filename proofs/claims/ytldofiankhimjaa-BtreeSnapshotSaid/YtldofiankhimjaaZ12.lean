/- Part 12 of the proof: RfP, RfQ, Py, Kb, DpI, P5, VaI -/
import Derived.Test.YtldofiankhimjaaZ11
import Derived.Test.YtldofiankhimjaaZ02
import Derived.Test.YtldofiankhimjaaZ01
import Derived.Test.YtldofiankhimjaaZ05
import Derived.Test.YtldofiankhimjaaZ00
import Derived.IntWalk
/- The reference's Put. -/
namespace Go.Proofs.Ytldofiankhimjaa
open Go Go.RowKit
theorem St.emptyP {w0 w : World} {fp0 : List Nat} {L : List Asn} (h : St w0 fp0 L w) : St w0 fp0 (prA (.slice (some ⟨w.heap.size, 0, none⟩) 0 0) [] :: L) (w.alloc (.cells #[] 51)) :=
  (h.newblk 51 #[]).fold (L1 := [blkA w.heap.size 51 #[]]) fun f ⟨f1, f2, hf, h3, _, e⟩ => by
    obtain rfl := h3
    rw [List.append_nil] at e
    subst e
    exact row_empty hf
/-- append of a part that is only read, at the first piece. -/
theorem St.appSrc {w0 w : World} {fp0 : List Nat} {L : List Asn} (ty : TypeId) {v s : Value} {xs m : MI} (h : St w0 fp0 (prA v xs :: L) w) (hs : PrSrc w s m) (hlen : xs.length + m.length < 1099511627776) :
    ∃ v' w', (Builtin.append_ #[31, 31] ty #[v, s]).run Try.prog w = .ok v' w' ∧ St w0 fp0 (prA v' (xs ++ m) :: L) w' := by
  obtain ⟨f, hp, hset⟩ := h.get 0 rfl
  obtain ⟨v', w', f', hr, ho, ht⟩ := runPrs w ty hp hs hlen
  exact ⟨v', w', hr, hset _ _ _ ho ht⟩
theorem St.app1 {w0 w : World} {fp0 : List Nat} {L : List Asn} (ty : TypeId) {v : Value} {xs : MI} (h : St w0 fp0 (prA v xs :: L) w) (y : Int × Int) (hlen : xs.length + 1 < 1099511627776) :
    ∃ v' w', (Builtin.append_ #[31, 31] ty #[v, .slice (some ⟨w.heap.size, 0, none⟩) 1 1]).run Try.prog (w.alloc (.cells #[.int .i64 y.1, .int .i64 y.2] 51)) = .ok v' w' ∧ St w0 fp0 (prA v' (xs ++ [y]) :: L) w' := by
  have h1 := h.newblk 51 #[.int .i64 y.1, .int .i64 y.2]
  obtain ⟨_, hb, _⟩ := h1.has 0 rfl
  obtain ⟨f, hp, hset⟩ := h1.get 1 rfl
  obtain ⟨v', w', f', hr, ho, ht⟩ := runPr _ ty hp w.heap.size y 51 hb hlen
  exact ⟨v', w', hr, (hset _ _ _ ho ht).drop⟩
set_option maxHeartbeats 4000000 in
set_option maxRecDepth 20000 in
theorem RPut_calls (l : MI) (k x : Int) (v : Value) (hlen : l.length < 1099511627770) (w0 w : World) (fp0 : List Nat) (R : List Asn) (hS : St w0 fp0 (prA v l :: R) w) :
    Calls Try.prog 28 #[v, .int .i64 k, .int .i64 x] w fun e w' => ∃ v', e = .returned v' ∧ ∃ v1, St w0 fp0 (prA v' ((delF k l).take (posK (delF k l) k) ++ [(k, x)] ++ (delF k l).drop (posK (delF k l) k)) :: prA v1 (delF k l) :: prA v l :: R) w' := by
  have HD := Lib.hid (RDelete_calls l k v (by omega) w0 w fp0 R hS)
  have hlen2 : (delF k l).length < 1099511627770 := Nat.lt_of_le_of_lt (List.length_filter_le _ _) hlen
  generalize delF k l = m at *
  have Hlen := Lib.hid hlen2
  obtain ⟨p, hp⟩ : ∃ p, posK m k = p := ⟨_, rfl⟩
  have hpl : p ≤ m.length := by rw [← hp]; exact posK_le m k
  rw [hp]
  have Hp := Lib.hid hp
  clear hlen hlen2 hS hp
  go_enter Try.func28, Try.ntmps28
  go_wp2_with fail
  (with_reducible refine HD.out.mono ?_)
  rintro e w1 ⟨v1, rfl, hs1⟩
  have HS1 := Lib.hid hs1
  have HP : RowKit.Hid (Calls Try.prog 54 #[v1, .int .i64 k] w1 fun e w2 => e = .returned (.int .i64 (p : Nat)) ∧ w1 = w2) := by
    obtain ⟨_, hq⟩ := hs1.has 0 rfl
    rw [← Hp.out]
    exact place_calls m k v1 w1 (prA_at hq)
  clear hs1 HD
  go_wp2_with fail
  (with_reducible refine HP.out.mono ?_)
  rintro e w2 ⟨rfl, rfl⟩
  clear HP
  go_upto_region 3 with (fail)
  go_cut [8] (fun z wx => RowKit.Hid (St w0 fp0 (prA z (m.take p) :: prA v1 m :: prA v l :: R) wx))
  case first =>
    obtain ⟨_, hq⟩ := HS1.out.has 0 rfl
    have h1 := HS1.out.emptyP
    rcases pr_cases hq with ⟨rfl, rfl⟩ | ⟨g, c, rfl, hc, hm, hsrc⟩
    · obtain rfl : p = 0 := by simpa using hpl
      have H1 := Lib.hid h1
      clear h1 hq
      go_wp2
      go_meet
      exact H1
    · by_cases hp0 : p = 0
      · subst hp0
        have H1 := Lib.hid h1
        clear h1 hq hsrc
        generalize hn : m.length = n at *
        have Hn := Lib.hid hn
        clear hn
        go_wp2
        go_meet
        exact H1
      · have hsrc2 : ∀ (j : Nat) u, (entsI m)[j]? = some u → (w1.alloc (.cells #[] 51)).cell? ⟨g, j, none⟩ = some u := by
          intro j u hu
          have h2 := hsrc j u hu
          obtain ⟨a', c', e', -, -, hcs⟩ := row_shape hq
          have hj : j < m.length * 2 := by rw [← entsI_len]; exact (List.getElem?_eq_some_iff.1 hu).1
          obtain ⟨g', e2, hg, -, -⟩ := hcs j hj
          have e3 := (Value.slice.inj e').1
          rw [e2] at e3
          injection e3 with e3
          injection e3 with e3
          subst e3
          rw [((Below.refl w1.heap.size w1).alloc (Nat.le_refl _) _).cell hg]
          exact h2
        obtain ⟨v', w', hr, h3⟩ := h1.appSrc 31 (src_take (c := c) hsrc2 p hpl) (by have := Hlen.out; rw [List.length_take]; simp; omega)
        have HR := Lib.hid hr
        have H3 := Lib.hid h3
        clear h1 hq hsrc hsrc2 hr h3
        generalize hn : m.length = n at *
        have Hn := Lib.hid hn
        clear hn
        go_wp2_with (at_builtin; refine wpList_append_run rfl _ _ _ rfl rfl rfl HR.out ?_)
        go_meet
        exact H3
  clear HS1
  obtain ⟨v2, w2, hr, h3⟩ := hcut.out.app1 31 (k, x) (by have := Hlen.out; rw [List.length_take]; omega)
  obtain ⟨_, hq⟩ := h3.has 1 rfl
  obtain ⟨_, hq2⟩ := h3.has 0 rfl
  obtain ⟨a2, c2, rfl, hc2, -, hcs2⟩ := row_shape hq2
  have hn2 : (m.take p ++ [(k, x)]).length = p + 1 := by rw [List.length_append, List.length_take, Nat.min_eq_left hpl, List.length_singleton]
  have hl2 : 0 < (m.take p ++ [(k, x)]).length * 2 := by rw [hn2]; omega
  obtain ⟨g2, rfl, -⟩ := hcs2 0 hl2
  rw [hn2] at hr h3 hc2
  have HR := Lib.hid hr
  clear hcut hr hq2 hn2 hl2 hcs2
  rcases pr_cases hq with ⟨rfl, rfl⟩ | ⟨g, c, rfl, hc, hm, hsrc⟩
  · obtain rfl : p = 0 := by simpa using hpl
    have H3 := Lib.hid h3
    clear h3 hq
    go_wp2_with (at_builtin; refine wpList_append_run rfl _ _ _ rfl rfl rfl HR.out ?_)
    go_ret
    exact ⟨_, rfl, _, H3.out⟩
  · by_cases hpn : p = m.length
    · have H3 : RowKit.Hid (St w0 fp0 (prA (.slice (some ⟨g2, 0, none⟩) (p + 1) c2) (m.take p ++ [(k, x)] ++ m.drop p) :: prA (.slice (some ⟨g, 0, none⟩) m.length c) m :: prA v l :: R) w2) := by
        show St _ _ _ _
        rw [List.drop_of_length_le (by omega), List.append_nil]
        exact h3
      clear h3 hq hsrc
      generalize hn : m.length = n at *
      subst hpn
      have Hn := Lib.hid hn
      clear hn
      have e0 : p - p = 0 := by omega
      by_cases hcn : c = p
      · subst hcn
        go_wp2_with (at_builtin; refine wpList_append_run rfl _ _ _ rfl rfl rfl HR.out ?_)
        go_ret
        have H5 := H3.out
        rw [List.append_assoc] at H5
        exact ⟨_, rfl, _, H5⟩
      · go_wp2_with (at_builtin; refine wpList_append_run rfl _ _ _ rfl rfl rfl HR.out ?_)
        go_ret
        have H5 := H3.out
        rw [List.append_assoc] at H5
        exact ⟨_, rfl, _, H5⟩
    · obtain ⟨v', w', hr, h4⟩ := h3.appSrc 31 (src_drop (c := c - p) hsrc p hpl) (by have := Hlen.out; rw [List.length_append, List.length_take, List.length_singleton, List.length_drop]; omega)
      have HR2 := Lib.hid hr
      have H4 := Lib.hid h4
      clear h3 hq hr h4 hsrc
      generalize hn : m.length = n at *
      have Hn := Lib.hid hn
      clear hn
      have hp2 : ¬ n - p = 0 := by omega
      have hp3 : ¬ c = p := by omega
      go_wp2_with (at_builtin; first | refine wpList_append_run rfl _ _ _ rfl rfl rfl HR.out ?_ | refine wpList_append_run rfl _ _ _ rfl rfl rfl HR2.out ?_)
      go_ret
      have H5 := H4.out
      rw [List.append_assoc] at H5
      exact ⟨_, rfl, _, H5⟩
end Go.Proofs.Ytldofiankhimjaa
/- The reference's Put and From are the map's. -/
namespace Go.Proofs.Ytldofiankhimjaa
open Go Go.RowKit
theorem posK_all {A B : MI} {k : Int} (h : AllLt A k) (h2 : AllGt k B) : posK (A ++ B) k = A.length := by
  refine posK_eq (by rw [List.length_append]; omega) (fun j hj hji => ?_) (fun hi => ?_)
  · rw [List.getElem_append_left hji]
    exact h _ (List.getElem_mem _)
  · rw [List.getElem_append_right (Nat.le_refl _)]
    exact ltK_asymm (h2 _ (List.getElem_mem _))
theorem putF_putM {l : MI} (ha : AscM l) (k x : Int) : (delF k l).take (posK (delF k l) k) ++ [(k, x)] ++ (delF k l).drop (posK (delF k l) k) = putM l k x := by
  rw [delF_delM ha k]
  have hab : ∃ A B : MI, AllLt A k ∧ AllGt k B ∧ delM l k = A ++ B ∧ putM l k x = A ++ (k, x) :: B := by
    have h2 := posK_lt l k
    cases hh : hasK l k with
    | true =>
      obtain ⟨z, m, hd, he⟩ := hasK_yes hh
      have e : l = l.take (posK l k) ++ z :: m := by rw [← hd, List.take_append_drop]
      generalize l.take (posK l k) = A at *
      subst e
      have hg : AllGt k m := by
        have := ha.mid.2.2.2.1
        rw [he] at this
        exact this
      exact ⟨A, m, h2, hg, delM_here h2 he, putM_here h2 he x⟩
    | false =>
      have hg := hasK_no ha hh
      have e : l = l.take (posK l k) ++ l.drop (posK l k) := (List.take_append_drop _ _).symm
      generalize l.take (posK l k) = A at *
      generalize l.drop (posK l k) = B at *
      subst e
      exact ⟨A, B, h2, hg, delM_none h2 hg, putM_new h2 hg x⟩
  obtain ⟨A, B, h1, h2, e1, e2⟩ := hab
  rw [e1, e2, posK_all h1 h2, List.take_left, List.drop_left, List.append_assoc]
  rfl
theorem from_selM {l : MI} (ha : AscM l) (k : Int) : l.drop (posK l k) = selM (some k) none l := by
  have e : l = l.take (posK l k) ++ l.drop (posK l k) := (List.take_append_drop _ _).symm
  have h2 := posK_lt l k
  have h3 : ∀ y ∈ l.drop (posK l k), ¬ ltK y.1 k := by
    intro y hy
    obtain ⟨i, hi⟩ := List.mem_iff_getElem?.1 hy
    rw [List.getElem?_drop] at hi
    exact posK_ge ha (Nat.le_add_right _ _) hi
  generalize l.take (posK l k) = A at *
  generalize l.drop (posK l k) = B at *
  subst e
  rw [selM_append]
  have e1 : selM (some k) none A = [] := by
    unfold selM
    rw [List.filter_eq_nil_iff]
    intro y hy
    simp [inR, h2 y hy]
  have e2 : selM (some k) none B = B := by
    unfold selM
    rw [List.filter_eq_self]
    intro y hy
    simp [inR, h3 y hy]
  rw [e1, e2, List.nil_append]
end Go.Proofs.Ytldofiankhimjaa
/- play: a tree and its reference after some operations. -/
namespace Go.Proofs.Ytldofiankhimjaa
open Go Go.RowKit
/-- One operation. -/
def opM (l : MI) (o : Int × Int × Int) : MI := if o.1 % 3 = 0 then putM l o.2.1 o.2.2 else if o.1 % 3 = 1 then delM l o.2.1 else l
def playM (ops : List (Int × Int × Int)) : MI := ops.foldl opM []
theorem putM_len (l : MI) (k v : Int) : (putM l k v).length ≤ l.length + 1 := by
  induction l with
  | nil => simp [putM]
  | cons y l ih =>
    unfold putM
    split
    · simp only [List.length_cons]; omega
    · split
      · simp
      · simp
theorem delM_len (l : MI) (k : Int) : (delM l k).length ≤ l.length := by
  induction l with
  | nil => simp [delM]
  | cons y l ih =>
    unfold delM
    split
    · simp
    · simp only [List.length_cons]; omega
theorem opM_len (l : MI) (o : Int × Int × Int) : (opM l o).length ≤ l.length + 1 := by
  unfold opM
  split
  · exact putM_len _ _ _
  · split
    · have := delM_len l o.2.1; omega
    · omega
theorem foldl_opM_len (ops : List (Int × Int × Int)) : ∀ l : MI, (ops.foldl opM l).length ≤ l.length + ops.length := by
  induction ops with
  | nil => intro l; simp
  | cons o ops ih =>
    intro l
    have h1 := ih (opM l o)
    have h2 := opM_len l o
    simp only [List.foldl_cons, List.length_cons]
    omega
theorem playM_len (ops : List (Int × Int × Int)) : (playM ops).length ≤ ops.length := by
  have := foldl_opM_len ops []
  rw [List.length_nil, Nat.zero_add] at this
  exact this
theorem playM_snoc (ops : List (Int × Int × Int)) (o : Int × Int × Int) : playM (ops ++ [o]) = opM (playM ops) o := by
  unfold playM
  rw [List.foldl_append]
  rfl
theorem opt_valI (m : Option Int) : (m.map valI).getD (.int .i64 0) = .int .i64 (m.getD 0) := by cases m <;> rfl
/-- A list of operations that can be read. -/
def OpsAt (w : World) (v : Value) (l : List (Int × Int × Int)) : Prop :=
  l.length ≤ maxLen ∧ ∃ a c, v = .slice a l.length c ∧ l.length ≤ c ∧ ∀ i (hi : i < l.length), ∃ g o, a = some ⟨g, o, none⟩ ∧ g < w.heap.size ∧ w.cell? ⟨g, o + i * 3, none⟩ = some (.int .u8 l[i].1) ∧ w.cell? ⟨g, o + i * 3 + 1, none⟩ = some (.int .i64 l[i].2.1) ∧ w.cell? ⟨g, o + i * 3 + 2, none⟩ = some (.int .i64 l[i].2.2) ∧ 0 ≤ l[i].1 ∧ l[i].1 < 256
theorem OpsAt.below {w w' : World} {v : Value} {l : List (Int × Int × Int)} (h : OpsAt w v l) (hb : Below w.heap.size w w') : OpsAt w' v l := by
  obtain ⟨h1, a, c, h2, h3, h4⟩ := h
  refine ⟨h1, a, c, h2, h3, fun i hi => ?_⟩
  obtain ⟨g, o, e, hg, c0, c1, c2, c3⟩ := h4 i hi
  exact ⟨g, o, e, Nat.lt_of_lt_of_le hg hb.size, (hb.cell (p := ⟨g, _, none⟩) hg).trans c0, (hb.cell (p := ⟨g, _, none⟩) hg).trans c1, (hb.cell (p := ⟨g, _, none⟩) hg).trans c2, c3⟩
theorem St.below0 {w0 w : World} {L : List Asn} (h : St w0 [] L w) : Below w0.heap.size w0 w := by
  obtain ⟨fp, -, ht⟩ := h
  exact ht.below (Nat.le_refl _) fun k hk => nomatch hk
theorem St.asc {w0 w : World} {fp0 : List Nat} {L : List Asn} {o h tb : Nat} {l : MI} (hs : St w0 fp0 (objI o h l tb :: L) w) : AscM l := by
  obtain ⟨_, ho⟩ := hs.has 0 rfl
  obtain ⟨x, rb, ⟨-, g2, g3⟩, -⟩ := obj_seesI ho
  rw [← g3]
  exact g2
set_option maxHeartbeats 4000000 in
set_option maxRecDepth 20000 in
theorem play_calls (n : Int) (ops : List (Int × Int × Int)) (v : Value) (w0 w : World) (R : List Asn) (hv : OpsAt w0 v ops) (hlen : ops.length < 1000000) (hS : St w0 [] R w) :
    Calls Try.prog 24 #[.int .i64 n, v] w fun e w' => ∃ tb h v', e = .returned (.tuple #[ptrI tb, v', .bool true]) ∧ St w0 [] (objI (clampO n) h (playM ops) tb :: prA v' (playM ops) :: R) w' := by
  have ho := clampO_lo n
  have ho' := clampO_hi n
  have HN := Lib.hid (NewI_calls n w0 w [] R hS)
  generalize clampO n = O at *
  unfold ptrI at *
  obtain ⟨hm, a, c, rfl, hc, hcell⟩ := hv
  have Hcell := Lib.hid hcell
  have Hlen := Lib.hid hlen
  have Ho := Lib.hid ho
  have Ho' := Lib.hid ho'
  obtain ⟨N, hN⟩ : ∃ N, ops.length = N := ⟨_, rfl⟩
  have HN' := Lib.hid hN
  have hNb : N < 1000000 := by omega
  rw [hN]
  clear hcell hc hm hlen ho ho' hN hS
  go_enter Try.func24, Try.ntmps24
  go_wp2_with fail
  (with_reducible refine HN.out.mono ?_)
  rintro e w1 ⟨tb, rfl, h1⟩
  have H1 : RowKit.Hid (∃ h, St w0 [] (objI O h (playM (ops.take 0)) tb :: prA (.slice none 0 0) (playM (ops.take 0)) :: R) w1) := ⟨0, ((h1.nilR 51 2).perm (List.Perm.swap _ _ _))⟩
  clear h1 HN
  go_wp2
  go_loopg [8, 21] N (fun g z8 z21 wr => ∃ k : Nat, z21 = .int .i64 k ∧ g + k = N ∧ RowKit.Hid (∃ h, St w0 [] (objI O h (playM (ops.take k)) tb :: prA z8 (playM (ops.take k)) :: R) wr))
  case atStart => exact ⟨0, rfl, rfl, H1⟩
  case round =>
    clear H1
    obtain ⟨k, rfl, hgk, Hs⟩ := hrel
    by_cases hk : k < N
    · obtain ⟨h, hs⟩ := Hs.out
      have Hs := Lib.hid hs
      have hkl : k < ops.length := by rw [HN'.out]; exact hk
      obtain ⟨g, o, rfl, hg, c0, c1, c2, k0, k1⟩ := Hcell.out k hkl
      have hb0 := hs.below0
      have hasc := hs.asc
      have Hasc := Lib.hid hasc
      have hstep : playM (ops.take (k + 1)) = opM (playM (ops.take k)) ops[k] := by
        rw [List.take_add_one, List.getElem?_eq_getElem hkl]
        exact playM_snoc _ _
      have Hstep := Lib.hid hstep
      have hl40 : (playM (ops.take k)).length < 1000000 := by have := playM_len (ops.take k); rw [List.length_take] at this; omega
      have Hl40 := Lib.hid hl40
      replace c0 := (hb0.cell (p := ⟨g, o + k * 3, none⟩) hg).trans c0
      replace c1 := (hb0.cell (p := ⟨g, o + k * 3 + 1, none⟩) hg).trans c1
      replace c2 := (hb0.cell (p := ⟨g, o + k * 3 + 2, none⟩) hg).trans c2
      replace hg : g < wr.heap.size := Nat.lt_of_lt_of_le hg hb0.size
      clear hs hb0 hasc hstep hl40
      generalize playM (ops.take k) = l at *
      generalize ops[k] = op at *
      obtain ⟨K, X, V⟩ := op
      simp only at c0 c1 c2 k0 k1 Hstep
      have HGet : RowKit.Hid (∀ w', Below wr.heap.size wr w' → Calls Try.prog 51 #[u8, .int .i64 X] w' fun e w1 => e = .returned (.tuple #[((getM l X).map valI).getD (.int .i64 0), .bool (getM l X).isSome]) ∧ w' = w1) := by
        intro w' hb
        obtain ⟨_, hp⟩ := (Hs.out.mono hb).has 1 rfl
        exact RGet_calls l Hasc.out X u8 w' (prA_at hp)
      have hkn : (k : Int) < N := by omega
      have Hgk := Lib.hid hgk
      clear hkl hgk
      go_upto_region 8 with (fail)
      generalize hW2 : wr.alloc _ = W2
      have hb2 : Below wr.heap.size wr W2 := by rw [← hW2]; exact (Below.refl _ _).alloc (Nat.le_refl _) _
      have d0 := World.cell?_alloc_new wr _ _ 0 |>.symm.trans (congrArg (fun w => World.cell? w ⟨wr.heap.size, 0, none⟩) hW2) |>.symm
      have d1 := World.cell?_alloc_new wr _ _ 1 |>.symm.trans (congrArg (fun w => World.cell? w ⟨wr.heap.size, 1, none⟩) hW2) |>.symm
      have d2 := World.cell?_alloc_new wr _ _ 2 |>.symm.trans (congrArg (fun w => World.cell? w ⟨wr.heap.size, 2, none⟩) hW2) |>.symm
      simp only [List.getElem?_toArray, List.getElem?_cons_zero, List.getElem?_cons_succ] at d0 d1 d2
      have dl : wr.heap.size < W2.heap.size := by rw [← hW2]; simp
      have HG := Lib.hid (HGet.out W2 hb2)
      rw [opt_valI] at HG
      have H2 : RowKit.Hid (St w0 [] (objI O h l tb :: blkA wr.heap.size 53 #[.int .u8 K, .int .i64 X, .int .i64 V] :: prA u8 l :: R) W2) := by
        have h2 := Hs.out.newblk 53 #[.int .u8 K, .int .i64 X, .int .i64 V]
        rw [hW2] at h2
        exact h2.perm (List.Perm.swap _ _ _)
      clear hW2 HGet hb2 c0 c1 c2 hg Hs
      generalize wr.heap.size = eb at *
      obtain ⟨G, hG⟩ : ∃ G, (getM l X).getD 0 = G := ⟨_, rfl⟩
      obtain ⟨B, hB⟩ : ∃ B, (getM l X).isSome = B := ⟨_, rfl⟩
      rw [hG, hB] at HG
      have HGe := Lib.hid hG
      have HBe := Lib.hid hB
      clear hG hB
      have hmod : K % 3 = 0 ∨ K % 3 = 1 ∨ K % 3 = 2 := by omega
      rcases hmod with hm | hm | hm
      · have Hm : RowKit.Hid (opM l (K, X, V) = putM l X V) := by show _ = _; simp [opM, hm]
        rw [Hm.out] at Hstep
        have ht : K.tmod 3 = 0 := by rw [Int.tmod_eq_emod_of_nonneg k0]; exact hm
        clear hm Hm
        go_wp2_with fail
        (with_reducible refine HG.out.mono ?_)
        rintro e w2 ⟨rfl, rfl⟩
        clear HG
        have HP := Lib.hid (PutI_calls Ho.out Ho'.out h l tb X V w0 W2 [] _ (by have := Hl40.out; omega) H2.out)
        unfold ptrI encI valI at HP
        rw [HGe.out, HBe.out] at HP
        clear H2
        go_wp2_with fail
        (with_reducible refine HP.out.mono ?_)
        rintro e w3 ⟨rfl, h', h3⟩
        obtain ⟨_, hb3⟩ := h3.has 1 rfl
        replace d0 := (blk_get hb3).1 0
        replace d1 := (blk_get hb3).1 1
        replace d2 := (blk_get hb3).1 2
        replace dl := (blk_get hb3).2.2
        simp only [List.getElem?_toArray, List.getElem?_cons_zero, List.getElem?_cons_succ] at d0 d1 d2
        have h4 : St w0 [] (prA u8 l :: objI O h' (putM l X V) tb :: blkA eb 53 #[.int .u8 K, .int .i64 X, .int .i64 V] :: R) w3 := by
          refine h3.perm ?_
          classical
          refine List.perm_iff_count.2 fun a => ?_
          simp only [List.count_cons]
          omega
        have HRf := Lib.hid (RPut_calls l X V u8 (by have := Hl40.out; omega) w0 w3 [] _ h4)
        clear h3 h4 hb3 HP
        go_wp2_with fail
        (with_reducible refine HRf.out.mono ?_)
        rintro e w4 ⟨v', rfl, v1, h5⟩
        rw [putF_putM Hasc.out] at h5
        have H5 : RowKit.Hid (∃ h, St w0 [] (objI O h (playM (ops.take (k + 1))) tb :: prA v' (playM (ops.take (k + 1))) :: R) w4) := by
          rw [Hstep.out]
          refine ⟨h', ?_⟩
          have h6 : St w0 [] ([prA v1 (delF X l), prA u8 l, blkA eb 53 #[.int .u8 K, .int .i64 X, .int .i64 V]] ++ (objI O h' (putM l X V) tb :: prA v' (putM l X V) :: R)) w4 := by
            refine h5.perm ?_
            classical
            refine List.perm_iff_count.2 fun a => ?_
            simp only [List.cons_append, List.nil_append, List.count_cons]
            omega
          exact St.dropAll h6
        clear h5 HRf d0 d1 d2 dl
        cases B <;>
        · go_wp2
          go_roundg (gk - 1)
          case rel => exact ⟨k + 1, by go_num, by have := Hgk.out; omega, H5⟩
          case measure => have := Hgk.out; omega
      · have Hm : RowKit.Hid (opM l (K, X, V) = delM l X) := by show _ = _; simp [opM, hm]
        rw [Hm.out] at Hstep
        have ht : K.tmod 3 = 1 := by rw [Int.tmod_eq_emod_of_nonneg k0]; exact hm
        clear hm Hm
        go_wp2_with fail
        (with_reducible refine HG.out.mono ?_)
        rintro e w2 ⟨rfl, rfl⟩
        clear HG
        have HP := Lib.hid (DeleteI_calls Ho.out Ho'.out h l tb X w0 W2 [] _ (by have := Hl40.out; omega) H2.out)
        unfold ptrI encI at HP
        rw [opt_valI, HGe.out, HBe.out] at HP
        clear H2
        go_wp2_with fail
        (with_reducible refine HP.out.mono ?_)
        rintro e w3 ⟨rfl, h', h3⟩
        obtain ⟨_, hb3⟩ := h3.has 1 rfl
        replace d0 := (blk_get hb3).1 0
        replace d1 := (blk_get hb3).1 1
        replace d2 := (blk_get hb3).1 2
        replace dl := (blk_get hb3).2.2
        simp only [List.getElem?_toArray, List.getElem?_cons_zero, List.getElem?_cons_succ] at d0 d1 d2
        have h4 : St w0 [] (prA u8 l :: objI O h' (delM l X) tb :: blkA eb 53 #[.int .u8 K, .int .i64 X, .int .i64 V] :: R) w3 := by
          refine h3.perm ?_
          classical
          refine List.perm_iff_count.2 fun a => ?_
          simp only [List.count_cons]
          omega
        have HRf := Lib.hid (RDelete_calls l X u8 (by have := Hl40.out; omega) w0 w3 [] _ h4)
        clear h3 h4 hb3 HP
        go_wp2_with fail
        (with_reducible refine HRf.out.mono ?_)
        rintro e w4 ⟨v', rfl, h5⟩
        rw [delF_delM Hasc.out] at h5
        have H5 : RowKit.Hid (∃ h, St w0 [] (objI O h (playM (ops.take (k + 1))) tb :: prA v' (playM (ops.take (k + 1))) :: R) w4) := by
          rw [Hstep.out]
          refine ⟨h', ?_⟩
          have h6 : St w0 [] ([prA u8 l, blkA eb 53 #[.int .u8 K, .int .i64 X, .int .i64 V]] ++ (objI O h' (delM l X) tb :: prA v' (delM l X) :: R)) w4 := by
            refine h5.perm ?_
            classical
            refine List.perm_iff_count.2 fun a => ?_
            simp only [List.cons_append, List.nil_append, List.count_cons]
            omega
          exact St.dropAll h6
        clear h5 HRf d0 d1 d2 dl
        cases B <;>
        · go_wp2
          go_roundg (gk - 1)
          case rel => exact ⟨k + 1, by go_num, by have := Hgk.out; omega, H5⟩
          case measure => have := Hgk.out; omega
      · have Hm : RowKit.Hid (opM l (K, X, V) = l) := by show _ = _; simp [opM, hm]
        rw [Hm.out] at Hstep
        have ht : K.tmod 3 = 2 := by rw [Int.tmod_eq_emod_of_nonneg k0]; exact hm
        clear hm Hm
        go_wp2_with fail
        (with_reducible refine HG.out.mono ?_)
        rintro e w2 ⟨rfl, rfl⟩
        clear HG
        obtain ⟨_, ho2⟩ := H2.out.has 0 rfl
        have HP := Lib.hid (GetI_calls tb X W2 Ho'.out ho2)
        unfold encI at HP
        rw [opt_valI, HGe.out, HBe.out] at HP
        clear ho2
        go_wp2_with fail
        (with_reducible refine HP.out.mono ?_)
        rintro e w4 ⟨rfl, hb4⟩
        have H5 : RowKit.Hid (∃ h, St w0 [] (objI O h (playM (ops.take (k + 1))) tb :: prA u8 (playM (ops.take (k + 1))) :: R) w4) := by
          rw [Hstep.out]
          refine ⟨h, ?_⟩
          have h5 := H2.out.mono hb4
          exact (h5.perm (List.Perm.swap _ _ _)).drop
        clear hb4 HP H2 d0 d1 d2 dl
        cases B <;>
        · go_wp2
          go_roundg (gk - 1)
          case rel => exact ⟨k + 1, by go_num, by have := Hgk.out; omega, H5⟩
          case measure => have := Hgk.out; omega
    · obtain rfl : k = N := by omega
      have HR : RowKit.Hid (∃ h, St w0 [] (objI O h (playM ops) tb :: prA u8 (playM ops) :: R) wr) := by
        obtain ⟨h, hs⟩ := Hs.out
        rw [← HN'.out, List.take_length] at hs
        exact ⟨h, hs⟩
      clear hgk Hs hk
      go_wp2
      obtain ⟨h, hs⟩ := HR.out
      refine bodyPost_ret (v := .tuple #[.pointer (some ⟨tb, 0, none⟩), u8, .bool true]) (by simp [results, Try.results24, go_sem]) rfl ?_
      exact ⟨tb, h, u8, rfl, hs⟩
end Go.Proofs.Ytldofiankhimjaa
/- How the arguments of this layer's laws are read. -/
namespace Go.Proofs.Ytldofiankhimjaa
open Go.ChangeShapes Go.ChangeAt Go.RowKit
set_option maxRecDepth 100000
theorem c53 : Try.prog.cellsOf 53 = 3 := by kernel_rfl
theorem c3 : Try.prog.cellsOf 3 = 1 := by kernel_rfl
theorem c5 : Try.prog.cellsOf 5 = 1 := by kernel_rfl
theorem u8_wf {k : Int} (h : (Lit.int .u8 k).wf = true) : 0 ≤ k ∧ k < 256 := by
  unfold Lit.wf at h
  simp only [Bool.and_eq_true, decide_eq_true_eq] at h
  have h1 : IntKind.min .u8 = 0 := by decide
  have h2 : IntKind.max .u8 = 255 := by decide
  omega
section
variable {H : Type} {enc : TypeId × Value → H} {w : World}
theorem read_op {fuel : Nat} {cs : List Value} {x : DataW H × List MemPlace} (h : DataW.trod enc Try.prog w 0 (fun _ => true) true fuel 53 cs = some x) : ∃ v : Int × Int × Int, cs = [.int .u8 v.1, .int .i64 v.2.1, .int .i64 v.2.2] ∧ 0 ≤ v.1 ∧ v.1 < 256 := by
  obtain ⟨xs, n, -, rfl, hl, hxl, hx⟩ := DataW.trod_struct Try.underlying53 h
  rw [c53] at hl
  match cs, hl, hx with
  | [a, b, c], _, hx =>
    match xs, hxl, hx with
    | [x0, x1, x2], _, hx =>
      have h0 := hx 0 _ rfl
      have h1 := hx 1 _ rfl
      have h2 := hx 2 _ rfl
      simp only [List.getElem_toArray, List.getElem_cons_zero, List.getElem_cons_succ, c3, c5] at h0 h1 h2
      obtain ⟨k, e0, -, hw⟩ := DataW.trod_int Try.underlying5 (by simpa using h0)
      obtain ⟨i, e1, -, -⟩ := DataW.trod_int Try.underlying3 (by simpa using h1)
      obtain ⟨t, e2, -, -⟩ := DataW.trod_int Try.underlying3 (by simpa using h2)
      cases e0
      cases e1
      cases e2
      have hw2 := u8_wf hw
      exact ⟨⟨k, i, t⟩, rfl, hw2.1, hw2.2⟩
/-- A list of operations. -/
theorem read_ops {fuel : Nat} {s : Value} {x : DataW H × List MemPlace} (h : DataW.trod enc Try.prog w 0 (fun _ => true) true fuel 46 [s] = some x) : ∃ L, OpsAt w s L := by
  rcases slice_read Try.underlying46 c53 (by omega) h with ⟨a, e⟩ | ⟨b, o, len, cap, k, D, R, e, hb, hlc, hcm, rfl, hxD, hDl, hel⟩
  · cases e
    exact ⟨[], by simp, a, 0, rfl, Nat.le_refl _, fun i hi => absurd hi (by simp)⟩
  · cases e
    have hall : ∀ i, i < D.length → ∃ v : Int × Int × Int, w.cell? ⟨b, o + i * 3, none⟩ = some (.int .u8 v.1) ∧ w.cell? ⟨b, o + i * 3 + 1, none⟩ = some (.int .i64 v.2.1) ∧ w.cell? ⟨b, o + i * 3 + 2, none⟩ = some (.int .i64 v.2.2) ∧ 0 ≤ v.1 ∧ v.1 < 256 := by
      intro i hi
      obtain ⟨cs', pl, -, hc, ht⟩ := hel i hi
      obtain ⟨v, rfl, hv, hv2⟩ := read_op ht
      exact ⟨v, hc 0 (by omega), hc 1 (by omega), hc 2 (by omega), hv, hv2⟩
    obtain ⟨f, hf⟩ := Deep.choose_lt hall
    have hlen : ((List.range D.length).map f).length = len := by simp [hDl]
    refine ⟨(List.range D.length).map f, by omega, some ⟨b, o, none⟩, cap, by rw [hlen], by omega, fun i hi => ?_⟩
    have hi' : i < D.length := by simpa using hi
    have e : ((List.range D.length).map f)[i] = f i := by simp
    rw [e]
    obtain ⟨h0, h1, h2, h3⟩ := hf i hi'
    exact ⟨b, o, rfl, hb, h0, h1, h2, h3⟩
theorem open_ops {W : World} {base : Nat} {v : Value} {d : DataW H} {p : List MemPlace} (hok : Value.okWide Try.prog W .any base 46 v) (h : DataW.Trod enc Try.prog W 0 (fun _ => true) true 46 v d p) : ∃ L, OpsAt W v L := by
  obtain ⟨fuel, h⟩ := h
  rw [cell_of_one_slice W Try.underlying46 hok] at h
  exact read_ops h
end
end Go.Proofs.Ytldofiankhimjaa
/- depth: the number of levels of a tree whose nodes are as they should be (I). -/
namespace Go.Proofs.Ytldofiankhimjaa
open Go.RowKit
def DepI (w : World) (_o : Nat) (h : Nat) (b tb : Nat) (root : Bool) : Prop :=
  Calls Try.prog 41 #[.pointer (some ⟨tb, 0, none⟩), .pointer (some ⟨b, 0, none⟩), .bool root] w fun e w' => e = .returned (.int .i64 (h + 1 : Nat)) ∧ Below w.heap.size w w'
structure TbI (w : World) (o tb : Nat) : Prop where
  blk : ∃ r n f, (blkA tb 72 #[r, .int .i64 o, n]).p w f
theorem TbI.below {w w' : World} {o tb : Nat} (h : TbI w o tb) (hb : Below w.heap.size w w') : TbI w' o tb := by
  obtain ⟨r, n, f, hf⟩ := h.blk
  exact ⟨r, n, f, (blkA tb 72 _).loc hf fun k hk => hb.block k ((blkA tb 72 _).lt hf k hk)⟩
theorem SeesI.cap {w : World} {h : Nat} {x : TI} {b : Nat} (hs : SeesI w h x b) {pa : Option Addr} {m pc : Nat} (hc : w.cell? ⟨b, 2, none⟩ = some (.slice pa m pc)) : m ≤ pc := by
  obtain ⟨f, hf⟩ := hs
  rw [treeI_eq] at hf
  obtain ⟨⟨ks, vs, ps, bs⟩, hst⟩ := hf
  have hst : Star w (nodeLI (kidI h) x b (ks, vs, ps, bs)) f := hst
  obtain ⟨f1, h1, _⟩ := Star.get 1 rfl hst
  obtain ⟨f4, h4, _⟩ := Star.get 4 rfl hst
  simp only at h1 h4
  obtain ⟨pa', pc', e, h5, h6, -⟩ := sl_get h4
  have c2 := (blk_get h1).1 2
  simp only [List.getElem?_toArray, List.getElem?_cons_zero, List.getElem?_cons_succ] at c2
  rw [hc] at c2
  injection c2 with c2
  rw [e] at c2
  injection c2 with e1 e2 e3
  omega
set_option maxHeartbeats 4000000 in
set_option maxRecDepth 20000 in
theorem depstepI {o : Nat} (ho : 3 ≤ o) (ho' : o ≤ 1024) (h : Nat) (x : TI) (b tb : Nat) (root : Bool) (lo : Nat) (w : World) (hT : TbI w o tb) (hS : SeesI w h x b) (hb : Body o h lo (o - 1) x) (hr : root = false → least o ≤ lo) (hp : h ≠ 0 → 0 < x.es.length)
    (hh : h < 1099511627776)
    (hrec : ∀ h', h = h' + 1 → ∀ c cb w', Below w.heap.size w w' → SeesI w' h' c cb → Body o h' (least o) (o - 1) c → DepI w' o h' cb tb false) : DepI w o h b tb root := by
  unfold DepI
  have HT := Lib.hid hT
  have HREC := Lib.hid hrec
  obtain ⟨tr, tn, tf, htf⟩ := hT.blk
  have t1 := (blk_get htf).1 1
  have tl := (blk_get htf).2.2
  simp only [List.getElem?_toArray, List.getElem?_cons_zero, List.getElem?_cons_succ] at t1
  have HLst := Lib.hid (fun w' (hb : Below w.heap.size w w') => leastI_calls tb tr o tn w' (f := _) ho ho' ((blkA tb 72 _).loc htf fun k hk => hb.block k ((blkA tb 72 _).lt htf k hk)))
  obtain ⟨ks, va, vc, pa, pc, hn⟩ := hS.node
  have Hn := Lib.hid hn
  obtain ⟨c0, c1, c2, cl⟩ := hn.cells
  obtain ⟨_, hbk⟩ := hn.blk
  obtain ⟨ka, kc, rfl, hkm, -⟩ := hn.keys.shape
  have HL := Lib.hid (fun w' (hb : Below w.heap.size w w') => leafI_calls b _ _ pa x.cs.length pc w' (f := _) ((blkA b 70 _).loc hbk fun k hk => hb.block k ((blkA b 70 _).lt hbk k hk)))
  unfold ptrI at HL
  have hlo := hb.lo
  have hhi := hb.hi
  have Hb := Lib.hid hb
  have Ho := Lib.hid ho
  have Hlen : RowKit.Hid (x.cs.length = if h = 0 then 0 else x.es.length + 1) := by
    show _ = _
    cases h with
    | zero => rw [hb.2.2]; rfl
    | succ h => rw [if_neg (by omega)]; exact hb.2.2.1
  obtain ⟨n, hn'⟩ : ∃ n, x.es.length = n := ⟨_, rfl⟩
  obtain ⟨m, hm'⟩ : ∃ m, x.cs.length = m := ⟨_, rfl⟩
  have Hm' := Lib.hid hm'
  have Hcap : RowKit.Hid (m ≤ pc) := by
    rw [hm'] at c2
    exact hS.cap c2
  rw [hn'] at c0 c1 hlo hhi hp Hlen
  rw [hm'] at c2 HL Hlen
  obtain ⟨ls, hls⟩ : ∃ ls, least o = ls := ⟨_, rfl⟩
  have hnl : root = false → ls ≤ n := fun e => by have := hr e; omega
  rw [hls] at HLst
  have q1 : ¬ (o : Int) - 1 < n := by omega
  have hno : n < 1025 := by omega
  have e1 : IntKind.i64.wrap ((o : Int) - 1) = o - 1 := IntWalk.i64_in _ (by omega)
  have e2 : decide (IntKind.i64.wrap ((o : Int) - 1) < n) = false := by rw [e1]; simp; omega
  have Hls := Lib.hid hls
  have Hhh := Lib.hid hh
  have Hp := Lib.hid hp
  clear hT hrec htf hn hbk hkm hb hr ho hn' hm' hlo hhi hp hls hS hh tr tn tf
  go_enter Try.func41, Try.ntmps41
  go_upto_region 1 with (fail)
  go_cut [47] (fun z wx => z = .bool false ∧ ∃ q, wx = w.drewN q)
  case first =>
    clear HREC Hp c2
    cases root with
    | true =>
      go_quiet (fail)
      go_step
      go_step
      go_meet
      exact ⟨rfl, _, rfl⟩
    | false =>
      have q2 : ¬ n < ls := by have := hnl rfl; omega
      go_quiet ((go_at_call 63; exact Calls.quiet_of_same ((HLst.out _ (below_drewN _ _)).mono fun _ _ ⟨h1, h2⟩ => ⟨h1, h2.symm⟩)))
      go_step
      go_step
      go_meet
      exact ⟨rfl, _, rfl⟩
  obtain ⟨rfl, q, rfl⟩ := hcut
  have HB1 : RowKit.Hid (Below w.heap.size w (w.drewN q)) := below_drewN _ _
  clear q1 e1 e2 hnl HLst
  have HL1 := Lib.hid (HL.out _ HB1.out)
  replace c0 : (w.drewN q).cell? ⟨b, 0, none⟩ = some (.slice ka n kc) := (HB1.out.cell (p := ⟨b, 0, none⟩) cl).trans c0
  replace c1 : (w.drewN q).cell? ⟨b, 1, none⟩ = some (.slice va n vc) := (HB1.out.cell (p := ⟨b, 1, none⟩) cl).trans c1
  replace c2 : (w.drewN q).cell? ⟨b, 2, none⟩ = some (.slice pa m pc) := (HB1.out.cell (p := ⟨b, 2, none⟩) cl).trans c2
  replace cl : b < (w.drewN q).heap.size := Nat.lt_of_lt_of_le cl HB1.out.size
  clear t1 tl HL
  generalize w.drewN q = w1 at *
  cases h with
  | zero =>
    have Hm0 : RowKit.Hid (m = 0) := Hlen.out
    obtain rfl := Hm0.out
    go_wp2_with fail
    (with_reducible refine HL1.out.mono ?_)
    rintro e w2 ⟨rfl, rfl⟩
    go_wp2
    go_ret
    exact ⟨rfl, HB1.out⟩
  | succ h =>
    have Hm0 : RowKit.Hid (m = n + 1) := Hlen.out
    have hn0 := Hp.out (by omega)
    obtain rfl := Hm0.out
    go_wp2_with fail
    (with_reducible refine HL1.out.mono ?_)
    rintro e w2 ⟨rfl, rfl⟩
    clear HL1 Hlen
    go_upto_region 5 with (fail)
    go_cut [69] (fun z wx => z = .bool false ∧ ∃ q, wx = w1.drewN q)
    case first =>
      go_quiet (fail)
      go_step
      go_step
      go_meet
      exact ⟨by rw [beq_false_of_ne (by omega)], _, rfl⟩
    obtain ⟨rfl, q2, rfl⟩ := hcut
    have HB2 : RowKit.Hid (Below w.heap.size w (w1.drewN q2)) := HB1.out.trans ((below_drewN _ _).mono HB1.out.size)
    replace c2 : (w1.drewN q2).cell? ⟨b, 2, none⟩ = some (.slice pa (n + 1) pc) := ((below_drewN w1 q2).cell (p := ⟨b, 2, none⟩) cl).trans c2
    replace cl : b < (w1.drewN q2).heap.size := Nat.lt_of_lt_of_le cl (below_drewN w1 q2).size
    clear c0 c1
    generalize w1.drewN q2 = w2 at *
    obtain ⟨-, -, b3, b4⟩ := Hb.out
    obtain ⟨g, hpa⟩ : ∃ g, pa = some ⟨g, 0, none⟩ := by
      obtain ⟨g, cb, e, -⟩ := Hn.out.kids 0 _ (List.getElem?_eq_getElem (by have := Hm'.out; omega))
      exact ⟨g, e⟩
    subst hpa
    have HK : RowKit.Hid (∀ i, i < n + 1 → ∃ cb, ∀ w', Below w.heap.size w w' → w'.cell? ⟨g, i, none⟩ = some (.pointer (some ⟨cb, 0, none⟩)) ∧ g < w'.heap.size ∧ DepI w' o h cb tb false) := by
      intro i hi
      have hc : x.cs[i]? = some (x.cs[i]'(by have := Hm'.out; omega)) := List.getElem?_eq_getElem _
      obtain ⟨g', cb, e, hg, hcp, hkid⟩ := Hn.out.kids i _ hc
      injection e with e
      injection e with e
      subst e
      refine ⟨cb, fun w' hb => ⟨(hb.cell (p := ⟨g, i, none⟩) hg).trans hcp, Nat.lt_of_lt_of_le hg hb.size, ?_⟩⟩
      exact HREC.out h rfl _ cb w' hb ((hkid h rfl).below hb) (b4 _ (List.mem_of_getElem? hc))
    have hpc : n + 1 ≤ pc := Hcap.out
    clear HREC Hn Hb b3 b4 Hp Hm' Hm0
    obtain ⟨cb, hcb⟩ := HK.out 0 (by omega)
    obtain ⟨c3, c3l, hd⟩ := hcb w2 HB2.out
    have HD := Lib.hid hd
    clear hcb hd
    unfold DepI at HD
    go_wp2_with fail
    (with_reducible refine HD.out.mono ?_)
    rintro e w3 ⟨rfl, hb3⟩
    have HB3 := Lib.hid (HB2.out.trans (hb3.mono HB2.out.size))
    replace c2 : w3.cell? ⟨b, 2, none⟩ = some (.slice (some ⟨g, 0, none⟩) (n + 1) pc) := (hb3.cell (p := ⟨b, 2, none⟩) cl).trans c2
    replace cl : b < w3.heap.size := Nat.lt_of_lt_of_le cl hb3.size
    clear HD c3 c3l hb3
    have hh2 : h + 1 < 1099511627776 := Hhh.out
    obtain ⟨H, hH⟩ : ∃ H, h + 1 = H := ⟨_, rfl⟩
    have HeH := Lib.hid hH
    rw [hH] at hh2 ⊢
    clear hH Hhh Hcap
    go_wp2
    clear c2 cl
    go_loopg [84] n (fun gk z wr => ∃ k : Nat, k + gk = n ∧ z = .int .i64 k ∧ RowKit.Hid (Below w.heap.size w wr))
    case atStart => exact ⟨0, Nat.zero_add _, rfl, HB3⟩
    case round =>
      obtain ⟨k, hk, rfl, Hb⟩ := hrel
      by_cases hkn : k < n
      · obtain ⟨cb, hcb⟩ := HK.out (1 + k) (by omega)
        obtain ⟨c3, c3l, hd⟩ := hcb wr Hb.out
        unfold DepI at hd
        rw [HeH.out] at hd
        have HD := Lib.hid hd
        have hkn' : decide ((k : Int) < n) = true := by simp; omega
        have Hk := Lib.hid hk
        clear hcb hd hk
        go_wp2_with fail
        (with_reducible refine HD.out.mono ?_)
        rintro e w4 ⟨rfl, hb4⟩
        have HB4 := Lib.hid (Hb.out.trans (hb4.mono Hb.out.size))
        clear hb4 HD
        go_wp2
        go_roundg (gk - 1)
        case rel => exact ⟨k + 1, by have := Hk.out; omega, by go_num, HB4⟩
        case measure => have := Hk.out; omega
      · obtain rfl : k = n := by omega
        have hkn' : decide ((k : Int) < k) = false := by simp
        clear hk
        go_wp2
        go_ret
        exact ⟨by rw [HeH.out]; rfl, Hb.out⟩
theorem depthI_calls {o : Nat} (ho : 3 ≤ o) (ho' : o ≤ 1024) (tb : Nat) : ∀ (h : Nat) (x : TI) (b : Nat) (root : Bool) (lo : Nat) (w : World), TbI w o tb → SeesI w h x b → Body o h lo (o - 1) x → (root = false → least o ≤ lo) → (h ≠ 0 → 0 < x.es.length) → h < 1099511627776 → DepI w o h b tb root
  | 0, x, b, root, lo, w, hT, hS, hb, hr, hp, hh => depstepI ho ho' 0 x b tb root lo w hT hS hb hr hp hh fun _ e => nomatch e
  | h + 1, x, b, root, lo, w, hT, hS, hb, hr, hp, hh => depstepI ho ho' (h + 1) x b tb root lo w hT hS hb hr hp hh fun h' e c cb w' hbw hs hbd => by
    obtain rfl : h = h' := by omega
    exact depthI_calls ho ho' tb h c cb false _ w' (hT.below hbw) hs hbd (fun _ => Nat.le_refl _) (fun _ => by have := hbd.lo; have := (least_two ho).1; omega) (by omega)
end Go.Proofs.Ytldofiankhimjaa
/- A tree is not higher than it has entries. -/
namespace Go.Proofs.Ytldofiankhimjaa
theorem hgt_le {κ ν : Type} {o : Nat} (ho : 3 ≤ o) : ∀ {h lo hi : Nat} {x : T κ ν}, Body o h lo hi x → 0 < x.es.length → h + 1 ≤ (toL h x).length
  | 0, lo, hi, x, hb, hp => hp
  | h + 1, lo, hi, x, hb, hp => by
    obtain ⟨h1, h2, h3, h4⟩ := hb
    obtain ⟨c, C, hcs⟩ : ∃ c C, x.cs = c :: C := by
      cases hx : x.cs with
      | nil => rw [hx] at h3; simp at h3
      | cons c C => exact ⟨c, C, rfl⟩
    have hc := h4 c (by rw [hcs]; simp)
    have h5 := hc.lo
    have h6 := (least_two ho).1
    have h7 := hgt_le ho hc (by omega)
    have e : toL (h + 1) x = toL h c ++ post (toL h) x.es C := by
      rw [← T.eta x, hcs]
      rfl
    have h8 := (sub_post (f := toL h) x.es C).length_le
    rw [e, List.length_append]
    omega
/-- The height of a root: small, for a list that is small. -/
theorem root_hgt {κ ν : Type} {o h lo hi : Nat} {x : T κ ν} (ho : 3 ≤ o) (hb : Body o h lo hi x) (hr : h ≠ 0 → 0 < lo) : h ≤ (toL h x).length := by
  by_cases h0 : h = 0
  · omega
  · have := hgt_le ho hb (by have := hb.lo; have := hr h0; omega)
    omega
end Go.Proofs.Ytldofiankhimjaa
/- Valid: a tree as it should be is valid (I). -/
namespace Go.Proofs.Ytldofiankhimjaa
open Go.RowKit
set_option maxHeartbeats 4000000 in
theorem ValidI_calls {o : Nat} (ho : 3 ≤ o) (ho' : o ≤ 1024) (h : Nat) (l : M Int Int) (tb : Nat) (w0 w : World) (fp0 : List Nat) (R : List Asn) (hlen : l.length < 1099511627775)
    (hS : St w0 fp0 (objI o h l tb :: R) w) :
    Calls Try.prog 13 #[.pointer (some ⟨tb, 0, none⟩)] w fun e w' => e = .returned (.bool true) ∧ St w0 fp0 (objI o h l tb :: R) w' := by
  obtain ⟨x, rb, hg, hS1⟩ := hS.openOI
  obtain ⟨f1, hb⟩ := hS1.has 1 rfl
  obtain ⟨f0, ht⟩ := hS1.has 0 rfl
  have c0 := (blk_get hb).1 0
  have cl := (blk_get hb).2.2
  simp only [List.getElem?_toArray, List.getElem?_cons_zero] at c0
  have h1 : St w0 fp0 (entI (.slice none 0 0) [] :: treeI h x rb :: optA (.pointer none) none :: optA (.pointer none) none :: (blkA tb 72 #[ptrI rb, .int .i64 o, .int .i64 l.length] :: R)) w := by
    have h2 : St w0 fp0 (optA (.pointer none) none :: optA (.pointer none) none :: treeI h x rb :: (blkA tb 72 #[ptrI rb, .int .i64 o, .int .i64 l.length] :: R)) w := St.pure.2 ⟨rfl, St.pure.2 ⟨rfl, hS1⟩⟩
    refine (h2.nilR 79 2).perm ?_
    classical
    refine List.perm_iff_count.2 fun a => ?_
    simp only [List.count_cons, entI, List.length_nil, entsI, List.flatMap_nil]
    omega
  have HC := Lib.hid (collectI_calls ho' none none (.pointer none) (.pointer none) w0 fp0 h x rb (.slice none 0 0) [] w _ _ hg.1 hg.2.1 (by rw [hg.2.2]; simpa using Nat.lt_succ_of_lt hlen) h1)
  unfold ColI at HC
  unfold ptrI at HC c0
  have Hg := Lib.hid hg
  have Ho := Lib.hid ho
  have Ho' := Lib.hid ho'
  have Hlen := Lib.hid hlen
  have Hh : RowKit.Hid (h < 1099511627776) := by
    have h3 := root_hgt ho hg.1 (fun h0 => by simp [rootB, h0])
    rw [hg.2.2] at h3
    show h < _
    omega
  clear hS hS1 hg hb ht h1 ho ho' hlen
  go_enter Try.func13, Try.ntmps13
  go_wp2_with fail
  (with_reducible refine HC.out.mono ?_)
  rintro e w1 ⟨v1, rfl, h2⟩
  rw [List.nil_append, selM_all, Hg.out.2.2] at h2
  obtain ⟨_, hr⟩ := h2.has 0 rfl
  obtain ⟨_, hb⟩ := h2.has 4 rfl
  obtain ⟨_, ht⟩ := h2.has 1 rfl
  have c0 := (blk_get hb).1 0
  have c2 := (blk_get hb).1 2
  have cl := (blk_get hb).2.2
  simp only [List.getElem?_toArray, List.getElem?_cons_zero, List.getElem?_cons_succ] at c0 c2
  have HT : RowKit.Hid (TbI w1 o tb) := ⟨_, _, _, hb⟩
  have HSe : RowKit.Hid (SeesI w1 h x rb) := ⟨_, ht⟩
  have HF : RowKit.Hid (∀ w', Below w1.heap.size w1 w' → St w0 fp0 (objI o h l tb :: R) w') := by
    intro w' hbw
    refine St.shutOI (rb := rb) Hg.out ?_
    have h3 := h2.mono hbw
    have h4 : St w0 fp0 ([entI v1 l, optA (.pointer none) none, optA (.pointer none) none] ++ (treeI h x rb :: blkA tb 72 #[ptrI rb, .int .i64 o, .int .i64 l.length] :: R)) w' := by
      refine h3.perm ?_
      classical
      refine List.perm_iff_count.2 fun a => ?_
      simp only [List.cons_append, List.nil_append, List.count_cons, ptrI]
      omega
    exact St.drop (St.drop (St.drop h4))
  obtain ⟨ga, gc, rfl, -, -, hcell⟩ := row_shape hr
  have Hcell : RowKit.Hid (∀ i (hi : i < l.length), ∃ g, ga = some ⟨g, 0, none⟩ ∧ g < w1.heap.size ∧ w1.cell? ⟨g, i * 2, none⟩ = some (encI l[i].1)) := by
    intro i hi
    obtain ⟨g, e, hgl, hc, -⟩ := hcell (i * 2) (by omega)
    rw [(entsI_at l i hi).1] at hc
    exact ⟨g, e, hgl, hc⟩
  obtain ⟨N, hN⟩ : ∃ N, l.length = N := ⟨_, rfl⟩
  have HN := Lib.hid hN
  have hN40 : N < 1099511627775 := by have := Hlen.out; omega
  rw [hN] at c2 ⊢
  clear h2 hr hb ht hcell hN HC
  go_wp2
  go_loopg [4] N (fun g z wr => ∃ k : Nat, z = .int .i64 ((k : Int) + 1) ∧ g + k = N ∧ (k = 0 ∨ k < N) ∧ RowKit.Hid (Below w1.heap.size w1 wr))
  case atStart => exact ⟨0, rfl, rfl, .inl rfl, Below.refl _ _⟩
  case round =>
    obtain ⟨k, rfl, hgk, hk0, Hb⟩ := hrel
    by_cases hk : k + 1 < N
    · obtain ⟨g, e, hg1, d0⟩ := Hcell.out k (by rw [HN.out]; omega)
      obtain ⟨g', e', hg2, d1⟩ := Hcell.out (k + 1) (by rw [HN.out]; omega)
      rw [e] at e'
      injection e' with e'
      injection e' with e'
      subst e'
      have hlt : KOrd.cmp (l[k]'(by rw [HN.out]; omega)).1 (l[k + 1]'(by rw [HN.out]; omega)).1 < 0 := List.pairwise_iff_getElem.1 (by have := Hg.out.2.1; rw [Hg.out.2.2] at this; exact this) k (k + 1) _ _ (by omega)
      have HC : RowKit.Hid (∀ w, Calls Try.prog 40 #[encI (l[k]'(by rw [HN.out]; omega)).1, encI (l[k + 1]'(by rw [HN.out]; omega)).1] w fun e w' => e = .returned (.int .i64 (KOrd.cmp (l[k]'(by rw [HN.out]; omega)).1 (l[k + 1]'(by rw [HN.out]; omega)).1)) ∧ w' = w) := fun w => cmpqI_calls _ _ w
      have hk1 : (k : Int) + 1 < N := by omega
      replace d0 : wr.cell? ⟨g, k * 2, none⟩ = _ := (Hb.out.cell (p := ⟨g, k * 2, none⟩) hg1).trans d0
      replace d1 : wr.cell? ⟨g, (k + 1) * 2, none⟩ = _ := (Hb.out.cell (p := ⟨g, (k + 1) * 2, none⟩) hg2).trans d1
      replace hg1 : g < wr.heap.size := Nat.lt_of_lt_of_le hg1 Hb.out.size
      generalize KOrd.cmp (l[k]'(by rw [HN.out]; omega)).1 (l[k + 1]'(by rw [HN.out]; omega)).1 = r at *
      generalize encI (l[k]'(by rw [HN.out]; omega)).1 = ek at *
      generalize encI (l[k + 1]'(by rw [HN.out]; omega)).1 = ek1 at *
      subst e
      have hr0 : decide (r ≥ 0) = false := by simp; omega
      have Hgk := Lib.hid hgk
      clear hg2 hlt hk0 hgk c0 c2 cl
      go_upto_region 5 with (fail)
      go_cut [28] (fun z wx => z = .bool false ∧ ∃ q, wx = wr.drewN q)
      case first =>
        go_quiet ((go_at_call 40; exact Calls.quiet_of_same (HC.out _)))
        go_step
        go_step
        go_meet
        exact ⟨by simp <;> omega, _, rfl⟩
      obtain ⟨rfl, q, rfl⟩ := hcut
      have HB2 : RowKit.Hid (Below w1.heap.size w1 (wr.drewN q)) := Hb.out.trans ((below_drewN _ _).mono Hb.out.size)
      clear d0 d1 hg1 HC
      generalize wr.drewN q = wx at *
      go_wp2
      go_roundg (gk - 1)
      case rel => exact ⟨k + 1, by go_num, by have := Hgk.out; omega, .inr (by omega), HB2⟩
      case measure => have := Hgk.out; omega
    · have hk1 : decide ((k : Int) + 1 < N) = false := by simp; omega
      replace c0 : wr.cell? ⟨tb, 0, none⟩ = _ := (Hb.out.cell (p := ⟨tb, 0, none⟩) cl).trans c0
      replace c2 : wr.cell? ⟨tb, 2, none⟩ = _ := (Hb.out.cell (p := ⟨tb, 2, none⟩) cl).trans c2
      replace cl : tb < wr.heap.size := Nat.lt_of_lt_of_le cl Hb.out.size
      have HD := Lib.hid (depthI_calls Ho.out Ho'.out tb h x rb true _ wr (HT.out.below Hb.out) (HSe.out.below Hb.out) Hg.out.1 (fun e => nomatch e) (fun h0 => by have h5 := Hg.out.1.lo; simp [rootB, h0] at h5; omega) Hh.out)
      unfold DepI at HD
      have hh1 : decide (((h + 1 : Nat) : Int) ≥ 0) = true := by simp; omega
      generalize h + 1 = H at *
      clear hgk hk0 hk
      go_wp2_with fail
      (with_reducible refine HD.out.mono ?_)
      rintro e w2 ⟨rfl, hb2⟩
      have HR := Lib.hid (HF.out _ (Hb.out.trans (hb2.mono Hb.out.size)))
      clear hb2 HD
      go_wp2
      go_ret
      exact ⟨rfl, HR.out⟩
end Go.Proofs.Ytldofiankhimjaa
