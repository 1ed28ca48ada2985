/- Part 8 of the proof: Su, Sa, Sb, Sw, Rf, Rg2 -/
import Derived.Test.YtnefkkidfhmggaaGreatZ07
import Derived.Test.YtnefkkidfhmggaaGreatZ02
/- The store: Put, Insert. -/
namespace Go.Proofs.YtnefkkidfhmggaaGreat
open Go Go.RowKit
/-- Whether Put changes the store; its error; what the store contains then. -/
def putOk (cols : Nat) (id : Int) (r : Rw) : Bool := decide (1 ≤ id ∧ id ≤ 4611686018427387904) && storB cols r
def errV (q : Bool) : Value := .int .i64 (if q then 0 else 1)
def putLL (cols : Nat) (id : Int) (r : Rw) (L : LL) : LL := if putOk cols id r then putL' id r L else L
def putN (cols : Nat) (id : Int) (r : Rw) (next : Int) : Int := if putOk cols id r then max next (id + 1) else next
def putK (id : Int) (r : Rw) (cs : List Int) (km : MM) : MM := putM km (.str (ixKey id r cs)) (.int id)
theorem storB_ok {cols : Nat} {r : Rw} (hi : ∀ v ∈ r, I64 v.int) (h : storB cols r = true) : RowOk cols r := by
 unfold storB at h
 simp only [Bool.and_eq_true, decide_eq_true_eq, List.all_eq_true] at h
 exact ⟨h.1, fun v hv => ⟨h.2 v hv, hi v hv⟩⟩
theorem Sto.Ok.put {s : Sto} {cols : Nat} {I : List (List Int)} {L : LL} {next : Int} (h : s.Ok cols I L next) {A B : List Re} {id : Int} {va : Va} {r : Rw} (he : s.es = A ++ B) (hA : ∀ a ∈ A, a.id < id) (hB : ∀ b ∈ B, id < b.id) (h1 : 1 ≤ id) (h2 : id ≤ 4611686018427387904) (hr : RowOk cols r)
 {ys : List Ix} (hu : UpTo (putK id r) s.ixs ys) (hy : ∀ y ∈ ys, AscM y.km) (h' : Nat) :
 ({ s with h := h', es := A ++ ⟨id, va, r⟩ :: B, ixs := ys, next := max next (id + 1) } : Sto).Ok cols I (putL' id r L) (max next (id + 1)) := by
 have hL : L = reL A ++ reL B := by rw [← h.rows, he, reL_append]
 have hn : ∀ x ∈ L, x.1 ≠ id := by
  intro x hx
  rw [hL] at hx
  rcases List.mem_append.1 hx with hx | hx
  · have := reL_lt hA x hx; omega
  · have := reL_gt hB x hx; omega
 have hid : I64 id := by unfold I64; omega
 refine ⟨(upTo_cs hu).trans h.eixs, h.ecols, rfl, ?_, asc_putL h.asc _ _, ?_, fun x hx => ?_, fun y hy' => ?_⟩
 · rw [hL, putL_split (reL_lt hA) (reL_gt hB)]
   exact reL_append A _
 · have := h.nx; omega
 · rcases mem_putL.1 hx with rfl | ⟨h3, -⟩
   · exact ⟨h1, by dsimp only; omega, hr⟩
   · obtain ⟨p1, p2, p3⟩ := h.row x h3
     exact ⟨p1, by omega, p3⟩
 · obtain ⟨x, hx, h3⟩ := upTo_mem hu hy'
   obtain ⟨p1, p2, p3, p4, p5⟩ := h.ixs x hx
   refine ⟨by rw [h3.cs]; exact p1, by rw [h3.cs]; exact p2, by rw [h3.cs]; exact p3, ?_, hy y hy'⟩
   rw [h3.cs, h3.km]
   exact p4.put h.asc p5 h.i64 hid r hn
theorem St.setB {w0 w : World} {fp0 : List Nat} {R : List Asn} {b : Nat} {t : TypeId} {c : Array Value} (h : St w0 fp0 (blkA b t c :: R) w) (i : Nat) (_hi : i < c.size) (v : Value) : St w0 fp0 (blkA b t (c.setIfInBounds i v) :: R) (w.setCell ⟨b, i, none⟩ v) := by
 obtain ⟨f, h1, h2⟩ := h.get 0 rfl
 obtain ⟨h3, h4⟩ := blk_set h1 i v
 exact h2 _ _ _ h3 h4
theorem ixAsc {w0 w : World} {fp0 : List Nat} {R R1 : List Asn} {ys : List Ix} (h : St w0 fp0 (R1 ++ (ys.map ixA ++ R)) w) : ∀ y ∈ ys, AscM y.km := by
 intro y hy
 obtain ⟨A2, B2, rfl⟩ := List.append_of_mem hy
 have h3 : St w0 fp0 (ixA y :: (R1 ++ (A2.map ixA ++ (B2.map ixA ++ R)))) w := by
  refine h.perm ?_
  classical
  exact List.perm_iff_count.2 fun a => by simp only [List.map_append, List.map_cons, List.count_append, List.count_cons]; omega
 exact obj_asc ((St.star.1 h3).perm (List.Perm.swap _ _ _))
set_option maxHeartbeats 4000000 in
set_option maxRecDepth 20000 in
theorem SPut_calls (S cols : Nat) (I : List (List Int)) (L : LL) (next id : Int) (r : Rw) (v : Value) (hid : I64 id) (hri : ∀ v ∈ r, I64 v.int) (hc : cols ≤ 1000000) (hlen : L.length < 1099511627775) (w0 w : World) (fp0 : List Nat) (R : List Asn) (hv : Rd w0 fp0 R fun w => ValsAt w r v) (hS : St w0 fp0 (storeA S cols I L next :: R) w) :
 Calls Tryz.prog 20 #[ptrV S, .int .i64 id, v] w fun e w' => e = .returned (errV (putOk cols id r)) ∧ St w0 fp0 (storeA S cols I (putLL cols id r L) (putN cols id r next) :: R) w' := by
 have hvw := hv.at (M := [_]) hS
 obtain ⟨va, vn, vc, rfl, -⟩ := hvw.shape
 have hcell : w.cell? ⟨S, 0, none⟩ = some (.int .i64 cols) := by
  obtain ⟨s, hok, hs⟩ := hS.openS
  obtain ⟨_, hb⟩ := hs.has 0 rfl
  have c0 := (blk_get hb).1 0
  rw [← hok.ecols]
  exact c0
 have HST := Lib.hid (storable_calls S cols r _ w hcell hvw)
 have HS := Lib.hid hS
 unfold putLL putN
 obtain ⟨q, hq⟩ : ∃ q, putOk cols id r = q := ⟨_, rfl⟩
 have HQ : RowKit.Hid ((decide (1 ≤ id ∧ id ≤ 4611686018427387904) && storB cols r) = q) := hq
 rw [hq]
 by_cases h1 : id < 1
 · have hqf : q = false := by rw [← HQ.out, decide_eq_false (by omega)]; rfl
   subst hqf
   clear hv hS hvw hq HST hcell HQ
   unfold ptrV
   go_enter Tryz.func20, Tryz.ntmps20
   go_wp2
   go_ret
   exact ⟨rfl, HS.out⟩
 · by_cases h2 : id > 4611686018427387904
   · have hqf : q = false := by rw [← HQ.out, decide_eq_false (by omega)]; rfl
     subst hqf
     clear hv hS hvw hq HST hcell HQ
     unfold ptrV
     go_enter Tryz.func20, Tryz.ntmps20
     go_wp2
     go_ret
     exact ⟨rfl, HS.out⟩
   · have hd : decide (1 ≤ id ∧ id ≤ 4611686018427387904) = true := decide_eq_true (by omega)
     rw [hd, Bool.true_and] at HQ
     rw [HQ.out] at HST
     cases q
     · clear hv hS hvw hq hcell hd
       unfold ptrV at *
       go_enter Tryz.func20, Tryz.ntmps20
       go_wp2_with fail
       (with_reducible refine HST.out.mono ?_)
       rintro e w1 ⟨rfl, hb⟩
       have H1 := Lib.hid (HS.out.mono hb)
       clear HST HS hb
       go_wp2
       go_ret
       exact ⟨rfl, H1.out⟩
     · have hro := storB_ok hri HQ.out
       have HRO := Lib.hid hro
       have HHV := Lib.hid hv
       have HH1 : RowKit.Hid (1 ≤ id) := by show _ ≤ _; omega
       have HH2 : RowKit.Hid (id ≤ 4611686018427387904) := by show _ ≤ _; omega
       have HID := Lib.hid hid
       have HDEL0 : RowKit.Hid (∀ w', St w0 fp0 (storeA S cols I L next :: R) w' → Calls Tryz.prog 21 #[ptrV S, .int .i64 id] w' fun e w'' => (∃ v, e = .returned v) ∧ St w0 fp0 (storeA S cols I (delL id L) next :: R) w'') := fun w' h =>
        (SDelete_calls S cols I L next id hid hc hlen w0 w' fp0 R h).mono fun e w'' ⟨u, e1, h3⟩ => ⟨⟨_, e1⟩, h3.drop⟩
       have HLEN : RowKit.Hid ((delL id L).length < 1099511627775) := Nat.lt_of_le_of_lt (delL_len _ _) hlen
       have HND : RowKit.Hid (∀ x ∈ delL id L, x.1 ≠ id) := fun x hx => (mem_delL.1 hx).2
       have HPD : RowKit.Hid (putL' id r (delL id L) = putL' id r L) := putL_delL _ _ _
       have HC1 := Lib.hid hc
       clear hv hS hvw hq hcell hd hro hlen hri hc hid h1 h2
       have h1 : ¬ id < 1 := by have := HH1.out; omega
       have h2 : ¬ 4611686018427387904 < id := by have := HH2.out; omega
       unfold ptrV at *
       go_enter Tryz.func20, Tryz.ntmps20
       go_wp2_with fail
       (with_reducible refine HST.out.mono ?_)
       rintro e w1 ⟨rfl, hb⟩
       have H1 := Lib.hid (HDEL0.out w1 (HS.out.mono hb))
       clear HST HS hb
       go_wp2_with fail
       (with_reducible refine H1.out.mono ?_)
       rintro e w2 ⟨⟨u, rfl⟩, h3⟩
       have hrw := HHV.out.at (M := [_]) h3
       have hrl : r.length ≤ 1000000 := by rw [HRO.out.1]; exact HC1.out
       have HCL := Lib.hid (cloneW (flat r) r.length _ w2 hrw.1 (one_flat _) (by omega))
       have H3 := Lib.hid h3
       clear H1 h3 hrw hrl
       go_wp2_with fail
       (with_reducible refine HCL.out.mono ?_)
       rintro e w3 ⟨v', f', rfl, h4, h5, h6⟩
       have h7 := St.add H3.out h5 h4 h6
       obtain ⟨s, hok, hs⟩ := St.openS h7
       have hes : (reM s.es).length = (delL id L).length := by rw [← hok.rows]; simp [reM, reL]
       have hasc := reL_asc (es := s.es) (by rw [hok.rows]; exact hok.asc)
       obtain ⟨A, B, he, hA, hB⟩ : ∃ A B, s.es = A ++ B ∧ (∀ a ∈ A, a.id < id) ∧ ∀ b ∈ B, id < b.id := by
        rcases split_id (fun e : Re => e.id) s.es hasc id with ⟨A, e, B, he, he2, hA, hB⟩ | ⟨A, B, he, hA, hB⟩
        · exfalso
          refine HND.out (e.id, e.r) ?_ he2
          rw [← hok.rows, he, reL_append, reL_cons]
          simp
        · exact ⟨A, B, he, hA, hB⟩
       obtain ⟨ra, rc, rfl, -⟩ := row_shape h4
       have hP := Put_calls (β := false) (o := 16) (by omega) (by omega) s.h (reM s.es) s.tb (.int id) (.sl ra r.length rc) trivial (okR s.es) w0 w3 fp0 _ (by rw [hes]; exact HLEN.out) (show St w0 fp0 (objA false 16 s.h (reM s.es) s.tb :: blkA S 119 #[.int .i64 s.cols, ptrV s.tb, .int .i64 s.next, s.iv] :: rowA 97 2 s.iv s.ixs.length (ixV s.ixs) :: (s.es.map reA ++ s.ixs.map ixA) ++ (R ++ [rowA 29 3 (.slice ra r.length rc) r.length (flat r)])) w3 from hs.perm (List.Perm.swap _ _ _))
       have hpM : putM (reM s.es) (.int id) (.sl ra r.length rc) = reM (A ++ ⟨id, .sl ra r.length rc, r⟩ :: B) := by rw [he, reM_append, reM_append, reM_cons, putM_new (reM_lt hA) (reM_gt hB)]
       rw [hpM] at hP
       generalize encV ((getM (reM s.es) (.int id)).getD (va0 false)) = uu at hP
       generalize (getM (reM s.es) (.int id)).isSome = ub at hP
       obtain ⟨_, hb⟩ := hs.has 0 rfl
       have c1 := (blk_get hb).1 1
       have hbl := (blk_get hb).2.2
       simp only [List.getElem?_toArray, List.getElem?_cons_zero, List.getElem?_cons_succ] at c1
       have HKEY : RowKit.Hid (∀ (x : Ix), x ∈ s.ixs → ∀ (w : World), ValsAt w r (.slice ra r.length rc) → IntsX [] w x.cs x.cv → Calls Tryz.prog 65 #[.slice ra r.length rc, x.cv] w fun e' w' => e' = .returned (.string (textOf (keyL r x.cs))) ∧ Below w.heap.size w w') :=
        fun x hx w h1 h2 => key_calls r x.cs _ _ HRO.out.s (by have := (hok.ixs x hx).2.1; omega) w h1 h2
       have HPUT : RowKit.Hid (∀ (x : Ix), x ∈ s.ixs → ∀ (L' : List Asn) (w : World), St w0 fp0 (objA true 16 x.kh x.km x.kb :: L') w → Calls Tryz.prog 64 #[.pointer (some ⟨x.kb, 0, none⟩), .string (textOf (keyL r x.cs) ++ textOf (numL id)), .int .i64 id] w fun e' w2 => (∃ v, e' = .returned v) ∧ St w0 fp0 (exA (fun h' => objA true 16 h' (putK id r x.cs x.km) x.kb) :: L') w2) := by
        intro x hx L' w h
        have hk := (hok.ixs x hx).2.2.2.1
        have h1 := Put_calls (β := true) (o := 16) (by omega) (by omega) x.kh x.km x.kb (.str (ixKey id r x.cs)) (.int id) trivial (okK hk) w0 w fp0 L' (by rw [hk.len]; exact HLEN.out) h
        rw [textOf_append]
        exact h1.mono fun e' w2 ⟨h2, h', h3⟩ => ⟨⟨_, h2⟩, h3.exI h'⟩
       have HKL : RowKit.Hid (∀ x ∈ s.ixs, (textOf (keyL r x.cs)).size < 1000000000000) := fun x hx => by
        rw [text_size]
        have h1 : (keyL r x.cs).length ≤ x.cs.length * 2009 := keyL_len HRO.out.s x.cs
        have h2 := (hok.ixs x hx).2.1
        have : x.cs.length * 2009 ≤ 1000 * 2009 := Nat.mul_le_mul_right _ h2
        omega
       have HVAL : RowKit.Hid (∀ (w : World) (f : List Nat), (reA ⟨id, .sl ra r.length rc, r⟩).p w f → ValsAt w r (.slice ra r.length rc)) := fun w f hf => ⟨row_sl hf (length_flat _), fun v hv => by have := (HRO.out.s v hv).2; unfold maxLen; omega⟩
       have HFIN : RowKit.Hid (∀ ys h' w', UpTo (putK id r) s.ixs ys → St w0 fp0 (stoH S { s with h := h', es := A ++ ⟨id, .sl ra r.length rc, r⟩ :: B, next := max next (id + 1) } s.ixs.length (ixV s.ixs) ys [] ++ R) w' → St w0 fp0 (storeA S cols I (putL' id r L) (max next (id + 1)) :: R) w') := by
        intro ys h' w' hu h
        have hv := upTo_V hu
        have h2 : St w0 fp0 (stoL S { s with h := h', es := A ++ ⟨id, .sl ra r.length rc, r⟩ :: B, ixs := ys, next := max next (id + 1) } ++ R) w' := by
         unfold stoL
         rw [hv.1, hv.2]
         simp only [stoH, List.map_nil, List.append_nil] at h
         exact h
        have hya : ∀ y ∈ ys, AscM y.km := ixAsc (w0 := w0) (fp0 := fp0) (R := R) (w := w') (R1 := [blkA S 119 #[.int .i64 s.cols, ptrV s.tb, .int .i64 (max next (id + 1)), s.iv], objA false 16 h' (reM (A ++ ⟨id, .sl ra r.length rc, r⟩ :: B)) s.tb, rowA 97 2 s.iv ys.length (ixV ys)] ++ (A ++ ⟨id, .sl ra r.length rc, r⟩ :: B).map reA) (h2.perm (by
         classical
         exact List.perm_iff_count.2 fun a => by simp only [stoL, List.map_append, List.map_cons, List.cons_append, List.nil_append, List.count_append, List.count_cons]; omega))
        have h3 := St.shutS (hok.put (va := .sl ra r.length rc) he hA hB HH1.out HH2.out HRO.out hu hya h') h2
        rw [HPD.out] at h3
        exact h3
       have HH0 : RowKit.Hid (∀ h' w', St w0 fp0 (objA false 16 h' (reM (A ++ ⟨id, .sl ra r.length rc, r⟩ :: B)) s.tb :: blkA S 119 #[.int .i64 s.cols, ptrV s.tb, .int .i64 s.next, s.iv] :: rowA 97 2 s.iv s.ixs.length (ixV s.ixs) :: (s.es.map reA ++ s.ixs.map ixA) ++ (R ++ [rowA 29 3 (.slice ra r.length rc) r.length (flat r)])) w' → St w0 fp0 (stoH S { s with h := h', es := A ++ ⟨id, .sl ra r.length rc, r⟩ :: B } s.ixs.length (ixV s.ixs) [] (s.ixs.drop 0) ++ R) w') := by
        intro h' w' h
        refine h.perm ?_
        rw [he]
        classical
        exact List.perm_iff_count.2 fun a => by simp only [stoH, reA, encV, List.map_append, List.map_cons, List.map_nil, List.cons_append, List.count_append, List.count_cons, List.count_nil, List.drop_zero]; omega
       have HNX : RowKit.Hid (s.next = next) := hok.enext
       have hnb := hok.nx
       obtain ⟨sc, snx, sh, stb, siv, ses, sixs⟩ := s
       simp only at *
       obtain ⟨new, hnew⟩ : ∃ new, (⟨id, .sl ra r.length rc, r⟩ : Re) = new := ⟨_, rfl⟩
       rw [hnew] at HVAL HFIN HH0 hP
       clear hnew
       have HP := Lib.hid hP
       obtain ⟨n, hn⟩ : ∃ n, sixs.length = n := ⟨_, rfl⟩
       have HN := Lib.hid hn
       obtain ⟨V, hV⟩ : ∃ V, ixV sixs = V := ⟨_, rfl⟩
       have HV := Lib.hid hV
       rw [hn, hV] at HFIN HH0
       have hnx' : snx = next := HNX.out
       subst hnx'
       clear hs hb hP hok hpM hasc he hA hB hn hV hes h4 h5 h6 h7 H3 HDEL0 HNX HCL
       dsimp only [fPut, encK, encV] at HP
       unfold ptrV at *
       go_wp2_with fail
       (with_reducible refine HP.out.mono ?_)
       rintro e w4 ⟨rfl, h', h1'⟩
       have H1 : RowKit.Hid (∃ ys, UpTo (putK id r) (sixs.take 0) ys ∧ St w0 fp0 (stoH S ⟨sc, snx, h', stb, siv, A ++ new :: B, sixs⟩ n V ys (sixs.drop 0) ++ R) w4) := by
        refine ⟨[], ?_, HH0.out _ _ ?_⟩
        · rw [List.take_zero]; exact .nil
        · rw [HN.out, HV.out] at h1'
          exact h1'
       obtain ⟨_, hb⟩ := h1'.has 1 rfl
       have c3 := (blk_get hb).1 3
       have hbl := (blk_get hb).2.2
       simp only [List.getElem?_toArray, List.getElem?_cons_zero, List.getElem?_cons_succ] at c3
       obtain ⟨_, hr⟩ := h1'.has 2 rfl
       obtain ⟨ia, ic, rfl, hic, hicm, -⟩ := row_shape hr
       rw [HN.out] at hic c3 H1 HFIN
       have hn63 : n ≤ 9223372036854775807 := by unfold maxLen at hicm; omega
       clear h1' hb hr c1 hic hicm HP HH0
       go_wp2
       go_loopg [38] n (fun g z wr => ∃ k : Nat, z = .int .i64 k ∧ g + k = n ∧ RowKit.Hid (∃ ys, UpTo (putK id r) (sixs.take k) ys ∧ St w0 fp0 (stoH S ⟨sc, snx, h', stb, .slice ia n ic, A ++ new :: B, sixs⟩ n V ys (sixs.drop k) ++ R) wr))
       case atStart => exact ⟨0, rfl, by omega, H1⟩
       case round =>
        clear H1
        obtain ⟨k, rfl, hgk, Hs⟩ := hrel
        by_cases hk : k < n
        · obtain ⟨ys, hu, hst⟩ := Hs.out
          have hkl : k < sixs.length := by rw [HN.out]; exact hk
          have hdr : sixs.drop k = sixs[k] :: sixs.drop (k + 1) := List.drop_eq_getElem_cons hkl
          have htk : sixs.take (k + 1) = sixs.take k ++ [sixs[k]] := by rw [List.take_add_one, List.getElem?_eq_getElem hkl]; rfl
          rw [hdr] at hst
          have hop := stoH_open hst
          obtain ⟨_, hr⟩ := hop.has 4 rfl
          have hrow := row_sl hr (by rw [← HV.out, ixV_len, HN.out])
          rw [← HV.out, ← HN.out] at hrow
          obtain ⟨ib, io, ic', e4, q1, q2⟩ := ix_cells hrow k hkl
          obtain ⟨rfl, -, rfl⟩ := Value.slice.inj e4
          have HKEY2 := Lib.hid (HKEY.out sixs[k] (List.getElem_mem hkl))
          have HDEL2 := Lib.hid (HPUT.out sixs[k] (List.getElem_mem hkl))
          have HKL2 := Lib.hid (HKL.out sixs[k] (List.getElem_mem hkl))
          generalize sixs[k] = x at *
          obtain ⟨xcv, xcs, xkb, xkh, xkm⟩ := x
          obtain ⟨_, hsl⟩ := hop.has 1 rfl
          obtain ⟨xa, xn, xc, hxv⟩ := sl_shape hsl
          simp only at q1 q2 hsl hxv HKEY2 HDEL2 HKL2 hop
          subst hxv
          have HOP := Lib.hid hop
          have HU := Lib.hid hu
          have HTK := Lib.hid htk
          have Hgk := Lib.hid hgk
          have hql := World.block_lt_of_cell? wr _ q1
          have hkn : (k : Int) < n := by omega
          unfold ptrV at q2
          clear hu hst hkl hdr htk hop hr hrow e4 hsl hgk Hs
          go_upto_region 9 with (fail)
          refine rSp9 (w0 := w0) (fp0 := fp0) wr.heap.size xkb (.slice xa xn xc) (.slice ra r.length rc) (textOf (keyL r xcs)) id (objA true 16 xkh xkm xkb) (exA fun h' => objA true 16 h' (putK id r xcs xkm) xkb) (slA 3 (.slice xa xn xc) (xcs.map intC) :: (stoH S ⟨sc, snx, h', stb, .slice (some ⟨ib, io, none⟩) n ic, A ++ new :: B, sixs⟩ n V ys (sixs.drop (k + 1)) ++ R)) ?_ HID.out HKL2.out HDEL2.out rfl (by kernel_rfl) rfl rfl rfl rfl rfl ?_ ?_
          · intro L' w' h
            obtain ⟨f1, h1⟩ := h.hasM (A := slA 3 (.slice xa xn xc) (xcs.map intC)) (by simp)
            obtain ⟨f2, h2⟩ := h.hasM (A := reA new) (by simp [stoH])
            exact HKEY2.out w' (HVAL.out w' f2 h2) (intsX_of h1)
          · exact (HOP.out.newblk 97 #[.slice xa xn xc, .pointer (some ⟨xkb, 0, none⟩)]).perm (List.Perm.swap _ _ _)
          · intro u52 w5 h
            have H2 : RowKit.Hid (∃ ys, UpTo (putK id r) (sixs.take (k + 1)) ys ∧ St w0 fp0 (stoH S ⟨sc, snx, h', stb, .slice (some ⟨ib, io, none⟩) n ic, A ++ new :: B, sixs⟩ n V ys (sixs.drop (k + 1)) ++ R) w5) := by
             obtain ⟨h2, h3⟩ := St.exE (show St w0 fp0 (exA (fun h' => objA true 16 h' (putK id r xcs xkm) xkb) :: blkA wr.heap.size 97 #[.slice xa xn xc, .pointer (some ⟨xkb, 0, none⟩)] :: (slA 3 (.slice xa xn xc) (xcs.map intC) :: (stoH S ⟨sc, snx, h', stb, .slice (some ⟨ib, io, none⟩) n ic, A ++ new :: B, sixs⟩ n V ys (sixs.drop (k + 1)) ++ R))) w5 from h)
             have h4 := (h3.perm (List.Perm.swap _ _ _)).drop
             refine ⟨ys ++ [⟨.slice xa xn xc, xcs, xkb, h2, putK id r xcs xkm⟩], ?_, stoH_shut (y := ⟨.slice xa xn xc, xcs, xkb, h2, putK id r xcs xkm⟩) h4⟩
             rw [HTK.out]
             exact upTo_snoc HU.out ⟨rfl, rfl, rfl, rfl⟩
            clear h
            simp only [putL, List.foldl, Act.put, List.setIfInBounds_toArray, List.set_cons_succ, List.set_cons_zero]
            go_wp2
            go_roundg (gk - 1)
            case rel => exact ⟨k + 1, by go_num, by have := Hgk.out; omega, H2⟩
            case measure => have := Hgk.out; omega
        · obtain rfl : k = n := by omega
          obtain ⟨ys, hu, hst⟩ := Hs.out
          rw [List.drop_of_length_le (by rw [HN.out]; exact Nat.le_refl _)] at hst
          rw [List.take_of_length_le (by rw [HN.out]; exact Nat.le_refl _)] at hu
          obtain ⟨_, hb⟩ := hst.has 0 rfl
          have d2 := (blk_get hb).1 2
          have d3 := (blk_get hb).2.1 2
          have hbl2 := (blk_get hb).2.2
          simp only [List.getElem?_toArray, List.getElem?_cons_zero, List.getElem?_cons_succ] at d2
          have HF : RowKit.Hid (St w0 fp0 (storeA S cols I (putL' id r L) (max snx (id + 1)) :: R) (wr.setCell ⟨S, 2, none⟩ (.int .i64 (max snx (id + 1))))) :=
           HFIN.out ys h' _ hu (hst.setB 2 (by simp) (.int .i64 (max snx (id + 1))))
          have hw : IntKind.i64.wrap (id + 1) = id + 1 := IntWalk.i64_in _ (by have := HH1.out; have := HH2.out; omega)
          clear hgk hk Hs hst hu hb
          go_wp2
          all_goals go_ret
          all_goals
           refine ⟨rfl, ?_⟩
           have h := HF.out
           first
            | (rw [show Value.int .i64 (max snx (id + 1)) = .int .i64 (id + 1) by rw [show max snx (id + 1) = id + 1 by omega]] at h; exact h)
            | (rw [show Value.int .i64 (max snx (id + 1)) = .int .i64 snx by rw [show max snx (id + 1) = snx by omega]] at h; exact h)
end Go.Proofs.YtnefkkidfhmggaaGreat
/- The drawn regions of add and New. -/
namespace Go.Proofs.YtnefkkidfhmggaaGreat
open Go Go.RowKit
set_option maxRecDepth 100000
theorem appIX : AppSrc Tryz.prog 117 117 97 2 := appSrc (z := .agg #[.slice none 0 0, .pointer none]) (bytes := 32) (by kernel_rfl) (by kernel_rfl) rfl (by decide) (by decide)
theorem boxs_src {P : Program} {w : World} {tx e e' : TypeId} {s : Value} {size : Nat} {f : List Nat} {cs : Array Value} (hk : P.underlying tx = some (.slice e')) (h : (boxsA e s cs).p w f) (hn : cs.size = size) (h1 : ∀ u ∈ cs.toList, u.oneCell' = true) : Go.Src P size tx (.slice (some ⟨pb s, 0, none⟩) 1 1) 1 cs.toList w := by
 obtain ⟨vb, rfl, h2, _⟩ := h
 exact Go.Src.ofSlice w hk _ 1 1 _ (by simp [hn]) (fun j u hj => by
  show w.cell? ((⟨vb, 0, none⟩ : Addr).add j) = _
  rw [add_plain, Nat.zero_add, cell_of_row w vb j cs e (0, 0) h2]
  simpa using hj) h1
theorem clamp16 : clampO 16 = 16 := by decide
noncomputable def gSa4 (vb S tb n cols : Nat) (next : Int) (iv cv : Value) (V : List Value) (cs : List Value) := rgx Tryz.prog Tryz.f71 4 40 [27, 28, 29, 30, 31, 32, 33, 34, 35, 36, 37, 38, 39] [(1, cv), (2, pV vb 0)] (Vq 0 27 [Kp S 0, Kp S 0, Kp S 0, Kp S 3, Kv iv, Kv cv, Vf.slice, Vf.ptr, Fv [33, 34] fun g => .agg #[.slice (sa (g 33)) (sn (g 33)) (sc (g 33)), .pointer (some ⟨pb (g 34), 0, none⟩)], Vf.box, Vf.slice, Kp S 0, Kp S 3]) [Bk vb (34) [pV S 0], .blk S (119) [⟨.int .i64 cols, []⟩, ⟨pV tb 0, []⟩, ⟨.int .i64 next, []⟩, ⟨iv, [(13, .s 37)]⟩], .new 6 [33] fun g => slA 3 (g 33) cs, .new 7 [34] fun g => objA true 16 0 [] (pb (g 34)), .new 9 [36, 33, 34] fun g => boxsA 97 (g 36) #[.slice (sa (g 33)) (sn (g 33)) (sc (g 33)), .pointer (some ⟨pb (g 34), 0, none⟩)], .gen [10] [37, 33, 34] fun L g => match L 10 with | true => rowA 97 2 (g 37) (n + 1) (V ++ [Value.slice (sa (g 33)) (sn (g 33)) (sc (g 33)), Value.pointer (some ⟨pb (g 34), 0, none⟩)]) | false => rowA 97 2 iv n V]
theorem rSa4 (vb S tb n cols : Nat) (next : Int) (iv cv : Value) (V : List Value) (cs : List Value) (w0 : World) (fp0 : List Nat) (R : List Asn) (hcl : ∀ (L : List Asn) (w : World), St w0 fp0 (L ++ R) w → Calls Tryz.prog 36 #[cv] w fun e w2 => ∃ v f, e = .returned v ∧ (slA 3 v cs).p w2 f ∧ Below w.heap.size w w2 ∧ ∀ k ∈ f, w.heap.size ≤ k) (hl : n + 1 < 1099511627776) {w : World} {c : Code} {a : Act} {Q : Exit → Act → World → Prop} (c1 : isReg c = true) (c2 : cops c = opsR Tryz.f71 4) (c3 : a.tmps.size = 40) (c4 : a.defers = []) (i1 : a.eval (.tmp 1) = cv) (i2 : a.eval (.tmp 2) = .pointer (some ⟨vb, 0, none⟩))
 (hS : St w0 fp0 ([blkA vb (34) #[.pointer (some ⟨S, 0, none⟩)], blkA S (119) #[.int .i64 cols, .pointer (some ⟨tb, 0, none⟩), .int .i64 next, iv], emp, emp, emp, rowA 97 2 iv n V] ++ R) w)
 (hQ : ∀ (u33 u34 u35 u36 u37 : Value) (w1 : World), (∃ a n c, u33 = .slice a n c) → (∃ b, u34 = .pointer (some ⟨b, 0, none⟩)) → u35 = .agg #[.slice (sa (u33)) (sn (u33)) (sc (u33)), .pointer (some ⟨pb (u34), 0, none⟩)] → (∃ b, u36 = .slice (some ⟨b, 0, none⟩) 1 1) → (∃ a n c, u37 = .slice a n c) → St w0 fp0 ([blkA vb (34) #[.pointer (some ⟨S, 0, none⟩)], blkA S (119) #[.int .i64 cols, .pointer (some ⟨tb, 0, none⟩), .int .i64 next, u37], slA 3 (u33) cs, objA true 16 0 [] (pb (u34)), boxsA 97 (u36) #[.slice (sa (u33)) (sn (u33)) (sc (u33)), .pointer (some ⟨pb (u34), 0, none⟩)], rowA 97 2 (u37) (n + 1) (V ++ [Value.slice (sa (u33)) (sn (u33)) (sc (u33)), Value.pointer (some ⟨pb (u34), 0, none⟩)])] ++ R) w1 → Q .normal (putL a [(27, .pointer (some ⟨S, 0, none⟩)), (28, .pointer (some ⟨S, 0, none⟩)), (29, .pointer (some ⟨S, 0, none⟩)), (30, .pointer (some ⟨S, 3, none⟩)), (31, iv), (32, cv), (33, u33), (34, u34), (35, u35), (36, u36), (37, u37), (38, .pointer (some ⟨S, 0, none⟩)), (39, .pointer (some ⟨S, 3, none⟩))]) w1) : c.wp Tryz.prog Q a w := by
 have ok : (gSa4 vb S tb n cols next iv cv V cs w0 fp0 R).Ok 14 := Rg.ok _ 14 [0, 1, 4, 6, 7, 9, 10, 13] ⟨.load _ 0 0 0, .load _ 1 0 0, .load _ 4 1 3, .callG _ 6 (fun g => [blkA vb 34 #[.pointer (some ⟨S, 0, none⟩)], blkA S 119 #[.int .i64 cols, .pointer (some ⟨tb, 0, none⟩), .int .i64 next, iv], emp, emp, emp, rowA 97 2 iv n V]) (fun g v => [blkA vb 34 #[.pointer (some ⟨S, 0, none⟩)], blkA S 119 #[.int .i64 cols, .pointer (some ⟨tb, 0, none⟩), .int .i64 next, iv], slA 3 v cs, emp, emp, rowA 97 2 iv n V]) (fun g w h => (hcl _ _ h).mono fun e w2 ⟨v, f, e1, h2, h3, h4⟩ => (by obtain ⟨a, n, c, rfl⟩ := sl_shape h2; exact ⟨_, e1, kr (by kernel_rfl), h.newA 2 rfl h2 h3 h4⟩)), .callG _ 7 (fun g => [blkA vb 34 #[.pointer (some ⟨S, 0, none⟩)], blkA S 119 #[.int .i64 cols, .pointer (some ⟨tb, 0, none⟩), .int .i64 next, iv], slA 3 (g 33) cs, emp, emp, rowA 97 2 iv n V]) (fun g v => [blkA vb 34 #[.pointer (some ⟨S, 0, none⟩)], blkA S 119 #[.int .i64 cols, .pointer (some ⟨tb, 0, none⟩), .int .i64 next, iv], slA 3 (g 33) cs, objA true 16 0 [] (pb v), emp, rowA 97 2 iv n V]) (fun g w h => (NewT_calls (β := true) 16 w0 w fp0 _ h).mono fun e w2 ⟨tb, e1, h2⟩ => ⟨_, e1, kr (by kernel_rfl), by rw [clamp16] at h2; exact St.emp.1 (St_re (L := [_, _, _, _, _, _, _]) h2 [4, 1, 2, 3, 0, 5, 6] [] (by kernel_rfl))⟩), .boxsG _ 9 4, .appG _ 10 (fun g => [blkA vb 34 #[.pointer (some ⟨S, 0, none⟩)], blkA S 119 #[.int .i64 cols, .pointer (some ⟨tb, 0, none⟩), .int .i64 next, iv], slA 3 (g 33) cs, objA true 16 0 [] (pb (g 34)), boxsA 97 (g 36) #[.slice (sa (g 33)) (sn (g 33)) (sc (g 33)), .pointer (some ⟨pb (g 34), 0, none⟩)], rowA 97 2 iv n V]) (fun g v => [blkA vb 34 #[.pointer (some ⟨S, 0, none⟩)], blkA S 119 #[.int .i64 cols, .pointer (some ⟨tb, 0, none⟩), .int .i64 next, iv], slA 3 (g 33) cs, objA true 16 0 [] (pb (g 34)), boxsA 97 (g 36) #[.slice (sa (g 33)) (sn (g 33)) (sc (g 33)), .pointer (some ⟨pb (g 34), 0, none⟩)], rowA 97 2 v (n + 1) (V ++ [Value.slice (sa (g 33)) (sn (g 33)) (sc (g 33)), Value.pointer (some ⟨pb (g 34), 0, none⟩)])]) (fun ty g w h => (by obtain ⟨fb, hfb⟩ := h.has 4 rfl; obtain ⟨v, w2, h1, h2⟩ := St.appSrc appIX ty (St_re (L := [_, _, _, _, _, _]) h [5, 0, 1, 2, 3, 4] [] (by kernel_rfl)) (boxs_src (tx := 117) (e' := 97) (by kernel_rfl) hfb rfl (by simp; exact ⟨rfl, rfl⟩)) hl; obtain ⟨_, hr⟩ := h2.has 0 rfl; obtain ⟨a, c, rfl, -⟩ := row_shape hr; exact ⟨_, w2, h1, kr (by kernel_rfl), St_re (L := [_, _, _, _, _, _]) h2 [1, 2, 3, 4, 5, 0] [] (by kernel_rfl)⟩)), .store _ 13 1 3, trivial⟩
 refine wp_regT ok (by kernel_rfl) ⟨c1, c2⟩ ⟨c3, c4, fun p hp => ?_⟩ hS fun A1 w1 N1 H1 => ?_
 · simp only [gSa4, rgx, List.map_nil, List.append_nil, List.mem_cons, List.not_mem_nil, or_false] at hp
   rcases hp with rfl | rfl
   · exact i1
   · exact i2
 have e27 := N1.val 0 rfl
 have e28 := N1.val 1 rfl
 have e29 := N1.val 2 rfl
 have e30 := N1.val 3 rfl
 have e31 := N1.val 4 rfl
 have e32 := N1.val 5 rfl
 have e33 := N1.val 6 rfl
 have e34 := N1.val 7 rfl
 have e35 := N1.val 8 rfl
 have e36 := N1.val 9 rfl
 have e37 := N1.val 10 rfl
 have e38 := N1.val 11 rfl
 have e39 := N1.val 12 rfl
 have h := hQ (slots A1 33) (slots A1 34) (slots A1 35) (slots A1 36) (slots A1 37) w1 ⟨_, _, _, e33⟩ ⟨_, e34⟩ e35 ⟨_, e36⟩ ⟨_, _, _, e37⟩ H1
 rw [frame_eq N1.frame (cons_eq e27 (cons_eq e28 (cons_eq e29 (cons_eq e30 (cons_eq e31 (cons_eq e32 (cons_eq rfl (cons_eq rfl (cons_eq rfl (cons_eq rfl (cons_eq rfl (cons_eq e38 (cons_eq e39 rfl)))))))))))))]
 exact h
noncomputable def gSn1 (tv n cc : Nat) (nm kv fv xv : Value) (ca : Option Addr) := rgx Tryz.prog Tryz.f26 1 38 [8, 9, 10, 11, 12, 13, 3] [(1, pV tv 0)] (Vq 0 8 [Kp tv 1, Kv (.slice ca n cc), Kv (.int .i64 n), Vf.ptr, Fv [11] fun g => .agg #[.int .i64 n, .pointer (some ⟨pb (g 11), 0, none⟩), .int .i64 1, .slice none 0 0], Vf.ptr] ++ Vq 6 3 [Fv [13] fun g => .pointer (some ⟨pb (g 13), 0, none⟩)]) [Bk tv (75) [nm, .slice ca n cc, kv, fv, xv], .new 3 [11] fun g => objA false 16 0 [] (pb (g 11)), .new 5 [13, 11] fun g => atA 119 (g 13) #[.int .i64 n, .pointer (some ⟨pb (g 11), 0, none⟩), .int .i64 1, .slice none 0 0]]
theorem rSn1 (tv n cc : Nat) (nm kv fv xv : Value) (ca : Option Addr) (w0 : World) (fp0 : List Nat) (R : List Asn)  {w : World} {c : Code} {a : Act} {Q : Exit → Act → World → Prop} (c1 : isReg c = true) (c2 : cops c = opsR Tryz.f26 1) (c3 : a.tmps.size = 38) (c4 : a.defers = []) (i1 : a.eval (.tmp 1) = .pointer (some ⟨tv, 0, none⟩))
 (hS : St w0 fp0 ([blkA tv (75) #[nm, .slice ca n cc, kv, fv, xv], emp, emp] ++ R) w)
 (hQ : ∀ (u3 u11 u12 u13 : Value) (w1 : World), (∃ b, u11 = .pointer (some ⟨b, 0, none⟩)) → u12 = .agg #[.int .i64 n, .pointer (some ⟨pb (u11), 0, none⟩), .int .i64 1, .slice none 0 0] → (∃ b, u13 = .pointer (some ⟨b, 0, none⟩)) → u3 = .pointer (some ⟨pb (u13), 0, none⟩) → St w0 fp0 ([blkA tv (75) #[nm, .slice ca n cc, kv, fv, xv], objA false 16 0 [] (pb (u11)), atA 119 (u13) #[.int .i64 n, .pointer (some ⟨pb (u11), 0, none⟩), .int .i64 1, .slice none 0 0]] ++ R) w1 → Q .normal (putL a [(8, .pointer (some ⟨tv, 1, none⟩)), (9, .slice ca n cc), (10, .int .i64 n), (11, u11), (12, u12), (13, u13), (3, u3)]) w1) : c.wp Tryz.prog Q a w := by
 have ok : (gSn1 tv n cc nm kv fv xv ca w0 fp0 R).Ok 7 := Rg.ok _ 7 [1, 3, 5] ⟨.load _ 1 0 1, .callG _ 3 (fun _ => [blkA tv 75 #[nm, .slice ca n cc, kv, fv, xv], emp, emp]) (fun g v => [blkA tv 75 #[nm, .slice ca n cc, kv, fv, xv], objA false 16 0 [] (pb v), emp]) (fun g w h => (NewT_calls (β := false) 16 w0 w fp0 _ h).mono fun e w2 ⟨tb, e1, h2⟩ => ⟨_, e1, kr (by kernel_rfl), by rw [clamp16] at h2; exact St.emp.1 (St_re (L := [_, _, _, _]) h2 [2, 1, 0, 3] [] (by kernel_rfl))⟩), .lay _ 5 2, trivial⟩
 refine wp_regT ok (by kernel_rfl) ⟨c1, c2⟩ ⟨c3, c4, fun p hp => ?_⟩ hS fun A1 w1 N1 H1 => ?_
 · simp only [gSn1, rgx, List.map_nil, List.append_nil, List.mem_cons, List.not_mem_nil, or_false] at hp
   subst hp
   · exact i1
 have e8 := N1.val 0 rfl
 have e9 := N1.val 1 rfl
 have e10 := N1.val 2 rfl
 have e11 := N1.val 3 rfl
 have e12 := N1.val 4 rfl
 have e13 := N1.val 5 rfl
 have e3 := N1.val 6 rfl
 have h := hQ (slots A1 3) (slots A1 11) (slots A1 12) (slots A1 13) w1 ⟨_, e11⟩ e12 ⟨_, e13⟩ e3 H1
 rw [frame_eq N1.frame (cons_eq e8 (cons_eq e9 (cons_eq e10 (cons_eq rfl (cons_eq rfl (cons_eq rfl (cons_eq rfl rfl)))))))]
 exact h
end Go.Proofs.YtnefkkidfhmggaaGreat
/- The store: add, New, Insert. -/
namespace Go.Proofs.YtnefkkidfhmggaaGreat
open Go Go.RowKit
theorem add1_calls (S cols vb : Nat) (c : Int) (w : World) (hv : w.cell? ⟨vb, 0, none⟩ = some (ptrV S)) (hc : w.cell? ⟨S, 0, none⟩ = some (.int .i64 cols)) :
 Calls Tryz.prog 103 #[.int .i64 c, .pointer (some ⟨vb, 0, none⟩)] w fun e w' => e = .returned (.bool (!decide (0 ≤ c ∧ c < cols))) ∧ Below w.heap.size w w' := by
 have HC := Lib.hid (has_calls S cols c w hc)
 have hl := World.block_lt_of_cell? w _ hv
 unfold ptrV at *
 generalize decide (0 ≤ c ∧ c < (cols : Int)) = q at *
 clear hc
 go_enter Tryz.func103, Tryz.ntmps103
 go_wp2_with fail
 (with_reducible refine HC.out.mono ?_)
 rintro e w1 ⟨rfl, rfl⟩
 clear HC
 go_wp2
 go_ret
 exact ⟨rfl, Below.refl _ _⟩
/-- Whether add adds an index; the columns of the indexes then. -/
def addB (cols : Nat) (I : List (List Int)) (cs : List Int) : Bool := !(cs.any fun c => !decide (0 ≤ c ∧ c < (cols : Int))) && (!(I.any fun x => decide (x = cs)) && decide (0 < cs.length))
def addI (cols : Nat) (I : List (List Int)) (cs : List Int) : List (List Int) := if addB cols I cs then I ++ [cs] else I
theorem findIx_some (ixs : List Ix) (cs : List Int) : (findIx ixs cs).isSome = (ixs.map (·.cs)).any fun x => decide (x = cs) := by
 unfold findIx
 rw [List.any_map, Bool.eq_iff_iff, List.find?_isSome, List.any_eq_true]
 rfl
theorem ix_ints {w : World} {f : List Nat} {S : Nat} {s : Sto} (h : Star w (stoL S s) f) {x : Ix} (hx : x ∈ s.ixs) : IntsX [] w x.cs x.cv := by
 obtain ⟨i, hi, rfl⟩ := List.mem_iff_getElem.1 hx
 obtain ⟨g, hg, -⟩ := Star.get (s.es.length + i + 3) (A := ixA s.ixs[i]) (by
  show (blkA _ _ _ :: _ :: _ :: (s.es.map reA ++ s.ixs.map ixA))[s.es.length + i + 3]? = _
  simp only [List.getElem?_cons_succ]
  rw [List.getElem?_append_right (by simp), List.length_map, Nat.add_sub_cancel_left, List.getElem?_map, List.getElem?_eq_getElem hi]
  rfl) h
 have hg' : Star w [slA 3 s.ixs[i].cv (s.ixs[i].cs.map intC), objA true 16 s.ixs[i].kh s.ixs[i].km s.ixs[i].kb] g := hg
 obtain ⟨g2, hg2, -⟩ := Star.get 0 rfl hg'
 exact intsX_of hg2
theorem sto_row {w : World} {f : List Nat} {S : Nat} {s : Sto} (h : Star w (stoL S s) f) : SlX [] w 2 s.ixs.length (ixV s.ixs) s.iv := by
 obtain ⟨g, hg, -⟩ := Star.get 2 (A := rowA 97 2 s.iv s.ixs.length (ixV s.ixs)) rfl h
 exact row_sl hg (ixV_len _)
theorem sto_blk {w : World} {f : List Nat} {S : Nat} {s : Sto} (h : Star w (stoL S s) f) : ∀ j, w.cell? ⟨S, j, none⟩ = #[Value.int .i64 s.cols, ptrV s.tb, .int .i64 s.next, s.iv][j]? := by
 obtain ⟨g, hg, -⟩ := Star.get 0 (A := blkA S 119 #[.int .i64 s.cols, ptrV s.tb, .int .i64 s.next, s.iv]) rfl h
 exact (blk_get hg).1
set_option maxHeartbeats 4000000 in
set_option maxRecDepth 20000 in
theorem SAdd_calls (S cols : Nat) (I : List (List Int)) (cs : List Int) (cv : Value) (hcl : cs.length ≤ 1000) (hI : I.length + 1 < 1099511627776) (w0 w : World) (fp0 : List Nat) (R : List Asn) (hv : Rd w0 fp0 R fun w => IntsX [] w cs cv) (hS : St w0 fp0 (storeA S cols I [] 1 :: R) w) :
 Calls Tryz.prog 71 #[ptrV S, cv] w fun e w' => e = .returned (.tuple #[]) ∧ St w0 fp0 (storeA S cols (addI cols I cs) [] 1 :: R) w' := by
 obtain ⟨s, hok, hs⟩ := hS.openS
 have hb1 : Below w.heap.size w (w.alloc (.cells #[ptrV S] 34)) := (Below.refl _ _).alloc (Nat.le_refl _) _
 have hs1 := (hs.newblk 34 #[ptrV S])
 obtain ⟨f1, hf1⟩ := (hs.mono hb1).star_of
 have hvb : (w.alloc (.cells #[ptrV S] 34)).cell? ⟨w.heap.size, 0, none⟩ = some (ptrV S) := World.cell?_alloc_new _ _ _ 0
 have hcell : (w.alloc (.cells #[ptrV S] 34)).cell? ⟨S, 0, none⟩ = some (.int .i64 cols) := by rw [sto_blk hf1 0, ← hok.ecols]; rfl
 have hrd : ∀ w', St w0 fp0 (blkA w.heap.size 34 #[ptrV S] :: (stoL S s ++ R)) w' → IntsX [] w' cs cv := fun w' h => hv.at (M := blkA w.heap.size 34 #[ptrV S] :: stoL S s) h
 obtain ⟨ca, cn, cc, rfl, hcn, -⟩ := (hrd _ hs1).shape
 have HC := Lib.hid (containsI_calls cs _ 103 (.pointer (some ⟨w.heap.size, 0, none⟩)) (fun c => !decide (0 ≤ c ∧ c < (cols : Int))) _ (enters_own Tryz.func103 (by kernel_rfl) rfl) (hrd _ hs1) fun i _ w' hb => add1_calls S cols w.heap.size i w' ((hb.cell (p := ⟨w.heap.size, 0, none⟩) (by simp)).trans hvb) ((hb.cell (p := ⟨S, 0, none⟩) (World.block_lt_of_cell? _ _ hcell)).trans hcell))
 have HF : RowKit.Hid (∀ w', St w0 fp0 (blkA w.heap.size 34 #[ptrV S] :: (stoL S s ++ R)) w' → Calls Tryz.prog 47 #[ptrV S, .slice ca cn cc] w' fun e w'' => e = .returned (.tuple #[findV (findIx s.ixs cs), .bool (findIx s.ixs cs).isSome]) ∧ Below w'.heap.size w' w'') := by
  intro w' h
  obtain ⟨f, hf⟩ := h.drop.star_of
  exact sfind_calls S s.ixs s.iv cs _ w' (by rw [sto_blk hf 3]; rfl) (sto_row hf) (fun x hx => ix_ints hf hx) (hrd _ h)
 have hfi := findIx_some s.ixs cs
 rw [hok.eixs] at hfi
 obtain ⟨q1, hq1⟩ : ∃ q, (cs.any fun c => !decide (0 ≤ c ∧ c < (cols : Int))) = q := ⟨_, rfl⟩
 rw [hq1] at HC
 have HQ : RowKit.Hid (addI cols I cs = if (!q1 && (!(findIx s.ixs cs).isSome && decide (0 < cs.length))) then I ++ [cs] else I) := by
  show _ = _
  rw [addI, addB, hq1, hfi]
 have HSH : RowKit.Hid (∀ x, findIx s.ixs cs = some x → x ∈ s.ixs) := fun x hx => List.mem_of_find?_eq_some hx
 have HS1 := Lib.hid hs1
 have HNO : RowKit.Hid (∀ w', St w0 fp0 (blkA w.heap.size 34 #[ptrV S] :: (stoL S s ++ R)) w' → St w0 fp0 (storeA S cols I [] 1 :: R) w') := fun w' h => St.shutS hok h.drop
 generalize findIx s.ixs cs = fo at *
 rw [← hcn] at HQ
 have HCN := Lib.hid hcn
 have HADD : RowKit.Hid (q1 = false → 0 < cn → ∀ (w' : World) (xa : Option Addr) (xn xc kb b : Nat) (bx : Asn), St w0 fp0 ([blkA w.heap.size 34 #[ptrV S], blkA S 119 #[.int .i64 s.cols, ptrV s.tb, .int .i64 s.next, .slice (some ⟨b, 0, none⟩) xn xc], bx] ++ R) w' → True) := fun _ _ _ _ _ _ _ _ _ _ => trivial
 clear HADD
 have hok' := hok
 have HOK := Lib.hid hok
 have HCL := Lib.hid hcl
 have HIL := Lib.hid hI
 have HV := Lib.hid hv
 have HQ1 := Lib.hid hq1
 have hixl : s.ixs.length = I.length := by rw [← hok.eixs, List.length_map]
 have HIXL := Lib.hid hixl
 clear hS hs hb1 hs1 hf1 hvb hcell hrd hv hok hok' hfi hq1 hcl hI hcn hixl
 obtain ⟨scl, snx, sh, stb, siv, ses, sixs⟩ := s
 simp only at *
 generalize addI cols I cs = I2 at *
 unfold ptrV at *
 go_enter Tryz.func71, Tryz.ntmps71
 go_wp2_with fail
 (with_reducible refine HC.out.mono ?_)
 rintro e w1 ⟨rfl, hb⟩
 have H1 := Lib.hid (HS1.out.mono hb)
 have HF1 := Lib.hid (HF.out w1 H1.out)
 obtain ⟨_, hbv⟩ := H1.out.has 0 rfl
 have v0 := (blk_get hbv).1 0
 have vl := (blk_get hbv).2.2
 simp only [List.getElem?_toArray, List.getElem?_cons_zero] at v0
 clear hb HC HS1 HF hbv
 generalize w.heap.size = vb at *
 go_wp2_with fail
 (with_reducible refine HF1.out.mono ?_)
 rintro e w2 ⟨rfl, hb⟩
 have H2 := Lib.hid (H1.out.mono hb)
 obtain ⟨_, hbv⟩ := H2.out.has 0 rfl
 have v0 := (blk_get hbv).1 0
 have vl := (blk_get hbv).2.2
 simp only [List.getElem?_toArray, List.getElem?_cons_zero] at v0
 clear hb HF1 H1 hbv
 cases fo with
 | some x =>
  have HE : RowKit.Hid (I2 = I) := by show _ = _; rw [HQ.out]; simp
  obtain ⟨_, hsx⟩ : ∃ f, IntsX [] w2 x.cs x.cv ∧ f = 0 := by
   obtain ⟨f, hf⟩ := H2.out.drop.star_of
   exact ⟨0, ix_ints hf (HSH.out x rfl), rfl⟩
  obtain ⟨xa, xn, xc, hxv, -⟩ := hsx.1.shape
  obtain ⟨xcv, xcs, xkb, xkh, xkm⟩ := x
  simp only at hxv
  subst hxv
  unfold findV ptrV
  have HFI : RowKit.Hid (∀ w', Below w2.heap.size w2 w' → St w0 fp0 (storeA S cols I2 [] 1 :: R) w') := fun w' hb => by rw [HE.out]; exact HNO.out w' (H2.out.mono hb)
  clear hsx HSH HNO H2
  cases q1
  all_goals
   go_wp2
   go_end0
   exact ⟨rfl, HFI.out _ ((Below.refl _ _).alloc (Nat.le_refl _) _)⟩
 | none =>
  unfold findV
  cases q1
  · by_cases h0 : 0 < cn
    · have h0' : (0 : Int) < cn := by omega
      have H0 := Lib.hid h0
      have HE : RowKit.Hid (I2 = I ++ [cs]) := by show _ = _; rw [HQ.out]; simp [h0]
      clear HQ h0 HNO
      go_upto_region 4 with (fail)
      refine rSa4 (w0 := w0) (fp0 := fp0) vb S stb sixs.length scl snx siv (.slice ca cn cc) (ixV sixs) (cs.map intC) (objA false 16 sh (reM ses) stb :: (ses.map reA ++ sixs.map ixA) ++ R) (fun L w' h => ?_) (by have := HIL.out; have := HIXL.out; omega) rfl (by kernel_rfl) rfl rfl rfl rfl ?_ ?_
      · have h1 : IntsX [] w' cs (.slice ca cn cc) := HV.out.at (M := L ++ (objA false 16 sh (reM ses) stb :: (ses.map reA ++ sixs.map ixA))) (by rw [List.append_assoc]; exact h)
        have h2 := cloneI (cs.map intC) cs.length _ w' h1 (by intro u hu; obtain ⟨b, _, rfl⟩ := List.mem_map.1 hu; rfl) (by have := HCL.out; omega)
        refine h2.mono fun e w3 ⟨v, f, e1, h3, h4, h5⟩ => ⟨v, f, e1, ?_, h4, h5⟩
        rw [← List.length_map (f := intC)] at h3
        exact h3
      · have h1 := H2.out.mono ((Below.refl _ w2).alloc (Nat.le_refl _) (.cells #[.slice none 0 0, .pointer none] 97))
        have h2 := St.emp.2 (St.emp.2 (St.emp.2 h1))
        refine h2.perm ?_
        classical
        exact List.perm_iff_count.2 fun a => by simp only [stoL, ptrV, List.cons_append, List.nil_append, List.count_append, List.count_cons]; omega
      · intro u33 u34 u35 u36 u37 w3 s33 s34 s35 s36 s37 h
        obtain ⟨xa, xn, xc, rfl⟩ := s33
        obtain ⟨xb, rfl⟩ := s34
        have HF : RowKit.Hid (St w0 fp0 (storeA S cols I2 [] 1 :: R) w3) := by
         have hok := HOK.out
         have h1 : St w0 fp0 (stoL S ⟨scl, snx, sh, stb, u37, ses, sixs ++ [⟨.slice xa xn xc, cs, xb, 0, []⟩]⟩ ++ R) w3 := by
          have h2 : St w0 fp0 ([blkA vb 34 #[.pointer (some ⟨S, 0, none⟩)], boxsA 97 u36 #[.slice xa xn xc, .pointer (some ⟨xb, 0, none⟩)]] ++ ([blkA S 119 #[.int .i64 scl, .pointer (some ⟨stb, 0, none⟩), .int .i64 snx, u37], slA 3 (.slice xa xn xc) (cs.map intC), objA true 16 0 [] xb, rowA 97 2 u37 (sixs.length + 1) (ixV sixs ++ [Value.slice xa xn xc, Value.pointer (some ⟨xb, 0, none⟩)])] ++ (objA false 16 sh (reM ses) stb :: (ses.map reA ++ sixs.map ixA) ++ R))) w3 := by
           refine h.perm ?_
           classical
           exact List.perm_iff_count.2 fun a => by simp only [sa, sn, sc, pb, List.cons_append, List.nil_append, List.count_append, List.count_cons]; omega
          have h3 := St.dropAll h2
          have h4 : St w0 fp0 (ixA ⟨.slice xa xn xc, cs, xb, 0, []⟩ :: (blkA S 119 #[.int .i64 scl, .pointer (some ⟨stb, 0, none⟩), .int .i64 snx, u37] :: rowA 97 2 u37 (sixs.length + 1) (ixV sixs ++ [Value.slice xa xn xc, Value.pointer (some ⟨xb, 0, none⟩)]) :: (objA false 16 sh (reM ses) stb :: (ses.map reA ++ sixs.map ixA) ++ R))) w3 := by
           refine St.star.2 (h3.perm ?_)
           classical
           exact List.perm_iff_count.2 fun a => by simp only [List.cons_append, List.nil_append, List.count_append, List.count_cons]; omega
          refine h4.perm ?_
          have e1 : ixV (sixs ++ [⟨.slice xa xn xc, cs, xb, 0, []⟩]) = ixV sixs ++ [Value.slice xa xn xc, Value.pointer (some ⟨xb, 0, none⟩)] := by simp [ixV, ptrV]
          classical
          exact List.perm_iff_count.2 fun a => by simp only [stoL, ptrV, e1, List.length_append, List.length_cons, List.length_nil, Nat.zero_add, List.map_append, List.map_cons, List.map_nil, List.cons_append, List.count_append, List.count_cons, List.count_nil]; omega
         rw [HE.out]
         refine St.shutS (s := ⟨scl, snx, sh, stb, u37, ses, sixs ++ [⟨.slice xa xn xc, cs, xb, 0, []⟩]⟩) ⟨?_, hok.ecols, hok.enext, hok.rows, hok.asc, hok.nx, hok.row, fun y hy => ?_⟩ h1
         · have := hok.eixs
           simp only at this
           simp only [List.map_append, List.map_cons, List.map_nil, this]
         · rcases List.mem_append.1 hy with hy | hy
           · exact hok.ixs y hy
           · rw [List.mem_singleton.1 hy]
             refine ⟨?_, HCL.out, ?_, IxOk.nil _, List.Pairwise.nil⟩
             · intro e
               have := H0.out
               rw [HCN.out, show cs = [] from e] at this
               exact absurd this (by simp)
             · have := HQ1.out
               rw [List.any_eq_false] at this
               intro c hc
               simpa using this c hc
        clear h HSH H2 HV HOK
        simp only [putL, List.foldl, Act.put, List.setIfInBounds_toArray, List.set_cons_succ, List.set_cons_zero]
        go_wp2
        go_end0
        exact ⟨rfl, HF.out⟩
    · have HE : RowKit.Hid (I2 = I) := by show _ = _; rw [HQ.out]; simp [h0]
      have HFI : RowKit.Hid (∀ w', Below w2.heap.size w2 w' → St w0 fp0 (storeA S cols I2 [] 1 :: R) w') := fun w' hb => by rw [HE.out]; exact HNO.out w' (H2.out.mono hb)
      have h0' : ¬ (0 : Int) < cn := by omega
      clear HSH HNO H2 HQ h0
      go_wp2
      go_end0
      exact ⟨rfl, HFI.out _ ((Below.refl _ _).alloc (Nat.le_refl _) _)⟩
  · have HE : RowKit.Hid (I2 = I) := by show _ = _; rw [HQ.out]; simp
    have HFI : RowKit.Hid (∀ w', Below w2.heap.size w2 w' → St w0 fp0 (storeA S cols I2 [] 1 :: R) w') := fun w' hb => by rw [HE.out]; exact HNO.out w' (H2.out.mono hb)
    clear HSH HNO H2 HQ
    go_wp2
    go_end0
    exact ⟨rfl, HFI.out _ ((Below.refl _ _).alloc (Nat.le_refl _) _)⟩
end Go.Proofs.YtnefkkidfhmggaaGreat
/- The store: New, Insert. -/
namespace Go.Proofs.YtnefkkidfhmggaaGreat
open Go Go.RowKit
/-- Lists of columns that are read: of keys; of foreign keys. -/
def KeysX (w : World) (vs : List Value) (ks : List (List Int)) (v : Value) : Prop := SlX [] w 1 ks.length vs v ∧ ∀ i (h : i < ks.length), ∃ u, vs[i]? = some u ∧ IntsX [] w ks[i] u
def ForsX (w : World) (vs : List Value) (ks : List (List Int)) (v : Value) : Prop := SlX [] w 3 ks.length vs v ∧ ∀ i (h : i < ks.length), ∃ u a b, vs[i * 3]? = some u ∧ vs[i * 3 + 1]? = some (.int .i64 a) ∧ vs[i * 3 + 2]? = some (.int .i64 b) ∧ IntsX [] w ks[i] u
theorem addI_len (n : Nat) : ∀ (l : List (List Int)) (I : List (List Int)), (l.foldl (addI n) I).length ≤ I.length + l.length
 | [], I => by simp
 | c :: l, I => by
  have h1 := addI_len n l (addI n I c)
  have h2 : (addI n I c).length ≤ I.length + 1 := by unfold addI; split <;> simp
  simp only [List.foldl_cons, List.length_cons]
  omega
theorem SlX.some {X : List Nat} {w : World} {size n : Nat} {xs : List Value} {v : Value} (h : SlX X w size n xs v) {j : Nat} {u : Value} (hj : xs[j]? = some u) : ∃ b o c, v = .slice (some ⟨b, o, none⟩) n c ∧ w.cell? ⟨b, o + j, none⟩ = some u := by
 obtain ⟨hl, rfl⟩ := List.getElem?_eq_some_iff.1 hj
 obtain ⟨_, _, a, c, rfl, h4⟩ := h
 obtain ⟨b, o, rfl, _, h7⟩ := h4 j hl
 exact ⟨b, o, c, rfl, h7⟩
set_option maxHeartbeats 4000000 in
set_option maxRecDepth 20000 in
theorem SNew_calls (nm : ByteArray) (ca xa : Option Addr) (n cc xn xc : Nat) (kv fv : Value) (K F : List (List Int)) (kvs fvs : List Value) (hK : ∀ c ∈ K, c.length ≤ 1000) (hF : ∀ c ∈ F, c.length ≤ 1000) (hKl : K.length ≤ 1000000) (hFl : F.length ≤ 1000000) (w0 w : World) (fp0 : List Nat) (R : List Asn)
 (hk : Rd w0 fp0 R fun w => KeysX w kvs K kv) (hf : Rd w0 fp0 R fun w => ForsX w fvs F fv) (hS : St w0 fp0 R w) :
 Calls Tryz.prog 26 #[.agg #[.string nm, .slice ca n cc, kv, fv, .slice xa xn xc]] w fun e w' => ∃ S, e = .returned (ptrV S) ∧ St w0 fp0 (storeA S n ((K ++ F).foldl (addI n) []) [] 1 :: R) w' := by
 obtain ⟨ka, kc, rfl⟩ := (hk.here hS).1.shape
 obtain ⟨fa, fc, rfl⟩ := (hf.here hS).1.shape
 have HS := Lib.hid (hS.newblk 75 #[.string nm, .slice ca n cc, .slice ka K.length kc, .slice fa F.length fc, .slice xa xn xc])
 have HK := Lib.hid hk
 have HF := Lib.hid hf
 have HKC := Lib.hid hK
 have HFC := Lib.hid hF
 have HKL := Lib.hid hKl
 have HFL := Lib.hid hFl
 obtain ⟨IF, hIF⟩ : ∃ IF, (K ++ F).foldl (addI n) [] = IF := ⟨_, rfl⟩
 have HIF := Lib.hid hIF
 rw [hIF]
 obtain ⟨kn, hkn⟩ : ∃ kn, K.length = kn := ⟨_, rfl⟩
 obtain ⟨fn, hfn⟩ : ∃ fn, F.length = fn := ⟨_, rfl⟩
 have HKN := Lib.hid hkn
 have HFN := Lib.hid hfn
 have hkn63 : kn ≤ 9223372036854775807 := by omega
 have hfn63 : fn ≤ 9223372036854775807 := by omega
 have hkn6 : kn ≤ 1000000 := by omega
 rw [hkn] at HK
 rw [hfn] at HF
 rw [hkn, hfn] at HS ⊢
 clear hk hf hS hK hF hIF hkn hfn hKl hFl
 go_enter Tryz.func26, Tryz.ntmps26
 go_upto_region 1 with (fail)
 obtain ⟨tv, htv⟩ : ∃ tv, w.heap.size = tv := ⟨_, rfl⟩
 rw [htv] at HS ⊢
 clear htv
 refine rSn1 (w0 := w0) (fp0 := fp0) tv n cc (.string nm) (.slice ka kn kc) (.slice fa fn fc) (.slice xa xn xc) ca R rfl (by kernel_rfl) rfl rfl rfl ?_ ?_
 · refine (St.emp.2 (St.emp.2 HS.out)).perm ?_
   classical
   exact List.perm_iff_count.2 fun a => by simp only [List.cons_append, List.nil_append, List.count_cons]; omega
 intro u3 u11 u12 u13 w1 s11 s12 s13 s3 h
 obtain ⟨tb, rfl⟩ := s11
 obtain ⟨S, rfl⟩ := s13
 obtain rfl : u3 = .pointer (some ⟨S, 0, none⟩) := s3
 have H1 : RowKit.Hid (St w0 fp0 (storeA S n ((K.take 0).foldl (addI n) []) [] 1 :: blkA tv 75 #[.string nm, .slice ca n cc, .slice ka kn kc, .slice fa fn fc, .slice xa xn xc] :: R) w1) := by
  have h2 : St w0 fp0 (atA 119 (.pointer (some ⟨S, 0, none⟩)) #[.int .i64 n, .pointer (some ⟨tb, 0, none⟩), .int .i64 1, .slice none 0 0] :: objA false 16 0 [] tb :: blkA tv 75 #[.string nm, .slice ca n cc, .slice ka kn kc, .slice fa fn fc, .slice xa xn xc] :: R) w1 := by
   refine h.perm ?_
   classical
   exact List.perm_iff_count.2 fun a => by simp only [pb, List.cons_append, List.nil_append, List.count_cons]; omega
  obtain ⟨b, e, h3⟩ := St.at_open h2
  injection e with e
  injection e with e
  injection e with e
  subst e
  have h4 := St.nilR 97 2 h3
  have h5 : St w0 fp0 (stoL S ⟨n, 1, 0, tb, .slice none 0 0, [], []⟩ ++ (blkA tv 75 #[.string nm, .slice ca n cc, .slice ka kn kc, .slice fa fn fc, .slice xa xn xc] :: R)) w1 := by
   refine h4.perm ?_
   classical
   exact List.perm_iff_count.2 fun a => by simp only [stoL, ptrV, reM, ixV, List.map_nil, List.flatMap_nil, List.length_nil, List.cons_append, List.nil_append, List.count_cons]; omega
  refine St.shutS ⟨rfl, rfl, rfl, rfl, List.Pairwise.nil, ⟨by omega, by omega⟩, fun x hx => absurd hx (by simp), fun x hx => absurd hx (by simp)⟩ h5
 clear h HS s12
 simp only [putL, List.foldl, Act.put, List.setIfInBounds_toArray, List.set_cons_succ, List.set_cons_zero]
 obtain ⟨_, hb⟩ := H1.out.has 1 rfl
 have c2 := (blk_get hb).1 2
 have hbl := (blk_get hb).2.2
 simp only [List.getElem?_toArray, List.getElem?_cons_zero, List.getElem?_cons_succ] at c2
 clear hb
 go_wp2
 go_loopg [17] kn (fun g z wr => ∃ k : Nat, z = .int .i64 k ∧ g + k = kn ∧ RowKit.Hid (St w0 fp0 (storeA S n ((K.take k).foldl (addI n) []) [] 1 :: blkA tv 75 #[.string nm, .slice ca n cc, .slice ka kn kc, .slice fa fn fc, .slice xa xn xc] :: R) wr))
 case atStart => exact ⟨0, rfl, rfl, H1⟩
 case round =>
  clear H1
  obtain ⟨k, rfl, hgk, Hs⟩ := hrel
  by_cases hk : k < kn
  · have hkl : k < K.length := by rw [HKN.out]; exact hk
    have hrd := HK.out.at (M := [_, _]) Hs.out
    obtain ⟨u, hu, -⟩ := hrd.2 k hkl
    have hrdk : Rd w0 fp0 (blkA tv 75 #[.string nm, .slice ca n cc, .slice ka kn kc, .slice fa fn fc, .slice xa xn xc] :: R) fun w => IntsX [] w K[k] u := (HK.out.imp fun w h => by
     obtain ⟨u', hu', h'⟩ := h.2 k hkl
     rw [hu] at hu'
     obtain rfl := Option.some.inj hu'
     exact h').cons _
    obtain ⟨b, o, c, e1, q1⟩ := hrd.1.some hu
    obtain ⟨rfl, -, rfl⟩ := Value.slice.inj e1
    have hql := World.block_lt_of_cell? wr _ q1
    have hA := SAdd_calls S n ((K.take k).foldl (addI n) []) K[k] u (HKC.out _ (List.getElem_mem hkl)) (by have := addI_len n (K.take k) []; rw [List.length_take, List.length_nil] at this; omega) w0 wr fp0 _ hrdk Hs.out
    have hst : addI n ((K.take k).foldl (addI n) []) K[k] = (K.take (k + 1)).foldl (addI n) [] := by
     rw [List.take_add_one, List.getElem?_eq_getElem hkl, List.foldl_append]
     rfl
    rw [hst] at hA
    have HA := Lib.hid hA
    have Hgk := Lib.hid hgk
    have hk' : (k : Int) < kn := by omega
    unfold ptrV at HA
    clear hrd hrdk hA hst hu e1 hkl hgk Hs
    go_wp2_with fail
    (with_reducible refine HA.out.mono ?_)
    rintro e w3 ⟨rfl, h3⟩
    have H3 := Lib.hid h3
    clear h3 HA
    go_wp2
    go_roundg (gk - 1)
    case rel => exact ⟨k + 1, by go_num, by have := Hgk.out; omega, H3⟩
    case measure => have := Hgk.out; omega
  · obtain rfl : k = kn := by omega
    have H1 : RowKit.Hid (St w0 fp0 (storeA S n ((K ++ F.take 0).foldl (addI n) []) [] 1 :: blkA tv 75 #[.string nm, .slice ca n cc, .slice ka k kc, .slice fa fn fc, .slice xa xn xc] :: R) wr) := by
     have h := Hs.out
     rw [List.take_of_length_le (by rw [HKN.out]; exact Nat.le_refl _)] at h
     rw [List.take_zero, List.append_nil]
     exact h
    obtain ⟨_, hb⟩ := H1.out.has 1 rfl
    have c3 := (blk_get hb).1 3
    have hbl := (blk_get hb).2.2
    simp only [List.getElem?_toArray, List.getElem?_cons_zero, List.getElem?_cons_succ] at c3
    clear hb Hs hgk hk
    go_wp2
    go_loopg [28] fn (fun g z wr => ∃ k2 : Nat, z = .int .i64 k2 ∧ g + k2 = fn ∧ RowKit.Hid (St w0 fp0 (storeA S n ((K ++ F.take k2).foldl (addI n) []) [] 1 :: blkA tv 75 #[.string nm, .slice ca n cc, .slice ka k kc, .slice fa fn fc, .slice xa xn xc] :: R) wr))
    case atStart => exact ⟨0, rfl, rfl, H1⟩
    case round =>
     clear H1
     obtain ⟨k2, rfl, hgk, Hs⟩ := hrel
     by_cases hk : k2 < fn
     · have hkl : k2 < F.length := by rw [HFN.out]; exact hk
       have hrd := HF.out.at (M := [_, _]) Hs.out
       obtain ⟨u, ua, ub, hu, hua, hub, -⟩ := hrd.2 k2 hkl
       have hrdk : Rd w0 fp0 (blkA tv 75 #[.string nm, .slice ca n cc, .slice ka k kc, .slice fa fn fc, .slice xa xn xc] :: R) fun w => IntsX [] w F[k2] u := (HF.out.imp fun w h => by
        obtain ⟨u', _, _, hu', _, _, h'⟩ := h.2 k2 hkl
        rw [hu] at hu'
        obtain rfl := Option.some.inj hu'
        exact h').cons _
       obtain ⟨b, o, c, e1, q1⟩ := hrd.1.some hu
       obtain ⟨_, _, _, e2, q2⟩ := hrd.1.some hua
       obtain ⟨_, _, _, e3, q3⟩ := hrd.1.some hub
       obtain ⟨rfl, -, rfl⟩ := Value.slice.inj e1
       obtain ⟨e2, -, -⟩ := Value.slice.inj e2
       obtain ⟨e3, -, -⟩ := Value.slice.inj e3
       injection e2 with e2
       injection e2 with e2 e2'
       injection e3 with e3
       injection e3 with e3 e3'
       subst e2 e2' e3 e3'
       rw [← Nat.add_assoc] at q2 q3
       obtain ⟨ua', un', uc', rfl, -⟩ := (hrdk.at (M := [_]) Hs.out).shape
       have hql := World.block_lt_of_cell? wr _ q1
       have hA := fun w' hb => SAdd_calls S n ((K ++ F.take k2).foldl (addI n) []) F[k2] (.slice ua' un' uc') (HFC.out _ (List.getElem_mem hkl)) (by have := addI_len n (K ++ F.take k2) []; rw [List.length_append, List.length_take, List.length_nil, HKN.out] at this; have := HFN.out; have := HKL.out; have := HFL.out; have := HKN.out; omega) w0 w' fp0 _ hrdk (Hs.out.mono hb)
       have hst : addI n ((K ++ F.take k2).foldl (addI n) []) F[k2] = (K ++ F.take (k2 + 1)).foldl (addI n) [] := by
        rw [List.take_add_one, List.getElem?_eq_getElem hkl, ← List.append_assoc, List.foldl_append (l := K ++ F.take k2)]
        rfl
       rw [hst] at hA
       have HA := Lib.hid hA
       have Hgk := Lib.hid hgk
       have hk' : (k2 : Int) < fn := by omega
       unfold ptrV at HA
       clear hrd hrdk hA hst hu hua hub e1 hkl hgk Hs
       go_wp2_with fail
       (with_reducible refine (HA.out _ ((Below.refl _ _).alloc (Nat.le_refl _) _)).mono ?_)
       rintro e w3 ⟨rfl, h3⟩
       have H3 := Lib.hid h3
       clear h3 HA
       go_wp2
       go_roundg (gk - 1)
       case rel => exact ⟨k2 + 1, by go_num, by have := Hgk.out; omega, H3⟩
       case measure => have := Hgk.out; omega
     · obtain rfl : k2 = fn := by omega
       have HR : RowKit.Hid (St w0 fp0 (storeA S n IF [] 1 :: R) wr) := by
        have h := Hs.out
        rw [List.take_of_length_le (by rw [HFN.out]; exact Nat.le_refl _), HIF.out] at h
        exact (h.perm (List.Perm.swap _ _ _)).drop
       clear Hs hgk hk
       go_wp2
       go_ret
       exact ⟨_, rfl, HR.out⟩
/-- The number that Insert returns. -/
def insV (cols : Nat) (r : Rw) (next : Int) : Int := if putOk cols next r then next else 0
set_option maxHeartbeats 4000000 in
theorem SInsert_calls (S cols : Nat) (I : List (List Int)) (L : LL) (next : Int) (r : Rw) (v : Value) (hri : ∀ v ∈ r, I64 v.int) (hc : cols ≤ 1000000) (hlen : L.length < 1099511627775) (w0 w : World) (fp0 : List Nat) (R : List Asn) (hv : Rd w0 fp0 R fun w => ValsAt w r v) (hS : St w0 fp0 (storeA S cols I L next :: R) w) :
 Calls Tryz.prog 23 #[ptrV S, v] w fun e w' => e = .returned (.int .i64 (insV cols r next)) ∧ St w0 fp0 (storeA S cols I (putLL cols next r L) (putN cols next r next) :: R) w' := by
 obtain ⟨s, hok, hs⟩ := hS.openS
 have hnx := hok.nx
 obtain ⟨f, hf⟩ := hs.star_of
 have c2 := sto_blk hf 2
 rw [show (#[Value.int .i64 s.cols, ptrV s.tb, .int .i64 s.next, s.iv] : Array Value)[2]? = some (.int .i64 s.next) from rfl, hok.enext] at c2
 have hl := World.block_lt_of_cell? w _ c2
 have HP := Lib.hid (SPut_calls S cols I L next next r v (by unfold I64; omega) hri hc hlen w0 w fp0 R hv hS)
 unfold insV
 obtain ⟨va, vn, vc, rfl, -⟩ := (hv.at (M := [_]) hS).shape
 obtain ⟨q, hq⟩ : ∃ q, putOk cols next r = q := ⟨_, rfl⟩
 rw [hq] at HP ⊢
 unfold errV at HP
 generalize putLL cols next r L = L2 at *
 generalize putN cols next r next = n2 at *
 clear hS hs hf hok hv hri hlen hc hq
 unfold ptrV at *
 cases q
 all_goals
  go_enter Tryz.func23, Tryz.ntmps23
  go_wp2_with fail
  (with_reducible refine HP.out.mono ?_)
  rintro e w1 ⟨rfl, h1⟩
  have H1 := Lib.hid h1
  clear h1 HP
  go_wp2
  go_ret
  exact ⟨rfl, H1.out⟩
end Go.Proofs.YtnefkkidfhmggaaGreat
/- The reference's store: New, Get, Delete. -/
namespace Go.Proofs.YtnefkkidfhmggaaGreat
open Go Go.RowKit
/-- A row with its number, in a list of the reference. -/
structure Ri where
 id : Int
 a : Option Addr
 n : Nat
 c : Nat
 r : Rw
def Ri.v (x : Ri) : Value := .slice x.a x.n x.c
def riV (l : List Ri) : List Value := l.flatMap fun x => [.int .i64 x.id, x.v]
def riA (v : Value) (l : List Ri) : Asn := rowA 56 2 v l.length (riV l)
def riL (l : List Ri) : LL := l.map fun x => (x.id, x.r)
theorem riV_len (l : List Ri) : (riV l).length = l.length * 2 := by
 induction l with
 | nil => rfl
 | cons x l ih => simp only [riV, List.flatMap_cons, List.length_append, List.length_cons, List.length_nil] at ih ⊢; omega
theorem riV_append (l m : List Ri) : riV (l ++ m) = riV l ++ riV m := List.flatMap_append
theorem riV_at (l : List Ri) (k : Nat) (hk : k < l.length) : (riV l)[k * 2]? = some (.int .i64 l[k].id) ∧ (riV l)[k * 2 + 1]? = some l[k].v := by
 induction l generalizing k with
 | nil => simp at hk
 | cons x l ih =>
  have e : riV (x :: l) = .int .i64 x.id :: x.v :: riV l := rfl
  cases k with
  | zero => exact ⟨rfl, rfl⟩
  | succ k =>
   have := ih k (by simpa using hk)
   rw [e, show (k + 1) * 2 = k * 2 + 1 + 1 by omega, show k * 2 + 1 + 1 + 1 = (k * 2 + 1) + 1 + 1 by omega]
   simpa using this
theorem ri_cells {X : List Nat} {w : World} {l : List Ri} {v : Value} (h : SlX X w 2 l.length (riV l) v) (k : Nat) (hk : k < l.length) : ∃ b o c, v = .slice (some ⟨b, o, none⟩) l.length c ∧ w.cell? ⟨b, o + k * 2, none⟩ = some (.int .i64 l[k].id) ∧ w.cell? ⟨b, o + k * 2 + 1, none⟩ = some l[k].v := by
 obtain ⟨e1, e2⟩ := riV_at l k hk
 obtain ⟨b, o, c, h1, h2⟩ := h.some e1
 obtain ⟨b', o', c', h3, h4⟩ := h.some e2
 rw [h1] at h3
 obtain ⟨h3, -, -⟩ := Value.slice.inj h3
 injection h3 with h3
 injection h3 with h3 h5
 subst h3 h5
 exact ⟨b, o, c, h1, h2, by rw [Nat.add_assoc]; exact h4⟩
theorem riA_sl {w : World} {v : Value} {l : List Ri} {f : List Nat} (h : (riA v l).p w f) : SlX [] w 2 l.length (riV l) v := row_sl h (riV_len l)
section
variable {P : Program}
theorem wpList_appR {w : World} {ops : Array Oper} {rest : List Oper} {o : Oper} {a : Act} {Q : Exit → Act → World → Prop} (hgd : o.guard = none) (s x : Operand) (t tx : TypeId)
 (ho : o.op = .call { callee := .builtin .append, args := #[s, x], argTypes := #[t, tx] }) {e : TypeId} {size : Nat} {v v2 : Value} (hs : a.eval s = v) (hx : a.eval x = v2) (hC : AppSrc P t tx e size) {w0 : World} {fp0 : List Nat} {L : List Asn} {n m : Nat} {xs news : List Value}
 (hS : St w0 fp0 (rowA e size v n xs :: L) w) (hsrc : Go.Src P size tx v2 m news w) (hl : n + m < 1099511627776)
 (h : ∀ v' w', RowKit.Hid (St w0 fp0 (rowA e size v' (n + m) (xs ++ news) :: L) w') → wpList P ops Q rest (a.put o.dst v') w') : wpList P ops Q (o :: rest) a w := by
 refine wpList_plain hgd fun K hK => ?_
 obtain ⟨v', w', hr, h2⟩ := St.appSrc hC o.type hS hsrc hl
 unfold Oper.wp execOp
 simp only [ho, resolve, invoke, builtin, Sem.run_bind, Sem.run_pure, Result.andThen_ok, List.map_toArray, List.map_cons, List.map_nil, hs, hx, hr]
 exact hK _ _ (h v' w' h2)
theorem src_litk {tx e' : TypeId} (hk : P.underlying tx = some (.slice e')) (w : World) (size b m c : Nat) (t : TypeId) (fr : Nat × Nat) (cs : Array Value) (h : w.heap[b]? = some (.cells cs t fr)) (hn : cs.size = m * size) (h1 : ∀ u ∈ cs.toList, u.oneCell' = true) : Go.Src P size tx (.slice (some ⟨b, 0, none⟩) m c) m cs.toList w :=
 Go.Src.ofSlice w hk _ m c _ (by simpa using hn) (fun j u hj => by
  rw [add_plain, Nat.zero_add, cell_of_row w b j cs t fr h]
  simpa using hj) h1
end
theorem appRI : AppSrc Tryz.prog 35 35 56 2 := appSrc (z := .agg #[.int .i64 0, .slice none 0 0]) (bytes := 32) (by kernel_rfl) (by kernel_rfl) rfl (by decide) (by decide)
/-- The reference's store as a value. -/
def rsV (cols : Nat) (lv : Value) (next : Int) : Value := .agg #[.int .i64 cols, lv, .int .i64 next]
set_option maxHeartbeats 4000000 in
theorem RNew_calls (cols : Nat) (w : World) : Calls Tryz.prog 31 #[.int .i64 cols] w fun e w' => e = .returned (rsV cols (.slice none 0 0) 1) ∧ Below w.heap.size w w' := by
 unfold rsV
 have hb : Below w.heap.size w (w.alloc (.cells #[.int .i64 0, .slice none 0 0, .int .i64 0] 37)) := (Below.refl _ _).alloc (Nat.le_refl _) _
 have Hb := Lib.hid hb
 obtain ⟨V0, V1, V2⟩ := VarIs.new w #[.int .i64 0, .slice none 0 0, .int .i64 0] 37
 clear hb
 go_enter Tryz.func31, Tryz.ntmps31
 go_wp2
 refine bodyPost_ret (v := .agg #[.int .i64 cols, .slice none 0 0, .int .i64 1]) (by simp [results, Tryz.results31, go_sem]) rfl ?_
 exact ⟨rfl, (Below.refl _ _).alloc (Nat.le_refl _) _⟩
/-- The item of a number. -/
def findRi (l : List Ri) (k : Int) : Option Ri := l.find? fun x => x.id == k
def riGet : Option Ri → Value
 | some x => x.v
 | none => .slice none 0 0
theorem findRi_step {l : List Ri} {k : Int} {i : Nat} (hi : i < l.length) : findRi (l.drop i) k = if l[i].id == k then some l[i] else findRi (l.drop (i + 1)) k := by
 rw [findRi, List.drop_eq_getElem_cons hi, List.find?_cons]
 cases h : (l[i].id == k) <;> rfl
set_option maxHeartbeats 4000000 in
theorem RGet_calls (cols : Nat) (lv : Value) (next k : Int) (l : List Ri) (w : World) (hs : SlX [] w 2 l.length (riV l) lv) :
 Calls Tryz.prog 32 #[rsV cols lv next, .int .i64 k] w fun e w' => e = .returned (.tuple #[riGet (findRi l k), .bool (findRi l k).isSome]) ∧ Below w.heap.size w w' := by
 obtain ⟨a, c, rfl⟩ := hs.shape
 obtain ⟨n, hn⟩ : ∃ n, l.length = n := ⟨_, rfl⟩
 have hb : Below w.heap.size w (w.alloc (.cells #[.int .i64 cols, .slice a n c, .int .i64 next] 37)) := (Below.refl _ _).alloc (Nat.le_refl _) _
 have HS := Lib.hid (hs.mono hb)
 have hn63 : n ≤ 9223372036854775807 := by have := hs.1; unfold maxLen at this; omega
 have HN := Lib.hid hn
 obtain ⟨fo, hfo⟩ : ∃ fo, findRi l k = fo := ⟨_, rfl⟩
 have HF : RowKit.Hid (findRi (l.drop 0) k = fo) := by show _ = _; rw [List.drop_zero]; exact hfo
 have V1 := World.cell?_alloc_new w #[.int .i64 cols, .slice a n c, .int .i64 next] 37 1
 simp only [List.getElem?_toArray, List.getElem?_cons_zero, List.getElem?_cons_succ] at V1
 have Hb := Lib.hid hb
 rw [hfo, hn]
 clear hs hfo hn hb
 unfold rsV
 go_enter Tryz.func32, Tryz.ntmps32
 go_upto_region 1 with (fail)
 generalize hW : w.alloc _ = W at *
 clear hW
 have Vl := World.block_lt_of_cell? W _ V1
 go_wp2
 go_loopg [6] n (fun g z wr => ∃ i : Nat, z = .int .i64 i ∧ g + i = n ∧ wr = W ∧ RowKit.Hid (findRi (l.drop i) k = fo))
 case atStart => exact ⟨0, rfl, rfl, rfl, HF⟩
 case round =>
  clear HF
  obtain ⟨i, rfl, hgi, rfl, Hf⟩ := hrel
  by_cases hi : i < n
  · have hil : i < l.length := by rw [HN.out]; exact hi
    have hst := findRi_step (k := k) hil
    have hs := HS.out
    obtain ⟨b, o, c', e1, q1, q2⟩ := ri_cells hs i hil
    obtain ⟨rfl, -, rfl⟩ := Value.slice.inj e1
    have hql := World.block_lt_of_cell? _ _ q1
    have hi' : (i : Int) < n := by omega
    have Hgi := Lib.hid hgi
    have Hst := Lib.hid hst
    clear e1 hgi hst hs
    generalize l[i] = x at *
    clear hil
    obtain ⟨xid, xa, xn, xc, xr⟩ := x
    unfold Ri.v at q2
    simp only at q1 q2 Hst
    by_cases hx : xid = k
    · subst hx
      have HE : RowKit.Hid (fo = some ⟨xid, xa, xn, xc, xr⟩) := by
       show _ = _
       rw [← Hf.out, Hst.out]
       simp
      obtain rfl := HE.out
      have hxx : (xid == xid) = true := by simp
      clear Hst HE Hf
      go_wp2
      refine bodyPost_ret (v := .tuple #[.slice xa xn xc, .bool true]) (by simp [results, Tryz.results32, go_sem]) rfl ?_
      exact ⟨rfl, Hb.out⟩
    · have hxk : (xid == k) = false := by simp [hx]
      have Hn : RowKit.Hid (findRi (l.drop (i + 1)) k = fo) := by
       show _ = _
       rw [← Hf.out, Hst.out, hxk]
       rfl
      clear Hst Hf hx
      go_wp2
      go_roundg (gk - 1)
      case rel => exact ⟨i + 1, by go_num, by have := Hgi.out; omega, rfl, Hn⟩
      case measure => have := Hgi.out; omega
  · obtain rfl : i = n := by omega
    have HE : RowKit.Hid (fo = none) := by
     show _ = _
     rw [← Hf.out, List.drop_of_length_le (by rw [HN.out]; exact Nat.le_refl _)]
     rfl
    obtain rfl := HE.out
    clear HE Hf hgi hi
    go_wp2
    refine bodyPost_ret (v := .tuple #[.slice none 0 0, .bool false]) (by simp [results, Tryz.results32, go_sem]) rfl ?_
    exact ⟨rfl, Hb.out⟩
/-- The items but one. -/
def delR (k : Int) (l : List Ri) : List Ri := l.filter fun x => x.id != k
theorem riL_delR (k : Int) (l : List Ri) : riL (delR k l) = delL k (riL l) := by
 unfold riL delR delL
 rw [List.filter_map]
 rfl
theorem delR_snoc (k : Int) (l : List Ri) (i : Nat) (hi : i < l.length) : delR k (l.take (i + 1)) = if l[i].id != k then delR k (l.take i) ++ [l[i]] else delR k (l.take i) := by
 rw [List.take_add_one, List.getElem?_eq_getElem hi, delR, List.filter_append]
 cases h : (l[i].id != k) <;> simp [h, delR]
theorem delR_len (k : Int) (l : List Ri) : (delR k l).length ≤ l.length := List.length_filter_le _ _
/-- The list is put into the store's variable, this one into the result. -/
theorem setRS {w0 w : World} {fp0 : List Nat} {R : List Asn} {A : Asn} {vb rb cols : Nat} {o : Value} {next : Int} {r0 r1 r2 : Value} (h : St w0 fp0 (A :: blkA vb 37 #[.int .i64 cols, o, .int .i64 next] :: blkA rb 37 #[r0, r1, r2] :: R) w) (v : Value) :
 St w0 fp0 (A :: R) ((((w.setCell ⟨vb, 1, none⟩ v).setCell ⟨rb, 0, none⟩ (.int .i64 cols)).setCell ⟨rb, 1, none⟩ v).setCell ⟨rb, 2, none⟩ (.int .i64 next)) := by
 have h1 := (h.perm (List.Perm.swap _ _ _)).setB 1 (by simp) v
 have h2 := ((h1.perm (List.Perm.swap _ _ _)).perm (List.Perm.cons _ (List.Perm.swap _ _ _))).perm (List.Perm.swap _ _ _)
 have h3 := ((h2.setB 0 (by simp) (.int .i64 cols)).setB 1 (by simp) v).setB 2 (by simp) (.int .i64 next)
 exact (h3.drop.perm (List.Perm.swap _ _ _)).drop
set_option maxHeartbeats 4000000 in
set_option maxRecDepth 20000 in
theorem RDelete_calls (cols : Nat) (lv : Value) (next k : Int) (l : List Ri) (hlen : l.length < 1099511627775) (w0 w : World) (fp0 : List Nat) (R : List Asn) (hS : St w0 fp0 (riA lv l :: R) w) :
 Calls Tryz.prog 34 #[rsV cols lv next, .int .i64 k] w fun e w' => ∃ lv2, e = .returned (rsV cols lv2 next) ∧ St w0 fp0 (riA lv2 (delR k l) :: riA lv l :: R) w' := by
 obtain ⟨_, hp⟩ := hS.has 0 rfl
 obtain ⟨a, c, rfl⟩ := (riA_sl hp).shape
 obtain ⟨n, hn⟩ : ∃ n, l.length = n := ⟨_, rfl⟩
 have hn63 : n ≤ 9223372036854775807 := by omega
 have HN := Lib.hid hn
 have HL := Lib.hid hlen
 have H0 : RowKit.Hid (St w0 fp0 (riA (.slice none 0 0) (delR k (l.take 0)) :: blkA w.heap.size 37 #[.int .i64 cols, .slice a n c, .int .i64 next] :: blkA (w.heap.size + 1) 37 #[.int .i64 0, .slice none 0 0, .int .i64 0] :: riA (.slice a n c) l :: R) ((w.alloc (.cells #[.int .i64 cols, .slice a n c, .int .i64 next] 37)).alloc (.cells #[.int .i64 0, .slice none 0 0, .int .i64 0] 37))) := by
  have h1 := ((hS.newblk 37 #[.int .i64 cols, .slice a n c, .int .i64 next]).newblk 37 #[.int .i64 0, .slice none 0 0, .int .i64 0]).nilR 56 2
  rw [hn] at h1
  simp only [World.size_alloc] at h1
  exact St_re (L := [_, _, _, _]) h1 [0, 2, 1, 3] [] (by kernel_rfl)
 rw [hn]
 clear hS hp hn hlen
 unfold rsV
 go_enter Tryz.func34, Tryz.ntmps34
 go_upto_region 1 with (fail)
 generalize hW : (w.alloc _).alloc _ = W at *
 clear hW
 obtain ⟨vb, hvb⟩ : ∃ vb, w.heap.size = vb := ⟨_, rfl⟩
 rw [hvb] at H0 ⊢
 clear hvb
 obtain ⟨_, hb1⟩ := H0.out.has 1 rfl
 have c1 := (blk_get hb1).1 1
 have bl1 := (blk_get hb1).2.2
 simp only [List.getElem?_toArray, List.getElem?_cons_zero, List.getElem?_cons_succ] at c1
 clear hb1
 go_wp2
 go_loopg [5, 6] n (fun g z5 z wr => ∃ i : Nat, z = .int .i64 i ∧ g + i = n ∧ RowKit.Hid (St w0 fp0 (riA z5 (delR k (l.take i)) :: blkA vb 37 #[.int .i64 cols, .slice a n c, .int .i64 next] :: blkA (vb + 1) 37 #[.int .i64 0, .slice none 0 0, .int .i64 0] :: riA (.slice a n c) l :: R) wr))
 case atStart => exact ⟨0, rfl, rfl, H0⟩
 case round =>
  clear H0 c1 bl1
  obtain ⟨i, rfl, hgi, Hs⟩ := hrel
  obtain ⟨_, hb1⟩ := Hs.out.has 1 rfl
  have c1 := (blk_get hb1).1 1
  have bl1 := (blk_get hb1).2.2
  simp only [List.getElem?_toArray, List.getElem?_cons_zero, List.getElem?_cons_succ] at c1
  by_cases hi : i < n
  · have hil : i < l.length := by rw [HN.out]; exact hi
    have hst := delR_snoc k l i hil
    obtain ⟨_, hp⟩ := Hs.out.has 3 rfl
    obtain ⟨b, o, c', e1, q1, q2⟩ := ri_cells (riA_sl hp) i hil
    obtain ⟨rfl, -, rfl⟩ := Value.slice.inj e1
    have hql := World.block_lt_of_cell? _ _ q1
    have hi' : (i : Int) < n := by omega
    have hlen : (delR k (l.take i)).length + 1 < 1099511627776 := by
     have h1 := delR_len k (l.take i)
     rw [List.length_take] at h1
     have := HL.out
     omega
    have Hlen := Lib.hid hlen
    have Hgi := Lib.hid hgi
    have Hst := Lib.hid hst
    clear e1 hgi hst hp hlen hb1
    generalize l[i] = x at *
    clear hil
    obtain ⟨xid, xa, xn, xc, xr⟩ := x
    unfold Ri.v at q2
    simp only at q1 q2 Hst
    by_cases hx : xid = k
    · have hxk : (xid != k) = false := by simp [hx]
      have Hn : RowKit.Hid (delR k (l.take (i + 1)) = delR k (l.take i)) := by
       show _ = _
       rw [Hst.out, hxk]
       rfl
      clear Hst hx
      go_wp2
      go_roundg (gk - 1)
      case rel => exact ⟨i + 1, by go_num, by have := Hgi.out; omega, by rw [Hn.out]; exact Hs.out⟩
      case measure => have := Hgi.out; omega
    · have hxk : (xid != k) = true := by simp [hx]
      have Hn : RowKit.Hid (delR k (l.take (i + 1)) = delR k (l.take i) ++ [⟨xid, xa, xn, xc, xr⟩]) := by
       show _ = _
       rw [Hst.out, hxk]
       rfl
      clear Hst hx
      go_wp2_with (first
       | (at_builtin; refine wpList_appR rfl _ _ _ _ rfl rfl rfl appRI (Hs.out.mono ((Below.refl _ _).alloc (Nat.le_refl _) _)) (src_litk (e' := 56) (by kernel_rfl) _ 2 _ 1 _ _ _ #[.int .i64 xid, .slice xa xn xc] (heap_alloc_new _ _) rfl (by simp; exact ⟨rfl, rfl⟩)) Hlen.out ?_; intro v3 w3 h3))
      go_roundg (gk - 1)
      case rel =>
       refine ⟨i + 1, by go_num, by have := Hgi.out; omega, ?_⟩
       rw [Hn.out]
       have h4 := h3.out
       show St w0 fp0 (rowA 56 2 v3 (delR k (l.take i) ++ [(⟨xid, xa, xn, xc, xr⟩ : Ri)]).length (riV (delR k (l.take i) ++ [(⟨xid, xa, xn, xc, xr⟩ : Ri)])) :: _) _
       rw [riV_append, List.length_append]
       exact h4
      case measure => have := Hgi.out; omega
  · obtain rfl : i = n := by omega
    have hs := Hs.out
    rw [List.take_of_length_le (by rw [HN.out]; exact Nat.le_refl _)] at hs
    obtain ⟨_, hrow⟩ := hs.has 0 rfl
    obtain ⟨ya, yc, rfl⟩ := (riA_sl hrow).shape
    obtain ⟨m, hm⟩ : ∃ m, (delR k l).length = m := ⟨_, rfl⟩
    rw [hm] at hs
    have H2 := Lib.hid (setRS hs (.slice ya m yc))
    obtain ⟨_, hb3⟩ := hs.has 2 rfl
    have f1 := (blk_get hb1).2.1 1
    have c0 := (blk_get hb1).1 0
    have c2 := (blk_get hb1).1 2
    have d0 := (blk_get hb3).1 0
    have d1 := (blk_get hb3).1 1
    have d2 := (blk_get hb3).1 2
    have g0 := (blk_get hb3).2.1 0
    have g1 := (blk_get hb3).2.1 1
    have g2 := (blk_get hb3).2.1 2
    have bl2 := (blk_get hb3).2.2
    simp only [List.getElem?_toArray, List.getElem?_cons_zero, List.getElem?_cons_succ] at c0 c2 d0 d1 d2
    rw [hm]
    clear hs hrow hb1 hb3 Hs hgi hi hm
    go_wp2
    refine bodyPost_ret (v := .agg #[.int .i64 cols, .slice ya m yc, .int .i64 next]) (by simp [results, Tryz.results34, go_sem, *]) rfl ?_
    exact ⟨_, rfl, H2.out⟩
end Go.Proofs.YtnefkkidfhmggaaGreat
/- The reference's store: Storable, Put, Insert. -/
namespace Go.Proofs.YtnefkkidfhmggaaGreat
open Go Go.RowKit
set_option maxHeartbeats 4000000 in
theorem RStorable_calls (cols : Nat) (r : Rw) (v : Value) (w : World) (hv : ValsAt w r v) :
 Calls Tryz.prog 75 #[.int .i64 cols, v] w fun e w' => e = .returned (.bool (storB cols r)) ∧ Below w.heap.size w w' := by
 obtain ⟨a, n, c, rfl, hn, hm⟩ := hv.shape
 have HV := Lib.hid hv
 have HN := Lib.hid hn
 have hm2 : n ≤ 9223372036854775807 := by unfold maxLen at hm; omega
 obtain ⟨q, hq⟩ : ∃ q, storB cols r = q := ⟨_, rfl⟩
 have HQ : RowKit.Hid ((decide (r.length = cols) && r.all okV) = q) := hq
 rw [hq]
 clear hv hn hm hq
 go_enter Tryz.func75, Tryz.ntmps75
 go_wp2
 go_loopg [5] n (fun g z wr => ∃ k : Nat, z = .int .i64 k ∧ g + k = n ∧ RowKit.Hid (r.all okV = (r.drop k).all okV) ∧ RowKit.Hid (Below w.heap.size w wr))
 case atStart => exact ⟨0, rfl, rfl, (by show _ = _; rw [List.drop_zero]), Below.refl _ _⟩
 case round =>
  obtain ⟨k, rfl, hgk, Hp, Hb⟩ := hrel
  by_cases hk : k < n
  · have hkl : k < r.length := by rw [← HN.out]; exact hk
    obtain ⟨b, o, rfl⟩ := HV.out.has k hk
    obtain ⟨c0, c1, c2⟩ := (HV.out.mono Hb.out).cell k hkl
    have hlt := World.block_lt_of_cell? wr _ c0
    have hk' : (k : Int) < n := by omega
    have HC := Lib.hid (rvalid_calls r[k] wr (HV.out.txt _ (List.getElem_mem hkl)))
    have hst : (r.drop k).all okV = (okV r[k] && (r.drop (k + 1)).all okV) := by rw [List.drop_eq_getElem_cons hkl, List.all_cons]
    have Hst := Lib.hid hst
    have Hgk := Lib.hid hgk
    clear hst hgk
    generalize r[k] = x at *
    clear hkl
    unfold Vl.val at HC
    cases hq : okV x
    · rw [hq] at HC Hst
      have HQF : RowKit.Hid (q = false) := by show _ = _; rw [← HQ.out, Hp.out, Hst.out]; simp
      obtain rfl := HQF.out
      clear hq
      go_wp2_with fail
      (with_reducible refine HC.out.mono ?_)
      rintro e w1 ⟨rfl, hb1⟩
      have Hb1 := Lib.hid (Hb.out.trans (hb1.mono Hb.out.size))
      clear hb1
      go_wp2
      go_ret
      exact ⟨rfl, Hb1.out⟩
    · rw [hq] at HC Hst
      clear hq
      go_wp2_with fail
      (with_reducible refine HC.out.mono ?_)
      rintro e w1 ⟨rfl, hb1⟩
      have Hb1 := Lib.hid (Hb.out.trans (hb1.mono Hb.out.size))
      clear hb1
      go_wp2
      go_roundg (gk - 1)
      case rel => exact ⟨k + 1, by go_num, by have := Hgk.out; omega, (by show _ = _; rw [Hp.out, Hst.out, Bool.true_and]), Hb1⟩
      case measure => have := Hgk.out; omega
  · obtain rfl : k = n := by omega
    have HE : RowKit.Hid (((k : Int) == cols) = q) := by
     show _ = _
     rw [← HQ.out, Hp.out, List.drop_of_length_le (by rw [← HN.out]; exact Nat.le_refl _), List.all_nil, Bool.and_true, ← HN.out, Bool.eq_iff_iff]
     simp
     omega
    clear hgk hk
    go_wp2
    go_ret
    exact ⟨by rw [← HE.out]; rfl, Hb.out⟩
/-- One item in Put's loop. -/
def stepP (k : Int) (x : Ri) (s : List Ri × Bool) (y : Ri) : List Ri × Bool :=
 let s1 := if s.2 = false ∧ k ≤ y.id then (s.1 ++ [x], true) else s
 if y.id = k then s1 else (s1.1 ++ [y], s1.2)
def putR (k : Int) (x : Ri) (l : List Ri) : List Ri := (l.filter fun e => decide (e.id < k)) ++ x :: l.filter fun e => decide (k < e.id)
theorem riL_putR (k : Int) (x : Ri) (hx : x.id = k) (l : List Ri) : riL (putR k x l) = putL' k x.r (riL l) := by
 unfold riL putR putL'
 rw [List.map_append, List.map_cons, List.filter_map, List.filter_map, hx]
 rfl
theorem stepP_lt {k : Int} {x : Ri} : ∀ (A : List Ri) (o : List Ri), (∀ a ∈ A, a.id < k) → A.foldl (stepP k x) (o, false) = (o ++ A, false)
 | [], o, _ => by simp
 | a :: A, o, h => by
  have ha := h a (by simp)
  have h1 : ¬ k ≤ a.id := by omega
  have h2 : a.id ≠ k := by omega
  rw [List.foldl_cons, show stepP k x (o, false) a = (o ++ [a], false) by simp [stepP, h1, h2], stepP_lt A _ (fun b hb => h b (by simp [hb]))]
  simp
theorem stepP_gt {k : Int} {x : Ri} : ∀ (B : List Ri) (o : List Ri), (∀ b ∈ B, k < b.id) → B.foldl (stepP k x) (o, true) = (o ++ B, true)
 | [], o, _ => by simp
 | b :: B, o, h => by
  have hb := h b (by simp)
  have h2 : b.id ≠ k := by omega
  rw [List.foldl_cons, show stepP k x (o, true) b = (o ++ [b], true) by simp [stepP, h2], stepP_gt B _ (fun c hc => h c (by simp [hc]))]
  simp
theorem filt_id {A B : List Ri} {k : Int} (hA : ∀ a ∈ A, a.id < k) (hB : ∀ b ∈ B, k < b.id) : (A ++ B).filter (fun e => decide (e.id < k)) = A ∧ (A ++ B).filter (fun e => decide (k < e.id)) = B := by
 constructor
 · rw [List.filter_append, List.filter_eq_self.2 (fun a ha => decide_eq_true (hA a ha)), List.filter_eq_nil_iff.2 (fun b hb => by have := hB b hb; simp; omega), List.append_nil]
 · rw [List.filter_append, List.filter_eq_self.2 (fun b hb => decide_eq_true (hB b hb)), List.filter_eq_nil_iff.2 (fun a ha => by have := hA a ha; simp; omega), List.nil_append]
/-- What Put's loop builds. -/
theorem stepP_all {k : Int} {x : Ri} {l : List Ri} (h : l.Pairwise fun a b => a.id < b.id) : (let s := l.foldl (stepP k x) ([], false); if s.2 then s.1 else s.1 ++ [x]) = putR k x l := by
 have key : ∀ (A B : List Ri), (∀ a ∈ A, a.id < k) → (∀ b ∈ B, k < b.id) → (let s := B.foldl (stepP k x) (A, false); if s.2 then s.1 else s.1 ++ [x]) = A ++ x :: B := by
  intro A B hA hB
  cases B with
  | nil => simp
  | cons b B =>
   have hb := hB b (by simp)
   have h2 : b.id ≠ k := by omega
   have h3 : k ≤ b.id := by omega
   rw [List.foldl_cons, show stepP k x (A, false) b = (A ++ [x] ++ [b], true) by simp [stepP, h2, h3], stepP_gt B _ (fun c hc => hB c (by simp [hc]))]
   simp
 rcases split_id (fun e : Ri => e.id) l h k with ⟨A, e, B, rfl, he, hA, hB⟩ | ⟨A, B, rfl, hA, hB⟩
 · have h4 : putR k x (A ++ e :: B) = A ++ x :: B := by
    have := filt_id hA hB
    unfold putR
    rw [List.filter_append, List.filter_append] at *
    rw [List.filter_cons, List.filter_cons, if_neg (by simp [he]), if_neg (by simp [he]), this.1, this.2]
   rw [h4, List.foldl_append, stepP_lt A [] hA, List.nil_append, List.foldl_cons]
   rw [show stepP k x (A, false) e = (A ++ [x], true) by simp [stepP, he], stepP_gt B _ hB]
   simp
 · have h4 : putR k x (A ++ B) = A ++ x :: B := by
    unfold putR
    rw [(filt_id hA hB).1, (filt_id hA hB).2]
   rw [h4, List.foldl_append, stepP_lt A [] hA, List.nil_append]
   exact key A B hA hB
theorem stepP_len (k : Int) (x : Ri) : ∀ (l : List Ri) (s : List Ri × Bool), (l.foldl (stepP k x) s).1.length ≤ s.1.length + 2 * l.length
 | [], s => by simp
 | y :: l, s => by
  have h1 := stepP_len k x l (stepP k x s y)
  have h2 : (stepP k x s y).1.length ≤ s.1.length + 2 := by
   unfold stepP
   split <;> split <;> simp
  simp only [List.foldl_cons, List.length_cons]
  omega
end Go.Proofs.YtnefkkidfhmggaaGreat
