/- Part 5 of the proof: Fq, Mx, My, Rq, Pp, Pq, Dq, Ln, Gt, Gq, Tr, Cp -/
import Derived.Test.YtnefkkidfhmggaaGreatX04
import Derived.LoopN
import Derived.Test.YtnefkkidfhmggaaGreatX02
import Derived.Test.YtnefkkidfhmggaaGreatX03
import Derived.Test.YtnefkkidfhmggaaGreatX00
/- fill at trees. -/
namespace Go.Proofs.YtnefkkidfhmggaaGreat
open Go Go.RowKit
variable {β : Bool}
theorem cnt_of {x : TT} {i : Nat} {c : TT} (h : x.cs[i]? = some c) : cntT x i = c.es.length := by unfold cntT; rw [h]
theorem set_map {α γ : Type} (f : α → γ) (l : List α) (i : Nat) (a : α) : (l.map f).set i (f a) = (l.set i a).map f := by rw [List.map_set]
theorem erase_last {α : Type} {l : List α} {n : Nat} (h : l.length = n + 1) : l.eraseIdx n = l.dropLast := by
 rw [List.eraseIdx_eq_take_drop_succ, List.drop_of_length_le (by omega), List.append_nil, List.dropLast_eq_take]
 congr 1
 omega
/-- The last kid of the left node goes to the right one. -/
theorem St.kid_right {w0 w : World} {fp0 : List Nat} {L : List Asn} {h n pb : Nat} {lc cc : List TT} {lbs cbs : List Nat} (hl1 : lbs.length = lc.length) (_hl2 : cbs.length = cc.length) (hn : lc.length = n + 1) (hp : lbs[n]? = some pb)
 (hs : St w0 fp0 (starA (List.zipWith (kidA β h) lc lbs) :: starA (List.zipWith (kidA β h) cc cbs) :: L) w) :
 St w0 fp0 (starA (List.zipWith (kidA β h) lc.dropLast lbs.dropLast) :: starA (List.zipWith (kidA β h) (lc.getLast?.toList ++ cc) (pb :: cbs)) :: L) w := by
 obtain ⟨A, y, rfl⟩ := snoc_of (ne_nil (l := lc) (by omega))
 obtain ⟨A', y', rfl⟩ := snoc_of (ne_nil (l := lbs) (by omega))
 simp only [List.length_append, List.length_cons, List.length_nil] at hl1 hn
 rw [List.getElem?_append_right (by omega), show n - A'.length = 0 by omega] at hp
 simp only [List.getElem?_cons_zero, Option.some.injEq] at hp
 subst hp
 simp only [List.dropLast_concat, List.getLast?_concat, Option.toList]
 have g1 := (St.kids_app (A := A) (A' := A') (by omega)).1 hs
 have g2 := (St.kids_app (A := [y]) (A' := [y']) (B := cc) (B' := cbs) rfl).2 (St_re (L := [_, _, _]) g1 [1, 2, 0] [] (by kernel_rfl))
 exact St_re (L := [_, _]) g2 [1, 0] [] (by kernel_rfl)
theorem St.kid_left {w0 w : World} {fp0 : List Nat} {L : List Asn} {h pb : Nat} {cc rc : List TT} {cbs rbs : List Nat} (hl1 : cbs.length = cc.length) (hl2 : rbs.length = rc.length) (hp : rbs[0]? = some pb)
 (hs : St w0 fp0 (starA (List.zipWith (kidA β h) cc cbs) :: starA (List.zipWith (kidA β h) rc rbs) :: L) w) :
 St w0 fp0 (starA (List.zipWith (kidA β h) (cc ++ rc.take 1) (cbs ++ [pb])) :: starA (List.zipWith (kidA β h) (rc.drop 1) (rbs.eraseIdx 0)) :: L) w := by
 cases rbs with
 | nil => simp at hp
 | cons y' A' =>
  cases rc with
  | nil => simp at hl2
  | cons y A =>
   simp only [List.getElem?_cons_zero, Option.some.injEq] at hp
   subst hp
   have g1 := (St.kids_app (A := [y]) (A' := [y']) (B := A) (B' := A') rfl).1 (St_re (L := [_, _]) hs [1, 0] [] (by kernel_rfl))
   exact (St.kids_app (A := cc) (A' := cbs) (B := [y]) (B' := [y']) hl1).2 (St_re (L := [_, _, _]) g1 [2, 0, 1] [] (by kernel_rfl))
/-- **fill**. -/
theorem fill_calls {o h i : Nat} (ho : 3 ≤ o) (ho' : o ≤ 1024) (tb : Nat) (r nn : Value) {x : TT} (b : Nat) (w0 w : World) (fp0 : List Nat) (R : List Asn) (hsh : Short o h i x) (hxl : x.es.length ≤ o - 1) (hS : St w0 fp0 (treeA β (h + 1) x b :: blkA tb (tT β) #[r, .int .i64 o, nn] :: R) w) :
 Calls Tryz.prog (fFill β) #[ptrV tb, ptrV b, .int .i64 i] w fun e w' => e = .returned (.tuple #[]) ∧ St w0 fp0 (treeA β (h + 1) (fillT o i x) b :: blkA tb (tT β) #[r, .int .i64 o, nn] :: R) w' := by
 have hx2 : x.es.length ≤ 2000 ∧ x.cs.length ≤ 2001 := by have := hsh.len; omega
 obtain ⟨hl1, hl2⟩ := least_two ho
 have hkid : ∀ (j : Nat) (c : TT), x.cs[j]? = some c → (∃ lo, Body o h lo (o - 1) c) ∧ c.es.length ≤ 2000 := by
  intro j c hc
  by_cases e : j = i
  · subst e
    have := (hsh.kid c hc).1
    exact ⟨⟨_, this⟩, by have := this.hi; omega⟩
  · have := hsh.rest j c e hc
    exact ⟨⟨_, this⟩, by have := this.hi; omega⟩
 have hcs : ∀ (j : Nat) (c : TT) (j' : Nat) (c' : TT), x.cs[j]? = some c → x.cs[j']? = some c' → (c.cs = [] ∧ c'.cs = []) ∨ (c.cs.length = c.es.length + 1 ∧ c'.cs.length = c'.es.length + 1) := by
  intro j c j' c' h1 h2
  obtain ⟨⟨_, b1⟩, _⟩ := hkid j c h1
  obtain ⟨⟨_, b2⟩, _⟩ := hkid j' c' h2
  rcases b1.kids with ⟨e, k⟩ | ⟨h', e, k, _⟩
  · subst e; exact .inl ⟨k, b2.2.2⟩
  · subst e; exact .inr ⟨k, b2.2.2.1⟩
 have hcl : ∀ (j : Nat) (c : TT), x.cs[j]? = some c → c.cs.length ≤ 2001 := by
  intro j c h1
  have := (hkid j c h1).2
  rcases hcs j c j c h1 h1 with ⟨k, _⟩ | ⟨k, _⟩
  · rw [k]; simp
  · omega
 obtain ⟨g1, g2, g3, g4, g5⟩ := hsh
 obtain ⟨ks, vs, ps, bs, hl, hS1⟩ := St.openNT hS
 have hS2 := St_re (L := [_, _, _, _, _, _]) hS1 [0, 1, 2, 3, 4, 5] [] (by kernel_rfl)
 have hM : ∀ j w1, j + 1 < x.cs.length → St w0 fp0 ([blkA b (tN β) #[ks, vs, ps], slA (tK β) ks (keysV x.es), slA (tV β) vs (valsV x.es), slA (tP β) ps (bs.map ptrV), starA (List.zipWith (kidA β (h + 1)) x.cs bs), blkA tb (tT β) #[r, .int .i64 o, nn]] ++ R) w1 → Calls Tryz.prog (fMerge β) #[ptrV tb, ptrV b, .int .i64 (j : Int)] w1 fun e w' => e = .returned (.tuple #[]) ∧ St w0 fp0 ([treeA β (h + 1) (mergeT j x) b, blkA tb (tT β) #[r, .int .i64 o, nn]] ++ R) w' := by
  intro j w1 hj hs
  obtain ⟨l, e1⟩ : ∃ l, x.cs[j]? = some l := ⟨_, List.getElem?_eq_getElem (by omega)⟩
  obtain ⟨c, e2⟩ : ∃ c, x.cs[j + 1]? = some c := ⟨_, List.getElem?_eq_getElem hj⟩
  obtain ⟨s, e3⟩ : ∃ s, x.es[j]? = some s := ⟨_, List.getElem?_eq_getElem (by omega)⟩
  exact merge_calls tb hl e1 e2 e3 hx2 (hkid _ _ e1).2 (hkid _ _ e2).2 (hcl _ _ e1) (hcl _ _ e2) hs
 obtain ⟨_, q1⟩ := hS2.has 1 rfl
 obtain ⟨_, q2⟩ := hS2.has 2 rfl
 obtain ⟨_, q3⟩ := hS2.has 3 rfl
 obtain ⟨gk, ck, rfl, -⟩ := sl_some q1 (by rw [keysV_length]; omega)
 obtain ⟨gv, cv, rfl, -⟩ := sl_some q2 (by rw [valsV_length]; omega)
 obtain ⟨gp, cp, rfl, -⟩ := sl_some q3 (by rw [List.length_map]; omega)
 obtain ⟨ci, hci⟩ : ∃ c, x.cs[i]? = some c := ⟨_, List.getElem?_eq_getElem g3⟩
 obtain ⟨cb, ecb⟩ : ∃ cb, bs[i]? = some cb := ⟨_, List.getElem?_eq_getElem (by omega)⟩
 obtain ⟨lb, elb⟩ : ∃ lb, 0 < i → bs[i - 1]? = some lb := by
  by_cases hi : 0 < i
  · exact ⟨bs[i - 1]'(by omega), fun _ => List.getElem?_eq_getElem (by omega : i - 1 < bs.length)⟩
  · exact ⟨0, fun hh => absurd hh hi⟩
 obtain ⟨rb, erb⟩ : ∃ rb, i < x.es.length → bs[i + 1]? = some rb := by
  by_cases hi : i < x.es.length
  · exact ⟨bs[i + 1]'(by omega), fun _ => List.getElem?_eq_getElem (by omega : i + 1 < bs.length)⟩
  · exact ⟨0, fun hh => absurd hh hi⟩
 refine fill_flat β tb o b lb cb rb i (cntT x (i - 1)) (cntT x (i + 1)) _ ck gp _ cp r nn (.slice (some ⟨gv, 0, none⟩) _ cv) _ (keysV x.es) (valsV x.es) (bs.map ptrV) (starA (List.zipWith (kidA β (h + 1)) x.cs bs)) (treeA β (h + 1) (fillT o i x) b) ho ho' rfl (by rw [List.length_map]; omega) (by rw [List.length_map]; omega) (by rw [keysV_length, List.length_map]; omega)
  (by rw [List.getElem?_map, ecb]; rfl) (fun hh => by rw [List.getElem?_map, elb hh]; rfl) (fun hh => by rw [List.getElem?_map, erb (by rw [keysV_length] at hh; exact hh)]; rfl)
  (fun hh w f hk => ?_) (fun hh w f hk => ?_) w0 w fp0 R (fun Q A w1 hc K S hQ => ?_) (fun Q A w1 hc K S hQ => ?_) (fun hc hc1 hc2 w1 S => ?_) (fun hc hc2 w1 S => ?_) hS2
 · obtain ⟨l, e1⟩ : ∃ l, x.cs[i - 1]? = some l := ⟨_, List.getElem?_eq_getElem (by omega)⟩
   rw [cnt_of e1]
   exact kid_lookT e1 (elb hh) hk
 · rw [keysV_length] at hh
   obtain ⟨l, e1⟩ : ∃ l, x.cs[i + 1]? = some l := ⟨_, List.getElem?_eq_getElem (by omega)⟩
   rw [cnt_of e1]
   exact kid_lookT e1 (erb hh) hk
 · have ef : fillT o i x = rightT (i - 1) x := by unfold fillT; rw [if_pos hc]
   obtain ⟨hi0, hc1⟩ := hc
   obtain ⟨j, rfl⟩ : ∃ j, i = j + 1 := ⟨i - 1, by omega⟩
   rw [Nat.add_sub_cancel] at ef hc1
   replace elb := elb hi0
   rw [Nat.add_sub_cancel] at elb
   obtain ⟨l, e1⟩ : ∃ l, x.cs[j]? = some l := ⟨_, List.getElem?_eq_getElem (by omega)⟩
   obtain ⟨s, e3⟩ : ∃ s, x.es[j]? = some s := ⟨_, List.getElem?_eq_getElem (by omega)⟩
   rw [cnt_of e1] at hc1
   obtain ⟨last, hlast⟩ : ∃ last, l.es.length = last + 1 := ⟨l.es.length - 1, by omega⟩
   obtain ⟨m, hm⟩ : ∃ m, l.es[last]? = some m := ⟨_, List.getElem?_eq_getElem (by omega)⟩
   have hm2 : l.es.getLast? = some m := by rw [List.getLast?_eq_getElem?, hlast]; exact hm
   obtain ⟨lk, lv, lp, lbs, qk, qv, qp, cbs, n1, n2, S2⟩ := St.open2 (R := blkA tb (tT β) #[r, .int .i64 o, nn] :: R) hl e1 hci elb ecb S
   obtain ⟨_, z1⟩ := S2.has 5 rfl
   obtain ⟨_, z2⟩ := S2.has 6 rfl
   obtain ⟨_, z3⟩ := S2.has 7 rfl
   obtain ⟨hk, dk, rfl, -⟩ := sl_some z1 (by rw [keysV_length]; omega)
   obtain ⟨hv, dv, rfl, -⟩ := sl_some z2 (by rw [valsV_length]; omega)
   obtain ⟨a2, c2, rfl, -⟩ := sl_get z3
   have hkl := (hkid _ _ e1).2
   have hkc := (hkid _ _ hci).2
   have hcl1 := hcl _ _ e1
   have hcl2 := hcl _ _ hci
   have S3 := S2
   rw [show (keysV l.es).length = last + 1 by rw [keysV_length]; exact hlast, show (valsV l.es).length = last + 1 by rw [valsV_length]; exact hlast] at S3
   refine fillA β tb b lb cb j gk _ ck gv _ cv gp _ cp hk dk hv dv last _ c2 qk qv qp (encK s.1) (encV s.2) (encK m.1) (encV m.2) a2 _ _ _ _ _ _ _ _ _ rfl rfl rfl (by simp [keysV, e3]) (by simp [valsV, e3]) (by rw [List.getElem?_map, elb]; rfl) (by simp [keysV, hm]) (by simp [valsV, hm]) (by rw [keysV_length]; exact hlast) (by rw [valsV_length]; exact hlast) rfl ?_
    (by rw [keysV_length]; omega) (by omega) (by rw [List.length_map]; omega) (by rw [keysV_length]; omega) (by rw [valsV_length]; omega) (by rw [List.length_map]; omega) (by rw [List.length_map]; omega) (keysV_one _) (valsV_one _) (keysV_one _) (valsV_one _) (ptrV_one _) (keysV_one _) (valsV_one _) (ptrV_one _) Q A w0 w1 fp0 _ K ?_ S3
   · rcases hcs _ _ _ _ e1 hci with ⟨k, _⟩ | ⟨k, _⟩
     · exact .inl (by have : lbs = [] := List.length_eq_zero_iff.1 (by rw [n1, k]; rfl); rw [this]; rfl)
     · exact .inr (by rw [List.length_map]; omega)
   intro A w' hA ks' vs' ps' lk' lv' lp' ck' cv' cp' lz' cz' hz S4
   refine hQ A w' hA ?_
   have k1 : (keysV x.es).set j (encK m.1) = keysV (x.es.set j m) := set_map _ _ _ _
   have k2 : (valsV x.es).set j (encV m.2) = valsV (x.es.set j m) := set_map _ _ _ _
   have k3 : (keysV l.es).eraseIdx last = keysV l.es.dropLast := by rw [← erase_last hlast]; exact (map_eraseIdx' _ _ _).symm
   have k4 : (valsV l.es).eraseIdx last = valsV l.es.dropLast := by rw [← erase_last hlast]; exact (map_eraseIdx' _ _ _).symm
   have k5 : encK s.1 :: keysV ci.es = keysV (s :: ci.es) := rfl
   have k6 : encV s.2 :: valsV ci.es = valsV (s :: ci.es) := rfl
   rw [k1, k2, k3, k4, k5, k6] at S4
   have er : rightT j x = .node (x.es.set j m) (x.cs.take j ++ .node l.es.dropLast l.cs.dropLast :: .node (s :: ci.es) (l.cs.getLast?.toList ++ ci.cs) :: x.cs.drop (j + 2)) := by
    unfold rightT; rw [e1, hci, e3]; simp only [hm2]
   rw [ef, er]
   rcases hz with ⟨z1, rfl, rfl⟩ | ⟨pz, z1, rfl, rfl⟩
   · have z2 : lbs = [] := List.map_eq_nil_iff.1 z1
     subst z2
     have z3 : l.cs = [] := List.length_eq_zero_iff.1 (by rw [← n1]; rfl)
     rw [z3] at n1 S4 ⊢
     exact St.shut2 (lbs := []) (rbs := cbs) hl elb ecb n1 n2 S4
   · obtain ⟨pb, z2, rfl⟩ : ∃ pb, lbs[last + 1]? = some pb ∧ ptrV pb = pz := by
      rw [List.getElem?_map] at z1
      cases hh : lbs[last + 1]? with
      | none => rw [hh] at z1; cases z1
      | some pb => rw [hh] at z1; exact ⟨pb, rfl, Option.some.inj z1⟩
     have hlz : l.cs.length = last + 1 + 1 := by
      rcases hcs _ _ _ _ e1 hci with ⟨k, _⟩ | ⟨k, _⟩
      · have : lbs = [] := List.length_eq_zero_iff.1 (by rw [n1, k]; rfl)
        rw [this] at z2; cases z2
      · rw [k, hlast]
     have k7 : (lbs.map ptrV).eraseIdx (last + 1) = lbs.dropLast.map ptrV := by rw [← erase_last (l := lbs) (n := last + 1) (by omega)]; exact (map_eraseIdx' _ _ _).symm
     have k8 : ptrV pb :: cbs.map ptrV = (pb :: cbs).map ptrV := rfl
     rw [k7, k8] at S4
     have S5 := St.kid_right n1 n2 hlz z2 (St_re (L := [_, _, _, _, _, _, _, _, _, _, _, _, _, _, _, _]) S4 [12, 13, 0, 1, 2, 3, 4, 5, 6, 7, 8, 9, 10, 11, 14, 15] [] (by kernel_rfl))
     obtain ⟨y, hy⟩ : ∃ y, l.cs.getLast? = some y := ⟨_, List.getLast?_eq_some_getLast (ne_nil (by omega))⟩
     exact St.shut2 (lbs := lbs.dropLast) (rbs := pb :: cbs) hl elb ecb (by rw [List.length_dropLast, List.length_dropLast, n1]) (by rw [hy]; simp [n2]) (St_re (L := [_, _, _, _, _, _, _, _, _, _, _, _, _, _, _, _]) S5 [2, 3, 4, 5, 6, 7, 8, 9, 10, 11, 12, 13, 0, 1, 14, 15] [] (by kernel_rfl))
 · rw [keysV_length] at hc
   have ef : fillT o i x = leftT i x := by unfold fillT; rw [if_neg hc.1, if_pos hc.2]
   obtain ⟨-, hi0, hc1⟩ := hc
   replace erb := erb hi0
   obtain ⟨rr, e2⟩ : ∃ l, x.cs[i + 1]? = some l := ⟨_, List.getElem?_eq_getElem (by omega)⟩
   obtain ⟨s, e3⟩ : ∃ s, x.es[i]? = some s := ⟨_, List.getElem?_eq_getElem hi0⟩
   rw [cnt_of e2] at hc1
   obtain ⟨m, E, hm⟩ : ∃ m E, rr.es = m :: E := by
    cases hh : rr.es with
    | nil => rw [hh] at hc1; simp at hc1
    | cons a b => exact ⟨a, b, rfl⟩
   obtain ⟨qk, qv, qp, cbs, rk, rv, rp, rbs, n1, n2, S2⟩ := St.open2 (R := blkA tb (tT β) #[r, .int .i64 o, nn] :: R) hl hci e2 ecb erb S
   obtain ⟨_, z1⟩ := S2.has 9 rfl
   obtain ⟨_, z2⟩ := S2.has 10 rfl
   obtain ⟨_, z3⟩ := S2.has 11 rfl
   obtain ⟨hk, dk, rfl, -⟩ := sl_some z1 (by rw [keysV_length]; omega)
   obtain ⟨hv, dv, rfl, -⟩ := sl_some z2 (by rw [valsV_length]; omega)
   obtain ⟨a2, c2, rfl, -⟩ := sl_get z3
   have hkr := (hkid _ _ e2).2
   have hkc := (hkid _ _ hci).2
   have hcl1 := hcl _ _ e2
   have hcl2 := hcl _ _ hci
   have S3 := St_re S2 [0, 1, 2, 3, 8, 9, 10, 11, 4, 5, 6, 7] [] (by kernel_rfl)
   refine fillB β tb b rb cb i gk _ ck gv _ cv gp _ cp hk _ dk hv _ dv _ c2 qk qv qp (encK s.1) (encV s.2) (encK m.1) (encV m.2) a2 _ _ _ _ _ _ _ _ _ rfl rfl rfl (by simp [keysV, e3]) (by simp [valsV, e3]) (by rw [List.getElem?_map, erb]; rfl) (by simp [keysV, hm]) (by simp [valsV, hm]) rfl rfl rfl
    (by rw [keysV_length]; omega) (by rw [keysV_length]; omega) (by rw [valsV_length]; omega) (by rw [List.length_map]; omega) (by rw [keysV_length]; omega) (by rw [valsV_length]; omega) (by rw [List.length_map]; omega) (by rw [List.length_map]; omega) (keysV_one _) (valsV_one _) (keysV_one _) (valsV_one _) (ptrV_one _) (keysV_one _) (valsV_one _) (ptrV_one _) Q A w0 w1 fp0 _ K ?_ S3
   intro A w' hA ks' vs' ps' rk' rv' rp' ck' cv' cp' rz' cz' hz S4
   refine hQ A w' hA ?_
   have k1 : (keysV x.es).set i (encK m.1) = keysV (x.es.set i m) := set_map _ _ _ _
   have k2 : (valsV x.es).set i (encV m.2) = valsV (x.es.set i m) := set_map _ _ _ _
   have k3 : (keysV rr.es).eraseIdx 0 = keysV E := by rw [hm]; rfl
   have k4 : (valsV rr.es).eraseIdx 0 = valsV E := by rw [hm]; rfl
   have k5 : keysV ci.es ++ [encK s.1] = keysV (ci.es ++ [s]) := by simp [keysV]
   have k6 : valsV ci.es ++ [encV s.2] = valsV (ci.es ++ [s]) := by simp [valsV]
   rw [k1, k2, k3, k4, k5, k6] at S4
   have er : leftT i x = .node (x.es.set i m) (x.cs.take i ++ .node (ci.es ++ [s]) (ci.cs ++ rr.cs.take 1) :: .node E (rr.cs.drop 1) :: x.cs.drop (i + 2)) := by
    unfold leftT; rw [hci, e2, e3]; simp only [hm]
   rw [ef, er]
   rcases hz with ⟨z1, rfl, rfl⟩ | ⟨pz, z1, rfl, rfl⟩
   · have z2 : rbs = [] := List.map_eq_nil_iff.1 z1
     subst z2
     have z3 : rr.cs = [] := List.length_eq_zero_iff.1 (by rw [← n2]; rfl)
     rw [z3] at n2 S4 ⊢
     rw [show ci.cs ++ List.take 1 ([] : List TT) = ci.cs by simp]
     exact St.shut2 (lbs := cbs) (rbs := []) hl ecb erb n1 n2 (St_re (L := [_, _, _, _, _, _, _, _, _, _, _, _, _, _, _, _]) S4 [0, 1, 2, 3, 8, 9, 10, 11, 4, 5, 6, 7, 12, 13, 14, 15] [] (by kernel_rfl))
   · obtain ⟨pb, z2, rfl⟩ : ∃ pb, rbs[0]? = some pb ∧ ptrV pb = pz := by
      rw [List.getElem?_map] at z1
      cases hh : rbs[0]? with
      | none => rw [hh] at z1; cases z1
      | some pb => rw [hh] at z1; exact ⟨pb, rfl, Option.some.inj z1⟩
     have k7 : (rbs.map ptrV).eraseIdx 0 = (rbs.eraseIdx 0).map ptrV := (map_eraseIdx' _ _ _).symm
     have k8 : cbs.map ptrV ++ [ptrV pb] = (cbs ++ [pb]).map ptrV := by simp
     rw [k7, k8] at S4
     have hr0 : 0 < rr.cs.length := by rw [← n2]; exact (List.getElem?_eq_some_iff.1 z2).1
     have S5 := St.kid_left n1 n2 z2 (St_re (L := [_, _, _, _, _, _, _, _, _, _, _, _, _, _, _, _]) S4 [12, 13, 0, 1, 2, 3, 4, 5, 6, 7, 8, 9, 10, 11, 14, 15] [] (by kernel_rfl))
     exact St.shut2 (lbs := cbs ++ [pb]) (rbs := rbs.eraseIdx 0) hl ecb erb (by rw [List.length_append, List.length_append, List.length_take, n1]; simp; omega) (by rw [List.length_eraseIdx_of_lt (by omega), List.length_drop, n2]) (St_re (L := [_, _, _, _, _, _, _, _, _, _, _, _, _, _, _, _]) S5 [2, 3, 4, 5, 10, 11, 12, 13, 6, 7, 8, 9, 0, 1, 14, 15] [] (by kernel_rfl))
 · rw [keysV_length] at hc2
   rw [show fillT o i x = mergeT (i - 1) x by unfold fillT; rw [if_neg (fun hh => hc1 hh.2), if_neg hc2, if_pos hc]]
   exact hM (i - 1) w1 (by omega) S
 · rw [keysV_length] at hc2
   rw [show fillT o i x = mergeT i x by unfold fillT; rw [if_neg (fun hh => by omega), if_neg hc2, if_neg (by omega)]]
   exact hM i w1 (by omega) S
end Go.Proofs.YtnefkkidfhmggaaGreat
/- max, over both trees. -/
namespace Go.Proofs.YtnefkkidfhmggaaGreat
open Go Go.RowKit
set_option maxRecDepth 100000
def ky0 : Bool → Ky
 | false => .int 0
 | true => .str ⟨#[]⟩
def isExit0 : Code → Bool
 | .exit i => i == 0
 | _ => false
theorem wp_exitT {P : Program} {Q : Exit → Act → World → Prop} {a : Act} {w : World} {c : Code} (hc : isExit0 c = true) (h : Q (.exit 0) a w) : c.wp P Q a w := by
 cases c with
 | exit j => obtain rfl : j = 0 := by simpa [isExit0] using hc
             exact wp_exit h
 | _ => cases hc
theorem sqMx0 (β : Bool) : Sq (BMax β) [1, 0, 4, 4] := by cases β <;> exact isQ (by kernel_rfl)
noncomputable def gMx1 (β : Bool) (b n2 c2 : Nat) (ks vs : Value) (a2 : Option Addr) := rg Tryz.prog (BMax β) 1 43 [(4, 3)] [(0, pV b 0)] (Vq 0 4 [Kp b 0, Kv (.bool (n2 == 0)), Kv (.bool (!(n2 == 0)))]) [Bk b (tN β) [ks, vs, .slice a2 n2 c2]]
theorem obMx1 (β : Bool) (b n2 c2 : Nat) (ks vs : Value) (a2 : Option Addr)  (w0 : World) (fp0 : List Nat) (R : List Asn) : (gMx1 β b n2 c2 ks vs a2 w0 fp0 R).Ok 3 := by
 cases β <;> exact Rg.ok _ 3 [1] ⟨.ask1 _ 1 0 (fun w fp h => (leaf_calls b _ _ a2 n2 c2 w h).mono fun e w' ⟨h1, h2⟩ => ⟨h1, h2 ▸ Below.refl _ _⟩), trivial⟩
theorem cdMx1 (β : Bool) : IsSq (BMax β) [1, 0, 4, 4, 0] 1 := by cases β <;> exact isq (by kernel_rfl)
theorem ccMx6 (β : Bool) : isCond (csnd (cfst (cbody (cbody (cfst (csnd (bodyC (BMax β)))))))) = true ∧ ccond (csnd (cfst (cbody (cbody (cfst (csnd (bodyC (BMax β)))))))) = .tmp 6 := by cases β <;> exact ⟨kr (by kernel_rfl), kr (by kernel_rfl)⟩
theorem isSkipMx1 (β : Bool) : isSkip (cthen (csnd (cfst (cbody (cbody (cfst (csnd (bodyC (BMax β))))))))) = true := by cases β <;> exact kr (by kernel_rfl)
theorem isBlkMx2 (β : Bool) : isBlk (csnd (cbody (cbody (cfst (csnd (bodyC (BMax β))))))) = true := by cases β <;> exact kr (by kernel_rfl)
noncomputable def gMx2 (β : Bool) (b gp last c2 cb : Nat) (ks vs : Value) (zs : List Value) := rgq Tryz.prog (BMax β) 2 43 [(7, 12), (0, 1)] [] [(0, pV b 0, 12)] (Vq 0 7 [Kp b 0, Kp b 0, Kp b 2, Ks gp (last + 1) c2, Kp b 0, Kp b 0, Kp b 2, Ks gp (last + 1) c2, Kn (last + 1), Kn last, Kp gp last, Kp cb 0] ++ Vq 12 0 [Kp cb 0]) [Bk b (tN β) [ks, vs, sV gp (last + 1) c2], .sl (tP β) (sV gp (last + 1) c2) zs []]
theorem obMx2 (β : Bool) (b gp last c2 cb : Nat) (ks vs : Value) (zs : List Value) (hl : last + 1 < 1099511627776) (hzi : zs[last]? = some (ptrV cb)) (w0 : World) (fp0 : List Nat) (R : List Asn) : (gMx2 β b gp last c2 cb ks vs zs w0 fp0 R).Ok 13 := by
 cases β <;> exact Rg.ok _ 13 [3, 7, 9, 10, 11] ⟨.load _ 3 0 2, .load _ 7 0 2, .sub _ 9 ((last + 1)) (1) ((last : Nat) : Int), .index _ 10 gp (last + 1) c2 last (by omega), .elem _ 11 1 last hzi, trivial⟩
theorem cdMx2 (β : Bool) : IsRg (BMax β) [1, 0, 4, 4, 1, 4] 2 := by cases β <;> exact irg (by kernel_rfl)
theorem isExit0Mx3 (β : Bool) : isExit0 (celse (csnd (cfst (cbody (cbody (cfst (csnd (bodyC (BMax β))))))))) = true := by cases β <;> exact kr (by kernel_rfl)
theorem max_round (β : Bool) (b n2 c2 cb : Nat) (ks vs : Value) (a2 : Option Addr) (zs : List Value) (hn2 : n2 = zs.length) (hlz : zs.length < 1099511627776) (hz : n2 ≠ 0 → zs[n2 - 1]? = some (ptrV cb)) (w0 w : World) (fp0 : List Nat) (R : List Asn) (A0 : Act) (Q : Exit → Act → World → Prop)
 (hL : n2 = 0 → ∀ A w', Knows 43 A [(0, .pointer (some ⟨b, 0, none⟩))] → St w0 fp0 ([blkA b (tN β) #[ks, vs, .slice a2 n2 c2], slA (tP β) (.slice a2 n2 c2) zs] ++ R) w' → Q (.exit 0) A w')
 (hI : n2 ≠ 0 → ∀ A w', Knows 43 A [(0, .pointer (some ⟨cb, 0, none⟩))] → St w0 fp0 ([blkA b (tN β) #[ks, vs, .slice a2 n2 c2], slA (tP β) (.slice a2 n2 c2) zs] ++ R) w' → Q .normal A w')
 (K0 : Knows 43 A0 [(0, .pointer (some ⟨b, 0, none⟩))]) (hS : St w0 fp0 ([blkA b (tN β) #[ks, vs, .slice a2 n2 c2], slA (tP β) (.slice a2 n2 c2) zs] ++ R) w) : (cbody (cbody (cfst (csnd (bodyC (BMax β)))))).wp Tryz.prog Q A0 w := by
 refine wp_seqT (sqMx0 β) ?_
 refine wp_seqT (cdMx1 β).sq ?_
 refine wp_regT (obMx1 β b n2 c2 ks vs a2  _ _ _) (by kernel_rfl) (cdMx1 β).cd (K0.sub (by kernel_rfl)) (St_re hS [0] [1] (by kernel_rfl)) fun A1 w1 N1 H1 => ?_
 have S1 : St w0 fp0 ([blkA b (tN β) #[ks, vs, .slice a2 n2 c2], slA (tP β) (.slice a2 n2 c2) zs] ++ R) w1 := H1
 have K1 : Knows 43 A1 [(0, pV b 0), (6, .bool (!(n2 == 0)))] := N1.knows K0 (by kernel_rfl)
 refine wp_condK (ccMx6 β) K1 (by rfl) (fun hq => ?_) (fun hq => ?_)
 · skip
   refine wp_skipT (isSkipMx1 β) ?_
   have hn0 : n2 ≠ 0 := by simpa using hq
   have hzi := hz hn0
   obtain ⟨_, q5⟩ := St.has S1 1 rfl
   obtain ⟨gp, cp, ep, hpc, -⟩ := sl_some q5 (by omega)
   obtain ⟨rfl, -, rfl⟩ := Value.slice.inj ep
   obtain ⟨last, rfl⟩ : ∃ last, n2 = last + 1 := ⟨n2 - 1, by omega⟩
   rw [Nat.add_sub_cancel] at hzi
   show (csnd (cbody (cbody (cfst (csnd (bodyC (BMax β))))))).wp Tryz.prog Q A1 w1
   refine wp_blkT (isBlkMx2 β) ?_
   refine wp_regT (obMx2 β b gp last c2 cb ks vs zs (by omega) hzi _ _ _) (by kernel_rfl) (cdMx2 β).cd (K1.sub (by kernel_rfl)) (St_re S1 [0, 1] [] (by kernel_rfl)) fun A2 w2 N2 H2 => ?_
   have S2 : St w0 fp0 ([blkA b (tN β) #[ks, vs, sV gp (last + 1) c2], slA (tP β) (sV gp (last + 1) c2) zs] ++ R) w2 := H2
   have K2 : Knows 43 A2 [(0, pV cb 0)] := N2.knows K1 (by kernel_rfl)
   exact hI hn0 _ _ (K2.sub (by kernel_rfl)) S2
 · skip
   have hn0 : n2 = 0 := by simpa using hq
   refine wp_exitT (isExit0Mx3 β) ?_
   exact hL hn0 _ _ (K1.sub (by kernel_rfl)) S1
theorem entMy (β : Bool) : Tryz.prog.funcs[fMax β]? = some (BMax β) ∧ (BMax β).body = some (bodyC (BMax β)) ∧ (BMax β).ntmps = 43 := by cases β <;> exact ⟨kr (by kernel_rfl), kr (by kernel_rfl), kr (by kernel_rfl)⟩
noncomputable def gMy0 (β : Bool)  := rg Tryz.prog (BMax β) 0 43 [(2, 2)] [] (Vq 0 2 [Kv (encK (ky0 β)), Kv (encV (va0 β))]) []
theorem obMy0 (β : Bool)   (w0 : World) (fp0 : List Nat) (R : List Asn) : (gMy0 β  w0 fp0 R).Ok 2 := by
 cases β <;> exact Rg.ok _ 2 [] trivial
theorem cdMy0 (β : Bool) : IsSq (BMax β) [] 0 := by cases β <;> exact isq (by kernel_rfl)
theorem sqMy0 (β : Bool) : Sq (BMax β) [1] := by cases β <;> exact isQ (by kernel_rfl)
noncomputable def gMy3 (β : Bool) (lb last gk ck gv cv : Nat) (ps ky vy : Value) (xs ys : List Value) := rg Tryz.prog (BMax β) 3 43 [(19, 24), (2, 2)] [(0, pV lb 0)] (Vq 0 19 [Kp lb 0, Kp lb 0, Kp lb 0, Ks gk (last + 1) ck, Kp lb 0, Kp lb 0, Kp lb 0, Ks gk (last + 1) ck, Kn (last + 1), Kn last, Kp gk last, Kv ky, Kp lb 0, Kp lb 0, Kp lb 1, Ks gv (last + 1) cv, Kp lb 0, Kp lb 0, Kp lb 1, Ks gv (last + 1) cv, Kn (last + 1), Kn last, Kp gv last, Kv vy] ++ Vq 24 2 [Kv ky, Kv vy]) [Bk lb (tN β) [sV gk (last + 1) ck, sV gv (last + 1) cv, ps], .sl (tK β) (sV gk (last + 1) ck) xs [], .sl (tV β) (sV gv (last + 1) cv) ys []]
theorem obMy3 (β : Bool) (lb last gk ck gv cv : Nat) (ps ky vy : Value) (xs ys : List Value) (hl : last + 1 < 1099511627776) (hkx : xs[last]? = some ky) (hvy : ys[last]? = some vy) (w0 : World) (fp0 : List Nat) (R : List Asn) : (gMy3 β lb last gk ck gv cv ps ky vy xs ys w0 fp0 R).Ok 26 := by
 cases β <;> exact Rg.ok _ 26 [3, 7, 9, 10, 11, 15, 19, 21, 22, 23] ⟨.load _ 3 0 0, .load _ 7 0 0, .sub _ 9 ((last + 1)) (1) ((last : Nat) : Int), .index _ 10 gk (last + 1) ck last (by omega), .elem _ 11 1 last hkx, .load _ 15 0 1, .load _ 19 0 1, .sub _ 21 ((last + 1)) (1) ((last : Nat) : Int), .index _ 22 gv (last + 1) cv last (by omega), .elem _ 23 2 last hvy, trivial⟩
theorem cdMy3 (β : Bool) : IsSq (BMax β) [1, 1] 3 := by cases β <;> exact isq (by kernel_rfl)
theorem isRetMy1 (β : Bool) : isRet (csnd (csnd (csnd (bodyC (BMax β))))) = true := by cases β <;> exact kr (by kernel_rfl)
theorem resMy (β : Bool) : (BMax β).results = #[.tmp 2, .tmp 3] := by cases β <;> exact kr (by kernel_rfl)
theorem max_flat (β : Bool) (nb : Nat) (T0 : Asn) (w0 w : World) (fp0 : List Nat) (R : List Asn) (Rr : Ending → World → Prop)
 (HL : ∀ (Q : Exit → Act → World → Prop) (A : Act) (w : World), Knows 43 A [(0, .pointer (some ⟨nb, 0, none⟩))] → St w0 fp0 ([T0] ++ R) w →
  (∀ (A : Act) (w : World) (lb last gk ck gv cv : Nat) (ps ky vy : Value) (xs ys : List Value) (R' : List Asn), last + 1 < 1099511627776 → xs[last]? = some ky → ys[last]? = some vy → xs.length = last + 1 → ys.length = last + 1 → (∀ w', St w0 fp0 ([blkA lb (tN β) #[sV gk (last + 1) ck, sV gv (last + 1) cv, ps], slA (tK β) (sV gk (last + 1) ck) xs, slA (tV β) (sV gv (last + 1) cv) ys] ++ R') w' → Rr (.returned (.tuple #[ky, vy])) w') → Knows 43 A [(0, .pointer (some ⟨lb, 0, none⟩))] → St w0 fp0 ([blkA lb (tN β) #[sV gk (last + 1) ck, sV gv (last + 1) cv, ps], slA (tK β) (sV gk (last + 1) ck) xs, slA (tV β) (sV gv (last + 1) cv) ys] ++ R') w → Q .normal A w) → (cfst (csnd (bodyC (BMax β)))).wp Tryz.prog Q A w)
 (hS : St w0 fp0 ([T0] ++ R) w) : Calls Tryz.prog (fMax β) #[ptrV nb] w Rr := by
 refine calls_T [(0, pV nb 0)] (entMy β) (by simp) (by kernel_rfl) fun A0 K0 => ?_
 refine wp_seqT (cdMy0 β).sq ?_
 refine wp_regT (obMy0 β   _ _ _) (by kernel_rfl) (cdMy0 β).cd (K0.sub (by kernel_rfl)) (St_re hS [] [0] (by kernel_rfl)) fun A1 w1 N1 H1 => ?_
 have S1 : St w0 fp0 ([T0] ++ R) w1 := H1
 have K1 : Knows 43 A1 [(0, pV nb 0), (2, encK (ky0 β)), (3, encV (va0 β))] := N1.knows K0 (by kernel_rfl)
 refine wp_seqT (sqMy0 β) ?_
 refine HL _ _ _ (K1.sub (by kernel_rfl)) S1 fun A2 w2 lb last gk ck gv cv ps ky vy xs ys R' hl hkx hvy hxl hyl hret K2 S2 => ?_
 show (csnd (csnd (bodyC (BMax β)))).wp Tryz.prog (bodyPost Tryz.prog (BMax β) _) A2 w2
 refine wp_seqT (cdMy3 β).sq ?_
 refine wp_regT (obMy3 β lb last gk ck gv cv ps ky vy xs ys hl hkx hvy _ _ _) (by kernel_rfl) (cdMy3 β).cd (K2.sub (by kernel_rfl)) (St_re S2 [0, 1, 2] [] (by kernel_rfl)) fun A3 w3 N3 H3 => ?_
 have S3 : St w0 fp0 ([blkA lb (tN β) #[sV gk (last + 1) ck, sV gv (last + 1) cv, ps], slA (tK β) (sV gk (last + 1) ck) xs, slA (tV β) (sV gv (last + 1) cv) ys] ++ R') w3 := H3
 have K3 : Knows 43 A3 [(0, pV lb 0), (2, ky), (3, vy)] := N3.knows K2 (by kernel_rfl)
 refine wp_retT (isRetMy1 β) ?_
 refine post_T K3 (res2 (resMy β) K3 (by rfl) (by rfl)) ?_
 exact hret _ S3
end Go.Proofs.YtnefkkidfhmggaaGreat
/- max at trees. -/
namespace Go.Proofs.YtnefkkidfhmggaaGreat
open Go Go.RowKit
variable {β : Bool}
def isLoop : Code → Bool
 | .loop _ => true
 | _ => false
theorem wp_loopT {P : Program} {Q : Exit → Act → World → Prop} {a : Act} {w : World} {c : Code} (n : Nat) (hc : isLoop c = true) (h : Code.rounds P (cbody c) Q n a w) : c.wp P Q a w := by
 cases c with
 | loop c => exact wp_loop_rounds n h
 | _ => cases hc
theorem inBlock_exit {Q : Exit → Act → World → Prop} {a : Act} {w : World} {i j : Nat} (h : i = j) (hq : Q .normal a w) : Exit.inBlock i Q (.exit j) a w := by
 subst h
 simp only [Exit.inBlock, if_true]
 exact hq
theorem max_loop {o : Nat} (ho : 3 ≤ o) (ho' : o ≤ 1024) : ∀ (h lo : Nat) (x : TT) (nb : Nat) (w0 w : World) (fp0 : List Nat) (R : List Asn) (A : Act) (Q : Exit → Act → World → Prop), Body o h lo (o - 1) x → 0 < x.es.length → Knows 43 A [(0, .pointer (some ⟨nb, 0, none⟩))] → St w0 fp0 (treeA β h x nb :: R) w →
 (∀ (A : Act) (w : World) (lb last gk ck gv cv : Nat) (ps : Value) (m : Ky × Va) (xs ys : List Value) (R' : List Asn), last + 1 < 1099511627776 → maxT h x = some m → xs[last]? = some (encK m.1) → ys[last]? = some (encV m.2) → xs.length = last + 1 → ys.length = last + 1 → (∀ w', St w0 fp0 ([blkA lb (tN β) #[.slice (some ⟨gk, 0, none⟩) (last + 1) ck, .slice (some ⟨gv, 0, none⟩) (last + 1) cv, ps], slA (tK β) (.slice (some ⟨gk, 0, none⟩) (last + 1) ck) xs, slA (tV β) (.slice (some ⟨gv, 0, none⟩) (last + 1) cv) ys] ++ R') w' → St w0 fp0 (treeA β h x nb :: R) w') → Knows 43 A [(0, .pointer (some ⟨lb, 0, none⟩))] →
  St w0 fp0 ([blkA lb (tN β) #[.slice (some ⟨gk, 0, none⟩) (last + 1) ck, .slice (some ⟨gv, 0, none⟩) (last + 1) cv, ps], slA (tK β) (.slice (some ⟨gk, 0, none⟩) (last + 1) ck) xs, slA (tV β) (.slice (some ⟨gv, 0, none⟩) (last + 1) cv) ys] ++ R') w → Q (.exit 0) A w) →
 Code.rounds Tryz.prog (cbody (cbody (cfst (csnd (bodyC (BMax β)))))) Q (h + 1) A w
 | 0, lo, x, nb, w0, w, fp0, R, A, Q, hb, hp, K, hS, hQ => by
  rw [rounds_succ]
  obtain ⟨ks, vs, ps, bs, hl, h1⟩ := hS.openNT
  have hcs : x.cs = [] := hb.2.2
  have hbs : bs = [] := List.length_eq_zero_iff.1 (by rw [hl, hcs]; rfl)
  subst hbs
  obtain ⟨_, q1⟩ := h1.has 1 rfl
  obtain ⟨_, q2⟩ := h1.has 2 rfl
  obtain ⟨_, q3⟩ := h1.has 3 rfl
  obtain ⟨gk, ck, rfl, -⟩ := sl_some q1 (by rw [keysV_length]; omega)
  obtain ⟨gv, cv, rfl, -⟩ := sl_some q2 (by rw [valsV_length]; omega)
  obtain ⟨pa, pc, rfl, _⟩ := sl_get q3
  obtain ⟨last, hlast⟩ : ∃ last, x.es.length = last + 1 := ⟨x.es.length - 1, by omega⟩
  have e1 : (keysV x.es).length = last + 1 := by rw [keysV_length]; exact hlast
  have e2 : (valsV x.es).length = last + 1 := by rw [valsV_length]; exact hlast
  rw [e1, e2] at h1
  have hhi := hb.hi
  refine max_round β nb _ pc 0 _ _ pa (([] : List Nat).map ptrV) rfl (by simp) (fun hh => absurd rfl hh) w0 w fp0 _ A _ (fun _ A w' K' h2 => ?_) (fun hh => absurd rfl hh) K (St_re (L := [_, _, _, _, _]) h1 [0, 3] [1, 2, 4] (by kernel_rfl))
  obtain ⟨m, hm⟩ : ∃ m, x.es[last]? = some m := ⟨_, List.getElem?_eq_getElem (by omega)⟩
  refine hQ A w' nb last gk ck gv cv (.slice pa 0 pc) m (keysV x.es) (valsV x.es) (slA (tP β) (.slice pa 0 pc) [] :: starA (List.zipWith (kidA β 0) x.cs []) :: R) (by omega) (by rw [maxT, List.getLast?_eq_getElem?, hlast]; exact hm) (by simp [keysV, hm]) (by simp [valsV, hm]) e1 e2 (fun w'' h3 => ?_) K' (St_re (L := [_, _, _, _, _]) h2 [0, 2, 3, 1, 4] [] (by kernel_rfl))
  have h4 := St.shutNT (es := x.es) (cs := x.cs) (bs := []) (ps := .slice pa 0 pc) hl h3
  rw [T.eta] at h4
  exact h4
 | h + 1, lo, x, nb, w0, w, fp0, R, A, Q, hb, hp, K, hS, hQ => by
  rw [rounds_succ]
  obtain ⟨b1, b2, b3, b4⟩ := hb
  obtain ⟨c, hc⟩ : ∃ c, x.cs[x.es.length]? = some c := ⟨_, List.getElem?_eq_getElem (by omega)⟩
  have hcb := b4 c (List.mem_of_getElem? hc)
  obtain ⟨lo1, _⟩ := least_two ho
  obtain ⟨ks, vs, ps, bs, cb, hl, hbi, h1⟩ := hS.viewT _ hc
  obtain ⟨_, q3⟩ := h1.has 3 rfl
  obtain ⟨pa, pc, rfl, _⟩ := sl_get q3
  have hbl : bs.length = x.es.length + 1 := by omega
  rw [List.length_map] at h1
  refine max_round β nb _ pc cb _ _ pa (bs.map ptrV) (by rw [List.length_map]) (by rw [List.length_map]; omega) (fun _ => by rw [hbl, Nat.add_sub_cancel, List.getElem?_map, hbi]; rfl) w0 w fp0 _ A _ (fun hh => absurd hh (by omega)) (fun _ A w' K' h2 => ?_) K (St_re (L := [_, _, _, _, _, _]) h1 [0, 3] [1, 2, 4, 5] (by kernel_rfl))
  have hml : maxT (h + 1) x = maxT h c := by rw [maxT, List.getLast?_eq_getElem?, show x.cs.length - 1 = x.es.length by omega, hc]
  refine max_loop ho ho' h (least o) c cb w0 w' fp0 _ A Q hcb (by have := hcb.lo; omega) K' (St_re (L := [_, _, _, _, _, _]) h2 [5, 0, 2, 3, 1, 4] [] (by kernel_rfl)) fun A w' lb last gk ck gv cv ps m xs ys R' g1 g2 g3 g4 g5 g6 g7 g8 g9 => ?_
  refine hQ A w' lb last gk ck gv cv ps m xs ys R' g1 (by rw [hml]; exact g2) g3 g4 g5 g6 (fun w'' h3 => ?_) g8 g9
  have h5 := St.unviewT (es := x.es) (cs := x.cs) hl hbi (St_re (L := [_, _, _, _, _, _]) (g7 w'' h3) [1, 2, 3, 4, 5, 0] [] (by kernel_rfl))
  rw [set_self hc, T.eta] at h5
  exact h5
theorem lpMx (β : Bool) : isBlk (cfst (csnd (bodyC (BMax β)))) = true ∧ blkId (cfst (csnd (bodyC (BMax β)))) = 0 ∧ isLoop (cbody (cfst (csnd (bodyC (BMax β))))) = true := by cases β <;> exact ⟨kr (by kernel_rfl), kr (by kernel_rfl), kr (by kernel_rfl)⟩
/-- **max**: the last entry. -/
theorem max_calls {o h lo : Nat} (ho : 3 ≤ o) (ho' : o ≤ 1024) (x : TT) (nb : Nat) (w0 w : World) (fp0 : List Nat) (R : List Asn) (hb : Body o h lo (o - 1) x) (hp : 0 < x.es.length) (hS : St w0 fp0 (treeA β h x nb :: R) w) :
 Calls Tryz.prog (fMax β) #[ptrV nb] w fun e w' => (∃ m, maxT h x = some m ∧ e = .returned (.tuple #[encK m.1, encV m.2])) ∧ St w0 fp0 (treeA β h x nb :: R) w' := by
 obtain ⟨p1, p2, p3⟩ := lpMx β
 refine max_flat β nb (treeA β h x nb) w0 w fp0 R _ (fun Q A w K S hQ => ?_) hS
 refine wp_blkT p1 (wp_loopT (h + 1) p3 (max_loop ho ho' h lo x nb w0 w fp0 R A _ hb hp K S fun A w' lb last gk ck gv cv ps m xs ys R' g1 g2 g3 g4 g5 g6 g7 g8 g9 => inBlock_exit p2 ?_))
 exact hQ A w' lb last gk ck gv cv ps _ _ xs ys R' g1 g3 g4 g5 g6 (fun w'' h3 => ⟨⟨m, g2, rfl⟩, g7 w'' h3⟩) g8 g9
end Go.Proofs.YtnefkkidfhmggaaGreat
/- remove at trees. -/
namespace Go.Proofs.YtnefkkidfhmggaaGreat
open Go Go.RowKit
variable {β : Bool}
theorem remove_calls {o : Nat} (ho : 3 ≤ o) (ho' : o ≤ 1024) (tb : Nat) (r nn : Value) : ∀ (h lo : Nat) (x : TT) (nb : Nat) (k : Ky) (w0 w : World) (fp0 : List Nat) (R : List Asn), k.ok β → Body o h lo (o - 1) x → (h ≠ 0 → 0 < x.es.length) → AscM (toL h x) → OkL β (toL h x) →
 St w0 fp0 (treeA β h x nb :: blkA tb (tT β) #[r, .int .i64 o, nn] :: R) w →
 Calls Tryz.prog (fRemove β) #[ptrV tb, ptrV nb, encK k] w fun e w' => e = .returned (.tuple #[encV ((getT h x k).getD (va0 β)), .bool (getT h x k).isSome]) ∧ St w0 fp0 (treeA β h (removeT o h x k) nb :: blkA tb (tT β) #[r, .int .i64 o, nn] :: R) w'
 | h, lo, x, nb, k, w0, w, fp0, R, hkk, hb, hp, ha, hok, hS => by
  have hlen : x.es.length < 1099511627776 := by have := hb.hi; omega
  have hae : AscM x.es := asc_es ha
  have hpk := posK_le x.es k
  obtain ⟨y, hy⟩ : ∃ y : Ky × Va, hasK x.es k = true → x.es[posK x.es k]? = some y := by
   cases hh : hasK x.es k with
   | true => obtain ⟨y, hy⟩ := pos_get hh; exact ⟨y, fun _ => hy⟩
   | false => exact ⟨(k, .int 0), fun h => nomatch h⟩
  have hyv : hasK x.es k = true → (keysV x.es)[posK x.es k]?.isSome = true ∧ (valsV x.es)[posK x.es k]? = some (encV y.2) := fun hq => by simp [keysV, valsV, hy hq]
  have hg : hasK x.es k = true → getT h x k = some y.2 := fun hq => by cases h <;> simp [getT, hq, hy hq]
  cases h with
  | zero =>
   obtain ⟨ks, vs, ps, bs, hl, h1⟩ := hS.openNT
   have hcs : x.cs = [] := hb.2.2
   have hbs : bs = [] := List.length_eq_zero_iff.1 (by rw [hl, hcs]; rfl)
   subst hbs
   obtain ⟨_, q⟩ := h1.has 3 rfl
   obtain ⟨pa, pc, rfl, _⟩ := sl_get q
   have h2 := St_re (L := [_, _, _, _, _, _, _]) (St.emp.2 h1) [6, 1, 2, 3, 4, 5, 0] [] (by kernel_rfl)
   refine remove_flat β tb o nb (posK x.es k) 0 pc 0 0 r nn ks vs (encK k) (encV y.2) (encK k) (encV (va0 β)) (encV (va0 β)) (encV (va0 β)) (encV (va0 β)) (hasK x.es k) false false false pa (keysV x.es) (valsV x.es) [] [] [] _ emp emp emp ho ho' (by rw [keysV_length]; exact hpk) (by rw [keysV_length, valsV_length]) (by rw [keysV_length]; exact hlen) (keysV_one _) (valsV_one _) (encK_one k) (encV_one _) rfl
    (fun w fp fp' hbk hkk' => find_calls nb ks vs _ x.es k hok.es hkk w hbk ⟨_, hkk'⟩ hae hlen) hyv (fun h => absurd rfl h) (fun _ h => absurd rfl h) (fun _ h => absurd rfl h) (fun _ h => absurd rfl h) (fun h => absurd rfl h) (fun _ h => absurd rfl h) (fun _ h => absurd rfl h) (fun _ h => absurd rfl h) (fun _ h => absurd rfl h) (fun _ h => absurd rfl h) (fun _ h => absurd rfl h) (fun h => absurd rfl h) _ w0 w fp0 R ?_ ?_ (fun h => absurd rfl h) (fun h => absurd rfl h) h2
   · intro hq _ w' h3
     have hg0 : getT 0 x k = none := by simp [getT, hq]
     have hp0 : removeT o 0 x k = x := by simp [removeT, hq]
     rw [hg0, hp0]
     refine ⟨rfl, ?_⟩
     have h4 := St.shutNT (es := x.es) (cs := x.cs) (ks := ks) (vs := vs) (ps := .slice pa 0 pc) hl (St.emp.1 (St_re (L := [_, _, _, _, _, _, _]) h3 [6, 0, 1, 2, 4, 5, 3] [] (by kernel_rfl)))
     rw [T.eta] at h4
     exact h4
   · intro hq _ w' ks' vs' h3
     rw [hg hq, show removeT o 0 x k = .node (x.es.eraseIdx (posK x.es k)) x.cs by simp [removeT, hq]]
     refine ⟨rfl, St.shutNT (ks := ks') (vs := vs') (ps := .slice pa 0 pc) hl ?_⟩
     rw [show keysV (x.es.eraseIdx (posK x.es k)) = (keysV x.es).eraseIdx (posK x.es k) from map_eraseIdx' _ _ _, show valsV (x.es.eraseIdx (posK x.es k)) = (valsV x.es).eraseIdx (posK x.es k) from map_eraseIdx' _ _ _]
     exact St.emp.1 (St_re (L := [_, _, _, _, _, _, _]) h3 [6, 0, 1, 2, 4, 5, 3] [] (by kernel_rfl))
  | succ h =>
   obtain ⟨b1, b2, b3, b4⟩ := hb
   obtain ⟨lo1, lo2⟩ := least_two ho
   have hpos := hp (by omega)
   obtain ⟨c, hc⟩ : ∃ c, x.cs[posK x.es k]? = some c := ⟨_, List.getElem?_eq_getElem (by omega)⟩
   have hcb := b4 c (List.mem_of_getElem? hc)
   have hac := asc_kid1 b3 hc ha
   have hokc := hok.kid b3 hc
   have hcp : 0 < c.es.length := by have := hcb.lo; omega
   obtain ⟨Lm, m, hm, hmL⟩ := max_spec ho hcb hcp
   have hmok : m.1.ok β := hokc m (by rw [hmL]; simp)
   obtain ⟨ks, vs, ps, bs, cb, hl, hbi, h1⟩ := hS.viewT _ hc
   obtain ⟨_, q⟩ := h1.has 3 rfl
   obtain ⟨pa, pc, rfl, _⟩ := sl_get q
   rw [List.length_map] at h1
   have hn0 : bs.length ≠ 0 := by omega
   have h2 := St_re (L := [_, _, _, _, _, _, _]) h1 [6, 0, 1, 2, 3, 5, 4] [] (by kernel_rfl)
   obtain ⟨c', hc'⟩ : ∃ c', (if hasK x.es k = true then removeT o h c m.1 else removeT o h c k) = c' := ⟨_, rfl⟩
   obtain ⟨es', hes'⟩ : ∃ es', (if hasK x.es k = true then x.es.set (posK x.es k) m else x.es) = es' := ⟨_, rfl⟩
   have hc1 : hasK x.es k = true → removeT o h c m.1 = c' := fun hq => by rw [← hc', if_pos hq]
   have hc0 : hasK x.es k = false → removeT o h c k = c' := fun hq => by rw [← hc', if_neg (by rw [hq]; simp)]
   have he1 : hasK x.es k = true → es' = x.es.set (posK x.es k) m := fun hq => by rw [← hes', if_pos hq]
   have he0 : hasK x.es k = false → es' = x.es := fun hq => by rw [← hes', if_neg (by rw [hq]; simp)]
   have hel : es'.length = x.es.length := by rw [← hes']; split <;> simp
   have hcb' : Body o h (least o - 1) (o - 1) c' := by
    rw [← hc']
    split
    · exact (removeT_spec ho h _ c m.1 hcb (fun _ => hcp) hac).1
    · exact (removeT_spec ho h _ c k hcb (fun _ => hcp) hac).1
   have hrm : removeT o (h + 1) x k = if c'.es.length < least o then fillT o (posK x.es k) (.node es' (x.cs.set (posK x.es k) c')) else .node es' (x.cs.set (posK x.es k) c') := by
    rw [removeT, hc]
    cases hh : hasK x.es k with
    | true => rw [← hc1 hh, he1 hh]; simp only [if_true, hm]
    | false => rw [← hc0 hh, he0 hh]; simp
   have hg1 : hasK x.es k = false → getT (h + 1) x k = getT h c k := fun hq => by simp [getT, hq, hc]
   refine remove_flat β tb o nb (posK x.es k) bs.length pc cb c'.es.length r nn ks vs (encK k) (encV y.2) (encK m.1) (encV m.2) (encV ((getT h c k).getD (va0 β))) (encV ((getT h c m.1).getD (va0 β))) (encV ((getT (h + 1) x k).getD (va0 β))) (hasK x.es k) (getT h c k).isSome (getT h c m.1).isSome (getT (h + 1) x k).isSome pa (keysV x.es) (valsV x.es) (keysV es') (valsV es') (bs.map ptrV) (treeA β h c cb) (treeA β h c' cb) _ (treeA β (h + 1) (removeT o (h + 1) x k) nb) ho ho' (by rw [keysV_length]; exact hpk) (by rw [keysV_length, valsV_length]) (by rw [keysV_length]; exact hlen) (keysV_one _) (valsV_one _) (encK_one _) (encV_one _) (by rw [List.length_map])
    (fun w fp fp' hbk hkk' => find_calls nb ks vs _ x.es k hok.es hkk w hbk ⟨_, hkk'⟩ hae hlen) hyv (fun _ => by rw [List.getElem?_map, hbi]; rfl)
    (fun _ _ w0 fp0 R w hs => (max_calls ho ho' c cb w0 w fp0 R hcb hcp hs).mono fun e w' ⟨⟨m', e1, e2⟩, e3⟩ => ?_)
    (fun hq _ w0 fp0 R w hs => ?_) (fun hq _ w0 fp0 R w hs => ?_)
    (fun _ w f hf => by obtain ⟨ka, kc, _, _, e, _⟩ := tree_lookT hf; exact ⟨ka, kc, e⟩)
    (fun hq _ => by rw [he1 hq]; exact (set_map _ _ _ _).symm) (fun hq _ => by rw [he0 hq]) (fun hq _ => by rw [he1 hq]; exact (set_map _ _ _ _).symm) (fun hq _ => by rw [he0 hq])
    (fun hq _ => by rw [hg hq]; exact ⟨rfl, rfl⟩) (fun hq _ => by rw [hg1 hq]; exact ⟨rfl, rfl⟩)
    (fun _ hlt w0 fp0 R w hs => ?_) _ w0 w fp0 R (fun _ h => absurd h hn0) (fun _ h => absurd h hn0) ?_ ?_ h2
   · rw [hm] at e1
     obtain rfl := Option.some.inj e1
     exact ⟨e2, e3⟩
   · rw [← hc1 hq]
     exact remove_calls ho ho' tb r nn h (least o) c cb m.1 w0 w fp0 R hmok hcb (fun _ => hcp) hac hokc hs
   · rw [← hc0 hq]
     exact remove_calls ho ho' tb r nn h (least o) c cb k w0 w fp0 R hkk hcb (fun _ => hcp) hac hokc hs
   · rw [hrm, if_pos hlt]
     have hsh : Short o h (posK x.es k) (.node es' (x.cs.set (posK x.es k) c')) := by
      refine ⟨?_, ?_, ?_, fun d hd => ?_, fun j d hj hd => ?_⟩
      · rw [cs_node, es_node, List.length_set, hel, b3]
      · rw [es_node, hel]; exact hpos
      · rw [cs_node, List.length_set]; omega
      · rw [cs_node, List.getElem?_set_self (by omega)] at hd
        obtain rfl := Option.some.inj hd
        exact ⟨hcb', by have := hcb'.lo; omega⟩
      · rw [cs_node, List.getElem?_set_ne (fun e => hj e.symm)] at hd
        exact b4 d (List.mem_of_getElem? hd)
     refine fill_calls ho ho' tb r nn nb w0 w fp0 R hsh (by rw [es_node, hel]; exact b2) (St.unviewT hl hbi (St_re (L := [_, _, _, _, _, _, _]) hs [0, 1, 2, 3, 5, 4, 6] [] (by kernel_rfl)))
   · intro _ hlt w' h3
     rw [hrm, if_neg hlt]
     exact ⟨rfl, St.unviewT hl hbi (St_re (L := [_, _, _, _, _, _, _]) h3 [0, 1, 2, 3, 5, 4, 6] [] (by kernel_rfl))⟩
   · intro _ hlt w' h3
     exact ⟨rfl, h3⟩
end Go.Proofs.YtnefkkidfhmggaaGreat
/- Put, over both trees. -/
namespace Go.Proofs.YtnefkkidfhmggaaGreat
open Go Go.RowKit
set_option maxRecDepth 100000
theorem entPp (β : Bool) : Tryz.prog.funcs[fPut β]? = some (BPut β) ∧ (BPut β).body = some (bodyC (BPut β)) ∧ (BPut β).ntmps = 61 := by cases β <;> exact ⟨kr (by kernel_rfl), kr (by kernel_rfl), kr (by kernel_rfl)⟩
noncomputable def gPp0 (β : Bool)  := rg Tryz.prog (BPut β) 0 61 [(6, 2)] [] (Vq 0 6 [Kv (encV (va0 β)), Kv (.bool false)]) []
theorem obPp0 (β : Bool)   (w0 : World) (fp0 : List Nat) (R : List Asn) : (gPp0 β  w0 fp0 R).Ok 2 := by
 cases β <;> exact Rg.ok _ 2 [] trivial
theorem cdPp0 (β : Bool) : IsSq (BPut β) [] 0 := by cases β <;> exact isq (by kernel_rfl)
noncomputable def gPp1 (β : Bool) (tb o rb n : Nat) (kk vv ov : Value) (was : Bool) (T0 T1 : Asn) := rg Tryz.prog (BPut β) 1 61 [(11, 8), (10, 1), (19, 2), (8, 2)] [(0, pV tb 0), (1, kk), (2, vv)] (Vq 0 11 [Kp tb 0, Kp tb 0, Kp tb 0, Kp tb 0, Kp rb 0, Kv kk, Kv vv, Kv (.tuple #[ov, .bool was])] ++ Vq 8 10 [Kv (.tuple #[ov, .bool was])] ++ Vq 9 19 [Kv ov, Kv (.bool was)] ++ Vq 11 8 [Kv ov, Kv (.bool was)]) [.gen [7] [] fun L _g => match L 7 with | true => T1 | false => T0, Bk tb (tT β) [pV rb 0, nV o, nV n]]
theorem obPp1 (β : Bool) (tb o rb n : Nat) (kk vv ov : Value) (was : Bool) (T0 T1 : Asn) (hrec : ∀ (w0 : World) (fp0 : List Nat) (R : List Asn) (w : World), St w0 fp0 ([T0, blkA tb (tT β) #[.pointer (some ⟨rb, 0, none⟩), .int .i64 o, .int .i64 n]] ++ R) w → Calls Tryz.prog (fIns0 β) #[ptrV tb, ptrV rb, kk, vv] w fun e w' => e = .returned (.tuple #[ov, .bool was]) ∧ St w0 fp0 ([T1, blkA tb (tT β) #[.pointer (some ⟨rb, 0, none⟩), .int .i64 o, .int .i64 n]] ++ R) w') (w0 : World) (fp0 : List Nat) (R : List Asn) : (gPp1 β tb o rb n kk vv ov was T0 T1 w0 fp0 R).Ok 13 := by
 cases β <;> exact Rg.ok _ 13 [4, 7] ⟨.load _ 4 1 0, .callF _ 7 _ _ (hrec _ _ _), trivial⟩
theorem cdPp1 (β : Bool) : IsSq (BPut β) [1] 1 := by cases β <;> exact isq (by kernel_rfl)
theorem sqPp0 (β : Bool) : Sq (BPut β) [1, 1] := by cases β <;> exact isQ (by kernel_rfl)
noncomputable def gPp2 (β : Bool) (tb o rb n m : Nat) (T1 : Asn) := rg Tryz.prog (BPut β) 2 61 [(21, 13)] [(0, pV tb 0)] (Vq 0 21 [Kp tb 0, Kp tb 0, Kp tb 0, Kp rb 0, Kp rb 0, Kp rb 0, Fv [27] fun g => .slice (sa (g 27)) m (sc (g 27)), Kn m, Kp tb 0, Kp tb 0, Kp tb 1, Kn o, Kv (.bool (decide (o ≤ m)))]) [.all (T1), Bk tb (tT β) [pV rb 0, nV o, nV n]]
theorem obPp2 (β : Bool) (tb o rb n m : Nat) (T1 : Asn) (hlook : ∀ w f, T1.p w f → ∃ ka kc, w.cell? ⟨rb, 0, none⟩ = some (.slice ka m kc)) (w0 : World) (fp0 : List Nat) (R : List Asn) : (gPp2 β tb o rb n m T1 w0 fp0 R).Ok 13 := by
 cases β <;> exact Rg.ok _ 13 [3, 6, 11, 12] ⟨.load _ 3 1 0, .loadBy _ 6 0 (fun w f h => let ⟨_, _, e⟩ := hlook w f h; ⟨_, e, fun _ => rfl⟩), .load _ 11 1 1, .geq _ 12 m o, trivial⟩
theorem cdPp2 (β : Bool) : IsSq (BPut β) [1, 1, 0] 2 := by cases β <;> exact isq (by kernel_rfl)
theorem ccPp33 (β : Bool) : isCond (csnd (cfst (csnd (csnd (bodyC (BPut β)))))) = true ∧ ccond (csnd (cfst (csnd (csnd (bodyC (BPut β)))))) = .tmp 33 := by cases β <;> exact ⟨kr (by kernel_rfl), kr (by kernel_rfl)⟩
noncomputable def gPp3 (β : Bool) (tb o rb n : Nat) := rg Tryz.prog (BPut β) 3 61 [(34, 10)] [(0, pV tb 0)] (Vq 0 34 [Kp tb 0, Kp tb 0, Kp tb 0, Kp tb 0, Kp rb 0, Vf.box, Fv [39] fun g => .agg #[.slice none 0 0, .slice none 0 0, .slice (some ⟨pb (g 39), 0, none⟩) 1 1], Vf.ptr, Kp tb 0, Kp tb 0]) [.new 7 [41, 39] fun g => atA (tN β) (g 41) #[.slice none 0 0, .slice none 0 0, .slice (some ⟨pb (g 39), 0, none⟩) 1 1], .new 5 [39] fun g => boxA (tP β) (g 39) (.pointer (some ⟨rb, 0, none⟩)), .blk tb (tT β) [⟨pV rb 0, [(10, .s 41)]⟩, ⟨nV o, []⟩, ⟨nV n, []⟩]]
theorem obPp3 (β : Bool) (tb o rb n : Nat)  (w0 : World) (fp0 : List Nat) (R : List Asn) : (gPp3 β tb o rb n w0 fp0 R).Ok 11 := by
 cases β <;> exact Rg.ok _ 11 [4, 5, 7, 10] ⟨.load _ 4 2 0, .box _ 5 1 rfl, .lay _ 7 0, .store _ 10 2 0, trivial⟩
theorem cdPp3 (β : Bool) : IsSq (BPut β) [1, 1, 0, 1, 2] 3 := by cases β <;> exact isq (by kernel_rfl)
noncomputable def gPp4 (β : Bool) (tb o nr n : Nat) (X0 X1 X2 X3 : Asn) := rg Tryz.prog (BPut β) 4 61 [(44, 6)] [(0, pV tb 0)] (Vq 0 44 [Kp tb 0, Kp tb 0, Kp tb 0, Kp tb 0, Kp nr 0, Kv (.tuple #[])]) [.gen [5] [] fun L _g => match L 5 with | true => X3 | false => X0, .gen [5] [] fun L _g => match L 5 with | true => emp | false => X1, .gen [5] [] fun L _g => match L 5 with | true => emp | false => X2, Bk tb (tT β) [pV nr 0, nV o, nV n]]
theorem obPp4 (β : Bool) (tb o nr n : Nat) (X0 X1 X2 X3 : Asn) (hs : ∀ (w0 : World) (fp0 : List Nat) (R : List Asn) (w : World), St w0 fp0 ([X0, X1, X2, blkA tb (tT β) #[.pointer (some ⟨nr, 0, none⟩), .int .i64 o, .int .i64 n]] ++ R) w → Calls Tryz.prog (fSplit β) #[ptrV tb, ptrV nr, .int .i64 0] w fun e w' => e = .returned (.tuple #[]) ∧ St w0 fp0 ([X3, emp, emp, blkA tb (tT β) #[.pointer (some ⟨nr, 0, none⟩), .int .i64 o, .int .i64 n]] ++ R) w') (w0 : World) (fp0 : List Nat) (R : List Asn) : (gPp4 β tb o nr n X0 X1 X2 X3 w0 fp0 R).Ok 6 := by
 cases β <;> exact Rg.ok _ 6 [4, 5] ⟨.load _ 4 3 0, .callF _ 5 _ _ (hs _ _ _), trivial⟩
theorem cdPp4 (β : Bool) : IsRg (BPut β) [1, 1, 0, 1, 2, 1] 4 := by cases β <;> exact irg (by kernel_rfl)
theorem isSkipPp1 (β : Bool) : isSkip (celse (csnd (cfst (csnd (csnd (bodyC (BPut β))))))) = true := by cases β <;> exact kr (by kernel_rfl)
theorem sqPp2 (β : Bool) : Sq (BPut β) [1, 1, 1] := by cases β <;> exact isQ (by kernel_rfl)
noncomputable def gPp5 (β : Bool) (was : Bool) := rg Tryz.prog (BPut β) 5 61 [(50, 2)] [(9, .bool was)] (Vq 0 50 [Kv (.bool was), Kv (.bool (!was))]) []
theorem obPp5 (β : Bool) (was : Bool)  (w0 : World) (fp0 : List Nat) (R : List Asn) : (gPp5 β was w0 fp0 R).Ok 2 := by
 cases β <;> exact Rg.ok _ 2 [] trivial
theorem cdPp5 (β : Bool) : IsSq (BPut β) [1, 1, 1, 0] 5 := by cases β <;> exact isq (by kernel_rfl)
theorem ccPp51 (β : Bool) : isCond (csnd (cfst (csnd (csnd (csnd (bodyC (BPut β))))))) = true ∧ ccond (csnd (cfst (csnd (csnd (csnd (bodyC (BPut β))))))) = .tmp 51 := by cases β <;> exact ⟨kr (by kernel_rfl), kr (by kernel_rfl)⟩
noncomputable def gPp6 (β : Bool) (tb o rb2 n : Nat) := rg Tryz.prog (BPut β) 6 61 [(52, 7)] [(0, pV tb 0)] (Vq 0 52 [Kp tb 0, Kp tb 0, Kp tb 2, Kn n, Kn (n + 1), Kp tb 0, Kp tb 2]) [.blk tb (tT β) [⟨pV rb2 0, []⟩, ⟨nV o, []⟩, ⟨nV n, [(7, .v (nV (n + 1)))]⟩]]
theorem obPp6 (β : Bool) (tb o rb2 n : Nat) (hn : n < 1099511627776) (w0 : World) (fp0 : List Nat) (R : List Asn) : (gPp6 β tb o rb2 n w0 fp0 R).Ok 8 := by
 cases β <;> exact Rg.ok _ 8 [3, 4, 7] ⟨.load _ 3 0 2, .add _ 4 (n) (1) ((n + 1 : Nat) : Int), .storeV _ 7 0 2, trivial⟩
theorem cdPp6 (β : Bool) : IsRg (BPut β) [1, 1, 1, 0, 1, 2] 6 := by cases β <;> exact irg (by kernel_rfl)
theorem isSkipPp3 (β : Bool) : isSkip (celse (csnd (cfst (csnd (csnd (csnd (bodyC (BPut β)))))))) = true := by cases β <;> exact kr (by kernel_rfl)
noncomputable def gPp7 (β : Bool) (ov : Value) (was : Bool) := rg Tryz.prog (BPut β) 7 61 [(59, 2), (6, 2)] [(8, ov), (9, .bool was)] (Vq 0 59 [Kv ov, Kv (.bool was)] ++ Vq 2 6 [Kv ov, Kv (.bool was)]) []
theorem obPp7 (β : Bool) (ov : Value) (was : Bool)  (w0 : World) (fp0 : List Nat) (R : List Asn) : (gPp7 β ov was w0 fp0 R).Ok 4 := by
 cases β <;> exact Rg.ok _ 4 [] trivial
theorem cdPp7 (β : Bool) : IsSq (BPut β) [1, 1, 1, 1] 7 := by cases β <;> exact isq (by kernel_rfl)
theorem isRetPp4 (β : Bool) : isRet (csnd (csnd (csnd (csnd (csnd (bodyC (BPut β))))))) = true := by cases β <;> exact kr (by kernel_rfl)
theorem resPp (β : Bool) : (BPut β).results = #[.tmp 6, .tmp 7] := by cases β <;> exact kr (by kernel_rfl)
set_option maxHeartbeats 4000000 in
theorem Put_flat (β : Bool) (tb o rb m n : Nat) (kk vv ov : Value) (was : Bool) (T0 T1 : Asn) (TF : Nat → Asn) (hn : n < 1099511627776)
 (hrec : ∀ (w0 : World) (fp0 : List Nat) (R : List Asn) (w : World), St w0 fp0 ([T0, blkA tb (tT β) #[.pointer (some ⟨rb, 0, none⟩), .int .i64 o, .int .i64 n]] ++ R) w → Calls Tryz.prog (fIns0 β) #[ptrV tb, ptrV rb, kk, vv] w fun e w' => e = .returned (.tuple #[ov, .bool was]) ∧ St w0 fp0 ([T1, blkA tb (tT β) #[.pointer (some ⟨rb, 0, none⟩), .int .i64 o, .int .i64 n]] ++ R) w')
 (hlook : ∀ w f, T1.p w f → ∃ ka kc, w.cell? ⟨rb, 0, none⟩ = some (.slice ka m kc))
 (hsplit : o ≤ m → ∀ (nr gx : Nat) (w0 : World) (fp0 : List Nat) (R : List Asn) (w : World), St w0 fp0 ([blkA nr (tN β) #[.slice none 0 0, .slice none 0 0, .slice (some ⟨gx, 0, none⟩) 1 1], boxA (tP β) (.slice (some ⟨gx, 0, none⟩) 1 1) (.pointer (some ⟨rb, 0, none⟩)), T1, blkA tb (tT β) #[.pointer (some ⟨nr, 0, none⟩), .int .i64 o, .int .i64 n]] ++ R) w → Calls Tryz.prog (fSplit β) #[ptrV tb, ptrV nr, .int .i64 0] w fun e w' => e = .returned (.tuple #[]) ∧ St w0 fp0 ([TF nr, blkA tb (tT β) #[.pointer (some ⟨nr, 0, none⟩), .int .i64 o, .int .i64 n]] ++ R) w')
 (Rr : Ending → World → Prop) (w0 w : World) (fp0 : List Nat) (R : List Asn)
 (hP : ∀ (X : Asn) (rb2 : Nat) (w' : World), (m < o ∧ X = T1 ∧ rb2 = rb ∨ o ≤ m ∧ X = TF rb2) → St w0 fp0 ([X, blkA tb (tT β) #[.pointer (some ⟨rb2, 0, none⟩), .int .i64 o, .int .i64 ((if was then n else n + 1 : Nat) : Int)]] ++ R) w' → Rr (.returned (.tuple #[ov, .bool was])) w')
 (hS : St w0 fp0 ([T0, blkA tb (tT β) #[pV rb 0, nV o, nV n]] ++ R) w) : Calls Tryz.prog (fPut β) #[ptrV tb, kk, vv] w Rr := by
 refine calls_T [(0, pV tb 0), (1, kk), (2, vv)] (entPp β) (by simp) (by kernel_rfl) fun A0 K0 => ?_
 refine wp_seqT (cdPp0 β).sq ?_
 refine wp_regT (obPp0 β   _ _ _) (by kernel_rfl) (cdPp0 β).cd (K0.sub (by kernel_rfl)) (St_re hS [] [0, 1] (by kernel_rfl)) fun A1 w1 N1 H1 => ?_
 have S1 : St w0 fp0 ([T0, blkA tb (tT β) #[pV rb 0, nV o, nV n]] ++ R) w1 := H1
 have K1 : Knows 61 A1 [(0, pV tb 0), (1, kk), (2, vv), (6, encV (va0 β)), (7, .bool false)] := N1.knows K0 (by kernel_rfl)
 refine wp_seqT (cdPp1 β).sq ?_
 refine wp_regT (obPp1 β tb o rb n kk vv ov was T0 T1 hrec _ _ _) (by kernel_rfl) (cdPp1 β).cd (K1.sub (by kernel_rfl)) (St_re S1 [0, 1] [] (by kernel_rfl)) fun A2 w2 N2 H2 => ?_
 have S2 : St w0 fp0 ([T1, blkA tb (tT β) #[pV rb 0, nV o, nV n]] ++ R) w2 := H2
 have K2 : Knows 61 A2 [(0, pV tb 0), (1, kk), (2, vv), (6, encV (va0 β)), (7, .bool false), (8, ov), (9, .bool was)] := N2.knows K1 (by kernel_rfl)
 refine wp_seqJ (sqPp0 β) (fun A w => ∃ (X : Asn) (rb2 : Nat) (hx : m < o ∧ X = T1 ∧ rb2 = rb ∨ o ≤ m ∧ X = TF rb2), Knows 61 A [(0, pV tb 0), (8, ov), (9, .bool was)] ∧ St w0 fp0 ([X, blkA tb (tT β) #[pV rb2 0, nV o, nV n]] ++ R) w) ?_ ?_
 · skip
   refine wp_seqT (cdPp2 β).sq ?_
   refine wp_regT (obPp2 β tb o rb n m T1 hlook _ _ _) (by kernel_rfl) (cdPp2 β).cd (K2.sub (by kernel_rfl)) (St_re S2 [0, 1] [] (by kernel_rfl)) fun A3 w3 N3 H3 => ?_
   have S3 : St w0 fp0 ([T1, blkA tb (tT β) #[pV rb 0, nV o, nV n]] ++ R) w3 := H3
   have K3 : Knows 61 A3 [(0, pV tb 0), (1, kk), (2, vv), (6, encV (va0 β)), (7, .bool false), (8, ov), (9, .bool was), (33, .bool (decide (o ≤ m)))] := N3.knows K2 (by kernel_rfl)
   refine wp_condK (ccPp33 β) K3 (by rfl) (fun hq => ?_) (fun hq => ?_)
   · skip
     have hom : o ≤ m := by simpa using hq
     refine wp_seqT (cdPp3 β).sq ?_
     refine wp_regT (obPp3 β tb o rb n  _ _ _) (by kernel_rfl) (cdPp3 β).cd (K3.sub (by kernel_rfl)) (St.emp.2 (St.emp.2 (St_re S3 [1] [0] (by kernel_rfl)))) fun A4 w4 N4 H4 => ?_
     have S4 : St w0 fp0 ([atA (tN β) (slots A4 41) #[.slice none 0 0, .slice none 0 0, .slice (some ⟨pb (slots A4 39), 0, none⟩) 1 1], boxA (tP β) (slots A4 39) (.pointer (some ⟨rb, 0, none⟩)), blkA tb (tT β) #[slots A4 41, nV o, nV n], T1] ++ R) w4 := H4
     have K4 : Knows 61 A4 [(0, pV tb 0), (1, kk), (2, vv), (6, encV (va0 β)), (7, .bool false), (8, ov), (9, .bool was), (33, .bool (decide (o ≤ m)))] := N4.knows K3 (by kernel_rfl)
     obtain ⟨gx, e39⟩ : ∃ n, slots A4 39 = .slice (some ⟨n, 0, none⟩) 1 1 := ⟨_, N4.val 5 rfl⟩
     rw [e39] at S4
     obtain ⟨nr, e41, S4⟩ := St.at_open S4
     have S4 : St w0 fp0 ([blkA nr (tN β) #[.slice none 0 0, .slice none 0 0, .slice (some ⟨gx, 0, none⟩) 1 1], boxA (tP β) (.slice (some ⟨gx, 0, none⟩) 1 1) (.pointer (some ⟨rb, 0, none⟩)), T1, blkA tb (tT β) #[.pointer (some ⟨nr, 0, none⟩), .int .i64 o, .int .i64 n]] ++ R) w4 := by rw [e41] at S4; exact St_re (L := [_, _, _, _]) S4 [0, 1, 3, 2] [] (by kernel_rfl)
     refine wp_regT (obPp4 β tb o nr n _ _ _ (TF nr) (fun w0 fp0 R w h => (hsplit hom nr gx w0 fp0 R w h).mono fun e w' ⟨h1, h2⟩ => ⟨h1, St_re (L := [_, _, _, _]) (St.emp.2 (St.emp.2 h2)) [2, 0, 1, 3] [] (by kernel_rfl)⟩) _ _ _) (by kernel_rfl) (cdPp4 β).cd (K4.sub (by kernel_rfl)) (St_re S4 [0, 1, 2, 3] [] (by kernel_rfl)) fun A5 w5 N5 H5 => ?_
     have S5 : St w0 fp0 ([TF nr, emp, emp, blkA tb (tT β) #[pV nr 0, nV o, nV n]] ++ R) w5 := H5
     have K5 : Knows 61 A5 [(0, pV tb 0), (1, kk), (2, vv), (6, encV (va0 β)), (7, .bool false), (8, ov), (9, .bool was), (33, .bool (decide (o ≤ m)))] := N5.knows K4 (by kernel_rfl)
     exact ⟨TF nr, nr, .inr ⟨hom, rfl⟩, K5.sub (by kernel_rfl), St_re (L := [_, _]) (St.emp.1 (St.emp.1 (St_re (L := [_, _, _, _]) S5 [1, 2, 0, 3] [] (by kernel_rfl)))) [0, 1] [] (by kernel_rfl)⟩
   · skip
     refine wp_skipT (isSkipPp1 β) ?_
     exact ⟨T1, rb, .inl ⟨by simpa using hq, rfl, rfl⟩, K3.sub (by kernel_rfl), (St_re S3 [0, 1] [] (by kernel_rfl))⟩
 · rintro A6 w6 ⟨X, rb2, hx, K6, S6⟩
   refine wp_seqJ (sqPp2 β) (fun A w => ∃ (n2 : Nat) (hn2 : n2 = if was then n else n + 1), Knows 61 A [(8, ov), (9, .bool was)] ∧ St w0 fp0 ([X, blkA tb (tT β) #[pV rb2 0, nV o, nV n2]] ++ R) w) ?_ ?_
   · skip
     refine wp_seqT (cdPp5 β).sq ?_
     refine wp_regT (obPp5 β was  _ _ _) (by kernel_rfl) (cdPp5 β).cd (K6.sub (by kernel_rfl)) (St_re S6 [] [0, 1] (by kernel_rfl)) fun A7 w7 N7 H7 => ?_
     have S7 : St w0 fp0 ([X, blkA tb (tT β) #[pV rb2 0, nV o, nV n]] ++ R) w7 := H7
     have K7 : Knows 61 A7 [(0, pV tb 0), (8, ov), (9, .bool was), (51, .bool (!was))] := N7.knows K6 (by kernel_rfl)
     refine wp_condK (ccPp51 β) K7 (by rfl) (fun hq => ?_) (fun hq => ?_)
     · skip
       refine wp_regT (obPp6 β tb o rb2 n hn _ _ _) (by kernel_rfl) (cdPp6 β).cd (K7.sub (by kernel_rfl)) (St_re S7 [1] [0] (by kernel_rfl)) fun A8 w8 N8 H8 => ?_
       have S8 : St w0 fp0 ([blkA tb (tT β) #[pV rb2 0, nV o, nV (n + 1)], X] ++ R) w8 := H8
       have K8 : Knows 61 A8 [(0, pV tb 0), (8, ov), (9, .bool was), (51, .bool (!was))] := N8.knows K7 (by kernel_rfl)
       exact ⟨n + 1, by simp at hq; simp [hq], K8.sub (by kernel_rfl), (St_re S8 [1, 0] [] (by kernel_rfl))⟩
     · skip
       refine wp_skipT (isSkipPp3 β) ?_
       exact ⟨n, by simp at hq; simp [hq], K7.sub (by kernel_rfl), (St_re S7 [0, 1] [] (by kernel_rfl))⟩
   · rintro A9 w9 ⟨n2, hn2, K9, S9⟩
     refine wp_seqT (cdPp7 β).sq ?_
     refine wp_regT (obPp7 β ov was  _ _ _) (by kernel_rfl) (cdPp7 β).cd (K9.sub (by kernel_rfl)) (St_re S9 [] [0, 1] (by kernel_rfl)) fun A10 w10 N10 H10 => ?_
     have S10 : St w0 fp0 ([X, blkA tb (tT β) #[pV rb2 0, nV o, nV n2]] ++ R) w10 := H10
     have K10 : Knows 61 A10 [(8, ov), (9, .bool was), (6, ov), (7, .bool was)] := N10.knows K9 (by kernel_rfl)
     refine wp_retT (isRetPp4 β) ?_
     refine post_T K10 (res2 (resPp β) K10 (by rfl) (by rfl)) ?_
     exact hP X rb2 _ hx (hn2 ▸ S10)
end Go.Proofs.YtnefkkidfhmggaaGreat
/- Put at trees. -/
namespace Go.Proofs.YtnefkkidfhmggaaGreat
open Go Go.RowKit
variable {β : Bool}
theorem Put_calls {o : Nat} (ho : 3 ≤ o) (ho' : o ≤ 1024) (h : Nat) (l : MM) (tb : Nat) (k : Ky) (v : Va) (hkk : k.ok β) (hok : OkL β l) (w0 w : World) (fp0 : List Nat) (R : List Asn) (hlen : l.length < 1099511627775)
 (hS : St w0 fp0 (objA β o h l tb :: R) w) :
 Calls Tryz.prog (fPut β) #[ptrV tb, encK k, encV v] w fun e w' => e = .returned (.tuple #[encV ((getM l k).getD (va0 β)), .bool (getM l k).isSome]) ∧ ∃ h', St w0 fp0 (objA β o h' (putM l k v) tb :: R) w' := by
 obtain ⟨x, rb, ⟨g1, g2, g3⟩, hS1⟩ := hS.openOT
 obtain ⟨p1, p2⟩ := putT_spec ho k v h _ x g1 g2
 have hget := getT_spec k h _ _ x g1 g2
 rw [g3] at p2 hget
 have hpl := putM_lengthT l k v (by rw [← g3]; exact g2)
 have hasc : AscM (putM l k v) := ascM_putM (by rw [← g3]; exact g2) k v
 refine Put_flat β tb o rb (putT o h x k v).es.length l.length (encK k) (encV v) (encV ((getM l k).getD (va0 β))) (getM l k).isSome (treeA β h x rb) (treeA β h (putT o h x k v) rb) (fun nr => treeA β (h + 1) (splitT o 0 (.node [] [putT o h x k v])) nr) (by omega)
  (fun w0 fp0 R w hs => by rw [← hget]; exact put_calls ho ho' tb (ptrV rb) (.int .i64 l.length) k v hkk h _ x rb w0 w fp0 R g1 g2 (by rw [g3]; exact hok) hs)
  (fun w f hf => by obtain ⟨ka, kc, _, _, e, _⟩ := tree_lookT hf; exact ⟨ka, kc, e⟩)
  (fun hom nr gx w0 fp0 R w hs => ?_) _ w0 w fp0 R ?_ hS1
 · have hxo : (putT o h x k v).es.length = o := by have := p1.hi; omega
   have hck : (putT o h x k v).cs = [] ∨ (putT o h x k v).cs.length = o + 1 := by
    rcases p1.kids with ⟨_, e⟩ | ⟨_, _, e, _⟩
    · exact .inl e
    · exact .inr (by rw [e, hxo])
   have h6 : St w0 fp0 (blkA nr (tN β) #[.slice none 0 0, .slice none 0 0, .slice (some ⟨gx, 0, none⟩) 1 1] :: boxA (tP β) (.slice (some ⟨gx, 0, none⟩) 1 1) (ptrV rb) :: treeA β h (putT o h x k v) rb :: blkA tb (tT β) #[.pointer (some ⟨nr, 0, none⟩), .int .i64 o, .int .i64 l.length] :: R) w := hs
   have h7 := split_calls (h := h) ho ho' tb (ptrV nr) (.int .i64 l.length) (.node [] [putT o h x k v]) 0 (putT o h x k v) nr w0 w fp0 R rfl rfl (by simp [es_node]) hxo hck h6.overT
   exact h7
 · intro X rb2 w' hx h3
   refine ⟨rfl, ?_⟩
   have hn : (if (getM l k).isSome = true then l.length else l.length + 1) = (putM l k v).length := hpl.symm
   rw [hn] at h3
   rcases hx with ⟨hlt, rfl, rfl⟩ | ⟨hge, rfl⟩
   · exact ⟨h, St.shutOT ⟨p1.mono p1.lo (by omega), by rw [p2]; exact hasc, p2⟩ h3⟩
   · have hxo : (putT o h x k v).es.length = o := by have := p1.hi; omega
     have Hsp := split_spec ho (x := .node [] [putT o h x k v]) (i := 0) (c := putT o h x k v) rfl rfl (p1.mono (by rw [hxo]; unfold least; omega) (by omega)) hxo (by simp) (by simp [cs_node])
     have HT : toL (h + 1) (splitT o 0 (.node [] [putT o h x k v])) = putM l k v := by
      rw [Hsp.2.2, toL_cons, p2]
      simp [post]
     have HB : Body o (h + 1) (rootB (h + 1)) (o - 1) (splitT o 0 (.node [] [putT o h x k v])) := Hsp.2.1.mono (by have := Hsp.2.1.lo; simpa [rootB, es_node] using this) (by have := Hsp.2.1.hi; simp [es_node] at this; omega)
     exact ⟨h + 1, St.shutOT ⟨HB, by rw [HT]; exact hasc, HT⟩ h3⟩
end Go.Proofs.YtnefkkidfhmggaaGreat
/- Delete at trees. -/
namespace Go.Proofs.YtnefkkidfhmggaaGreat
open Go Go.RowKit
variable {β : Bool}
theorem delM_lengthT (l : MM) (k : Ky) : (delM l k).length = if (getM l k).isSome then l.length - 1 else l.length := by
 induction l with
 | nil => rfl
 | cons x l ih =>
  rw [delM, getM]
  by_cases he : eqK x.1 k = true
  · simp [he]
  · simp only [he, Bool.false_eq_true, if_false, List.length_cons, ih]
    split
    · have : 0 < l.length := by
       cases l with
       | nil => simp_all [getM]
       | cons => simp
      omega
    · rfl
/-- What can be seen of a node. -/
theorem tree_nodeT {w : World} {h : Nat} {x : TT} {b : Nat} {f : List Nat} (ht : (treeA β h x b).p w f) : ∃ (ks vs : Value) (pa : Option Addr) (pc : Nat) (bs f1 : List Nat), bs.length = x.cs.length ∧ (blkA b (tN β) #[ks, vs, .slice pa x.cs.length pc]).p w f1 := by
 rw [treeA_eq] at ht
 obtain ⟨⟨ks, vs, ps, bs⟩, hq⟩ := ht
 have hst : Star w (nodeL β (kidA β h) x b (ks, vs, ps, bs)) f := hq
 obtain ⟨_, ⟨hl, _⟩, _⟩ := Star.get 0 rfl hst
 obtain ⟨f1, h1, _⟩ := Star.get 1 rfl hst
 obtain ⟨f4, h4, _⟩ := Star.get 4 rfl hst
 simp only at hl h1 h4
 obtain ⟨pa, pc, rfl, _⟩ := sl_get h4
 rw [List.length_map, hl] at h1
 exact ⟨ks, vs, pa, pc, bs, f1, hl, h1⟩
theorem tree_leafT {w : World} {h : Nat} {x : TT} {b : Nat} {f : List Nat} (ht : (treeA β h x b).p w f) : Calls Tryz.prog (fLeaf β) #[ptrV b] w fun e w' => e = .returned (.bool (x.cs.length == 0)) ∧ Below w.heap.size w w' := by
 obtain ⟨ks, vs, pa, pc, bs, f1, _, h1⟩ := tree_nodeT ht
 exact (leaf_calls b ks vs pa _ pc w h1).mono fun e w' ⟨a, b⟩ => ⟨a, b ▸ Below.refl _ _⟩
theorem Delete_calls {o : Nat} (ho : 3 ≤ o) (ho' : o ≤ 1024) (h : Nat) (l : MM) (tb : Nat) (k : Ky) (hkk : k.ok β) (hok : OkL β l) (w0 w : World) (fp0 : List Nat) (R : List Asn) (hlen : l.length < 1099511627775)
 (hS : St w0 fp0 (objA β o h l tb :: R) w) :
 Calls Tryz.prog (fDelete β) #[ptrV tb, encK k] w fun e w' => e = .returned (.tuple #[encV ((getM l k).getD (va0 β)), .bool (getM l k).isSome]) ∧ ∃ h', St w0 fp0 (objA β o h' (delM l k) tb :: R) w' := by
 obtain ⟨x, rb, ⟨g1, g2, g3⟩, hS1⟩ := hS.openOT
 have hxp : h ≠ 0 → 0 < x.es.length := by
  intro h0
  have := g1.lo
  unfold rootB at this
  rw [if_neg h0] at this
  omega
 obtain ⟨p1, p2⟩ := removeT_spec ho h _ x k g1 hxp g2
 have hget := getT_spec k h _ _ x g1 g2
 rw [g3] at p2 hget
 have hdl := delM_lengthT l k
 have hasc : AscM (delM l k) := ascM_delM (by rw [← g3]; exact g2) k
 have hn0 : (getM l k).isSome = true → 0 < l.length := by
  intro e
  cases l with
  | nil => simp [getM] at e
  | cons => simp
 have hlow : ∀ h' c, h = h' + 1 → (removeT o h x k).es.length = 0 → (removeT o h x k).cs[0]? = some c → Body o h' (rootB h') (o - 1) c ∧ toL h' c = delM l k := by
  intro h' c e hm hc
  subst e
  obtain ⟨_, _, k3, k4⟩ := p1
  have hcb := k4 c (List.mem_of_getElem? hc)
  have he : (removeT o (h' + 1) x k).es = [] := List.length_eq_zero_iff.1 hm
  rw [hm] at k3
  obtain ⟨d, hd⟩ := List.length_eq_one_iff.1 k3
  rw [hd] at hc
  obtain rfl := Option.some.inj hc
  refine ⟨hcb.mono (by have := hcb.lo; obtain ⟨q1, _⟩ := least_two ho; unfold rootB; split <;> omega) hcb.hi, ?_⟩
  rw [← p2, ← T.eta (removeT o (h' + 1) x k), he, hd]
  have := toL_last h' ([] : MM) [] d rfl
  simpa [pre] using this.symm
 refine Delete_flat β tb o rb (removeT o h x k).es.length (removeT o h x k).cs.length l.length (encK k) (encV ((getM l k).getD (va0 β))) (getM l k).isSome (treeA β h x rb) (treeA β h (removeT o h x k) rb) (fun nr => exA fun q : Nat × TT => starA [pureA (h = q.1 + 1 ∧ (removeT o h x k).cs[0]? = some q.2), treeA β q.1 q.2 nr]) (by have := p1.hi; omega) (by omega) hn0
  (fun w0 fp0 R w hs => by rw [← hget]; exact remove_calls ho ho' tb (ptrV rb) (.int .i64 l.length) h _ x rb k w0 w fp0 R hkk g1 hxp g2 (by rw [g3]; exact hok) hs)
  (fun w f hf => by obtain ⟨ka, kc, _, _, e, _⟩ := tree_lookT hf; exact ⟨ka, kc, e⟩)
  (fun w f hf => tree_leafT hf)
  (fun hm hn w0 fp0 R w hs => ?_) _ w0 w fp0 R ?_ hS1
 · cases h with
   | zero => exact absurd (by rw [p1.2.2]; rfl) hn
   | succ h' =>
    obtain ⟨c, hc⟩ : ∃ c, (removeT o (h' + 1) x k).cs[0]? = some c := ⟨_, List.getElem?_eq_getElem (by omega)⟩
    obtain ⟨ks, vs, ps, bs, cb, hl, hbi, h1⟩ := hs.viewT 0 hc
    obtain ⟨_, q⟩ := h1.has 3 rfl
    obtain ⟨gp, pc, rfl, _⟩ := sl_some q (by rw [List.length_map]; omega)
    rw [List.length_map, hl] at h1
    refine ⟨ks, vs, gp, pc, cb, bs.map ptrV, by rw [List.getElem?_map, hbi]; rfl, ?_⟩
    have h2 := St.drop (St.drop (St.drop (St_re (L := [_, _, _, _, _, _, _]) h1 [1, 2, 4, 5, 0, 3, 6] [] (by kernel_rfl))))
    have h3 : St w0 fp0 ([pureA (h' + 1 = h' + 1 ∧ (removeT o (h' + 1) x k).cs[0]? = some c), treeA β h' c cb] ++ ([_, _, _] ++ R)) w := St.pure.2 ⟨⟨rfl, hc⟩, h2⟩
    have h4 := h3.fold (B := exA fun q : Nat × TT => starA [pureA (h' + 1 = q.1 + 1 ∧ (removeT o (h' + 1) x k).cs[0]? = some q.2), treeA β q.1 q.2 cb]) fun f hf => ⟨(h', c), hf⟩
    exact St_re (L := [_, _, _, _]) h4 [1, 2, 0, 3] [] (by kernel_rfl)
 · intro X rb2 w' hx h3
   refine ⟨rfl, ?_⟩
   rw [← hdl] at h3
   rcases hx with ⟨hne, rfl, rfl⟩ | ⟨⟨hm, hn⟩, rfl⟩
   · refine ⟨h, St.shutOT ⟨p1.mono ?_ p1.hi, by rw [p2]; exact hasc, p2⟩ h3⟩
     unfold rootB
     split
     · exact Nat.zero_le _
     · rename_i h0
       rcases p1.kids with ⟨e0, _⟩ | ⟨h', _, hk, _⟩
       · exact absurd e0 h0
       · by_cases hm0 : (removeT o h x k).es.length = 0
         · exact absurd ⟨hm0, by omega⟩ hne
         · omega
   · obtain ⟨⟨h', c⟩, h4⟩ := h3.unfold (L1 := fun q : Nat × TT => [pureA (h = q.1 + 1 ∧ (removeT o h x k).cs[0]? = some q.2), treeA β q.1 q.2 rb2]) fun f ⟨q, hq⟩ => ⟨q, hq⟩
     obtain ⟨⟨e1, e2⟩, h5⟩ := St.pure.1 h4
     obtain ⟨e3, e4⟩ := hlow h' c e1 hm e2
     exact ⟨h', St.shutOT ⟨e3, by rw [e4]; exact hasc, e4⟩ h5⟩
end Go.Proofs.YtnefkkidfhmggaaGreat
/- Len. -/
namespace Go.Proofs.YtnefkkidfhmggaaGreat
open Go Go.RowKit
variable {β : Bool}
theorem obj_len {w : World} {o h : Nat} {l : MM} {tb : Nat} {f : List Nat} (hS : (objA β o h l tb).p w f) : ∃ rb f1, (blkA tb (tT β) #[ptrV rb, .int .i64 o, .int .i64 l.length]).p w f1 := by
 obtain ⟨⟨x, rb⟩, hq⟩ := hS
 have hst : Star w [pureA (GoodT o h l x), blkA tb (tT β) #[ptrV rb, .int .i64 o, .int .i64 l.length], treeA β h x rb] f := hq
 obtain ⟨f1, h1, _⟩ := Star.get 1 rfl hst
 exact ⟨rb, f1, h1⟩
theorem Len_calls {o h : Nat} {l : MM} (tb : Nat) (w : World) {f : List Nat} (hS : (objA false o h l tb).p w f) :
 Calls Tryz.prog 73 #[ptrV tb] w fun e w' => e = .returned (.int .i64 l.length) ∧ w = w' := by
 obtain ⟨rb, _, hb⟩ := obj_len hS
 have c2 := (blk_get hb).1 2
 have c2l := (blk_get hb).2.2
 simp only [List.getElem?_toArray, List.getElem?_cons_zero, List.getElem?_cons_succ] at c2
 clear hb hS
 unfold ptrV
 go_enter Tryz.func73, Tryz.ntmps73
 go_wp2
 go_ret
 exact ⟨rfl, rfl⟩
end Go.Proofs.YtnefkkidfhmggaaGreat
/- Get, over both trees. -/
namespace Go.Proofs.YtnefkkidfhmggaaGreat
open Go Go.RowKit
set_option maxRecDepth 100000
noncomputable def gGt2 (b i n2 c2 : Nat) (ks vs kk : Value) (q : Bool) (a2 : Option Addr) (xs : List Value) := rg Tryz.prog (BGet false) 2 38 [(15, 3), (14, 1), (18, 2), (7, 2)] [(6, pV b 0), (1, kk)] (Vq 0 15 [Kp b 0, Kv kk, Kv (.tuple #[nV i, .bool q])] ++ Vq 3 14 [Kv (.tuple #[nV i, .bool q])] ++ Vq 4 18 [Kn i, Kv (.bool q)] ++ Vq 6 7 [Kn i, Kv (.bool q)]) [Bk b (tN false) [ks, vs, .slice a2 n2 c2], .sl (tK false) (ks) xs []]
theorem obGt2 (b i n2 c2 : Nat) (ks vs kk : Value) (q : Bool) (a2 : Option Addr) (xs : List Value) (hfind : ∀ w fp fp', (blkA b (tN false) #[ks, vs, .slice a2 n2 c2]).p w fp → (slA (tK false) ks xs).p w fp' → Calls Tryz.prog (fFind false) #[ptrV b, kk] w fun e w' => e = .returned (.tuple #[.int .i64 i, .bool q]) ∧ Below w.heap.size w w') (w0 : World) (fp0 : List Nat) (R : List Asn) : (gGt2 b i n2 c2 ks vs kk q a2 xs w0 fp0 R).Ok 8 := by
 exact Rg.ok _ 8 [2] ⟨.ask2 _ 2 0 1 hfind, trivial⟩
theorem cdGt2 : IsSq (BGet false) [1, 1, 4, 4, 4] 2 := by exact isq (by kernel_rfl)
theorem sqGt0 : Sq (BGet false) [1, 1, 4, 4, 4, 1] := by exact isQ (by kernel_rfl)
noncomputable def gGt3 (q : Bool) := rg Tryz.prog (BGet false) 3 38 [(20, 1)] [(8, .bool q)] (Vq 0 20 [Kv (.bool q)]) []
theorem obGt3 (q : Bool)  (w0 : World) (fp0 : List Nat) (R : List Asn) : (gGt3 q w0 fp0 R).Ok 1 := by
 exact Rg.ok _ 1 [] trivial
theorem cdGt3 : IsSq (BGet false) [1, 1, 4, 4, 4, 1, 0] 3 := by exact isq (by kernel_rfl)
theorem ccGt20 : isCond (csnd (cfst (csnd (cbody (cbody (cbody (csnd (csnd (bodyC (BGet false)))))))))) = true ∧ ccond (csnd (cfst (csnd (cbody (cbody (cbody (csnd (csnd (bodyC (BGet false)))))))))) = .tmp 20 := by exact ⟨kr (by kernel_rfl), kr (by kernel_rfl)⟩
noncomputable def gGt4 (b gv cv n2 c2 i : Nat) (ks y : Value) (a2 : Option Addr) (ys : List Value) := rg Tryz.prog (BGet false) 4 38 [(21, 7), (4, 2)] [(6, pV b 0), (7, nV i)] (Vq 0 21 [Kp b 0, Kp b 0, Kp b 1, Ks gv ys.length cv, Kn i, Kp gv i, Kv y] ++ Vq 7 4 [Kv y, Kv (.bool true)]) [Bk b (tN false) [ks, sV gv ys.length cv, .slice a2 n2 c2], .sl (tV false) (sV gv ys.length cv) ys []]
theorem obGt4 (b gv cv n2 c2 i : Nat) (ks y : Value) (a2 : Option Addr) (ys : List Value) (hin : i < ys.length) (hyi : ys[i]? = some y) (w0 : World) (fp0 : List Nat) (R : List Asn) : (gGt4 b gv cv n2 c2 i ks y a2 ys w0 fp0 R).Ok 9 := by
 exact Rg.ok _ 9 [3, 5, 6] ⟨.load _ 3 0 1, .index _ 5 gv ys.length cv i hin, .elem _ 6 1 i hyi, trivial⟩
theorem cdGt4 : IsSq (BGet false) [1, 1, 4, 4, 4, 1, 0, 1, 2] 4 := by exact isq (by kernel_rfl)
theorem isRetGt1 : isRet (csnd (cthen (csnd (cfst (csnd (cbody (cbody (cbody (csnd (csnd (bodyC (BGet false)))))))))))) = true := by exact kr (by kernel_rfl)
theorem isSkipGt2 : isSkip (celse (csnd (cfst (csnd (cbody (cbody (cbody (csnd (csnd (bodyC (BGet false))))))))))) = true := by exact kr (by kernel_rfl)
theorem sqGt3 : Sq (BGet false) [1, 1, 4, 4, 4, 1, 1] := by exact isQ (by kernel_rfl)
noncomputable def gGt5 (b n2 c2 : Nat) (ks vs : Value) (a2 : Option Addr) := rg Tryz.prog (BGet false) 5 38 [(28, 2)] [(6, pV b 0)] (Vq 0 28 [Kp b 0, Kv (.bool (n2 == 0))]) [Bk b (tN false) [ks, vs, .slice a2 n2 c2]]
theorem obGt5 (b n2 c2 : Nat) (ks vs : Value) (a2 : Option Addr)  (w0 : World) (fp0 : List Nat) (R : List Asn) : (gGt5 b n2 c2 ks vs a2 w0 fp0 R).Ok 2 := by
 exact Rg.ok _ 2 [1] ⟨.ask1 _ 1 0 (fun w fp h => (leaf_calls b _ _ a2 n2 c2 w h).mono fun e w' ⟨h1, h2⟩ => ⟨h1, h2 ▸ Below.refl _ _⟩), trivial⟩
theorem cdGt5 : IsSq (BGet false) [1, 1, 4, 4, 4, 1, 1, 0] 5 := by exact isq (by kernel_rfl)
theorem ccGt29 : isCond (csnd (cfst (csnd (csnd (cbody (cbody (cbody (csnd (csnd (bodyC (BGet false))))))))))) = true ∧ ccond (csnd (cfst (csnd (csnd (cbody (cbody (cbody (csnd (csnd (bodyC (BGet false))))))))))) = .tmp 29 := by exact ⟨kr (by kernel_rfl), kr (by kernel_rfl)⟩
noncomputable def gGt6  := rg Tryz.prog (BGet false) 6 38 [(9, 1)] [] (Vq 0 9 [Kv (encV (va0 false))]) []
theorem obGt6   (w0 : World) (fp0 : List Nat) (R : List Asn) : (gGt6  w0 fp0 R).Ok 1 := by
 exact Rg.ok _ 1 [] trivial
theorem cdGt6 : IsSq (BGet false) [1, 1, 4, 4, 4, 1, 1, 0, 1, 2] 6 := by exact isq (by kernel_rfl)
noncomputable def gGt7  := rg Tryz.prog (BGet false) 7 38 [(30, 1), (4, 2)] [(9, encV (va0 false))] (Vq 0 30 [Kv (encV (va0 false))] ++ Vq 1 4 [Kv (encV (va0 false)), Kv (.bool false)]) []
theorem obGt7   (w0 : World) (fp0 : List Nat) (R : List Asn) : (gGt7  w0 fp0 R).Ok 3 := by
 exact Rg.ok _ 3 [] trivial
theorem cdGt7 : IsSq (BGet false) [1, 1, 4, 4, 4, 1, 1, 0, 1, 2, 1] 7 := by exact isq (by kernel_rfl)
theorem isRetGt4 : isRet (csnd (csnd (cthen (csnd (cfst (csnd (csnd (cbody (cbody (cbody (csnd (csnd (bodyC (BGet false)))))))))))))) = true := by exact kr (by kernel_rfl)
theorem isSkipGt5 : isSkip (celse (csnd (cfst (csnd (csnd (cbody (cbody (cbody (csnd (csnd (bodyC (BGet false)))))))))))) = true := by exact kr (by kernel_rfl)
noncomputable def gGt8 (b gp n2 c2 cb i : Nat) (ks vs : Value) (zs : List Value) := rgq Tryz.prog (BGet false) 8 38 [(31, 7), (6, 1)] [(7, nV i)] [(6, pV b 0, 7)] (Vq 0 31 [Kp b 0, Kp b 0, Kp b 2, Ks gp n2 c2, Kn i, Kp gp i, Kp cb 0] ++ Vq 7 6 [Kp cb 0]) [Bk b (tN false) [ks, vs, sV gp n2 c2], .sl (tP false) (sV gp n2 c2) zs []]
theorem obGt8 (b gp n2 c2 cb i : Nat) (ks vs : Value) (zs : List Value) (hi : i < n2) (hzi : zs[i]? = some (ptrV cb)) (w0 : World) (fp0 : List Nat) (R : List Asn) : (gGt8 b gp n2 c2 cb i ks vs zs w0 fp0 R).Ok 8 := by
 exact Rg.ok _ 8 [3, 5, 6] ⟨.load _ 3 0 2, .index _ 5 gp n2 c2 i hi, .elem _ 6 1 i hzi, trivial⟩
theorem cdGt8 : IsRg (BGet false) [1, 1, 4, 4, 4, 1, 1, 1] 8 := by exact irg (by kernel_rfl)
theorem get_round (b i n2 c2 cb : Nat) (ks vs kk y : Value) (q : Bool) (a2 : Option Addr) (xs ys zs : List Value) (hlz : zs.length < 1099511627776) (hn2 : n2 = zs.length)
 (hfind : ∀ w fp fp', (blkA b (tN false) #[ks, vs, .slice a2 n2 c2]).p w fp → (slA (tK false) ks xs).p w fp' → Calls Tryz.prog (fFind false) #[ptrV b, kk] w fun e w' => e = .returned (.tuple #[.int .i64 i, .bool q]) ∧ Below w.heap.size w w')
 (hy : q = true → ys[i]? = some y) (hz : n2 ≠ 0 → zs[i]? = some (ptrV cb)) (w0 w : World) (fp0 : List Nat) (R : List Asn) (A0 : Act) (Q : Exit → Act → World → Prop)
 (hF : q = true → ∀ A w', Knows 38 A [(4, y), (5, .bool true)] → St w0 fp0 ([blkA b (tN false) #[ks, vs, .slice a2 n2 c2], slA (tK false) (ks) xs, slA (tV false) (vs) ys, slA (tP false) (.slice a2 n2 c2) zs] ++ R) w' → Q .ret A w')
 (hL : q = false → n2 = 0 → ∀ A w', Knows 38 A [(4, encV (va0 false)), (5, .bool false)] → St w0 fp0 ([blkA b (tN false) #[ks, vs, .slice a2 n2 c2], slA (tK false) (ks) xs, slA (tV false) (vs) ys, slA (tP false) (.slice a2 n2 c2) zs] ++ R) w' → Q .ret A w')
 (hI : q = false → n2 ≠ 0 → ∀ A w', Knows 38 A [(1, kk), (6, .pointer (some ⟨cb, 0, none⟩))] → St w0 fp0 ([blkA b (tN false) #[ks, vs, .slice a2 n2 c2], slA (tK false) (ks) xs, slA (tV false) (vs) ys, slA (tP false) (.slice a2 n2 c2) zs] ++ R) w' → Q .normal A w')
 (K0 : Knows 38 A0 [(1, kk), (6, .pointer (some ⟨b, 0, none⟩))]) (hS : St w0 fp0 ([blkA b (tN false) #[ks, vs, .slice a2 n2 c2], slA (tK false) (ks) xs, slA (tV false) (vs) ys, slA (tP false) (.slice a2 n2 c2) zs] ++ R) w) : (cbody (cbody (cbody (csnd (csnd (bodyC (BGet false))))))).wp Tryz.prog Q A0 w := by
 refine wp_seqT (cdGt2).sq ?_
 refine wp_regT (obGt2 b i n2 c2 ks vs kk q a2 xs hfind _ _ _) (by kernel_rfl) (cdGt2).cd (K0.sub (by kernel_rfl)) (St_re hS [0, 1] [2, 3] (by kernel_rfl)) fun A1 w1 N1 H1 => ?_
 have S1 : St w0 fp0 ([blkA b (tN false) #[ks, vs, .slice a2 n2 c2], slA (tK false) (ks) xs, slA (tV false) (vs) ys, slA (tP false) (.slice a2 n2 c2) zs] ++ R) w1 := H1
 have K1 : Knows 38 A1 [(1, kk), (6, pV b 0), (7, nV i), (8, .bool q)] := N1.knows K0 (by kernel_rfl)
 refine wp_seqJ (sqGt0) (fun A w => ∃ (hqf : q = false), Knows 38 A [(1, kk), (6, pV b 0), (7, nV i)] ∧ St w0 fp0 ([blkA b (tN false) #[ks, vs, .slice a2 n2 c2], slA (tK false) (ks) xs, slA (tV false) (vs) ys, slA (tP false) (.slice a2 n2 c2) zs] ++ R) w) ?_ ?_
 · skip
   refine wp_seqT (cdGt3).sq ?_
   refine wp_regT (obGt3 q  _ _ _) (by kernel_rfl) (cdGt3).cd (K1.sub (by kernel_rfl)) (St_re S1 [] [0, 1, 2, 3] (by kernel_rfl)) fun A2 w2 N2 H2 => ?_
   have S2 : St w0 fp0 ([blkA b (tN false) #[ks, vs, .slice a2 n2 c2], slA (tK false) (ks) xs, slA (tV false) (vs) ys, slA (tP false) (.slice a2 n2 c2) zs] ++ R) w2 := H2
   have K2 : Knows 38 A2 [(1, kk), (6, pV b 0), (7, nV i), (8, .bool q), (20, .bool q)] := N2.knows K1 (by kernel_rfl)
   refine wp_condK (ccGt20) K2 (by rfl) (fun hq => ?_) (fun hq => ?_)
   · skip
     subst hq
     have hyi := hy rfl
     have hin : i < ys.length := (List.getElem?_eq_some_iff.1 hyi).1
     obtain ⟨_, q3⟩ := St.has S2 2 rfl
     obtain ⟨gv, cv, rfl, hvc, -⟩ := sl_some q3 (by omega)
     refine wp_seqT (cdGt4).sq ?_
     refine wp_regT (obGt4 b gv cv n2 c2 i ks y a2 ys hin hyi _ _ _) (by kernel_rfl) (cdGt4).cd (K2.sub (by kernel_rfl)) (St_re S2 [0, 2] [1, 3] (by kernel_rfl)) fun A3 w3 N3 H3 => ?_
     have S3 : St w0 fp0 ([blkA b (tN false) #[ks, sV gv ys.length cv, .slice a2 n2 c2], slA (tV false) (sV gv ys.length cv) ys, slA (tK false) (ks) xs, slA (tP false) (.slice a2 n2 c2) zs] ++ R) w3 := H3
     have K3 : Knows 38 A3 [(1, kk), (6, pV b 0), (7, nV i), (8, .bool true), (20, .bool true), (4, y), (5, .bool true)] := N3.knows K2 (by kernel_rfl)
     refine wp_retT (isRetGt1) ?_
     exact hF rfl _ _ (K3.sub (by kernel_rfl)) (St_re S3 [0, 2, 1, 3] [] (by kernel_rfl))
   · skip
     refine wp_skipT (isSkipGt2) ?_
     exact ⟨hq, K2.sub (by kernel_rfl), (St_re S2 [0, 1, 2, 3] [] (by kernel_rfl))⟩
 · rintro A4 w4 ⟨hqf, K4, S4⟩
   refine wp_seqJ (sqGt3) (fun A w => ∃ (hn0 : n2 ≠ 0), Knows 38 A [(1, kk), (6, pV b 0), (7, nV i)] ∧ St w0 fp0 ([blkA b (tN false) #[ks, vs, .slice a2 n2 c2], slA (tK false) (ks) xs, slA (tV false) (vs) ys, slA (tP false) (.slice a2 n2 c2) zs] ++ R) w) ?_ ?_
   · skip
     refine wp_seqT (cdGt5).sq ?_
     refine wp_regT (obGt5 b n2 c2 ks vs a2  _ _ _) (by kernel_rfl) (cdGt5).cd (K4.sub (by kernel_rfl)) (St_re S4 [0] [1, 2, 3] (by kernel_rfl)) fun A5 w5 N5 H5 => ?_
     have S5 : St w0 fp0 ([blkA b (tN false) #[ks, vs, .slice a2 n2 c2], slA (tK false) (ks) xs, slA (tV false) (vs) ys, slA (tP false) (.slice a2 n2 c2) zs] ++ R) w5 := H5
     have K5 : Knows 38 A5 [(1, kk), (6, pV b 0), (7, nV i), (29, .bool (n2 == 0))] := N5.knows K4 (by kernel_rfl)
     refine wp_condK (ccGt29) K5 (by rfl) (fun hq => ?_) (fun hq => ?_)
     · skip
       have hn0 : n2 = 0 := by simpa using hq
       refine wp_seqT (cdGt6).sq ?_
       refine wp_regT (obGt6   _ _ _) (by kernel_rfl) (cdGt6).cd (K5.sub (by kernel_rfl)) (St_re S5 [] [0, 1, 2, 3] (by kernel_rfl)) fun A6 w6 N6 H6 => ?_
       have S6 : St w0 fp0 ([blkA b (tN false) #[ks, vs, .slice a2 n2 c2], slA (tK false) (ks) xs, slA (tV false) (vs) ys, slA (tP false) (.slice a2 n2 c2) zs] ++ R) w6 := H6
       have K6 : Knows 38 A6 [(1, kk), (6, pV b 0), (7, nV i), (29, .bool (n2 == 0)), (9, encV (va0 false))] := N6.knows K5 (by kernel_rfl)
       refine wp_seqT (cdGt7).sq ?_
       refine wp_regT (obGt7   _ _ _) (by kernel_rfl) (cdGt7).cd (K6.sub (by kernel_rfl)) (St_re S6 [] [0, 1, 2, 3] (by kernel_rfl)) fun A7 w7 N7 H7 => ?_
       have S7 : St w0 fp0 ([blkA b (tN false) #[ks, vs, .slice a2 n2 c2], slA (tK false) (ks) xs, slA (tV false) (vs) ys, slA (tP false) (.slice a2 n2 c2) zs] ++ R) w7 := H7
       have K7 : Knows 38 A7 [(1, kk), (6, pV b 0), (7, nV i), (29, .bool (n2 == 0)), (9, encV (va0 false)), (4, encV (va0 false)), (5, .bool false)] := N7.knows K6 (by kernel_rfl)
       refine wp_retT (isRetGt4) ?_
       exact hL hqf hn0 _ _ (K7.sub (by kernel_rfl)) (St_re S7 [0, 1, 2, 3] [] (by kernel_rfl))
     · skip
       refine wp_skipT (isSkipGt5) ?_
       exact ⟨by simpa using hq, K5.sub (by kernel_rfl), (St_re S5 [0, 1, 2, 3] [] (by kernel_rfl))⟩
   · rintro A8 w8 ⟨hn0, K8, S8⟩
     have hzi := hz hn0
     have hzl : i < zs.length := (List.getElem?_eq_some_iff.1 hzi).1
     obtain ⟨_, q5⟩ := St.has S8 3 rfl
     obtain ⟨gp, cp, ep, hpc, -⟩ := sl_some q5 (by omega)
     obtain ⟨rfl, -, rfl⟩ := Value.slice.inj ep
     refine wp_regT (obGt8 b gp n2 c2 cb i ks vs zs (by omega) hzi _ _ _) (by kernel_rfl) (cdGt8).cd (K8.sub (by kernel_rfl)) (St_re S8 [0, 3] [1, 2] (by kernel_rfl)) fun A9 w9 N9 H9 => ?_
     have S9 : St w0 fp0 ([blkA b (tN false) #[ks, vs, sV gp n2 c2], slA (tP false) (sV gp n2 c2) zs, slA (tK false) (ks) xs, slA (tV false) (vs) ys] ++ R) w9 := H9
     have K9 : Knows 38 A9 [(1, kk), (7, nV i), (6, pV cb 0)] := N9.knows K8 (by kernel_rfl)
     exact hI hqf hn0 _ _ (K9.sub (by kernel_rfl)) (St_re S9 [0, 2, 3, 1] [] (by kernel_rfl))
theorem entGu : Tryz.prog.funcs[fGet false]? = some (BGet false) ∧ (BGet false).body = some (bodyC (BGet false)) ∧ (BGet false).ntmps = 38 := by exact ⟨kr (by kernel_rfl), kr (by kernel_rfl), kr (by kernel_rfl)⟩
noncomputable def gGu0  := rg Tryz.prog (BGet false) 0 38 [(4, 2)] [] (Vq 0 4 [Kv (encV (va0 false)), Kv (.bool false)]) []
theorem obGu0   (w0 : World) (fp0 : List Nat) (R : List Asn) : (gGu0  w0 fp0 R).Ok 2 := by
 exact Rg.ok _ 2 [] trivial
theorem cdGu0 : IsSq (BGet false) [] 0 := by exact isq (by kernel_rfl)
noncomputable def gGu1 (tb rb : Nat) (oo nn : Value) := rg Tryz.prog (BGet false) 1 38 [(10, 4), (6, 1)] [(0, pV tb 0)] (Vq 0 10 [Kp tb 0, Kp tb 0, Kp tb 0, Kp rb 0] ++ Vq 4 6 [Kp rb 0]) [Bk tb (tT false) [pV rb 0, oo, nn]]
theorem obGu1 (tb rb : Nat) (oo nn : Value)  (w0 : World) (fp0 : List Nat) (R : List Asn) : (gGu1 tb rb oo nn w0 fp0 R).Ok 5 := by
 exact Rg.ok _ 5 [3] ⟨.load _ 3 0 0, trivial⟩
theorem cdGu1 : IsSq (BGet false) [1] 1 := by exact isq (by kernel_rfl)
theorem resGu : (BGet false).results = #[.tmp 4, .tmp 5] := by exact kr (by kernel_rfl)
theorem get_flat (tb rb : Nat) (kk oo nn : Value) (T0 : Asn) (w0 w : World) (fp0 : List Nat) (R : List Asn) (Rr : Ending → World → Prop)
 (HL : ∀ (Q : Exit → Act → World → Prop) (A : Act) (w : World), Knows 38 A [(1, kk), (6, .pointer (some ⟨rb, 0, none⟩))] → St w0 fp0 ([blkA tb (tT false) #[.pointer (some ⟨rb, 0, none⟩), oo, nn]] ++ (T0 :: R)) w →
  (∀ (A : Act) (w : World) (v1 v2 : Value), Knows 38 A [(4, v1), (5, v2)] → St w0 fp0 ([blkA tb (tT false) #[.pointer (some ⟨rb, 0, none⟩), oo, nn]] ++ (T0 :: R)) w → (∀ w', St w0 fp0 ([blkA tb (tT false) #[.pointer (some ⟨rb, 0, none⟩), oo, nn]] ++ (T0 :: R)) w' → Rr (.returned (.tuple #[v1, v2])) w') → Q .ret A w) → (csnd (csnd (bodyC (BGet false)))).wp Tryz.prog Q A w)
 (hS : St w0 fp0 ([blkA tb (tT false) #[.pointer (some ⟨rb, 0, none⟩), oo, nn]] ++ (T0 :: R)) w) : Calls Tryz.prog (fGet false) #[ptrV tb, kk] w Rr := by
 refine calls_T [(0, pV tb 0), (1, kk)] (entGu) (by simp) (by kernel_rfl) fun A0 K0 => ?_
 refine wp_seqT (cdGu0).sq ?_
 refine wp_regT (obGu0   _ _ _) (by kernel_rfl) (cdGu0).cd (K0.sub (by kernel_rfl)) (St_re hS [] [0] (by kernel_rfl)) fun A1 w1 N1 H1 => ?_
 have S1 : St w0 fp0 ([blkA tb (tT false) #[pV rb 0, oo, nn]] ++ (T0 :: R)) w1 := H1
 have K1 : Knows 38 A1 [(0, pV tb 0), (1, kk), (4, encV (va0 false)), (5, .bool false)] := N1.knows K0 (by kernel_rfl)
 refine wp_seqT (cdGu1).sq ?_
 refine wp_regT (obGu1 tb rb oo nn  _ _ _) (by kernel_rfl) (cdGu1).cd (K1.sub (by kernel_rfl)) (St_re S1 [0] [] (by kernel_rfl)) fun A2 w2 N2 H2 => ?_
 have S2 : St w0 fp0 ([blkA tb (tT false) #[pV rb 0, oo, nn]] ++ (T0 :: R)) w2 := H2
 have K2 : Knows 38 A2 [(0, pV tb 0), (1, kk), (4, encV (va0 false)), (5, .bool false), (6, pV rb 0)] := N2.knows K1 (by kernel_rfl)
 refine HL _ _ _ (K2.sub (by kernel_rfl)) S2 fun A w v1 v2 K S hr => post_T K (res2 (resGu) K (by rfl) (by rfl)) (hr _ S)
end Go.Proofs.YtnefkkidfhmggaaGreat
/- Get at trees. -/
namespace Go.Proofs.YtnefkkidfhmggaaGreat
open Go Go.RowKit
variable {β : Bool}
theorem St.kidout {w0 w : World} {fp0 : List Nat} {L : List Asn} {h i : Nat} {cs : List TT} {bs : List Nat} {c : TT} {cb : Nat} (hl : bs.length = cs.length) (hc : cs[i]? = some c) (hb : bs[i]? = some cb) :
 St w0 fp0 (starA (List.zipWith (treeA β h) cs bs) :: L) w ↔ St w0 fp0 (treeA β h c cb :: restA β h i (i + 1) cs bs :: L) w := by
 rw [zip3T h i (i + 1) (Nat.le_succ i) cs bs hl, mid1 hc, mid1 hb]
 have hp : ((List.zipWith (treeA β h) (cs.take i) (bs.take i) ++ (List.zipWith (treeA β h) [c] [cb] ++ List.zipWith (treeA β h) (cs.drop (i + 1)) (bs.drop (i + 1)))) ++ L).Perm ((List.zipWith (treeA β h) (cs.take i) (bs.take i) ++ List.zipWith (treeA β h) (cs.drop (i + 1)) (bs.drop (i + 1))) ++ (treeA β h c cb :: L)) := by
  classical
  refine List.perm_iff_count.2 fun a => ?_
  simp only [List.zipWith, List.cons_append, List.nil_append, List.count_append, List.count_cons]
  omega
 constructor
 · intro h0
   have h1 : St w0 fp0 (restA β h i (i + 1) cs bs :: treeA β h c cb :: L) w := St.star.2 ((St.star.1 h0).perm hp)
   exact h1.perm (List.Perm.swap _ _ _)
 · intro h0
   have h1 : St w0 fp0 (restA β h i (i + 1) cs bs :: treeA β h c cb :: L) w := h0.perm (List.Perm.swap _ _ _)
   exact St.star.2 ((St.star.1 h1).perm hp.symm)
theorem lpGt : isBlk (csnd (csnd (bodyC (BGet false)))) = true ∧ isLoop (cbody (csnd (csnd (bodyC (BGet false))))) = true ∧ isBlk (cbody (cbody (csnd (csnd (bodyC (BGet false)))))) = true := by exact ⟨kr (by kernel_rfl), kr (by kernel_rfl), kr (by kernel_rfl)⟩
theorem get_loop {o : Nat} (ho' : o ≤ 1024) (k : Ky) (hkk : k.ok false) : ∀ (h lo : Nat) (x : TT) (nb : Nat) (w0 w : World) (fp0 : List Nat) (R : List Asn) (A : Act) (Q : Exit → Act → World → Prop), Body o h lo (o - 1) x → AscM (toL h x) → OkL false (toL h x) → Knows 38 A [(1, encK k), (6, .pointer (some ⟨nb, 0, none⟩))] → St w0 fp0 (treeA false h x nb :: R) w →
 (∀ (A : Act) (w : World), Knows 38 A [(4, encV ((getT h x k).getD (va0 false))), (5, .bool (getT h x k).isSome)] → St w0 fp0 (treeA false h x nb :: R) w → Q .ret A w) →
 Code.rounds Tryz.prog (cbody (cbody (csnd (csnd (bodyC (BGet false)))))) Q (h + 1) A w
 | h, lo, x, nb, w0, w, fp0, R, A, Q, hb, ha, hok, K, hS, hQ => by
  rw [rounds_succ]
  refine wp_blkT lpGt.2.2 ?_
  have hlen : x.es.length < 1099511627776 := by have := hb.hi; omega
  have hae : AscM x.es := asc_es ha
  have hpk := posK_le x.es k
  obtain ⟨y, hy⟩ : ∃ y : Ky × Va, hasK x.es k = true → x.es[posK x.es k]? = some y := by
   cases hh : hasK x.es k with
   | true => obtain ⟨y, hy⟩ := pos_get hh; exact ⟨y, fun _ => hy⟩
   | false => exact ⟨(k, .int 0), fun h => nomatch h⟩
  have hyv : hasK x.es k = true → (valsV x.es)[posK x.es k]? = some (encV y.2) := fun hq => by simp [valsV, hy hq]
  have hg : hasK x.es k = true → getT h x k = some y.2 := fun hq => by cases h <;> simp [getT, hq, hy hq]
  obtain ⟨ks, vs, ps, bs, hl, h1⟩ := hS.openNT
  obtain ⟨_, q3⟩ := h1.has 3 rfl
  obtain ⟨pa, pc, rfl, _⟩ := sl_get q3
  have hbsl : bs.length ≤ 1025 := by
   rcases hb.kids with ⟨_, e⟩ | ⟨_, _, e, _⟩
   · rw [hl, e]; simp
   · have := hb.hi; omega
  rw [List.length_map] at h1
  obtain ⟨cb, hcb⟩ : ∃ cb, bs.length ≠ 0 → bs[posK x.es k]? = some cb := by
   by_cases h0 : bs.length = 0
   · exact ⟨0, fun hh => absurd h0 hh⟩
   · have : posK x.es k < bs.length := by
      rcases hb.kids with ⟨_, e⟩ | ⟨_, _, e, _⟩
      · rw [hl, e] at h0; exact absurd rfl h0
      · omega
     exact ⟨_, fun _ => List.getElem?_eq_getElem this⟩
  have back : ∀ w', St w0 fp0 ([blkA nb (tN false) #[ks, vs, .slice pa bs.length pc], slA (tK false) ks (keysV x.es), slA (tV false) vs (valsV x.es), slA (tP false) (.slice pa bs.length pc) (bs.map ptrV)] ++ (starA (List.zipWith (kidA false h) x.cs bs) :: R)) w' → St w0 fp0 (treeA false h x nb :: R) w' := by
   intro w' h2
   have h4 := St.shutNT (es := x.es) (cs := x.cs) (bs := bs) (ks := ks) (vs := vs) (ps := .slice pa bs.length pc) hl h2
   rw [T.eta] at h4
   exact h4
  refine get_round nb (posK x.es k) bs.length pc cb ks vs (encK k) (encV y.2) (hasK x.es k) pa (keysV x.es) (valsV x.es) (bs.map ptrV) (by rw [List.length_map]; omega) (by rw [List.length_map]) (fun w fp fp' hbk hkk' => find_calls nb ks vs _ x.es k hok.es hkk w hbk ⟨_, hkk'⟩ hae hlen) hyv (fun h0 => by rw [List.getElem?_map, hcb h0]; rfl) w0 w fp0 _ A _ (fun hq A w' K' h2 => ?_) (fun hq h0 A w' K' h2 => ?_) (fun hq h0 A w' K' h2 => ?_) K h1
  · refine hQ A w' ?_ (back w' h2)
    rw [hg hq]
    exact K'
  · refine hQ A w' ?_ (back w' h2)
    have hg0 : getT h x k = none := by
     rcases hb.kids with ⟨rfl, _⟩ | ⟨h', rfl, e, _⟩
     · simp [getT, hq]
     · omega
    rw [hg0]
    exact K'
  · rcases hb.kids with ⟨_, e⟩ | ⟨h', rfl, e, hk⟩
    · rw [hl, e] at h0; exact absurd rfl h0
    · obtain ⟨c, hc⟩ : ∃ c, x.cs[posK x.es k]? = some c := ⟨_, List.getElem?_eq_getElem (by omega)⟩
      have hgc : getT (h' + 1) x k = getT h' c k := by simp [getT, hq, hc]
      have h3 := (St.kidout hl hc (hcb h0)).1 (St_re (L := [_, _, _, _, _]) h2 [4, 0, 1, 2, 3] [] (by kernel_rfl))
      refine get_loop ho' k hkk h' (least o) c cb w0 w' fp0 _ A Q (hk c (List.mem_of_getElem? hc)) (asc_kid1 e hc ha) (hok.kid e hc) K' h3 fun A w'' K'' h4 => ?_
      refine hQ A w'' (by rw [hgc]; exact K'') (back w'' ?_)
      exact St_re (L := [_, _, _, _, _]) ((St.kidout hl hc (hcb h0)).2 h4) [1, 2, 3, 4, 0] [] (by kernel_rfl)
/-- **Get**. -/
theorem Get_calls {o : Nat} (ho' : o ≤ 1024) (h : Nat) (l : MM) (tb : Nat) (k : Ky) (hkk : k.ok false) (hok : OkL false l) (w0 w : World) (fp0 : List Nat) (R : List Asn)
 (hS : St w0 fp0 (objA false o h l tb :: R) w) :
 Calls Tryz.prog (fGet false) #[ptrV tb, encK k] w fun e w' => e = .returned (.tuple #[encV ((getM l k).getD (va0 false)), .bool (getM l k).isSome]) ∧ St w0 fp0 (objA false o h l tb :: R) w' := by
 obtain ⟨x, rb, hg, hS1⟩ := hS.openOT
 obtain ⟨g1, g2, g3⟩ := hg
 have hget := getT_spec k h _ _ x g1 g2
 rw [g3] at hget
 obtain ⟨p1, p2, p3⟩ := lpGt
 refine get_flat tb rb (encK k) (.int .i64 o) (.int .i64 l.length) (treeA false h x rb) w0 w fp0 R _ (fun Q A w K S hQ => ?_) (St_re (L := [_, _]) hS1 [1, 0] [] (by kernel_rfl))
 refine wp_blkT p1 (wp_loopT (h + 1) p2 (get_loop ho' k hkk h _ x rb w0 w fp0 _ A _ g1 g2 (by rw [g3]; exact hok) K (St_re (L := [_, _]) S [1, 0] [] (by kernel_rfl)) fun A w' K' h2 => ?_))
 refine hQ A w' _ _ K' (St_re (L := [_, _]) h2 [1, 0] [] (by kernel_rfl)) fun w' h3 => ?_
 rw [hget]
 exact ⟨rfl, St.shutOT ⟨g1, g2, g3⟩ (St_re (L := [_, _]) h3 [1, 0] [] (by kernel_rfl))⟩
end Go.Proofs.YtnefkkidfhmggaaGreat
/- Obligations: elements of several cells, in a box and appended. -/
namespace Go.Proofs.YtnefkkidfhmggaaGreat
open Go Go.RowKit
/-- append of an element of several cells. -/
def RowSpec (P : Program) (ts e : TypeId) (size : Nat) : Prop := ∀ (ty : TypeId) (w : World) (v : Value) (n : Nat) (xs : List Value) (f : List Nat) (vb : Nat) (news : List Value), (rowA e size v n xs).p w f → w.heap[vb]? = some (.cells news.toArray e (0, 0)) → news.length = size → (∀ u ∈ news, u.oneCell' = true) → n + 1 < 1099511627776 →
 ∃ v' w' f', (Builtin.append_ #[ts, ts] ty #[v, .slice (some ⟨vb, 0, none⟩) 1 1]).run P w = .ok v' w' ∧ (rowA e size v' (n + 1) (xs ++ news)).p w' f' ∧ Tr w w' f f'
theorem rowSpec {P : Program} {ts e : TypeId} {size bytes : Nat} {z : Value} (hi : (P.info? e).map (fun i => (i.zero, i.size, i.bytes)) = some (some z, size, bytes)) (ht : P.underlying ts = some (.slice e)) (hz : z.cells.size = size) (h0 : 0 < size) (hb : bytes ≤ 128) : RowSpec P ts e size := by
 intro ty w v n xs f vb news h1 h2 h3 h4 h5
 obtain ⟨i0, ii, iz0, iz1, iz2⟩ := info_parts hi
 exact row_append w ts ty e i0 z size bytes ht ii iz0 iz1 iz2 hz h0 h1 vb news e h2 h3 h4 (by unfold maxLen; omega) (by
  have : (n + 1) * bytes ≤ 1099511627776 * 128 := Nat.mul_le_mul (by omega) hb
  omega)
theorem Rg.Ob.boxs (G : Rg) (i k : Nat) {d : Nat} {t : TypeId} {cs : Array Value} (hk : G.pcs[k]? = some (.new i [d] fun g => boxsA t (g d) cs) := by rfl)
 (hr : ∀ a w, (execOp (G.env i a) (opAt G.ops i)).run G.P w = .ok (.value (.slice (some ⟨w.heap.size, 0, none⟩) 1 1)) (w.alloc (.cells cs t)) := by intro _ _; exact kr (by kernel_rfl))
 (hd : dstOf G.ops i = some d := by exact kr (by kernel_rfl)) (hself : ((closOf G.ops).getD i []).elem i = false := by exact kr (by kernel_rfl)) (hsh : ∀ g n, G.shp i g (.slice (some ⟨n, 0, none⟩) 1 1) = .slice (some ⟨n, 0, none⟩) 1 1 := by intro _ _; exact kr (by kernel_rfl))
 (hq : G.quiet i k = true := by exact kr (by kernel_rfl)) (hw : ∀ a, wantE G.ops (opAt G.ops i) (G.env i a) = some true := by intro _; exact kr (by kernel_rfl)) : G.Ob i := Rg.Ob.eff G i k hk (fun L a w fp _ _ hp => by
 rw [new_before hself] at hp
 obtain rfl : fp = [] := hp
 rw [hr a w]
 refine ⟨G.shp_of (hsh _ _), ?_⟩
 rw [new_after, hd]
 obtain ⟨h1, h2⟩ := boxs_new w t cs
 refine ⟨_, ?_, h2⟩
 have e : rv [d] (sput (slots a) (some d) (.slice (some ⟨w.heap.size, 0, none⟩) 1 1)) d = .slice (some ⟨w.heap.size, 0, none⟩) 1 1 := by unfold rv sput; simp
 rw [e]
 exact h1) hq hw
/-- append of an element of several cells, which lies in a box, to a row. -/
theorem Rg.Ob.appE (G : Rg) (i kx k : Nat) {ts e : TypeId} {size n ib d dx : Nat} {v : Value} {xs news : List Value} (hC : RowSpec G.P ts e size) (hl : n + 1 < 1099511627776) (hn : news.length = size) (h1 : ∀ u ∈ news, u.oneCell' = true)
 {s : Operand} (hkx : G.pcs[kx]? = some (.new ib [dx] fun g => boxsA e (g dx) news.toArray) := by rfl) (hk : G.pcs[k]? = some (.gen [i] [d] fun L g => match L i with | true => rowA e size (g d) (n + 1) (xs ++ news) | false => rowA e size v n xs) := by rfl)
 (hop : (opAt G.ops i).op = .call ⟨.builtin .append, #[s, .tmp dx], #[ts, ts]⟩ := by rfl) (hs : ∀ a, G.env i a s = v := by intro _; exact kr (by kernel_rfl)) (hd : dstOf G.ops i = some d := by exact kr (by kernel_rfl))
 (hsh : ∀ g a n c, G.shp i g (.slice a n c) = .slice a n c := by intro _ _ _ _; exact kr (by kernel_rfl)) (hself : ((closOf G.ops).getD i []).elem i = false := by exact kr (by kernel_rfl))
 (hin : ((closOf G.ops).getD i []).elem ib = true := by exact kr (by kernel_rfl)) (hq : G.quiet i k = true := by exact kr (by kernel_rfl)) (hw : ∀ a, wantE G.ops (opAt G.ops i) (G.env i a) = some true := by intro _; exact kr (by kernel_rfl)) : G.Ob i := Rg.Ob.eff G i k hk (fun L a w fp he hS hp => by
 obtain ⟨g, hg⟩ := Rg.has hkx hS
 rw [new_there hin] at hg
 have e1 : rv [dx] (slots a) dx = slots a dx := by unfold rv; simp
 rw [e1] at hg
 obtain ⟨vb, hgb, hvb, rfl⟩ := hg
 have hp' : (rowA e size v n xs).p w fp := by
  have e2 : (Pc.gen [i] [d] fun L g => match L i with | true => rowA e size (g d) (n + 1) (xs ++ news) | false => rowA e size v n xs).at (lk (closOf G.ops) i L) (slots a) = rowA e size v n xs := by
   show (match rb [i] (lk (closOf G.ops) i L) i with | true => _ | false => _) = _
   have e3 : rb [i] (lk (closOf G.ops) i L) i = false := by
    unfold rb lk
    rw [hself]
    simp
   rw [e3]
  rw [e2] at hp
  exact hp
 obtain ⟨v', w', f', hr, h3, h4⟩ := hC (opAt G.ops i).type w v n xs fp vb news hp' hvb hn h1 hl
 rw [he, run_append_op hop ((congrFun he s).symm.trans (hs a)) hgb hr]
 obtain ⟨aa, c, rfl, _⟩ := row_shape h3
 refine ⟨G.shp_of (hsh _ _ _ _), f', ?_, h4⟩
 have e2 : (Pc.gen [i] [d] fun L g => match L i with | true => rowA e size (g d) (n + 1) (xs ++ news) | false => rowA e size v n xs).at (ln (closOf G.ops) i L) (sput (slots a) (dstOf G.ops i) (.slice aa (n + 1) c)) = rowA e size (.slice aa (n + 1) c) (n + 1) (xs ++ news) := by
  show (match rb [i] (ln (closOf G.ops) i L) i with | true => _ | false => _) = _
  have e3 : rb [i] (ln (closOf G.ops) i L) i = true := by
   unfold rb ln
   simp
  rw [e3, hd]
  have e4 : rv [d] (sput (slots a) (some d) (.slice aa (n + 1) c)) d = .slice aa (n + 1) c := by unfold rv sput; simp
  show rowA e size (rv [d] _ d) _ _ = _
  rw [e4]
 rw [e2]
 exact h3) hq hw
theorem Rg.Ob.eqlT (G : Rg) (i p q : Nat) (h : p = q) {ty r : TypeId} {x y : Operand} (hop : (opAt G.ops i).op = .binOp .eql ty x y r := by rfl) (hx : ∀ a, G.env i a x = .int .i64 p := by intro _; exact kr (by kernel_rfl)) (hy : ∀ a, G.env i a y = .int .i64 q := by intro _; exact kr (by kernel_rfl)) (hv : ∀ g, G.valD i g = .bool true := by intro _; exact kr (by kernel_rfl))
 (hq : (G.quiet i G.pcs.length && G.okV i) = true := by exact kr (by kernel_rfl)) (hw : ∀ a, wantE G.ops (opAt G.ops i) (G.env i a) = some true := by intro _; exact kr (by kernel_rfl)) : G.Ob i := Rg.Ob.read G i hq hw fun L a w _ _ => by
 have e : ((p : Int) == (q : Int)) = true := by rw [h]; simp
 simp [execOp, hop, hx, hy, go_sem, hv, e]
theorem Rg.Ob.eqlF (G : Rg) (i p q : Nat) (h : p ≠ q) {ty r : TypeId} {x y : Operand} (hop : (opAt G.ops i).op = .binOp .eql ty x y r := by rfl) (hx : ∀ a, G.env i a x = .int .i64 p := by intro _; exact kr (by kernel_rfl)) (hy : ∀ a, G.env i a y = .int .i64 q := by intro _; exact kr (by kernel_rfl)) (hv : ∀ g, G.valD i g = .bool false := by intro _; exact kr (by kernel_rfl))
 (hq : (G.quiet i G.pcs.length && G.okV i) = true := by exact kr (by kernel_rfl)) (hw : ∀ a, wantE G.ops (opAt G.ops i) (G.env i a) = some true := by intro _; exact kr (by kernel_rfl)) : G.Ob i := Rg.Ob.read G i hq hw fun L a w _ _ => by
 have e : ((p : Int) == (q : Int)) = false := beq_false_of_ne (by omega)
 simp [execOp, hop, hx, hy, go_sem, hv, e]
theorem Rg.Ob.geqI (G : Rg) (i : Nat) (p q : Int) {ty r : TypeId} {x y : Operand} (hop : (opAt G.ops i).op = .binOp .geq ty x y r := by rfl) (hx : ∀ a, G.env i a x = .int .i64 p := by intro _; exact kr (by kernel_rfl)) (hy : ∀ a, G.env i a y = .int .i64 q := by intro _; exact kr (by kernel_rfl)) (hv : ∀ g, G.valD i g = .bool (decide (q ≤ p)) := by intro _; exact kr (by kernel_rfl))
 (hq : (G.quiet i G.pcs.length && G.okV i) = true := by exact kr (by kernel_rfl)) (hw : ∀ a, wantE G.ops (opAt G.ops i) (G.env i a) = some true := by intro _; exact kr (by kernel_rfl)) : G.Ob i := Rg.Ob.read G i hq hw fun L a w _ _ => by
 simp [execOp, hop, hx, hy, go_sem, hv]
/-- A call in frame form; its result is a slice that is not known. -/
theorem Rg.Ob.callV (G : Rg) (i : Nat) (PL : List Asn) (PN : Value → List Asn) {f : Nat} {args : Array Value} (hc : ∀ w, St G.w0 G.fp0 (PL ++ G.R) w → Calls G.P f args w fun e w' => ∃ v a n c, v = .slice a n c ∧ e = .returned v ∧ St G.w0 G.fp0 (PN v ++ G.R) w')
 (hr : ∀ a w, (execOp (G.env i a) (opAt G.ops i)).run G.P w = .ok (.enter f args) w := by intro _ _; exact kr (by kernel_rfl)) (hL : ∀ L g, (G.pcs.map fun p => p.at (lk (closOf G.ops) i L) g) = PL := by intro _ _; exact kr (by kernel_rfl)) (hN : ∀ L g v, (G.pcs.map fun p => p.at (ln (closOf G.ops) i L) (sput g (dstOf G.ops i) v)) = PN v := by intro _ _ _; exact kr (by kernel_rfl))
 (hv : ∀ g a n c, G.shp i g (.slice a n c) = .slice a n c := by intro _ _ _ _; exact kr (by kernel_rfl)) (hw : ∀ a, wantE G.ops (opAt G.ops i) (G.env i a) = some true := by intro _; exact kr (by kernel_rfl)) : G.Ob i := by
 intro o ho L a w hsz he hS
 have hd : o.dst = dstOf G.ops i := by rw [dstOf, ho]; rfl
 have hw' := hw a
 have h' := hr a w
 rw [opAt_eq ho] at hw' h'
 rw [hw', h', hd]
 unfold stP at hS
 rw [hL] at hS
 refine Calls.mono (hc w hS) fun e w' h => ?_
 obtain ⟨_, aa, n, c, rfl, rfl, h2⟩ := h
 refine ⟨_, rfl, G.shp_of (hv _ _ _ _), ?_⟩
 unfold stP
 rw [hN]
 exact h2
/-- A call in frame form; .. of a known length. -/
theorem Rg.Ob.callN (G : Rg) (i n : Nat) (PL : List Asn) (PN : Value → List Asn) {f : Nat} {args : Array Value} (hc : ∀ w, St G.w0 G.fp0 (PL ++ G.R) w → Calls G.P f args w fun e w' => ∃ v a c, v = .slice a n c ∧ e = .returned v ∧ St G.w0 G.fp0 (PN v ++ G.R) w')
 (hr : ∀ a w, (execOp (G.env i a) (opAt G.ops i)).run G.P w = .ok (.enter f args) w := by intro _ _; exact kr (by kernel_rfl)) (hL : ∀ L g, (G.pcs.map fun p => p.at (lk (closOf G.ops) i L) g) = PL := by intro _ _; exact kr (by kernel_rfl)) (hN : ∀ L g v, (G.pcs.map fun p => p.at (ln (closOf G.ops) i L) (sput g (dstOf G.ops i) v)) = PN v := by intro _ _ _; exact kr (by kernel_rfl))
 (hv : ∀ g a c, G.shp i g (.slice a n c) = .slice a n c := by intro _ _ _; exact kr (by kernel_rfl)) (hw : ∀ a, wantE G.ops (opAt G.ops i) (G.env i a) = some true := by intro _; exact kr (by kernel_rfl)) : G.Ob i := by
 intro o ho L a w hsz he hS
 have hd : o.dst = dstOf G.ops i := by rw [dstOf, ho]; rfl
 have hw' := hw a
 have h' := hr a w
 rw [opAt_eq ho] at hw' h'
 rw [hw', h', hd]
 unfold stP at hS
 rw [hL] at hS
 refine Calls.mono (hc w hS) fun e w' h => ?_
 obtain ⟨_, aa, c, rfl, rfl, h2⟩ := h
 refine ⟨_, rfl, G.shp_of (hv _ _ _), ?_⟩
 unfold stP
 rw [hN]
 exact h2
end Go.Proofs.YtnefkkidfhmggaaGreat
/- collect, over both trees. -/
namespace Go.Proofs.YtnefkkidfhmggaaGreat
open Go Go.RowKit
set_option maxRecDepth 100000
theorem rowE (β : Bool) : RowSpec Tryz.prog (tES β) (tE β) 2 := by
 cases β
 · exact rowSpec (z := .agg #[.int .i64 0, .slice none 0 0]) (bytes := 32) (by kernel_rfl) (by kernel_rfl) rfl (by omega) (by omega)
 · exact rowSpec (z := .agg #[.string ⟨#[]⟩, .int .i64 0]) (bytes := 24) (by kernel_rfl) (by kernel_rfl) rfl (by omega) (by omega)
theorem sqCo0 (β : Bool) : Sq (BCollect β) [1, 1, 1, 0, 4, 4] := by cases β <;> exact isQ (by kernel_rfl)
noncomputable def gCo4 (β : Bool) (b i nk ck n2 c2 : Nat) (vs : Value) (ak a2 : Option Addr) := rg Tryz.prog (BCollect β) 4 88 [(20, 7)] [(9, nV i), (0, pV b 0)] (Vq 0 20 [Kn i, Kp b 0, Kp b 0, Kp b 0, Kv (.slice ak nk ck), Kn nk, Kv (.bool (decide (i ≤ nk)))]) [Bk b (tN β) [.slice ak nk ck, vs, .slice a2 n2 c2]]
theorem obCo4 (β : Bool) (b i nk ck n2 c2 : Nat) (vs : Value) (ak a2 : Option Addr)  (w0 : World) (fp0 : List Nat) (R : List Asn) : (gCo4 β b i nk ck n2 c2 vs ak a2 w0 fp0 R).Ok 7 := by
 cases β <;> exact Rg.ok _ 7 [4, 6] ⟨.load _ 4 0 0, .leq _ 6 i nk, trivial⟩
theorem cdCo4 (β : Bool) : IsSq (BCollect β) [1, 1, 1, 0, 4, 4, 0] 4 := by cases β <;> exact isq (by kernel_rfl)
theorem ccCo26 (β : Bool) : isCond (csnd (cfst (cbody (cbody (cfst (csnd (csnd (csnd (bodyC (BCollect β)))))))))) = true ∧ ccond (csnd (cfst (cbody (cbody (cfst (csnd (csnd (csnd (bodyC (BCollect β)))))))))) = .tmp 26 := by cases β <;> exact ⟨kr (by kernel_rfl), kr (by kernel_rfl)⟩
theorem isSkipCo1 (β : Bool) : isSkip (cthen (csnd (cfst (cbody (cbody (cfst (csnd (csnd (csnd (bodyC (BCollect β))))))))))) = true := by cases β <;> exact kr (by kernel_rfl)
theorem sqCo2 (β : Bool) : Sq (BCollect β) [1, 1, 1, 0, 4, 4, 1] := by cases β <;> exact isQ (by kernel_rfl)
theorem isBlkCo3 (β : Bool) : isBlk (cfst (csnd (cbody (cbody (cfst (csnd (csnd (csnd (bodyC (BCollect β)))))))))) = true := by cases β <;> exact kr (by kernel_rfl)
theorem sqCo4 (β : Bool) : Sq (BCollect β) [1, 1, 1, 0, 4, 4, 1, 0, 4] := by cases β <;> exact isQ (by kernel_rfl)
noncomputable def gCo6 (β : Bool) (b nk ck n2 c2 : Nat) (vs : Value) (ak a2 : Option Addr) := rg Tryz.prog (BCollect β) 6 88 [(29, 3)] [(0, pV b 0)] (Vq 0 29 [Kp b 0, Kv (.bool (n2 == 0)), Kv (.bool (!(n2 == 0)))]) [Bk b (tN β) [.slice ak nk ck, vs, .slice a2 n2 c2]]
theorem obCo6 (β : Bool) (b nk ck n2 c2 : Nat) (vs : Value) (ak a2 : Option Addr)  (w0 : World) (fp0 : List Nat) (R : List Asn) : (gCo6 β b nk ck n2 c2 vs ak a2 w0 fp0 R).Ok 3 := by
 cases β <;> exact Rg.ok _ 3 [1] ⟨.ask1 _ 1 0 (fun w fp h => (leaf_calls b _ _ a2 n2 c2 w h).mono fun e w' ⟨h1, h2⟩ => ⟨h1, h2 ▸ Below.refl _ _⟩), trivial⟩
theorem cdCo6 (β : Bool) : IsSq (BCollect β) [1, 1, 1, 0, 4, 4, 1, 0, 4, 0] 6 := by cases β <;> exact isq (by kernel_rfl)
theorem ccCo31 (β : Bool) : isCond (csnd (cfst (cbody (cfst (csnd (cbody (cbody (cfst (csnd (csnd (csnd (bodyC (BCollect β))))))))))))) = true ∧ ccond (csnd (cfst (cbody (cfst (csnd (cbody (cbody (cfst (csnd (csnd (csnd (bodyC (BCollect β))))))))))))) = .tmp 31 := by cases β <;> exact ⟨kr (by kernel_rfl), kr (by kernel_rfl)⟩
noncomputable def gCo7 (β : Bool) (b gp i nk ck n2 c2 cb N0 N1 : Nat) (vs v0 pl ph : Value) (ak : Option Addr) (zs e0 e1 : List Value) (KD OL OH : Asn) := rgq Tryz.prog (BCollect β) 7 88 [(32, 11), (1, 1)] [(0, pV b 0), (9, nV i), (2, pl), (3, ph)] [(1, v0, 11)] (Vq 0 32 [Kp b 0, Kp b 0, Kp b 2, Ks gp n2 c2, Kn i, Kp gp i, Kp cb 0, Kv v0, Kv pl, Kv ph, Vf.slice] ++ Vq 11 1 [Fv [42] fun g => .slice (sa (g 42)) (sn (g 42)) (sc (g 42))]) [.gen [10] [42] fun L g => match L 10 with | true => rowA (tE β) 2 (g 42) N1 e1 | false => rowA (tE β) 2 v0 N0 e0, Bk b (tN β) [.slice ak nk ck, vs, sV gp n2 c2], .sl (tP β) (sV gp n2 c2) zs [], .all (KD), .all (OL), .all (OH)]
theorem obCo7 (β : Bool) (b gp i nk ck n2 c2 cb N0 N1 : Nat) (vs v0 pl ph : Value) (ak : Option Addr) (zs e0 e1 : List Value) (KD OL OH : Asn) (hi : i < n2) (hzi : zs[i]? = some (ptrV cb)) (hrec : ∀ (w0 : World) (fp0 : List Nat) (R : List Asn) (w : World), St w0 fp0 ([rowA (tE β) 2 v0 N0 e0, KD, OL, OH] ++ R) w → Calls Tryz.prog (fCollect β) #[ptrV cb, v0, pl, ph] w fun e w' => ∃ a n c, e = .returned (.slice a n c) ∧ St w0 fp0 ([rowA (tE β) 2 (.slice a n c) N1 e1, KD, OL, OH] ++ R) w') (w0 : World) (fp0 : List Nat) (R : List Asn) : (gCo7 β b gp i nk ck n2 c2 cb N0 N1 vs v0 pl ph ak zs e0 e1 KD OL OH w0 fp0 R).Ok 12 := by
 have h10 : ∀ w, St w0 fp0 ([rowA (tE β) 2 v0 N0 e0, blkA b (tN β) #[.slice ak nk ck, vs, .slice (some ⟨gp, 0, none⟩) n2 c2], slA (tP β) (.slice (some ⟨gp, 0, none⟩) n2 c2) zs, KD, OL, OH] ++ R) w → Calls Tryz.prog (fCollect β) #[ptrV cb, v0, pl, ph] w fun e w' => ∃ v a n c, v = .slice a n c ∧ e = .returned v ∧ St w0 fp0 ([rowA (tE β) 2 v N1 e1, blkA b (tN β) #[.slice ak nk ck, vs, .slice (some ⟨gp, 0, none⟩) n2 c2], slA (tP β) (.slice (some ⟨gp, 0, none⟩) n2 c2) zs, KD, OL, OH] ++ R) w' := fun w h => (hrec _ _ _ w (St_re (L := [_, _, _, _, _, _]) h [0, 3, 4, 5] [1, 2] (by kernel_rfl))).mono fun e w' ⟨a, n, c, h1, h2⟩ => ⟨.slice a n c, a, n, c, rfl, h1, St_re (L := [_, _, _, _, _, _]) h2 [0, 4, 5, 1, 2, 3] [] (by kernel_rfl)⟩
 cases β <;> exact Rg.ok _ 12 [3, 5, 6, 10] ⟨.load _ 3 1 2, .index _ 5 gp n2 c2 i hi, .elem _ 6 2 i hzi, .callV _ 10 _ _ h10, trivial⟩
theorem cdCo7 (β : Bool) : IsRg (BCollect β) [1, 1, 1, 0, 4, 4, 1, 0, 4, 0, 1, 2] 7 := by cases β <;> exact irg (by kernel_rfl)
theorem isSkipCo5 (β : Bool) : isSkip (celse (csnd (cfst (cbody (cfst (csnd (cbody (cbody (cfst (csnd (csnd (csnd (bodyC (BCollect β)))))))))))))) = true := by cases β <;> exact kr (by kernel_rfl)
theorem sqCo6 (β : Bool) : Sq (BCollect β) [1, 1, 1, 0, 4, 4, 1, 0, 4, 1] := by cases β <;> exact isQ (by kernel_rfl)
theorem sqCo7 (β : Bool) : Sq (BCollect β) [1, 1, 1, 0, 4, 4, 1, 0, 4, 1, 0] := by cases β <;> exact isQ (by kernel_rfl)
noncomputable def gCo8e (β : Bool) (b i nk ck n2 c2 : Nat) (vs ph : Value) (ak a2 : Option Addr) := rg Tryz.prog (BCollect β) 8 88 [(43, 25)] [(9, nV i), (0, pV b 0), (3, ph)] (Vq 0 43 [Kn i, Kp b 0, Kp b 0, Kp b 0, Kv (.slice ak nk ck), Kn nk, Kv (.bool true), Kv (.bool true), Kv undef, Kv undef, Kv undef, Kv undef, Kv undef, Kv undef, Kv undef, Kv undef, Kv undef, Kv undef, Kv undef, Kv undef, Kv undef, Kv undef, Kv undef, Kv undef, Kv (.bool true)]) [Bk b (tN β) [.slice ak nk ck, vs, .slice a2 n2 c2]]
theorem obCo8e (β : Bool) (b i nk ck n2 c2 : Nat) (vs ph : Value) (ak a2 : Option Addr) (hin : i = nk) (w0 : World) (fp0 : List Nat) (R : List Asn) : (gCo8e β b i nk ck n2 c2 vs ph ak a2 w0 fp0 R).Ok 25 := by
 cases β <;> exact Rg.ok _ 25 [4, 6, 8, 9, 10, 11, 12, 13, 14, 15, 16, 17, 18, 19, 20, 21, 22, 23] ⟨.load _ 4 0 0, .eqlT _ 6 i nk hin, .skip _ 8, .skip _ 9, .skip _ 10, .skip _ 11, .skip _ 12, .skip _ 13, .skip _ 14, .skip _ 15, .skip _ 16, .skip _ 17, .skip _ 18, .skip _ 19, .skip _ 20, .skip _ 21, .skip _ 22, .skip _ 23, trivial⟩
theorem cdCo8e (β : Bool) : IsRg (BCollect β) [1, 1, 1, 0, 4, 4, 1, 0, 4, 1, 0, 0] 8 := by cases β <;> exact irg (by kernel_rfl)
noncomputable def gCo8n (β : Bool) (b i nk ck n2 c2 : Nat) (vs : Value) (ak a2 : Option Addr) := rg Tryz.prog (BCollect β) 8 88 [(43, 25)] [(9, nV i), (0, pV b 0), (3, .pointer none)] (Vq 0 43 [Kn i, Kp b 0, Kp b 0, Kp b 0, Kv (.slice ak nk ck), Kn nk, Kv (.bool false), Kv (.bool false), Kv (.pointer none), Kv (.bool false), Kv (.bool false), Kv undef, Kv undef, Kv undef, Kv undef, Kv undef, Kv undef, Kv undef, Kv undef, Kv undef, Kv undef, Kv undef, Kv undef, Kv (.bool false), Kv (.bool false)]) [Bk b (tN β) [.slice ak nk ck, vs, .slice a2 n2 c2]]
theorem obCo8n (β : Bool) (b i nk ck n2 c2 : Nat) (vs : Value) (ak a2 : Option Addr) (hin : i ≠ nk) (w0 : World) (fp0 : List Nat) (R : List Asn) : (gCo8n β b i nk ck n2 c2 vs ak a2 w0 fp0 R).Ok 25 := by
 cases β <;> exact Rg.ok _ 25 [4, 6, 11, 12, 13, 14, 15, 16, 17, 18, 19, 20, 21, 22] ⟨.load _ 4 0 0, .eqlF _ 6 i nk hin, .skip _ 11, .skip _ 12, .skip _ 13, .skip _ 14, .skip _ 15, .skip _ 16, .skip _ 17, .skip _ 18, .skip _ 19, .skip _ 20, .skip _ 21, .skip _ 22, trivial⟩
theorem cdCo8n (β : Bool) : IsRg (BCollect β) [1, 1, 1, 0, 4, 4, 1, 0, 4, 1, 0, 0] 8 := by cases β <;> exact irg (by kernel_rfl)
noncomputable def gCo8k (β : Bool) (b hb gk i nk ck n2 c2 : Nat) (vs hh : Value) (r : Int) (k : Ky) (a2 : Option Addr) (xs : List Value) := rg Tryz.prog (BCollect β) 8 88 [(43, 25)] [(9, nV i), (0, pV b 0), (3, pV hb 0)] (Vq 0 43 [Kn i, Kp b 0, Kp b 0, Kp b 0, Ks gk nk ck, Kn nk, Kv (.bool false), Kv (.bool false), Kp hb 0, Kv (.bool true), Kv (.bool true), Kp b 0, Kp b 0, Kp b 0, Ks gk nk ck, Kn i, Kp gk i, Kv (encK k), Kp hb 0, Kp hb 0, Kv hh, Kv (.int .i64 r), Kv (.bool (decide (0 ≤ r))), Kv (.bool (decide (0 ≤ r))), Kv (.bool (decide (0 ≤ r)))]) [Bk b (tN β) [sV gk nk ck, vs, .slice a2 n2 c2], .sl (tK β) (sV gk nk ck) xs [], Bk hb (tK β) [hh]]
theorem obCo8k (β : Bool) (b hb gk i nk ck n2 c2 : Nat) (vs hh : Value) (r : Int) (k : Ky) (a2 : Option Addr) (xs : List Value) (hin : i ≠ nk) (hi : i < nk) (hki : xs[i]? = some (encK k)) (hcmp : ∀ w, Calls Tryz.prog (fCmp β) #[encK k, hh] w fun e w' => e = .returned (.int .i64 r) ∧ Below w.heap.size w w') (w0 : World) (fp0 : List Nat) (R : List Asn) : (gCo8k β b hb gk i nk ck n2 c2 vs hh r k a2 xs w0 fp0 R).Ok 25 := by
 have hc2 : ∀ w fp, (blkA hb (tK β) #[hh]).p w fp → Calls Tryz.prog (fCmp β) #[encK k, hh] w fun e w' => e = .returned (.int .i64 r) ∧ Below w.heap.size w w' := fun w _ _ => hcmp w
 cases β <;> exact Rg.ok _ 25 [4, 6, 14, 16, 17, 20, 21, 22] ⟨.load _ 4 0 0, .eqlF _ 6 i nk hin, .load _ 14 0 0, .index _ 16 gk nk ck i hi, .elem _ 17 1 i hki, .load _ 20 2 0, .ask1 _ 21 2 hc2, .geqI _ 22 r 0, trivial⟩
theorem cdCo8k (β : Bool) : IsRg (BCollect β) [1, 1, 1, 0, 4, 4, 1, 0, 4, 1, 0, 0] 8 := by cases β <;> exact irg (by kernel_rfl)
theorem ccCo67 (β : Bool) : isCond (csnd (cfst (csnd (cbody (cfst (csnd (cbody (cbody (cfst (csnd (csnd (csnd (bodyC (BCollect β)))))))))))))) = true ∧ ccond (csnd (cfst (csnd (cbody (cfst (csnd (cbody (cbody (cfst (csnd (csnd (csnd (bodyC (BCollect β)))))))))))))) = .tmp 67 := by cases β <;> exact ⟨kr (by kernel_rfl), kr (by kernel_rfl)⟩
noncomputable def gCo9 (β : Bool) (v1 : Value) := rg Tryz.prog (BCollect β) 9 88 [(68, 1), (8, 1)] [(1, v1)] (Vq 0 68 [Kv v1] ++ Vq 1 8 [Kv v1]) []
theorem obCo9 (β : Bool) (v1 : Value)  (w0 : World) (fp0 : List Nat) (R : List Asn) : (gCo9 β v1 w0 fp0 R).Ok 2 := by
 cases β <;> exact Rg.ok _ 2 [] trivial
theorem cdCo9 (β : Bool) : IsSq (BCollect β) [1, 1, 1, 0, 4, 4, 1, 0, 4, 1, 0, 1, 2] 9 := by cases β <;> exact isq (by kernel_rfl)
theorem isRetCo8 (β : Bool) : isRet (csnd (cthen (csnd (cfst (csnd (cbody (cfst (csnd (cbody (cbody (cfst (csnd (csnd (csnd (bodyC (BCollect β)))))))))))))))) = true := by cases β <;> exact kr (by kernel_rfl)
theorem isSkipCo9 (β : Bool) : isSkip (celse (csnd (cfst (csnd (cbody (cfst (csnd (cbody (cbody (cfst (csnd (csnd (csnd (bodyC (BCollect β))))))))))))))) = true := by cases β <;> exact kr (by kernel_rfl)
noncomputable def gCo10 (β : Bool) (b gk gv cv i nk ck n2 c2 N1 : Nat) (v1 : Value) (k : Ky) (v : Va) (a2 : Option Addr) (xs ys e1 : List Value) := rgq Tryz.prog (BCollect β) 10 88 [(69, 18), (1, 1)] [(0, pV b 0), (9, nV i)] [(1, v1, 18)] (Vq 0 69 [Kv v1, Kp b 0, Kp b 0, Kp b 0, Ks gk nk ck, Kn i, Kp gk i, Kv (encK k), Kp b 0, Kp b 0, Kp b 1, Ks gv ys.length cv, Kn i, Kp gv i, Kv (encV v), Kv (.agg #[encK k, encV v]), Vf.box, Vf.slice] ++ Vq 18 1 [Fv [86] fun g => .slice (sa (g 86)) (sn (g 86)) (sc (g 86))]) [.new 16 [85] fun g => boxsA (tE β) (g 85) [encK k, encV v].toArray, .gen [17] [86] fun L g => match L 17 with | true => rowA (tE β) 2 (g 86) (N1 + 1) (e1 ++ [encK k, encV v]) | false => rowA (tE β) 2 v1 N1 e1, Bk b (tN β) [sV gk nk ck, sV gv ys.length cv, .slice a2 n2 c2], .sl (tK β) (sV gk nk ck) xs [], .sl (tV β) (sV gv ys.length cv) ys []]
theorem obCo10 (β : Bool) (b gk gv cv i nk ck n2 c2 N1 : Nat) (v1 : Value) (k : Ky) (v : Va) (a2 : Option Addr) (xs ys e1 : List Value) (hi : i < nk) (hj : i < ys.length) (hki : xs[i]? = some (encK k)) (hvi : ys[i]? = some (encV v)) (hN1 : N1 + 1 < 1099511627776) (w0 : World) (fp0 : List Nat) (R : List Asn) : (gCo10 β b gk gv cv i nk ck n2 c2 N1 v1 k v a2 xs ys e1 w0 fp0 R).Ok 19 := by
 have h1 : ∀ u ∈ [encK k, encV v], u.oneCell' = true := by
  intro u hu
  rcases List.mem_cons.1 hu with rfl | hu
  · exact encK_one k
  · rw [List.mem_singleton.1 hu]; exact encV_one v
 cases k <;> cases v <;> cases β <;> exact Rg.ok _ 19 [4, 6, 7, 11, 13, 14, 16, 17] ⟨.load _ 4 2 0, .index _ 6 gk nk ck i hi, .elem _ 7 3 i hki, .load _ 11 2 1, .index _ 13 gv ys.length cv i hj, .elem _ 14 4 i hvi, .boxs _ 16 0, .appE _ 17 0 1 (rowE _) hN1 rfl h1, trivial⟩
theorem cdCo10 (β : Bool) : IsRg (BCollect β) [1, 1, 1, 0, 4, 4, 1, 0, 4, 1, 1] 10 := by cases β <;> exact irg (by kernel_rfl)
noncomputable def gCo5 (β : Bool) (i : Nat) := rgq Tryz.prog (BCollect β) 5 88 [(27, 2), (9, 1)] [] [(9, nV i, 2)] (Vq 0 27 [Kn i, Kn (i + 1)] ++ Vq 2 9 [Kn (i + 1)]) []
theorem obCo5 (β : Bool) (i : Nat) (hi : i + 1 < 1099511627777) (w0 : World) (fp0 : List Nat) (R : List Asn) : (gCo5 β i w0 fp0 R).Ok 3 := by
 cases β <;> exact Rg.ok _ 3 [1] ⟨.add _ 1 (i) (1) ((i + 1 : Nat) : Int), trivial⟩
theorem cdCo5 (β : Bool) : IsRg (BCollect β) [1, 1, 1, 0, 4, 4, 1, 1] 5 := by cases β <;> exact irg (by kernel_rfl)
set_option maxHeartbeats 4000000 in
theorem col_round (β : Bool) (b i nk ck n2 c2 cb N0 N1 : Nat) (vs v0 pl ph hh : Value) (r : Int) (k : Ky) (v : Va) (ak a2 : Option Addr) (xs ys zs e0 e1 : List Value) (KD OL OH : Asn) (hnk : nk = xs.length) (hxy : ys.length = xs.length) (hlx : xs.length < 1099511627776) (hn2 : n2 = zs.length) (hlz : zs.length < 1099511627776) (hN1 : N1 + 1 < 1099511627776) (hik : i ≤ nk)
 (hky : i < nk → xs[i]? = some (encK k)) (hvy : i < nk → ys[i]? = some (encV v)) (hz : n2 ≠ 0 → zs[i]? = some (ptrV cb))
 (hX : n2 = 0 → N1 = N0 ∧ e1 = e0)
 (hrec : n2 ≠ 0 → ∀ (w0 : World) (fp0 : List Nat) (R : List Asn) (w : World), St w0 fp0 ([rowA (tE β) 2 v0 N0 e0, KD, OL, OH] ++ R) w → Calls Tryz.prog (fCollect β) #[ptrV cb, v0, pl, ph] w fun e w' => ∃ a n c, e = .returned (.slice a n c) ∧ St w0 fp0 ([rowA (tE β) 2 (.slice a n c) N1 e1, KD, OL, OH] ++ R) w')
 (hph : ph = .pointer none ∨ ∃ hb, ph = .pointer (some ⟨hb, 0, none⟩) ∧ OH = blkA hb (tK β) #[hh])
 (hcmp : ph ≠ .pointer none → ∀ w, Calls Tryz.prog (fCmp β) #[encK k, hh] w fun e w' => e = .returned (.int .i64 r) ∧ Below w.heap.size w w') (w0 w : World) (fp0 : List Nat) (R : List Asn) (A0 : Act) (Q : Exit → Act → World → Prop)
 (hStop : (i = nk ∨ (i < nk ∧ ph ≠ .pointer none ∧ 0 ≤ r)) → ∀ (v1 : Value) A w', Knows 88 A [(8, v1)] → St w0 fp0 ([rowA (tE β) 2 v1 N1 e1, blkA b (tN β) #[.slice ak nk ck, vs, .slice a2 n2 c2], slA (tK β) (.slice ak nk ck) xs, slA (tV β) (vs) ys, slA (tP β) (.slice a2 n2 c2) zs, KD, OL, OH] ++ R) w' → Q .ret A w')
 (hNext : i < nk → (ph = .pointer none ∨ (ph ≠ .pointer none ∧ r < 0)) → ∀ (v2 : Value) A w', Knows 88 A [(0, .pointer (some ⟨b, 0, none⟩)), (1, v2), (2, pl), (3, ph), (9, .int .i64 ((i + 1 : Nat) : Int))] → St w0 fp0 ([rowA (tE β) 2 v2 (N1 + 1) (e1 ++ [encK k, encV v]), blkA b (tN β) #[.slice ak nk ck, vs, .slice a2 n2 c2], slA (tK β) (.slice ak nk ck) xs, slA (tV β) (vs) ys, slA (tP β) (.slice a2 n2 c2) zs, KD, OL, OH] ++ R) w' → Q .normal A w')
 (K0 : Knows 88 A0 [(0, .pointer (some ⟨b, 0, none⟩)), (1, v0), (2, pl), (3, ph), (9, .int .i64 i)]) (hS : St w0 fp0 ([rowA (tE β) 2 v0 N0 e0, blkA b (tN β) #[.slice ak nk ck, vs, .slice a2 n2 c2], slA (tK β) (.slice ak nk ck) xs, slA (tV β) (vs) ys, slA (tP β) (.slice a2 n2 c2) zs, KD, OL, OH] ++ R) w) : (cbody (cbody (cfst (csnd (csnd (csnd (bodyC (BCollect β)))))))).wp Tryz.prog Q A0 w := by
 refine wp_seqJ (sqCo0 β) (fun A w => Knows 88 A [(0, pV b 0), (2, pl), (3, ph), (9, nV i), (1, v0)] ∧ St w0 fp0 ([rowA (tE β) 2 v0 N0 e0, blkA b (tN β) #[.slice ak nk ck, vs, .slice a2 n2 c2], slA (tK β) (.slice ak nk ck) xs, slA (tV β) (vs) ys, slA (tP β) (.slice a2 n2 c2) zs, KD, OL, OH] ++ R) w) ?_ ?_
 · skip
   refine wp_seqT (cdCo4 β).sq ?_
   refine wp_regT (obCo4 β b i nk ck n2 c2 vs ak a2  _ _ _) (by kernel_rfl) (cdCo4 β).cd (K0.sub (by kernel_rfl)) (St_re hS [1] [0, 2, 3, 4, 5, 6, 7] (by kernel_rfl)) fun A1 w1 N1 H1 => ?_
   have S1 : St w0 fp0 ([blkA b (tN β) #[.slice ak nk ck, vs, .slice a2 n2 c2], rowA (tE β) 2 v0 N0 e0, slA (tK β) (.slice ak nk ck) xs, slA (tV β) (vs) ys, slA (tP β) (.slice a2 n2 c2) zs, KD, OL, OH] ++ R) w1 := H1
   have K1 : Knows 88 A1 [(0, pV b 0), (1, v0), (2, pl), (3, ph), (9, nV i), (26, .bool (decide (i ≤ nk)))] := N1.knows K0 (by kernel_rfl)
   refine wp_condK (ccCo26 β) K1 (by rfl) (fun hq => ?_) (fun hq => ?_)
   · skip
     refine wp_skipT (isSkipCo1 β) ?_
     exact ⟨K1.sub (by kernel_rfl), (St_re S1 [1, 0, 2, 3, 4, 5, 6, 7] [] (by kernel_rfl))⟩
   · skip
     exact absurd hik (by simpa using hq)
 · rintro A2 w2 ⟨K2, S2⟩
   refine wp_seqJ (sqCo2 β) (fun A w => ∃ (v2 : Value) (hin : i < nk) (hgo : (ph = .pointer none ∨ (ph ≠ .pointer none ∧ r < 0))), Knows 88 A [(0, pV b 0), (1, v2), (2, pl), (3, ph), (9, nV i)] ∧ St w0 fp0 ([rowA (tE β) 2 v2 (N1 + 1) (e1 ++ [encK k, encV v]), blkA b (tN β) #[.slice ak nk ck, vs, .slice a2 n2 c2], slA (tK β) (.slice ak nk ck) xs, slA (tV β) (vs) ys, slA (tP β) (.slice a2 n2 c2) zs, KD, OL, OH] ++ R) w) ?_ ?_
   · skip
     refine wp_blkT (isBlkCo3 β) ?_
     refine wp_seqJ (sqCo4 β) (fun A w => ∃ (v1 : Value), Knows 88 A [(0, pV b 0), (2, pl), (3, ph), (9, nV i), (1, v1)] ∧ St w0 fp0 ([rowA (tE β) 2 v1 N1 e1, blkA b (tN β) #[.slice ak nk ck, vs, .slice a2 n2 c2], slA (tK β) (.slice ak nk ck) xs, slA (tV β) (vs) ys, slA (tP β) (.slice a2 n2 c2) zs, KD, OL, OH] ++ R) w) ?_ ?_
     · skip
       refine wp_seqT (cdCo6 β).sq ?_
       refine wp_regT (obCo6 β b nk ck n2 c2 vs ak a2  _ _ _) (by kernel_rfl) (cdCo6 β).cd (K2.sub (by kernel_rfl)) (St_re S2 [1] [0, 2, 3, 4, 5, 6, 7] (by kernel_rfl)) fun A3 w3 N3 H3 => ?_
       have S3 : St w0 fp0 ([blkA b (tN β) #[.slice ak nk ck, vs, .slice a2 n2 c2], rowA (tE β) 2 v0 N0 e0, slA (tK β) (.slice ak nk ck) xs, slA (tV β) (vs) ys, slA (tP β) (.slice a2 n2 c2) zs, KD, OL, OH] ++ R) w3 := H3
       have K3 : Knows 88 A3 [(0, pV b 0), (2, pl), (3, ph), (9, nV i), (1, v0), (31, .bool (!(n2 == 0)))] := N3.knows K2 (by kernel_rfl)
       refine wp_condK (ccCo31 β) K3 (by rfl) (fun hq => ?_) (fun hq => ?_)
       · skip
         have hn0 : n2 ≠ 0 := by simpa using hq
         have hzi := hz hn0
         have hzl : i < zs.length := (List.getElem?_eq_some_iff.1 hzi).1
         obtain ⟨_, q5⟩ := St.has S3 4 rfl
         obtain ⟨gp, cp, ep, hpc, -⟩ := sl_some q5 (by omega)
         obtain ⟨rfl, -, rfl⟩ := Value.slice.inj ep
         refine wp_regT (obCo7 β b gp i nk ck n2 c2 cb N0 N1 vs v0 pl ph ak zs e0 e1 KD OL OH (by omega) hzi (hrec hn0) _ _ _) (by kernel_rfl) (cdCo7 β).cd (K3.sub (by kernel_rfl)) (St_re S3 [1, 0, 4, 5, 6, 7] [2, 3] (by kernel_rfl)) fun A4 w4 N4 H4 => ?_
         have S4 : St w0 fp0 ([rowA (tE β) 2 (slots A4 42) N1 e1, blkA b (tN β) #[.slice ak nk ck, vs, sV gp n2 c2], slA (tP β) (sV gp n2 c2) zs, KD, OL, OH, slA (tK β) (.slice ak nk ck) xs, slA (tV β) (vs) ys] ++ R) w4 := H4
         have K4 : Knows 88 A4 [(0, pV b 0), (2, pl), (3, ph), (9, nV i), (31, .bool (!(n2 == 0)))] := N4.knows K3 (by kernel_rfl)
         obtain ⟨a1, n1, c1, e42⟩ : ∃ a n c, slots A4 42 = .slice a n c := ⟨_, _, _, N4.val 10 rfl⟩
         rw [e42] at S4
         have e1s : slots A4 1 = .slice a1 n1 c1 := by have this : slots A4 1 = .slice (sa (slots A4 42)) (sn (slots A4 42)) (sc (slots A4 42)) := N4.val 11 rfl; rw [e42] at this; exact this
         have K4 := K4.add 1 (.slice a1 n1 c1) e1s
         exact ⟨.slice a1 n1 c1, K4.sub (by kernel_rfl), (St_re S4 [0, 1, 6, 7, 2, 3, 4, 5] [] (by kernel_rfl))⟩
       · skip
         refine wp_skipT (isSkipCo5 β) ?_
         have hn0 : n2 = 0 := by simpa using hq
         obtain ⟨e3, e4⟩ := hX hn0
         obtain rfl := e3.symm
         obtain rfl := e4.symm
         exact ⟨v0, K3.sub (by kernel_rfl), (St_re S3 [1, 0, 2, 3, 4, 5, 6, 7] [] (by kernel_rfl))⟩
     · rintro A5 w5 ⟨v1, K5, S5⟩
       refine wp_seqJ (sqCo6 β) (fun A w => ∃ (hin : i < nk) (hgo : (ph = .pointer none ∨ (ph ≠ .pointer none ∧ r < 0))), Knows 88 A [(0, pV b 0), (2, pl), (3, ph), (9, nV i), (1, v1)] ∧ St w0 fp0 ([rowA (tE β) 2 v1 N1 e1, blkA b (tN β) #[.slice ak nk ck, vs, .slice a2 n2 c2], slA (tK β) (.slice ak nk ck) xs, slA (tV β) (vs) ys, slA (tP β) (.slice a2 n2 c2) zs, KD, OL, OH] ++ R) w) ?_ ?_
       · skip
         refine wp_seqJ (sqCo7 β) (fun A w => ∃ (st : Bool) (hst : st = true → (i = nk ∨ (i < nk ∧ ph ≠ .pointer none ∧ 0 ≤ r))) (hgo2 : st = false → i < nk ∧ (ph = .pointer none ∨ (ph ≠ .pointer none ∧ r < 0))), Knows 88 A [(0, pV b 0), (2, pl), (3, ph), (9, nV i), (1, v1), (67, .bool st)] ∧ St w0 fp0 ([rowA (tE β) 2 v1 N1 e1, blkA b (tN β) #[.slice ak nk ck, vs, .slice a2 n2 c2], slA (tK β) (.slice ak nk ck) xs, slA (tV β) (vs) ys, slA (tP β) (.slice a2 n2 c2) zs, KD, OL, OH] ++ R) w) ?_ ?_
         · skip
           by_cases hin : i = nk
           · skip
             refine wp_regT (obCo8e β b i nk ck n2 c2 vs ph ak a2 hin _ _ _) (by kernel_rfl) (cdCo8e β).cd (K5.sub (by kernel_rfl)) (St_re S5 [1] [0, 2, 3, 4, 5, 6, 7] (by kernel_rfl)) fun A6 w6 N6 H6 => ?_
             have S6 : St w0 fp0 ([blkA b (tN β) #[.slice ak nk ck, vs, .slice a2 n2 c2], rowA (tE β) 2 v1 N1 e1, slA (tK β) (.slice ak nk ck) xs, slA (tV β) (vs) ys, slA (tP β) (.slice a2 n2 c2) zs, KD, OL, OH] ++ R) w6 := H6
             have K6 : Knows 88 A6 [(0, pV b 0), (2, pl), (3, ph), (9, nV i), (1, v1), (67, .bool true)] := N6.knows K5 (by kernel_rfl)
             exact ⟨true, fun _ => .inl hin, fun h => (by cases h), K6.sub (by kernel_rfl), (St_re S6 [1, 0, 2, 3, 4, 5, 6, 7] [] (by kernel_rfl))⟩
           · skip
             have hin2 : i < nk := by omega
             rcases hph with rfl | ⟨hb, rfl, rfl⟩
             · skip
               refine wp_regT (obCo8n β b i nk ck n2 c2 vs ak a2 hin _ _ _) (by kernel_rfl) (cdCo8n β).cd (K5.sub (by kernel_rfl)) (St_re S5 [1] [0, 2, 3, 4, 5, 6, 7] (by kernel_rfl)) fun A7 w7 N7 H7 => ?_
               have S7 : St w0 fp0 ([blkA b (tN β) #[.slice ak nk ck, vs, .slice a2 n2 c2], rowA (tE β) 2 v1 N1 e1, slA (tK β) (.slice ak nk ck) xs, slA (tV β) (vs) ys, slA (tP β) (.slice a2 n2 c2) zs, KD, OL, OH] ++ R) w7 := H7
               have K7 : Knows 88 A7 [(0, pV b 0), (2, pl), (3, .pointer none), (9, nV i), (1, v1), (67, .bool false)] := N7.knows K5 (by kernel_rfl)
               exact ⟨false, fun h => (by cases h), fun _ => ⟨hin2, .inl rfl⟩, K7.sub (by kernel_rfl), (St_re S7 [1, 0, 2, 3, 4, 5, 6, 7] [] (by kernel_rfl))⟩
             · skip
               have hki := hky hin2
               obtain ⟨_, q2⟩ := St.has S5 2 rfl
               obtain ⟨gk, cp, ep, hkc, -⟩ := sl_some q2 (by omega)
               obtain ⟨rfl, -, rfl⟩ := Value.slice.inj ep
               refine wp_regT (obCo8k β b hb gk i nk ck n2 c2 vs hh r k a2 xs hin hin2 hki (hcmp (by simp)) _ _ _) (by kernel_rfl) (cdCo8k β).cd (K5.sub (by kernel_rfl)) (St_re S5 [1, 2, 7] [0, 3, 4, 5, 6] (by kernel_rfl)) fun A8 w8 N8 H8 => ?_
               have S8 : St w0 fp0 ([blkA b (tN β) #[sV gk nk ck, vs, .slice a2 n2 c2], slA (tK β) (sV gk nk ck) xs, blkA hb (tK β) #[hh], rowA (tE β) 2 v1 N1 e1, slA (tV β) (vs) ys, slA (tP β) (.slice a2 n2 c2) zs, KD, OL] ++ R) w8 := H8
               have K8 : Knows 88 A8 [(0, pV b 0), (2, pl), (3, pV hb 0), (9, nV i), (1, v1), (67, .bool (decide (0 ≤ r)))] := N8.knows K5 (by kernel_rfl)
               exact ⟨decide (0 ≤ r), fun h => .inr ⟨hin2, by simp, by simpa using h⟩, fun h => ⟨hin2, .inr ⟨by simp, by simpa using h⟩⟩, K8.sub (by kernel_rfl), (St_re S8 [3, 0, 1, 4, 5, 6, 7, 2] [] (by kernel_rfl))⟩
         · rintro A9 w9 ⟨st, hst, hgo2, K9, S9⟩
           refine wp_condK (ccCo67 β) K9 (by rfl) (fun hq => ?_) (fun hq => ?_)
           · skip
             have hs2 := hst hq
             refine wp_seqT (cdCo9 β).sq ?_
             refine wp_regT (obCo9 β v1  _ _ _) (by kernel_rfl) (cdCo9 β).cd (K9.sub (by kernel_rfl)) (St_re S9 [] [0, 1, 2, 3, 4, 5, 6, 7] (by kernel_rfl)) fun A10 w10 N10 H10 => ?_
             have S10 : St w0 fp0 ([rowA (tE β) 2 v1 N1 e1, blkA b (tN β) #[.slice ak nk ck, vs, .slice a2 n2 c2], slA (tK β) (.slice ak nk ck) xs, slA (tV β) (vs) ys, slA (tP β) (.slice a2 n2 c2) zs, KD, OL, OH] ++ R) w10 := H10
             have K10 : Knows 88 A10 [(0, pV b 0), (2, pl), (3, ph), (9, nV i), (1, v1), (67, .bool st), (8, v1)] := N10.knows K9 (by kernel_rfl)
             refine wp_retT (isRetCo8 β) ?_
             exact hStop hs2 _ _ _ (K10.sub (by kernel_rfl)) (St_re S10 [0, 1, 2, 3, 4, 5, 6, 7] [] (by kernel_rfl))
           · skip
             refine wp_skipT (isSkipCo9 β) ?_
             obtain ⟨hin, hgo⟩ := hgo2 hq
             exact ⟨hin, hgo, K9.sub (by kernel_rfl), (St_re S9 [0, 1, 2, 3, 4, 5, 6, 7] [] (by kernel_rfl))⟩
       · rintro A11 w11 ⟨hin, hgo, K11, S11⟩
         have hki := hky hin
         have hvi := hvy hin
         obtain ⟨_, q2⟩ := St.has S11 2 rfl
         obtain ⟨_, q3⟩ := St.has S11 3 rfl
         obtain ⟨gk, cp, ep, hkc, -⟩ := sl_some q2 (by omega)
         obtain ⟨rfl, -, rfl⟩ := Value.slice.inj ep
         obtain ⟨gv, cv, rfl, hvc, -⟩ := sl_some q3 (by omega)
         refine wp_regT (obCo10 β b gk gv cv i nk ck n2 c2 N1 v1 k v a2 xs ys e1 hin (by omega) hki hvi hN1 _ _ _) (by kernel_rfl) (cdCo10 β).cd (K11.sub (by kernel_rfl)) (St.emp.2 (St_re S11 [0, 1, 2, 3] [4, 5, 6, 7] (by kernel_rfl))) fun A12 w12 N12 H12 => ?_
         have S12 : St w0 fp0 ([rowA (tE β) 2 (slots A12 86) (N1 + 1) (e1 ++ [encK k, encV v]), blkA b (tN β) #[sV gk nk ck, sV gv ys.length cv, .slice a2 n2 c2], slA (tK β) (sV gk nk ck) xs, slA (tV β) (sV gv ys.length cv) ys, slA (tP β) (.slice a2 n2 c2) zs, KD, OL, OH] ++ R) w12 := (St.drop H12)
         have K12 : Knows 88 A12 [(0, pV b 0), (2, pl), (3, ph), (9, nV i)] := N12.knows K11 (by kernel_rfl)
         obtain ⟨a3, n3, c3, e86⟩ : ∃ a n c, slots A12 86 = .slice a n c := ⟨_, _, _, N12.val 17 rfl⟩
         rw [e86] at S12
         have e1s : slots A12 1 = .slice a3 n3 c3 := by have this : slots A12 1 = .slice (sa (slots A12 86)) (sn (slots A12 86)) (sc (slots A12 86)) := N12.val 18 rfl; rw [e86] at this; exact this
         have K12 := K12.add 1 (.slice a3 n3 c3) e1s
         exact ⟨.slice a3 n3 c3, hin, hgo, K12.sub (by kernel_rfl), (St_re S12 [0, 1, 2, 3, 4, 5, 6, 7] [] (by kernel_rfl))⟩
   · rintro A13 w13 ⟨v2, hin, hgo, K13, S13⟩
     refine wp_regT (obCo5 β i (by omega) _ _ _) (by kernel_rfl) (cdCo5 β).cd (K13.sub (by kernel_rfl)) (St_re S13 [] [0, 1, 2, 3, 4, 5, 6, 7] (by kernel_rfl)) fun A14 w14 N14 H14 => ?_
     have S14 : St w0 fp0 ([rowA (tE β) 2 v2 (N1 + 1) (e1 ++ [encK k, encV v]), blkA b (tN β) #[.slice ak nk ck, vs, .slice a2 n2 c2], slA (tK β) (.slice ak nk ck) xs, slA (tV β) (vs) ys, slA (tP β) (.slice a2 n2 c2) zs, KD, OL, OH] ++ R) w14 := H14
     have K14 : Knows 88 A14 [(0, pV b 0), (1, v2), (2, pl), (3, ph), (9, nV (i + 1))] := N14.knows K13 (by kernel_rfl)
     exact hNext hin hgo _ _ _ (K14.sub (by kernel_rfl)) (St_re S14 [0, 1, 2, 3, 4, 5, 6, 7] [] (by kernel_rfl))
end Go.Proofs.YtnefkkidfhmggaaGreat
