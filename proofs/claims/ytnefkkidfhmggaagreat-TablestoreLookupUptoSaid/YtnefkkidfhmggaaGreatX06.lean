/- Part 6 of the proof: Cs, P4, Cq, Bu, Bt, It, Iu, Sm, Ka, Rx, Ra, Rb -/
import Derived.Test.YtnefkkidfhmggaaGreatX05
import Derived.Test.YtnefkkidfhmggaaGreatX02
import Derived.Test.YtnefkkidfhmggaaGreatX00
import Derived.OwnWalkIn
import Derived.TacticsInMore
import Derived.LoopIn
import Derived.LoopNIn
import Derived.Test.YtnefkkidfhmggaaGreatX03
import Derived.Deep.RegionWith
/- collect: its start, over both trees. -/
namespace Go.Proofs.YtnefkkidfhmggaaGreat
open Go Go.RowKit
set_option maxRecDepth 100000
theorem entCs (β : Bool) : Tryz.prog.funcs[fCollect β]? = some (BCollect β) ∧ (BCollect β).body = some (bodyC (BCollect β)) ∧ (BCollect β).ntmps = 88 := by cases β <;> exact ⟨kr (by kernel_rfl), kr (by kernel_rfl), kr (by kernel_rfl)⟩
noncomputable def gCs0 (β : Bool)  := rg Tryz.prog (BCollect β) 0 88 [(8, 1)] [] (Vq 0 8 [Kv (.slice none 0 0)]) []
theorem obCs0 (β : Bool)   (w0 : World) (fp0 : List Nat) (R : List Asn) : (gCs0 β  w0 fp0 R).Ok 1 := by
 cases β <;> exact Rg.ok _ 1 [] trivial
theorem cdCs0 (β : Bool) : IsSq (BCollect β) [] 0 := by cases β <;> exact isq (by kernel_rfl)
noncomputable def gCs1 (β : Bool)  := rg Tryz.prog (BCollect β) 1 88 [(9, 1)] [] (Vq 0 9 [Kn 0]) []
theorem obCs1 (β : Bool)   (w0 : World) (fp0 : List Nat) (R : List Asn) : (gCs1 β  w0 fp0 R).Ok 1 := by
 cases β <;> exact Rg.ok _ 1 [] trivial
theorem cdCs1 (β : Bool) : IsSq (BCollect β) [1] 1 := by cases β <;> exact isq (by kernel_rfl)
theorem sqCs0 (β : Bool) : Sq (BCollect β) [1, 1] := by cases β <;> exact isQ (by kernel_rfl)
noncomputable def gCs2n (β : Bool)  := rg Tryz.prog (BCollect β) 2 88 [(10, 2)] [(2, .pointer none)] (Vq 0 10 [Kv (.pointer none), Kv (.bool false)]) []
theorem obCs2n (β : Bool)   (w0 : World) (fp0 : List Nat) (R : List Asn) : (gCs2n β  w0 fp0 R).Ok 2 := by
 cases β <;> exact Rg.ok _ 2 [] trivial
theorem cdCs2n (β : Bool) : IsSq (BCollect β) [1, 1, 0] 2 := by cases β <;> exact isq (by kernel_rfl)
theorem ccCs11 (β : Bool) : isCond (csnd (cfst (csnd (csnd (bodyC (BCollect β)))))) = true ∧ ccond (csnd (cfst (csnd (csnd (bodyC (BCollect β)))))) = .tmp 11 := by cases β <;> exact ⟨kr (by kernel_rfl), kr (by kernel_rfl)⟩
theorem isSkipCs1 (β : Bool) : isSkip (celse (csnd (cfst (csnd (csnd (bodyC (BCollect β))))))) = true := by cases β <;> exact kr (by kernel_rfl)
noncomputable def gCs2k (β : Bool) (lb : Nat) := rg Tryz.prog (BCollect β) 2 88 [(10, 2)] [(2, pV lb 0)] (Vq 0 10 [Kp lb 0, Kv (.bool true)]) []
theorem obCs2k (β : Bool) (lb : Nat)  (w0 : World) (fp0 : List Nat) (R : List Asn) : (gCs2k β lb w0 fp0 R).Ok 2 := by
 cases β <;> exact Rg.ok _ 2 [] trivial
theorem cdCs2k (β : Bool) : IsSq (BCollect β) [1, 1, 0] 2 := by cases β <;> exact isq (by kernel_rfl)
noncomputable def gCs3 (β : Bool) (b i0 lb : Nat) (ks vs ps kk : Value) (q : Bool) (xs : List Value) := rg Tryz.prog (BCollect β) 3 88 [(13, 5), (12, 1), (18, 2), (9, 1)] [(0, pV b 0), (2, pV lb 0)] (Vq 0 13 [Kp b 0, Kp lb 0, Kp lb 0, Kv kk, Kv (.tuple #[nV i0, .bool q])] ++ Vq 5 12 [Kv (.tuple #[nV i0, .bool q])] ++ Vq 6 18 [Kn i0, Kv (.bool q)] ++ Vq 8 9 [Kn i0]) [Bk b (tN β) [ks, vs, ps], .sl (tK β) (ks) xs [], Bk lb (tK β) [kk]]
theorem obCs3 (β : Bool) (b i0 lb : Nat) (ks vs ps kk : Value) (q : Bool) (xs : List Value) (hf : ∀ w fp fp', (blkA b (tN β) #[ks, vs, ps]).p w fp → (slA (tK β) ks xs).p w fp' → Calls Tryz.prog (fFind β) #[ptrV b, kk] w fun e w' => e = .returned (.tuple #[.int .i64 i0, .bool q]) ∧ Below w.heap.size w w') (w0 : World) (fp0 : List Nat) (R : List Asn) : (gCs3 β b i0 lb ks vs ps kk q xs w0 fp0 R).Ok 9 := by
 cases β <;> exact Rg.ok _ 9 [3, 4] ⟨.load _ 3 2 0, .ask2 _ 4 0 1 hf, trivial⟩
theorem cdCs3 (β : Bool) : IsRg (BCollect β) [1, 1, 0, 1, 2] 3 := by cases β <;> exact irg (by kernel_rfl)
theorem sqCs2 (β : Bool) : Sq (BCollect β) [1, 1, 1] := by cases β <;> exact isQ (by kernel_rfl)
noncomputable def gCs11 (β : Bool) (v1 : Value) := rg Tryz.prog (BCollect β) 11 88 [(87, 1), (8, 1)] [(1, v1)] (Vq 0 87 [Kv v1] ++ Vq 1 8 [Kv v1]) []
theorem obCs11 (β : Bool) (v1 : Value)  (w0 : World) (fp0 : List Nat) (R : List Asn) : (gCs11 β v1 w0 fp0 R).Ok 2 := by
 cases β <;> exact Rg.ok _ 2 [] trivial
theorem cdCs11 (β : Bool) : IsSq (BCollect β) [1, 1, 1, 1] 11 := by cases β <;> exact isq (by kernel_rfl)
theorem isRetCs3 (β : Bool) : isRet (csnd (csnd (csnd (csnd (csnd (bodyC (BCollect β))))))) = true := by cases β <;> exact kr (by kernel_rfl)
theorem resCs (β : Bool) : (BCollect β).results = #[.tmp 8] := by cases β <;> exact kr (by kernel_rfl)
set_option maxHeartbeats 4000000 in
theorem col_flat (β : Bool) (b i0 lb : Nat) (ks vs ps v0 pl ph kk : Value) (q : Bool) (xs : List Value) (OL X : Asn) (Y : Value → Asn) (hpl : (pl = .pointer none ∧ i0 = 0) ∨ (pl = .pointer (some ⟨lb, 0, none⟩) ∧ OL = blkA lb (tK β) #[kk]))
 (hfind : pl ≠ .pointer none → ∀ w fp fp', (blkA b (tN β) #[ks, vs, ps]).p w fp → (slA (tK β) ks xs).p w fp' → Calls Tryz.prog (fFind β) #[ptrV b, kk] w fun e w' => e = .returned (.tuple #[.int .i64 i0, .bool q]) ∧ Below w.heap.size w w') (w0 w : World) (fp0 : List Nat) (R : List Asn) (Rr : Ending → World → Prop)
 (HL : ∀ (Q : Exit → Act → World → Prop) (A : Act) (w : World), Knows 88 A [(0, .pointer (some ⟨b, 0, none⟩)), (1, v0), (2, pl), (3, ph), (9, .int .i64 i0)] → St w0 fp0 ([blkA b (tN β) #[ks, vs, ps], slA (tK β) (ks) xs, OL, X] ++ R) w →
  (∀ (v1 : Value) (A : Act) (w : World), Knows 88 A [(1, v1)] → St w0 fp0 ([Y v1] ++ R) w → Q .normal A w) → (∀ (v1 : Value) (A : Act) (w : World), Knows 88 A [(8, v1)] → Rr (.returned v1) w → Q .ret A w) → (cfst (csnd (csnd (csnd (bodyC (BCollect β)))))).wp Tryz.prog Q A w)
 (hE : ∀ v1 w', St w0 fp0 ([Y v1] ++ R) w' → Rr (.returned v1) w')
 (hS : St w0 fp0 ([blkA b (tN β) #[ks, vs, ps], slA (tK β) (ks) xs, OL, X] ++ R) w) : Calls Tryz.prog (fCollect β) #[ptrV b, v0, pl, ph] w Rr := by
 refine calls_T [(0, pV b 0), (1, v0), (2, pl), (3, ph)] (entCs β) (by simp) (by kernel_rfl) fun A0 K0 => ?_
 refine wp_seqT (cdCs0 β).sq ?_
 refine wp_regT (obCs0 β   _ _ _) (by kernel_rfl) (cdCs0 β).cd (K0.sub (by kernel_rfl)) (St_re hS [] [0, 1, 2, 3] (by kernel_rfl)) fun A1 w1 N1 H1 => ?_
 have S1 : St w0 fp0 ([blkA b (tN β) #[ks, vs, ps], slA (tK β) (ks) xs, OL, X] ++ R) w1 := H1
 have K1 : Knows 88 A1 [(0, pV b 0), (1, v0), (2, pl), (3, ph), (8, .slice none 0 0)] := N1.knows K0 (by kernel_rfl)
 refine wp_seqT (cdCs1 β).sq ?_
 refine wp_regT (obCs1 β   _ _ _) (by kernel_rfl) (cdCs1 β).cd (K1.sub (by kernel_rfl)) (St_re S1 [] [0, 1, 2, 3] (by kernel_rfl)) fun A2 w2 N2 H2 => ?_
 have S2 : St w0 fp0 ([blkA b (tN β) #[ks, vs, ps], slA (tK β) (ks) xs, OL, X] ++ R) w2 := H2
 have K2 : Knows 88 A2 [(0, pV b 0), (1, v0), (2, pl), (3, ph), (8, .slice none 0 0), (9, nV 0)] := N2.knows K1 (by kernel_rfl)
 refine wp_seqJ (sqCs0 β) (fun A w => Knows 88 A [(0, pV b 0), (1, v0), (2, pl), (3, ph), (9, nV i0)] ∧ St w0 fp0 ([blkA b (tN β) #[ks, vs, ps], slA (tK β) (ks) xs, OL, X] ++ R) w) ?_ ?_
 · skip
   rcases hpl with ⟨rfl, rfl⟩ | ⟨rfl, rfl⟩
   · skip
     refine wp_seqT (cdCs2n β).sq ?_
     refine wp_regT (obCs2n β   _ _ _) (by kernel_rfl) (cdCs2n β).cd (K2.sub (by kernel_rfl)) (St_re S2 [] [0, 1, 2, 3] (by kernel_rfl)) fun A3 w3 N3 H3 => ?_
     have S3 : St w0 fp0 ([blkA b (tN β) #[ks, vs, ps], slA (tK β) (ks) xs, OL, X] ++ R) w3 := H3
     have K3 : Knows 88 A3 [(0, pV b 0), (1, v0), (2, .pointer none), (3, ph), (8, .slice none 0 0), (9, nV 0), (11, .bool false)] := N3.knows K2 (by kernel_rfl)
     refine wp_condK (ccCs11 β) K3 (by rfl) (fun hq => ?_) (fun hq => ?_)
     · skip
       cases hq
     · skip
       refine wp_skipT (isSkipCs1 β) ?_
       exact ⟨K3.sub (by kernel_rfl), (St_re S3 [0, 1, 2, 3] [] (by kernel_rfl))⟩
   · skip
     have hf := hfind (by simp)
     refine wp_seqT (cdCs2k β).sq ?_
     refine wp_regT (obCs2k β lb  _ _ _) (by kernel_rfl) (cdCs2k β).cd (K2.sub (by kernel_rfl)) (St_re S2 [] [0, 1, 2, 3] (by kernel_rfl)) fun A4 w4 N4 H4 => ?_
     have S4 : St w0 fp0 ([blkA b (tN β) #[ks, vs, ps], slA (tK β) (ks) xs, blkA lb (tK β) #[kk], X] ++ R) w4 := H4
     have K4 : Knows 88 A4 [(0, pV b 0), (1, v0), (2, pV lb 0), (3, ph), (8, .slice none 0 0), (9, nV 0), (11, .bool true)] := N4.knows K2 (by kernel_rfl)
     refine wp_condK (ccCs11 β) K4 (by rfl) (fun hq => ?_) (fun hq => ?_)
     · skip
       refine wp_regT (obCs3 β b i0 lb ks vs ps kk q xs hf _ _ _) (by kernel_rfl) (cdCs3 β).cd (K4.sub (by kernel_rfl)) (St_re S4 [0, 1, 2] [3] (by kernel_rfl)) fun A5 w5 N5 H5 => ?_
       have S5 : St w0 fp0 ([blkA b (tN β) #[ks, vs, ps], slA (tK β) (ks) xs, blkA lb (tK β) #[kk], X] ++ R) w5 := H5
       have K5 : Knows 88 A5 [(0, pV b 0), (1, v0), (2, pV lb 0), (3, ph), (8, .slice none 0 0), (11, .bool true), (9, nV i0)] := N5.knows K4 (by kernel_rfl)
       exact ⟨K5.sub (by kernel_rfl), (St_re S5 [0, 1, 2, 3] [] (by kernel_rfl))⟩
     · skip
       cases hq
 · rintro A6 w6 ⟨K6, S6⟩
   refine wp_seqT (sqCs2 β) ?_
   refine HL _ _ _ K6 S6 (fun v1 A w K S => ?_) fun v1 A w K hr => ?_
   · skip
     show (csnd (csnd (csnd (csnd (bodyC (BCollect β)))))).wp Tryz.prog (bodyPost Tryz.prog (BCollect β) Rr) A w
     refine wp_seqT (cdCs11 β).sq ?_
     refine wp_regT (obCs11 β v1  _ _ _) (by kernel_rfl) (cdCs11 β).cd (K.sub (by kernel_rfl)) (St_re S [] [0] (by kernel_rfl)) fun A7 w7 N7 H7 => ?_
     have S7 : St w0 fp0 ([Y v1] ++ R) w7 := H7
     have K7 : Knows 88 A7 [(1, v1), (8, v1)] := N7.knows K (by kernel_rfl)
     refine wp_retT (isRetCs3 β) ?_
     refine post_T K7 (res1 (resCs β) K7 (by rfl)) ?_
     exact hE v1 _ S7
   · skip
     exact post_T K (res1 (resCs β) K (by rfl)) (hr)
end Go.Proofs.YtnefkkidfhmggaaGreat
/- Plain: the entries of a tree in a range, node by node. -/
namespace Go.Proofs.YtnefkkidfhmggaaGreat
open T
section
variable {κ ν : Type}
def kidL : Nat → T κ ν → Nat → M κ ν
 | 0, _, _ => []
 | h + 1, x, i => match x.cs[i]? with
  | some c => toL h c
  | none => []
def partL : Nat → T κ ν → Nat → M κ ν
 | 0, x, i => x.es.take i
 | h + 1, x, i => pre (toL h) (x.es.take i) (x.cs.take i)
theorem pre_snoc (f : T κ ν → M κ ν) : ∀ (A : M κ ν) (C : List (T κ ν)) (a : κ × ν) (c : T κ ν), A.length = C.length → pre f (A ++ [a]) (C ++ [c]) = pre f A C ++ f c ++ [a]
 | [], [], a, c, _ => by simp [pre]
 | x :: A, y :: C, a, c, h => by
  rw [List.cons_append, List.cons_append, pre, pre, pre_snoc f A C a c (by simpa using h)]
  simp
 | [], _ :: _, _, _, h => by simp at h
 | _ :: _, [], _, _, h => by simp at h
theorem part_zero (h : Nat) (x : T κ ν) : partL h x 0 = [] := by
 cases h <;> simp [partL, pre]
theorem part_succ {o h lo hi : Nat} {x : T κ ν} (hb : Body o h lo hi x) {i : Nat} {y : κ × ν} (hy : x.es[i]? = some y) : partL h x (i + 1) = partL h x i ++ kidL h x i ++ [y] := by
 obtain ⟨hi', hy'⟩ := List.getElem?_eq_some_iff.1 hy
 cases h with
 | zero => simp only [partL, kidL, List.append_nil]; rw [List.take_succ_eq_append_getElem hi', hy']
 | succ h =>
  have h3 := hb.2.2.1
  have hc : i < x.cs.length := by omega
  simp only [partL, kidL, List.getElem?_eq_getElem hc]
  rw [List.take_succ_eq_append_getElem hi', List.take_succ_eq_append_getElem hc, hy', pre_snoc _ _ _ _ _ (by simp; omega)]
theorem part_rest {o h lo hi : Nat} {x : T κ ν} (hb : Body o h lo hi x) {i : Nat} {y : κ × ν} (hy : x.es[i]? = some y) : ∃ rest, toL h x = partL h x i ++ kidL h x i ++ y :: rest := by
 obtain ⟨hi', hy'⟩ := List.getElem?_eq_some_iff.1 hy
 cases h with
 | zero => exact ⟨x.es.drop (i + 1), by simp only [partL, kidL, List.append_nil, toL]; exact split_at hy⟩
 | succ h =>
  have h3 := hb.2.2.1
  obtain ⟨c, hc⟩ : ∃ c, x.cs[i]? = some c := ⟨_, List.getElem?_eq_getElem (by omega)⟩
  obtain ⟨d, hd⟩ : ∃ d, x.cs[i + 1]? = some d := ⟨_, List.getElem?_eq_getElem (by omega)⟩
  obtain ⟨t1, t2, t3⟩ := two_at hc hd hy
  refine ⟨toL h d ++ post (toL h) (x.es.drop (i + 1)) (x.cs.drop (i + 2)), ?_⟩
  simp only [partL, kidL, hc]
  conv => lhs; rw [← T.eta x, t1, t2]
  rw [toL_two h _ _ _ _ _ _ _ t3]
  simp
theorem part_end {o h lo hi : Nat} {x : T κ ν} (hb : Body o h lo hi x) : toL h x = partL h x x.es.length ++ kidL h x x.es.length := by
 cases h with
 | zero => simp [partL, kidL, toL]
 | succ h =>
  have h3 := hb.2.2.1
  obtain ⟨es, cs⟩ := x
  simp only [es_node, cs_node] at h3
  obtain ⟨C, c, rfl⟩ := snoc_of (ne_nil (l := cs) (by omega))
  have hl : es.length = C.length := by simp at h3; omega
  rw [toL_last h _ _ _ hl]
  have e1 : (C ++ [c])[es.length]? = some c := by rw [hl]; simp
  have e2 : (C ++ [c]).take es.length = C := by rw [hl]; simp
  simp only [partL, kidL, es_node, cs_node, e1, e2, List.take_length]
end
section
variable {κ ν : Type} [KOrd κ]
def inR (lo hi : Option κ) (e : κ × ν) : Bool := (match lo with | none => true | some k => !decide (ltK e.1 k)) && (match hi with | none => true | some k => decide (ltK e.1 k))
def selM (lo hi : Option κ) (l : M κ ν) : M κ ν := l.filter (inR lo hi)
theorem selM_append (lo hi : Option κ) (l m : M κ ν) : selM lo hi (l ++ m) = selM lo hi l ++ selM lo hi m := List.filter_append _ _
theorem selM_all (l : M κ ν) : selM none none l = l := by
 unfold selM
 rw [List.filter_eq_self]
 intro a _
 rfl
def startI (lo : Option κ) (es : M κ ν) : Nat := match lo with | none => 0 | some k => posK es k
theorem startI_le (lo : Option κ) (es : M κ ν) : startI lo es ≤ es.length := by
 unfold startI
 cases lo with
 | none => exact Nat.zero_le _
 | some k => exact posK_le es k
theorem posK_ge {es : M κ ν} (ha : AscM es) {k : κ} {i : Nat} (h : posK es k ≤ i) {y : κ × ν} (hy : es[i]? = some y) : ¬ ltK y.1 k := by
 obtain ⟨hi, hy'⟩ := List.getElem?_eq_some_iff.1 hy
 have hp : posK es k < es.length := by omega
 have h0 := posK_head (es := es) (k := k) (List.drop_eq_getElem_cons hp)
 by_cases e : posK es k = i
 · subst e; rw [← hy']; exact h0
 · intro hlt
   apply h0
   have := (List.pairwise_iff_getElem.1 ha) (posK es k) i hp hi (by omega)
   rw [hy'] at this
   exact ltK_trans this hlt
theorem sel_start {o h lob hib : Nat} {x : T κ ν} (hb : Body o h lob hib x) (ha : AscM (toL h x)) (lo hi : Option κ) : selM lo hi (partL h x (startI lo x.es)) = [] := by
 cases lo with
 | none => rw [show startI none x.es = 0 from rfl, part_zero]; rfl
 | some k =>
  have hle := posK_le x.es k
  have hall : AllLt (partL h x (posK x.es k)) k := by
   cases h with
   | zero => exact posK_lt x.es k
   | succ h =>
    refine pre_lt (posK_lt x.es k) ?_
    have h3 := hb.2.2.1
    obtain ⟨c, hc⟩ : ∃ c, x.cs[posK x.es k]? = some c := ⟨_, List.getElem?_eq_getElem (by omega)⟩
    have hl1 : (x.es.take (posK x.es k)).length = (x.cs.take (posK x.es k)).length := by simp; omega
    have hxe : toL (h + 1) x = pre (toL h) (x.es.take (posK x.es k)) (x.cs.take (posK x.es k)) ++ toL h c ++ post (toL h) (x.es.drop (posK x.es k)) (x.cs.drop (posK x.es k + 1)) := by
     rw [← toL_split h _ _ _ _ _ hl1, List.take_append_drop, ← split_at hc, T.eta]
    rw [hxe] at ha
    exact (AscM.append.1 (AscM.append.1 ha).1).1
  unfold selM
  rw [List.filter_eq_nil_iff]
  intro a ha'
  have := hall a ha'
  simp [inR, this]
theorem sel_stop {l : M κ ν} {y : κ × ν} {rest : M κ ν} (ha : AscM (l ++ y :: rest)) {lo : Option κ} {k : κ} (hk : ¬ ltK y.1 k) : selM lo (some k) (l ++ y :: rest) = selM lo (some k) l := by
 obtain ⟨_, _, _, h4, _⟩ := ha.mid
 rw [selM_append]
 have : selM lo (some k) (y :: rest) = [] := by
  unfold selM
  rw [List.filter_eq_nil_iff]
  intro a hm
  have hn : ¬ ltK a.1 k := by
   rcases List.mem_cons.1 hm with rfl | hm
   · exact hk
   · exact fun h => hk (ltK_trans (h4 a hm) h)
  simp [inR, hn]
 rw [this, List.append_nil]
theorem sel_take {es : M κ ν} (ha : AscM es) {lo hi : Option κ} {i : Nat} (h : startI lo es ≤ i) {y : κ × ν} (hy : es[i]? = some y) (hh : ∀ k, hi = some k → ltK y.1 k) : selM lo hi [y] = [y] := by
 have h1 : inR lo hi y = true := by
  unfold inR
  cases lo with
  | none =>
   cases hi with
   | none => rfl
   | some k => simp [hh k rfl]
  | some k0 =>
   have := posK_ge ha (show posK es k0 ≤ i from h) hy
   cases hi with
   | none => simp [this]
   | some k => simp [this, hh k rfl]
 unfold selM
 rw [List.filter_cons, if_pos h1]
 rfl
end
end Go.Proofs.YtnefkkidfhmggaaGreat
/- collect at trees. -/
namespace Go.Proofs.YtnefkkidfhmggaaGreat
open Go Go.RowKit
variable {β : Bool}
def entsV (l : MM) : List Value := l.flatMap fun e => [encK e.1, encV e.2]
def entA (β : Bool) (v : Value) (l : MM) : Asn := rowA (tE β) 2 v l.length (entsV l)
theorem entsV_snoc (l : MM) (e : Ky × Va) : entsV (l ++ [e]) = entsV l ++ [encK e.1, encV e.2] := by simp [entsV]
def optP (b : Nat) : Option Ky → Value
 | none => .pointer none
 | some _ => .pointer (some ⟨b, 0, none⟩)
def optB (β : Bool) (b : Nat) : Option Ky → Asn
 | none => emp
 | some k => blkA b (tK β) #[encK k]
/-- What collect promises. -/
def ColT (β : Bool) (lo hi : Option Ky) (lb hb h : Nat) (x : TT) (b : Nat) : Prop := ∀ (v0 : Value) (l : MM) (w0 w : World) (fp0 : List Nat) (R : List Asn), l.length + (toL h x).length + 1 < 1099511627776 → St w0 fp0 ([entA β v0 l, treeA β h x b, optB β lb lo, optB β hb hi] ++ R) w →
 Calls Tryz.prog (fCollect β) #[ptrV b, v0, optP lb lo, optP hb hi] w fun e w' => ∃ a n c, e = .returned (.slice a n c) ∧ St w0 fp0 ([entA β (.slice a n c) (l ++ selM lo hi (toL h x)), treeA β h x b, optB β lb lo, optB β hb hi] ++ R) w'
theorem part_len {o h lo hi : Nat} {x : TT} (hb : Body o h lo hi x) {i : Nat} (hi' : i ≤ x.es.length) : (partL h x i).length + (kidL h x i).length ≤ (toL h x).length := by
 by_cases e : i < x.es.length
 · obtain ⟨rest, hr⟩ := part_rest hb (List.getElem?_eq_getElem e)
   rw [hr]
   simp only [List.length_append]
   omega
 · have e2 : i = x.es.length := by omega
   rw [part_end hb, e2, List.length_append]
   exact Nat.le_refl _
theorem col_loop {o h : Nat} (ho' : o ≤ 1024) (x : TT) (b : Nat) (lo hi : Option Ky) (lb hb : Nat) (hokh : ∀ k, hi = some k → k.ok β) (l : MM) (lob : Nat) (hbd : Body o h lob (o - 1) x) (ha : AscM (toL h x)) (hok : OkL β (toL h x)) (hlen : l.length + (toL h x).length + 1 < 1099511627776) (bs : List Nat) (hl : bs.length = x.cs.length) (ks vs ps : Value) (w0 : World) (fp0 : List Nat) (R : List Asn)
 (HREC : ∀ (h' i : Nat) (c : TT) (cb : Nat), h = h' + 1 → x.cs[i]? = some c → bs[i]? = some cb → ColT β lo hi lb hb h' c cb) (Q : Exit → Act → World → Prop)
 (hQ : ∀ (v1 : Value) (A : Act) (w : World), Knows 88 A [(8, v1)] → St w0 fp0 ([entA β v1 (l ++ selM lo hi (toL h x)), blkA b (tN β) #[ks, vs, ps], slA (tK β) ks (keysV x.es), slA (tV β) vs (valsV x.es), slA (tP β) ps (bs.map ptrV), starA (List.zipWith (kidA β h) x.cs bs), optB β lb lo, optB β hb hi] ++ R) w → Q .ret A w) :
 ∀ (g i : Nat) (v0 : Value) (A : Act) (w : World), g + i = x.es.length → startI lo x.es ≤ i → Knows 88 A [(0, .pointer (some ⟨b, 0, none⟩)), (1, v0), (2, optP lb lo), (3, optP hb hi), (9, .int .i64 i)] →
  St w0 fp0 ([entA β v0 (l ++ selM lo hi (partL h x i)), blkA b (tN β) #[ks, vs, ps], slA (tK β) ks (keysV x.es), slA (tV β) vs (valsV x.es), slA (tP β) ps (bs.map ptrV), starA (List.zipWith (kidA β h) x.cs bs), optB β lb lo, optB β hb hi] ++ R) w →
  Code.rounds Tryz.prog (cbody (cbody (cfst (csnd (csnd (csnd (bodyC (BCollect β)))))))) Q (g + 1) A w
 | g, i, v0, A, w, hg, hsi, K, hS => by
  rw [rounds_succ]
  obtain ⟨_, q1⟩ := hS.has 2 rfl
  obtain ⟨_, q3⟩ := hS.has 4 rfl
  obtain ⟨ak, ck, rfl, -⟩ := sl_get q1
  obtain ⟨pa, pc, rfl, -⟩ := sl_get q3
  have hes : x.es.length ≤ 1023 := by have := hbd.hi; omega
  have hae : AscM x.es := asc_es ha
  obtain ⟨y, hy, hyo⟩ : ∃ y : Ky × Va, (i < x.es.length → x.es[i]? = some y) ∧ ∀ kh, hi = some kh → y.1.ok β := by
   by_cases e : i < x.es.length
   · exact ⟨x.es[i], fun _ => List.getElem?_eq_getElem e, fun _ _ => hok.es _ (List.getElem_mem e)⟩
   · cases hi with
     | none => exact ⟨(.int 0, .int 0), fun h => absurd h e, fun _ h => nomatch h⟩
     | some kh => exact ⟨(kh, .int 0), fun h => absurd h e, fun _ _ => hokh kh rfl⟩
  obtain ⟨r, hr⟩ : ∃ r : Int, ∀ kh, hi = some kh → r = KOrd.cmp y.1 kh := by
   cases hi with
   | none => exact ⟨0, fun _ h => nomatch h⟩
   | some kh => exact ⟨KOrd.cmp y.1 kh, fun _ e => by cases e; rfl⟩
  obtain ⟨hh, hhh⟩ : ∃ hh : Value, ∀ kh, hi = some kh → hh = encK kh := by
   cases hi with
   | none => exact ⟨.int .i64 0, fun _ h => nomatch h⟩
   | some kh => exact ⟨encK kh, fun _ e => by cases e; rfl⟩
  obtain ⟨cb, hcb⟩ : ∃ cb, bs.length ≠ 0 → bs[i]? = some cb := by
   by_cases h0 : bs.length = 0
   · exact ⟨0, fun hh => absurd h0 hh⟩
   · have : i < bs.length := by
      rcases hbd.kids with ⟨_, e⟩ | ⟨_, _, e, _⟩
      · rw [hl, e] at h0; exact absurd rfl h0
      · omega
     exact ⟨_, fun _ => List.getElem?_eq_getElem this⟩
  have hpl := part_len hbd (i := i) (by omega)
  have hsl : (l ++ selM lo hi (partL h x i ++ kidL h x i)).length ≤ l.length + (toL h x).length := by
   rw [List.length_append]
   have : (selM lo hi (partL h x i ++ kidL h x i)).length ≤ (partL h x i ++ kidL h x i).length := List.length_filter_le _ _
   rw [List.length_append] at this
   omega
  have hbl : bs.length ≤ 1025 := by
   rcases hbd.kids with ⟨_, e⟩ | ⟨_, _, e, _⟩
   · rw [hl, e]; simp
   · omega
  refine col_round β b i _ ck _ pc cb _ (l ++ selM lo hi (partL h x i ++ kidL h x i)).length vs v0 (optP lb lo) (optP hb hi) hh r y.1 y.2 ak pa (keysV x.es) (valsV x.es) (bs.map ptrV) _ (entsV (l ++ selM lo hi (partL h x i ++ kidL h x i))) _ (optB β lb lo) (optB β hb hi) rfl (by rw [keysV_length, valsV_length]) (by rw [keysV_length]; omega) rfl (by rw [List.length_map]; omega) (by omega) (by rw [keysV_length]; omega)
   (fun e => by rw [keysV_length] at e; simp [keysV, hy e]) (fun e => by rw [keysV_length] at e; simp [valsV, hy e]) (fun e => by rw [List.length_map] at e; rw [List.getElem?_map, hcb e]; rfl)
   (fun e => ?_) (fun e w0 fp0 R w hs => ?_) ?_ (fun e w => ?_) w0 w fp0 R A _ (fun hst v1 A w' K' h2 => ?_) (fun hin hgo v2 A w' K' h2 => ?_) K hS
  · rw [List.length_map] at e
    have hk : kidL h x i = [] := by
     rcases hbd.kids with ⟨rfl, _⟩ | ⟨_, rfl, e2, _⟩
     · rfl
     · omega
    rw [hk, List.append_nil]
    exact ⟨rfl, rfl⟩
  · rw [List.length_map] at e
    rcases hbd.kids with ⟨_, e2⟩ | ⟨h', rfl, e2, hk⟩
    · rw [hl, e2] at e; exact absurd rfl e
    · obtain ⟨c, hc⟩ : ∃ c, x.cs[i]? = some c := ⟨_, List.getElem?_eq_getElem (by omega)⟩
      have hkl : kidL (h' + 1) x i = toL h' c := by simp only [kidL, hc]
      rw [hkl] at hpl
      have hpf : (selM lo hi (partL (h' + 1) x i)).length ≤ (partL (h' + 1) x i).length := List.length_filter_le _ _
      have h3 := (St.kidout hl hc (hcb e)).1 (St_re (L := [_, _, _, _]) hs [1, 0, 2, 3] [] (by kernel_rfl))
      refine (HREC h' i c cb rfl hc (hcb e) v0 (l ++ selM lo hi (partL (h' + 1) x i)) w0 w fp0 (restA β h' i (i + 1) x.cs bs :: R) (by rw [List.length_append]; omega) (St_re (L := [_, _, _, _, _]) h3 [2, 0, 3, 4, 1] [] (by kernel_rfl))).mono fun e9 w' ⟨a, n, c', h4, h5⟩ => ⟨a, n, c', h4, ?_⟩
      rw [hkl, selM_append, ← List.append_assoc]
      have h6 := (St.kidout hl hc (hcb e)).2 (St_re (L := [_, _, _, _, _]) h5 [1, 4, 0, 2, 3] [] (by kernel_rfl))
      exact St_re (L := [_, _, _, _]) h6 [1, 0, 2, 3] [] (by kernel_rfl)
  · cases hi with
    | none => exact .inl rfl
    | some kh => exact .inr ⟨hb, rfl, by rw [hhh kh rfl]; rfl⟩
  · cases hi with
    | none => exact absurd rfl e
    | some kh =>
     rw [hhh kh rfl, hr kh rfl]
     exact (cmp_calls β y.1 kh (hyo kh rfl) (hokh kh rfl) w).mono fun e w' ⟨h1, h2⟩ => ⟨h1, h2 ▸ Below.refl _ _⟩
  · refine hQ v1 A w' K' ?_
    have hE : l ++ selM lo hi (partL h x i ++ kidL h x i) = l ++ selM lo hi (toL h x) := by
     rw [keysV_length] at hst
     rcases hst with e | ⟨e, e2, e3⟩
     · rw [part_end hbd, ← e]
     · cases hi with
       | none => exact absurd rfl e2
       | some kh =>
        obtain ⟨rest, hr2⟩ := part_rest hbd (hy e)
        rw [hr kh rfl] at e3
        rw [hr2] at ha ⊢
        rw [sel_stop ha (fun hlt => by have hlt2 : KOrd.cmp y.1 kh < 0 := hlt; omega)]
    rw [hE] at h2
    exact h2
  · rw [keysV_length] at hin
    obtain ⟨g', rfl⟩ : ∃ g', g = g' + 1 := ⟨g - 1, by omega⟩
    refine col_loop ho' x b lo hi lb hb hokh l lob hbd ha hok hlen bs hl _ vs _ w0 fp0 R HREC Q hQ g' (i + 1) v2 A w' (by omega) (by omega) K' ?_
    have hE : l ++ selM lo hi (partL h x (i + 1)) = (l ++ selM lo hi (partL h x i ++ kidL h x i)) ++ [y] := by
     rw [part_succ hbd (hy hin), selM_append, ← List.append_assoc]
     congr 1
     refine sel_take hae hsi (hy hin) fun kh e => ?_
     subst e
     rcases hgo with e2 | ⟨_, e3⟩
     · exact absurd e2 (by simp [optP])
     · have := hr kh rfl
       rw [this] at e3
       exact e3
    rw [hE]
    unfold entA
    rw [entsV_snoc, List.length_append]
    exact h2
theorem lpCo (β : Bool) : isBlk (cfst (csnd (csnd (csnd (bodyC (BCollect β)))))) = true ∧ isLoop (cbody (cfst (csnd (csnd (csnd (bodyC (BCollect β))))))) = true := by cases β <;> exact ⟨kr (by kernel_rfl), kr (by kernel_rfl)⟩
/-- **collect**. -/
theorem collect_calls {o : Nat} (ho' : o ≤ 1024) (lo hi : Option Ky) (lb hb : Nat) (hokl : ∀ k, lo = some k → k.ok β) (hokh : ∀ k, hi = some k → k.ok β) : ∀ (h lob : Nat) (x : TT) (b : Nat), Body o h lob (o - 1) x → AscM (toL h x) → OkL β (toL h x) → ColT β lo hi lb hb h x b
 | h, lob, x, b, hbd, ha, hok => by
  intro v0 l w0 w fp0 R hlen hS
  obtain ⟨p1, p2⟩ := lpCo β
  have hes : x.es.length ≤ o - 1 := hbd.hi
  have hae : AscM x.es := asc_es ha
  obtain ⟨ks, vs, ps, bs, hl, h1⟩ := St.openNT (St_re (L := [_, _, _, _]) hS [1, 0, 2, 3] [] (by kernel_rfl))
  have h2 := St_re (L := [_, _, _, _, _, _, _, _]) h1 [0, 1, 6] [5, 2, 3, 4, 7] (by kernel_rfl)
  obtain ⟨kk, q, hkq⟩ : ∃ (kk : Value) (q : Bool), ∀ k, lo = some k → kk = encK k ∧ q = hasK x.es k := by
   cases lo with
   | none => exact ⟨.int .i64 0, false, fun _ h => nomatch h⟩
   | some k => exact ⟨encK k, hasK x.es k, fun _ e => by cases e; exact ⟨rfl, rfl⟩⟩
  refine col_flat β b (startI lo x.es) lb ks vs ps v0 (optP lb lo) (optP hb hi) kk q (keysV x.es) (optB β lb lo) emp (fun _ => pureA False) ?_ (fun hne => ?_) w0 w fp0 _ _ (fun Q A w K S hQn hQr => ?_) (fun v1 w' h3 => absurd (St.pure.1 h3).1 id) (St_re (L := [_, _, _, _]) (St.emp.2 h2) [1, 2, 3, 0] [] (by kernel_rfl))
  · cases lo with
    | none => exact .inl ⟨rfl, rfl⟩
    | some k => exact .inr ⟨rfl, by rw [(hkq k rfl).1]; rfl⟩
  · cases lo with
    | none => exact absurd rfl hne
    | some k =>
     obtain ⟨rfl, rfl⟩ := hkq k rfl
     exact fun w fp fp' hbk hkk' => find_calls b ks vs _ x.es k hok.es (hokl k rfl) w hbk ⟨_, hkk'⟩ hae (by omega)
  · refine wp_blkT p1 (wp_loopT (x.es.length - startI lo x.es + 1) p2 (col_loop ho' x b lo hi lb hb hokh l lob hbd ha hok hlen bs hl ks vs ps w0 fp0 R ?_ _ (fun v1 A w' K' h3 => ?_) _ (startI lo x.es) v0 A w (by have := startI_le lo x.es; omega) (Nat.le_refl _) K ?_))
    · intro h' i c cb e hc hcb
      subst e
      obtain ⟨_, _, k3, k4⟩ := hbd
      exact collect_calls ho' lo hi lb hb hokl hokh h' _ c cb (k4 c (List.mem_of_getElem? hc)) (asc_kid1 k3 hc ha) (hok.kid k3 hc)
    · refine hQr v1 A w' K' ?_
      obtain ⟨_, hr⟩ := h3.has 0 rfl
      obtain ⟨a, c, rfl, _⟩ := row_shape hr
      refine ⟨a, _, c, rfl, ?_⟩
      have h4 := St.shutNT (es := x.es) (cs := x.cs) (bs := bs) (ks := ks) (vs := vs) (ps := ps) hl (St_re (L := [_, _, _, _, _, _, _, _]) h3 [1, 2, 3, 4, 5, 0, 6, 7] [] (by kernel_rfl))
      rw [T.eta] at h4
      exact St_re (L := [_, _, _, _]) h4 [1, 0, 2, 3] [] (by kernel_rfl)
    · rw [sel_start hbd ha, List.append_nil]
      exact St_re (L := [_, _, _, _, _, _, _, _]) (St.emp.1 (St_re (L := [_, _, _, _]) S [3, 0, 1, 2] [] (by kernel_rfl))) [3, 0, 1, 4, 5, 6, 2, 7] [] (by kernel_rfl)
end Go.Proofs.YtnefkkidfhmggaaGreat
/- between's iterator, over both trees. -/
namespace Go.Proofs.YtnefkkidfhmggaaGreat
open Go Go.RowKit
def tTP (β : Bool) : Nat := match β with | false => 116 | true => 95
def tKP (β : Bool) : Nat := match β with | false => 202 | true => 146
noncomputable def gBt0 (β : Bool) (bt bl bh tb rb N : Nat) (pl ph oo nn : Value) (X1 : Value → Asn) (T0 OL OH : Asn) (w0 : World) (fp0 : List Nat) (R : List Asn) : Rg where
 P := Tryz.prog
 ops := opsR (BBetw1 β) 0
 nt := 27
 ks := [7, 8, 9, 10, 11, 12, 13, 14, 15]
 inp := [(1, .pointer (some ⟨bt, 0, none⟩)), (2, .pointer (some ⟨bl, 0, none⟩)), (3, .pointer (some ⟨bh, 0, none⟩))]
 vals := [.is 0 7 (.pointer (some ⟨tb, 0, none⟩)), .is 1 8 (.pointer (some ⟨tb, 0, none⟩)), .is 2 9 (.pointer (some ⟨tb, 0, none⟩)), .is 3 10 (.pointer (some ⟨rb, 0, none⟩)), .is 4 11 (pl), .is 5 12 (ph), ⟨6, 13, [13], fun g => .slice (sa (g 13)) N (sc (g 13))⟩, .is 7 14 (.int .i64 N), .is 8 15 (.int .i64 ((0 : Nat) : Int))]
 pcs := [.gen [6] [13] fun L g => match L 6 with | true => X1 (g 13) | false => emp, .blk bt (tTP β) [⟨.pointer (some ⟨tb, 0, none⟩), []⟩], .blk bl (tKP β) [⟨pl, []⟩], .blk bh (tKP β) [⟨ph, []⟩], .blk tb (tT β) [⟨.pointer (some ⟨rb, 0, none⟩), []⟩, ⟨oo, []⟩, ⟨nn, []⟩], .all (T0), .all (OL), .all (OH)]
 w0 := w0
 fp0 := fp0
 R := R
set_option maxRecDepth 100000 in
theorem obBt0 (β : Bool) (bt bl bh tb rb N : Nat) (pl ph oo nn : Value) (X1 : Value → Asn) (T0 OL OH : Asn) (hrec : ∀ (w0 : World) (fp0 : List Nat) (R : List Asn) (w : World), St w0 fp0 ([T0, OL, OH] ++ R) w → Calls Tryz.prog (fCollect β) #[ptrV rb, .slice none 0 0, pl, ph] w fun e w' => ∃ v a c, v = .slice a N c ∧ e = .returned v ∧ St w0 fp0 ([X1 v, T0, OL, OH] ++ R) w') (w0 : World) (fp0 : List Nat) (R : List Asn) : (gBt0 β bt bl bh tb rb N pl ph oo nn X1 T0 OL OH w0 fp0 R).Ok 9 := by
 have h6 : ∀ w, St w0 fp0 ([emp, blkA bt (tTP β) #[.pointer (some ⟨tb, 0, none⟩)], blkA bl (tKP β) #[pl], blkA bh (tKP β) #[ph], blkA tb (tT β) #[.pointer (some ⟨rb, 0, none⟩), oo, nn], T0, OL, OH] ++ R) w → Calls Tryz.prog (fCollect β) #[ptrV rb, .slice none 0 0, pl, ph] w fun e w' => ∃ v a c, v = .slice a N c ∧ e = .returned v ∧ St w0 fp0 ([X1 v, blkA bt (tTP β) #[.pointer (some ⟨tb, 0, none⟩)], blkA bl (tKP β) #[pl], blkA bh (tKP β) #[ph], blkA tb (tT β) #[.pointer (some ⟨rb, 0, none⟩), oo, nn], T0, OL, OH] ++ R) w' := fun w h => (hrec _ _ _ w (St_re (L := [_, _, _, _, _, _, _]) (St.emp.1 h) [4, 5, 6] [0, 1, 2, 3] (by kernel_rfl))).mono fun e w' ⟨v, a, c, h0, h1, h2⟩ => ⟨v, a, c, h0, h1, St_re (L := [_, _, _, _, _, _, _, _]) h2 [0, 4, 5, 6, 7, 1, 2, 3] [] (by kernel_rfl)⟩
 cases β <;> exact ⟨kr (by kernel_rfl), kr (by kernel_rfl), .load _ 0 1 0, .pure _ 1, .pure _ 2, .load _ 3 4 0, .load _ 4 2 0, .load _ 5 3 0, .callN _ 6 N _ _ h6, .pure _ 7, .pure _ 8, trivial⟩
end Go.Proofs.YtnefkkidfhmggaaGreat
/- between's iterator at trees. -/
namespace Go.Proofs.YtnefkkidfhmggaaGreat
open Go Go.RowKit
variable {β : Bool}
theorem entsV_at (l : MM) (i : Nat) (h : i < l.length) : (entsV l)[i * 2]? = some (encK l[i].1) ∧ (entsV l)[i * 2 + 1]? = some (encV l[i].2) := by
 induction l generalizing i with
 | nil => simp at h
 | cons x l ih =>
  have e : entsV (x :: l) = encK x.1 :: encV x.2 :: entsV l := rfl
  cases i with
  | zero => exact ⟨rfl, rfl⟩
  | succ i =>
   have := ih i (by simpa using h)
   rw [e, show (i + 1) * 2 = i * 2 + 1 + 1 by omega, show i * 2 + 1 + 1 + 1 = (i * 2 + 1) + 1 + 1 by omega]
   simpa using this
/-- What the iterator reads when it starts. -/
def betL (β : Bool) (o h : Nat) (l : MM) (tb bt bl bh lb hb : Nat) (lo hi : Option Ky) : List Asn :=
 [objA β o h l tb, blkA bt (tTP β) #[.pointer (some ⟨tb, 0, none⟩)], blkA bl (tKP β) #[optP lb lo], blkA bh (tKP β) #[optP hb hi], optB β lb lo, optB β hb hi]
set_option maxHeartbeats 4000000 in
theorem betw1_seq {o h : Nat} (ho' : o ≤ 1024) (lo hi : Option Ky) (lb hb : Nat) (hokl : ∀ k, lo = some k → k.ok β) (hokh : ∀ k, hi = some k → k.ok β) (l : MM) (hok : OkL β l) (tb bt bl bh : Nat) (hlen : l.length + 1 < 1099511627776) (n : Nat) :
 SeqSt n Tryz.prog (fBetw1 β) #[.pointer (some ⟨bt, 0, none⟩), .pointer (some ⟨bl, 0, none⟩), .pointer (some ⟨bh, 0, none⟩)] (fun e : Ky × Va => #[encK e.1, encV e.2]) (selM lo hi l) (betL β o h l tb bt bl bh lb hb lo hi) := by
 intro y R J Jx w0 fp0 W hS h0 hY
 refine callsIn_wide.2 ?_
 obtain ⟨x, rb, hg, hS1⟩ := St.openOT (show St w0 fp0 (objA β o h l tb :: (blkA bt (tTP β) #[.pointer (some ⟨tb, 0, none⟩)] :: blkA bl (tKP β) #[optP lb lo] :: blkA bh (tKP β) #[optP hb hi] :: optB β lb lo :: optB β hb hi :: R)) W from hS)
 obtain ⟨g1, g2, g3⟩ := hg
 have hsel : (selM lo hi l).length < 1099511627776 := Nat.lt_of_le_of_lt (List.length_filter_le _ _) (by omega)
 obtain ⟨sel, hsl⟩ : ∃ sel, selM lo hi l = sel := ⟨_, rfl⟩
 have hcol := collect_calls (β := β) ho' lo hi lb hb hokl hokh h _ x rb g1 g2 (by rw [g3]; exact hok)
 have HREG := Lib.hid (obBt0 β bt bl bh tb rb sel.length (optP lb lo) (optP hb hi) (.int .i64 o) (.int .i64 l.length) (fun v => entA β v sel) (treeA β h x rb) (optB β lb lo) (optB β hb hi) (fun w0 fp0 R w hs => by
  refine (hcol (.slice none 0 0) [] w0 w fp0 R (by rw [g3]; simp; omega) (St.nilR (tE β) 2 hs)).mono fun e w' ⟨a, n, c, h1, h2⟩ => ?_
  rw [g3, List.nil_append, hsl] at h2
  obtain ⟨_, hr⟩ := h2.has 0 rfl
  obtain ⟨a', c', e1, _⟩ := row_shape hr
  obtain ⟨rfl, rfl, rfl⟩ := Value.slice.inj e1
  exact ⟨_, _, _, rfl, h1, h2⟩) w0 fp0 R)
 have HS1 := Lib.hid (St.emp.2 (St_re (L := [_, _, _, _, _, _, _]) hS1 [2, 3, 4, 1, 0, 5, 6] [] (by kernel_rfl)))
 have H0 : RowKit.Hid (∀ v W, St w0 fp0 ([entA β v sel, blkA bt (tTP β) #[.pointer (some ⟨tb, 0, none⟩)], blkA bl (tKP β) #[optP lb lo], blkA bh (tKP β) #[optP hb hi], blkA tb (tT β) #[.pointer (some ⟨rb, 0, none⟩), .int .i64 o, .int .i64 l.length], treeA β h x rb, optB β lb lo, optB β hb hi] ++ R) W → St w0 fp0 (J [] ++ [entA β v sel]) W) := by
  intro v W hs
  refine h0 _ _ ?_
  have h1 := St.shutOT ⟨g1, g2, g3⟩ (St_re (L := [_, _, _, _, _, _, _, _]) hs [5, 4, 1, 2, 3, 6, 7, 0] [] (by kernel_rfl))
  have h2 := St_re (L := [_, _, _, _, _, _, _]) h1 [6, 0, 1, 2, 3, 4, 5] [] (by kernel_rfl)
  exact St.comm (A := [entA β v sel]) h2
 have HOK : RowKit.Hid (∀ e ∈ sel, e.1.ok β) := by
  intro e he
  rw [← hsl] at he
  exact hok e (List.mem_filter.1 he).1
 have HY := Lib.hid hY
 rw [hsl] at HY hsel ⊢
 clear hS hS1 g1 g2 g3 hlen ho' hsl hY h0 hcol hokl hokh hok
 have HW : RowKit.Hid (∀ (c : Code) (a : Act) (Q : Exit → Act → World → Prop), isReg c = true → cops c = opsR (BBetw1 β) 0 → a.tmps.size = 27 → a.defers = [] → a.eval (.tmp 1) = .pointer (some ⟨bt, 0, none⟩) → a.eval (.tmp 2) = .pointer (some ⟨bl, 0, none⟩) → a.eval (.tmp 3) = .pointer (some ⟨bh, 0, none⟩) →
  (∀ (u7 u8 u9 u10 u11 u12 : Value) (ga : Option Addr) (gc : Nat) (w1 : World), St w0 fp0 (J [] ++ [entA β (.slice ga sel.length gc) sel]) w1 → Q .normal (putL a [(7, u7), (8, u8), (9, u9), (10, u10), (11, u11), (12, u12), (13, .slice ga sel.length gc), (14, .int .i64 sel.length), (15, .int .i64 0)]) w1) → c.wp Tryz.prog Q a W) := by
  intro c a Q c1 c2 c3 c4 c5 c6 c7 hQ
  refine wp_regT HREG.out (by kernel_rfl) ⟨c1, c2⟩ ⟨c3, c4, fun p hp => ?_⟩ HS1.out fun A1 w1 N1 H1 => ?_
  · simp only [gBt0, List.map_nil, List.append_nil, List.mem_cons, List.not_mem_nil, or_false] at hp
    rcases hp with rfl | rfl | rfl
    · exact c5
    · exact c6
    · exact c7
  have e13 : slots A1 13 = .slice (sa (slots A1 13)) sel.length (sc (slots A1 13)) := N1.val 6 rfl
  have e14 : slots A1 14 = .int .i64 sel.length := N1.val 7 rfl
  have e15 : slots A1 15 = .int .i64 0 := N1.val 8 rfl
  have H1' : St w0 fp0 ([entA β (slots A1 13) sel, blkA bt (tTP β) #[.pointer (some ⟨tb, 0, none⟩)], blkA bl (tKP β) #[optP lb lo], blkA bh (tKP β) #[optP hb hi], blkA tb (tT β) #[.pointer (some ⟨rb, 0, none⟩), .int .i64 o, .int .i64 l.length], treeA β h x rb, optB β lb lo, optB β hb hi] ++ R) w1 := H1
  have h2 := H0.out _ _ H1'
  rw [e13] at h2
  have := hQ (slots A1 7) (slots A1 8) (slots A1 9) (slots A1 10) (slots A1 11) (slots A1 12) _ _ w1 h2
  rw [← e13, ← e14, ← e15] at this
  rw [show A1 = putL a [(7, slots A1 7), (8, slots A1 8), (9, slots A1 9), (10, slots A1 10), (11, slots A1 11), (12, slots A1 12), (13, slots A1 13), (14, slots A1 14), (15, slots A1 15)] from N1.frame.eq]
  exact this
 clear HREG HS1 H0
 obtain ⟨E, hE⟩ : ∃ E : Value → Asn, (fun v => entA β v sel) = E := ⟨_, rfl⟩
 have HROW : RowKit.Hid (∀ v w f, (E v).p w f → ∃ a c, v = .slice a sel.length c ∧ ∀ i, i < sel.length * 2 → ∃ g, a = some ⟨g, 0, none⟩ ∧ g < w.heap.size ∧ w.cell? ⟨g, i, none⟩ = (entsV sel)[i]? ∧ ∀ j, w.frozen? ⟨g, j, none⟩ = false) := by
  intro v w f hf
  rw [← hE] at hf
  obtain ⟨a, c, e1, -, -, e2⟩ := row_shape (show (rowA (tE β) 2 v sel.length (entsV sel)).p w f from hf)
  exact ⟨a, c, e1, e2⟩
 replace HW : RowKit.Hid (∀ (c : Code) (a : Act) (Q : Exit → Act → World → Prop), isReg c = true → cops c = opsR (BBetw1 β) 0 → a.tmps.size = 27 → a.defers = [] → a.eval (.tmp 1) = .pointer (some ⟨bt, 0, none⟩) → a.eval (.tmp 2) = .pointer (some ⟨bl, 0, none⟩) → a.eval (.tmp 3) = .pointer (some ⟨bh, 0, none⟩) →
  (∀ (u7 u8 u9 u10 u11 u12 : Value) (ga : Option Addr) (gc : Nat) (w1 : World), St w0 fp0 (J [] ++ [E (.slice ga sel.length gc)]) w1 → Q .normal (putL a [(7, u7), (8, u8), (9, u9), (10, u10), (11, u11), (12, u12), (13, .slice ga sel.length gc), (14, .int .i64 sel.length), (15, .int .i64 0)]) w1) → c.wp Tryz.prog Q a W) := by
  rw [← hE]
  exact HW
 clear hE HOK
 cases β
 case' false => go_enter Tryz.func137, Tryz.ntmps137
 case' true => go_enter Tryz.func110, Tryz.ntmps110
 all_goals
  go_upto_region 0 with (fail)
  refine HW.out _ _ _ rfl (by kernel_rfl) rfl rfl rfl rfl rfl fun u7 u8 u9 u10 u11 u12 ga gc w1 h2 => ?_
  have H2 := Lib.hid h2
  clear h2 HW
  simp only [putL, List.foldl, Act.put, List.setIfInBounds_toArray, List.set_cons_succ, List.set_cons_zero]
  obtain ⟨N, hN⟩ : ∃ N, sel.length = N := ⟨_, rfl⟩
  have HN := Lib.hid hN
  rw [hN] at H2 hsel HROW ⊢
  clear hN
  go_wp2
  go_loopg [15] N (fun g z wr => ∃ k : Nat, z = .int .i64 k ∧ g + k = N ∧ RowKit.Hid (∃ pre rest, sel = pre ++ rest ∧ pre.length = k ∧ St w0 fp0 (J pre ++ [E (.slice ga N gc)]) wr))
  case atStart => exact ⟨0, rfl, rfl, ⟨[], sel, rfl, rfl, H2.out⟩⟩
  case round =>
   obtain ⟨k, rfl, hgk, Hr⟩ := hrel
   by_cases hk : k < N
   · obtain ⟨pre, rest, hxs, hpl, hs⟩ := Hr.out
     cases rest with
     | nil =>
      exfalso
      have := congrArg List.length hxs
      rw [HN.out, List.append_nil] at this
      omega
     | cons x rest =>
      obtain ⟨_, hrw⟩ := St.has (i := 0) (A := E (.slice ga N gc)) hs.comm rfl
      have hkl : k < sel.length := by rw [HN.out]; exact hk
      have hxk : sel[k] = x := by
       have : sel[k]? = some x := by rw [hxs, ← hpl]; simp
       rw [List.getElem?_eq_getElem hkl] at this
       exact Option.some.inj this
      obtain ⟨ga', gc', e0, hcell⟩ := HROW.out _ _ _ hrw
      injection e0 with e1 e2 e3
      subst e1
      obtain ⟨gb, hga, hgl, hc0, -⟩ := hcell (k * 2) (by omega)
      obtain ⟨gb', hga', -, hc1, -⟩ := hcell (k * 2 + 1) (by omega)
      subst hga
      obtain rfl : gb' = gb := by injection hga' with h; injection h with h; exact h.symm
      rw [(entsV_at sel k hkl).1, hxk] at hc0
      rw [(entsV_at sel k hkl).2, hxk] at hc1
      have HYx : RowKit.Hid (∀ W', St w0 fp0 (J pre ++ [E (.slice (some ⟨gb', 0, none⟩) N gc)]) W' → YieldAt Fence.wide (n - 1) Tryz.prog y #[encK x.1, encV x.2] W' fun e W' =>
       (e = .returned (.bool true) ∧ St w0 fp0 (J (pre ++ [x]) ++ [E (.slice (some ⟨gb', 0, none⟩) N gc)]) W') ∨ (e = .returned (.bool false) ∧ St w0 fp0 (Jx (pre ++ [x]) ++ [E (.slice (some ⟨gb', 0, none⟩) N gc)]) W')) :=
       fun W' h => HY.out pre x rest _ W' hxs h
      have Hs := Lib.hid hs
      have Hxs := Lib.hid hxs
      have Hpl := Lib.hid hpl
      have hkn : (k : Int) < N := by omega
      clear hs hxs hpl hrw hkl hxk hcell hga' Hr e2 e3
      have Hgk := Lib.hid hgk
      clear hgk
      obtain ⟨xk, exk⟩ : ∃ xk, x.1 = xk := ⟨_, rfl⟩
      obtain ⟨xv, exv⟩ : ∃ xv, x.2 = xv := ⟨_, rfl⟩
      rw [exk] at hc0
      rw [exv] at hc1
      rw [exk, exv] at HYx
      clear exk exv
      cases xk <;> cases xv
      all_goals
       simp only [encK, encV] at hc0 hc1 HYx
       go_upto_region 3 with (fail)
       generalize hW2 : wr.alloc _ = W2
       have hb2 : Below wr.heap.size wr W2 := by rw [← hW2]; exact (Below.refl _ _).alloc (Nat.le_refl _) _
       have d0 := World.cell?_alloc_new wr _ _ 0 |>.symm.trans (congrArg (fun w => World.cell? w ⟨wr.heap.size, 0, none⟩) hW2) |>.symm
       have d1 := World.cell?_alloc_new wr _ _ 1 |>.symm.trans (congrArg (fun w => World.cell? w ⟨wr.heap.size, 1, none⟩) hW2) |>.symm
       simp only [List.getElem?_toArray, List.getElem?_cons_zero, List.getElem?_cons_succ] at d0 d1
       have dl : wr.heap.size < W2.heap.size := by rw [← hW2]; simp
       have HSo : RowKit.Hid (∀ W' A, St w0 fp0 (A ++ [E (.slice (some ⟨gb', 0, none⟩) N gc)]) W' → St w0 fp0 A W') := fun W' A h => St.dropAll (A := [E (.slice (some ⟨gb', 0, none⟩) N gc)]) h.comm
       obtain ⟨fn, tmps, assign, body, hy, hR⟩ := HYx.out W2 (Hs.out.mono hb2)
       have HR := Lib.hid hR
       clear hb2 hR hW2 hc0 hc1 hgl H2 HYx Hs HY
       generalize wr.heap.size = eb at *
       refine (wpIn_wide (n := n)).1 ?_
       gi_wp2
       refine ⟨fun h => (by cases h), HR.out.mono ?_⟩
       rintro e W' (⟨rfl, hs'⟩ | ⟨rfl, hs'⟩)
       · have Hs' := Lib.hid hs'
         clear hs' HR hy d0 d1 dl
         gi_wp2
         go_wp2
         go_roundg (N - (k + 1))
         case rel => exact ⟨k + 1, by go_num, by omega, ⟨pre ++ [x], rest, by rw [Hxs.out]; simp, by rw [List.length_append, Hpl.out]; rfl, Hs'.out⟩⟩
         case measure => have := Hgk.out; omega
       · have Hs' := Lib.hid (HSo.out _ _ hs')
         clear hs' HR hy d0 d1 dl HSo
         gi_wp2
         go_wp2
         refine bodyPost_ret (results_none rfl _ _ _) rfl ?_
         exact ⟨⟨_, rfl⟩, .inr ⟨pre, x, rest, Hxs.out, Hs'.out⟩⟩
   · have hnk : k = N := by omega
     have Hend : RowKit.Hid (St w0 fp0 (J sel) wr) := by
      obtain ⟨pre, rest, hxs, hpl, hs⟩ := Hr.out
      have : rest = [] := by
       have := congrArg List.length hxs
       rw [HN.out, List.length_append] at this
       exact List.length_eq_zero_iff.1 (by omega)
      subst this
      rw [List.append_nil] at hxs
      rw [hxs]
      exact St.dropAll (A := [E (.slice ga N gc)]) (by rw [← hxs] at hs ⊢; exact hs.comm)
     clear Hr HY H2 hgk hk HN hsel
     subst hnk
     go_wp2
     go_end0
     exact ⟨⟨_, rfl⟩, .inl Hend.out⟩
end Go.Proofs.YtnefkkidfhmggaaGreat
/- between, All, From, Between. -/
namespace Go.Proofs.YtnefkkidfhmggaaGreat
open Go Go.RowKit
variable {β : Bool}
def iterL (β : Bool) (tb bt bl bh lb hb : Nat) (lo hi : Option Ky) : List Asn :=
 [blkA bt (tTP β) #[.pointer (some ⟨tb, 0, none⟩)], blkA bl (tKP β) #[optP lb lo], blkA bh (tKP β) #[optP hb hi]]
def iterF (β : Bool) (bt bl bh : Nat) : Value := .func (.func (fBetw1 β)) #[] #[.pointer (some ⟨bt, 0, none⟩), .pointer (some ⟨bl, 0, none⟩), .pointer (some ⟨bh, 0, none⟩)]
theorem St.newblk {w0 w : World} {fp0 : List Nat} {L : List Asn} (h : St w0 fp0 L w) (t : TypeId) (c : Array Value) : St w0 fp0 (blkA w.heap.size t c :: L) (w.alloc (.cells c t)) := by
 have h1 : St w0 fp0 (L ++ [blkA w.heap.size t c]) (w.alloc (.cells c t)) := h.add ((Below.refl _ _).alloc (Nat.le_refl _) _) ⟨heap_alloc_new w _, rfl⟩ (by simp)
 exact h1.perm List.perm_append_comm
theorem between_calls (tb lb hb : Nat) (lo hi : Option Ky) (w0 w : World) (fp0 : List Nat) (R : List Asn) (hS : St w0 fp0 R w) :
 Calls Tryz.prog (fBetween β) #[.pointer (some ⟨tb, 0, none⟩), optP lb lo, optP hb hi] w fun e w' => ∃ bt bl bh, e = .returned (iterF β bt bl bh) ∧ St w0 fp0 (iterL β tb bt bl bh lb hb lo hi ++ R) w' := by
 have HS : RowKit.Hid (St w0 fp0 (iterL β tb w.heap.size (w.heap.size + 1) (w.heap.size + 1 + 1) lb hb lo hi ++ R) (((w.alloc (.cells #[.pointer (some ⟨tb, 0, none⟩)] (tTP β))).alloc (.cells #[optP lb lo] (tKP β))).alloc (.cells #[optP hb hi] (tKP β)))) := by
  have h1 := ((hS.newblk (tTP β) #[.pointer (some ⟨tb, 0, none⟩)]).newblk (tKP β) #[optP lb lo]).newblk (tKP β) #[optP hb hi]
  simp only [World.size_alloc] at h1
  exact St_re (L := [_, _, _]) h1 [2, 1, 0] [] (by kernel_rfl)
 clear hS
 cases lo <;> cases hi
 all_goals
  cases β
  case' false => go_enter Tryz.func109, Tryz.ntmps109
  case' true => go_enter Tryz.func90, Tryz.ntmps90
  all_goals
   dsimp only [optP, tTP, tKP] at HS ⊢
   go_wp2
   go_ret
   exact ⟨_, _, _, rfl, HS.out⟩
end Go.Proofs.YtnefkkidfhmggaaGreat
/- All of the rows; From, Between of the keys. -/
namespace Go.Proofs.YtnefkkidfhmggaaGreat
open Go Go.RowKit
theorem All_calls (tb : Nat) (w0 w : World) (fp0 : List Nat) (R : List Asn) (hS : St w0 fp0 R w) :
 Calls Tryz.prog 88 #[.pointer (some ⟨tb, 0, none⟩)] w fun e w' => ∃ bt bl bh, e = .returned (iterF false bt bl bh) ∧ St w0 fp0 (iterL false tb bt bl bh 0 0 none none ++ R) w' := by
 have HC := Lib.hid (between_calls (β := false) tb 0 0 none none w0 w fp0 R hS)
 clear hS
 unfold iterF at *
 dsimp only [fBetween, optP] at HC
 go_enter Tryz.func88, Tryz.ntmps88
 go_wp2_with fail
 (with_reducible refine HC.out.mono ?_)
 rintro e w1 ⟨bt, bl, bh, rfl, hs⟩
 have HS := Lib.hid hs
 clear hs HC
 go_wp2
 go_ret
 exact ⟨_, _, _, rfl, HS.out⟩
theorem From_calls (tb : Nat) (k : ByteArray) (w0 w : World) (fp0 : List Nat) (R : List Asn) (hS : St w0 fp0 R w) :
 Calls Tryz.prog 58 #[.pointer (some ⟨tb, 0, none⟩), .string k] w fun e w' => ∃ bt bl bh lb, e = .returned (iterF true bt bl bh) ∧ St w0 fp0 (iterL true tb bt bl bh lb 0 (some (.str k)) none ++ (optB true lb (some (.str k)) :: R)) w' := by
 have HC := Lib.hid (between_calls (β := true) tb w.heap.size 0 (some (.str k)) none w0 _ fp0 _ (hS.newblk 9 #[.string k]))
 clear hS
 unfold iterF at *
 dsimp only [fBetween, optP] at HC
 go_enter Tryz.func58, Tryz.ntmps58
 go_wp2_with fail
 (with_reducible refine HC.out.mono ?_)
 rintro e w1 ⟨bt, bl, bh, rfl, hs⟩
 have HS := Lib.hid hs
 clear hs HC
 go_wp2
 go_ret
 exact ⟨_, _, _, _, rfl, HS.out⟩
theorem Between_calls (tb : Nat) (k k2 : ByteArray) (w0 w : World) (fp0 : List Nat) (R : List Asn) (hS : St w0 fp0 R w) :
 Calls Tryz.prog 52 #[.pointer (some ⟨tb, 0, none⟩), .string k, .string k2] w fun e w' => ∃ bt bl bh lb hb, e = .returned (iterF true bt bl bh) ∧ St w0 fp0 (iterL true tb bt bl bh lb hb (some (.str k)) (some (.str k2)) ++ (optB true hb (some (.str k2)) :: optB true lb (some (.str k)) :: R)) w' := by
 have h2 := (hS.newblk 9 #[.string k]).newblk 9 #[.string k2]
 simp only [World.size_alloc] at h2
 have HC := Lib.hid (between_calls (β := true) tb w.heap.size (w.heap.size + 1) (some (.str k)) (some (.str k2)) w0 _ fp0 _ h2)
 clear hS h2
 unfold iterF at *
 dsimp only [fBetween, optP] at HC
 go_enter Tryz.func52, Tryz.ntmps52
 go_wp2_with fail
 (with_reducible refine HC.out.mono ?_)
 rintro e w1 ⟨bt, bl, bh, rfl, hs⟩
 have HS := Lib.hid hs
 clear hs HC
 go_wp2
 go_ret
 exact ⟨_, _, _, _, _, rfl, HS.out⟩
end Go.Proofs.YtnefkkidfhmggaaGreat
/- A table store in memory. What is read while a frame stays. -/
namespace Go.Proofs.YtnefkkidfhmggaaGreat
open Go Go.RowKit
/-- Q holds in every world that is reached while the frame R stays. -/
def Rd (w0 : World) (fp0 : List Nat) (R : List Asn) (Q : World → Prop) : Prop := ∀ (L : List Asn) (w : World), St w0 fp0 (L ++ R) w → Q w
section
variable {w0 w : World} {fp0 : List Nat} {R : List Asn} {Q : World → Prop}
theorem Rd.app (h : Rd w0 fp0 R Q) (M : List Asn) : Rd w0 fp0 (M ++ R) Q := fun L w hs => h (L ++ M) w (by rwa [List.append_assoc])
theorem Rd.cons (h : Rd w0 fp0 R Q) (A : Asn) : Rd w0 fp0 (A :: R) Q := h.app [A]
theorem Rd.here (h : Rd w0 fp0 R Q) (hs : St w0 fp0 R w) : Q w := h [] w hs
theorem Rd.at (h : Rd w0 fp0 R Q) {M : List Asn} (hs : St w0 fp0 (M ++ R) w) : Q w := h M w hs
theorem Rd.imp {Q' : World → Prop} (h : Rd w0 fp0 R Q) (hq : ∀ w, Q w → Q' w) : Rd w0 fp0 R Q' := fun L w hs => hq w (h L w hs)
theorem Rd.of_tr (h : ∀ w fp, Tr w0 w fp0 fp → Q w) : Rd w0 fp0 R Q := fun _ w hs => by
 obtain ⟨fp, _, t⟩ := hs
 exact h w fp t
theorem Rd.of_piece {A : Asn} (i : Nat) (hi : R[i]? = some A) (h : ∀ w f, A.p w f → Q w) : Rd w0 fp0 R Q := fun L w hs => by
 obtain ⟨f, hf⟩ := hs.has (L.length + i) (A := A) (by rw [List.getElem?_append_right (by omega)]; simpa using hi)
 exact h w f hf
end
/-- A row that is stored; an index. -/
structure Re where
 id : Int
 va : Va
 r : Rw
structure Ix where
 cv : Value
 cs : List Int
 kb : Nat
 kh : Nat
 km : MM
structure Sto where
 cols : Nat
 next : Int
 h : Nat
 tb : Nat
 iv : Value
 es : List Re
 ixs : List Ix
def reA (x : Re) : Asn := rowA 29 3 (encV x.va) x.r.length (flat x.r)
def ixA (x : Ix) : Asn := starA [slA 3 x.cv (x.cs.map intC), objA true 16 x.kh x.km x.kb]
def reM (es : List Re) : MM := es.map fun e => (.int e.id, e.va)
def reL (es : List Re) : LL := es.map fun e => (e.id, e.r)
def ixV (ixs : List Ix) : List Value := ixs.flatMap fun x => [x.cv, ptrV x.kb]
def stoL (S : Nat) (s : Sto) : List Asn :=
 blkA S 119 #[.int .i64 s.cols, ptrV s.tb, .int .i64 s.next, s.iv] :: objA false 16 s.h (reM s.es) s.tb :: rowA 97 2 s.iv s.ixs.length (ixV s.ixs) :: (s.es.map reA ++ s.ixs.map ixA)
/-- A row that may be stored. -/
def RowOk (cols : Nat) (r : Rw) : Prop := r.length = cols ∧ ∀ v ∈ r, okV v = true ∧ I64 v.int
structure Sto.Ok (s : Sto) (cols : Nat) (I : List (List Int)) (L : LL) (next : Int) : Prop where
 eixs : s.ixs.map (·.cs) = I
 ecols : s.cols = cols
 enext : s.next = next
 rows : reL s.es = L
 asc : AscI L
 nx : 1 ≤ next ∧ next ≤ 4611686018427387905
 row : ∀ x ∈ L, 1 ≤ x.1 ∧ x.1 < next ∧ RowOk cols x.2
 ixs : ∀ x ∈ s.ixs, x.cs ≠ [] ∧ x.cs.length ≤ 1000 ∧ (∀ c ∈ x.cs, 0 ≤ c ∧ c < cols) ∧ IxOk L x.cs x.km ∧ AscM x.km
def storeA (S cols : Nat) (I : List (List Int)) (L : LL) (next : Int) : Asn := exA fun s : Sto => starA (pureA (s.Ok cols I L next) :: stoL S s)
theorem St.openS {w0 w : World} {fp0 : List Nat} {R : List Asn} {S cols : Nat} {I : List (List Int)} {L : LL} {next : Int} (hs : St w0 fp0 (storeA S cols I L next :: R) w) : ∃ s : Sto, s.Ok cols I L next ∧ St w0 fp0 (stoL S s ++ R) w := by
 obtain ⟨s, h1⟩ := hs.unfold (L1 := fun s : Sto => pureA (s.Ok cols I L next) :: stoL S s) fun f ⟨q, hq⟩ => ⟨q, hq⟩
 exact ⟨s, St.pure.1 h1⟩
theorem St.shutS {w0 w : World} {fp0 : List Nat} {R : List Asn} {S cols : Nat} {I : List (List Int)} {L : LL} {next : Int} {s : Sto} (hk : s.Ok cols I L next) (hs : St w0 fp0 (stoL S s ++ R) w) : St w0 fp0 (storeA S cols I L next :: R) w := by
 have h1 : St w0 fp0 ((pureA (s.Ok cols I L next) :: stoL S s) ++ R) w := St.pure.2 ⟨hk, hs⟩
 exact h1.fold fun f hf => ⟨s, hf⟩
theorem AscI.i64 {L : LL} {next : Int} (hn : next ≤ 4611686018427387905) (h : ∀ x ∈ L, 1 ≤ x.1 ∧ x.1 < next) : ∀ x ∈ L, I64 x.1 := fun x hx => by
 have := h x hx
 unfold I64
 omega
theorem reL_asc {es : List Re} (h : AscI (reL es)) : es.Pairwise fun a b => a.id < b.id := by
 unfold AscI reL at h
 rw [List.pairwise_map] at h
 exact h
theorem getM_reM {es : List Re} (k : Int) : getM (reM es) (.int k) = (es.find? fun e => e.id == k).map (·.va) := by
 induction es with
 | nil => rfl
 | cons x es ih =>
  rw [reM, List.map_cons, getM, List.find?_cons]
  by_cases h : x.id = k
  · rw [if_pos (eqK_iff.2 (by rw [h]))]; simp [h]
  · rw [if_neg (fun e => h (by have := eqK_iff.1 e; exact Ky.int.inj this))]
    have : (x.id == k) = false := by simp [h]
    rw [this]
    exact ih
theorem ltK_int {a b : Int} : ltK (Ky.int a) (Ky.int b) ↔ a < b := by
 show cmpS a b < 0 ↔ _
 exact cmpS_neg
section
variable {A B : List Re} {k : Int}
theorem reM_lt (hA : ∀ a ∈ A, a.id < k) : AllLt (reM A) (Ky.int k) := fun x hx => by
 obtain ⟨a, ha, rfl⟩ := List.mem_map.1 hx
 exact ltK_int.2 (hA a ha)
theorem reM_gt (hB : ∀ b ∈ B, k < b.id) : AllGt (Ky.int k) (reM B) := fun x hx => by
 obtain ⟨a, ha, rfl⟩ := List.mem_map.1 hx
 exact ltK_int.2 (hB a ha)
theorem reL_lt (hA : ∀ a ∈ A, a.id < k) : ∀ x ∈ reL A, x.1 < k := fun x hx => by
 obtain ⟨a, ha, rfl⟩ := List.mem_map.1 hx
 exact hA a ha
theorem reL_gt (hB : ∀ b ∈ B, k < b.id) : ∀ x ∈ reL B, k < x.1 := fun x hx => by
 obtain ⟨a, ha, rfl⟩ := List.mem_map.1 hx
 exact hB a ha
end
theorem reM_append (A B : List Re) : reM (A ++ B) = reM A ++ reM B := List.map_append
theorem reL_append (A B : List Re) : reL (A ++ B) = reL A ++ reL B := List.map_append
theorem reM_cons (a : Re) (B : List Re) : reM (a :: B) = (.int a.id, a.va) :: reM B := rfl
theorem reL_cons (a : Re) (B : List Re) : reL (a :: B) = (a.id, a.r) :: reL B := rfl
theorem okR (es : List Re) : OkL false (reM es) := fun e he => by
 obtain ⟨a, _, rfl⟩ := List.mem_map.1 he
 trivial
theorem okK {L : LL} {cs : List Int} {km : MM} (h : IxOk L cs km) : OkL true km := fun e he => by
 obtain ⟨x, _, rfl⟩ := (h.mem e).1 he
 trivial
end Go.Proofs.YtnefkkidfhmggaaGreat
/- rowcodec: add. -/
namespace Go.Proofs.YtnefkkidfhmggaaGreat
open Go Go.RowKit
section
variable {P : Program}
theorem St.appSl {Pr : Program} {w0 w : World} {fp0 : List Nat} {L : List Asn} {t tx e : TypeId} (hC : AppSrc Pr t tx e 1) (ty : TypeId) {v x : Value} {m : Nat} {xs news : List Value} (hS : St w0 fp0 (slA e v xs :: L) w) (hs : Go.Src Pr 1 tx x m news w) (hl : xs.length + m < 1099511627776) :
 ∃ v' w', (Builtin.append_ #[t, tx] ty #[v, x]).run Pr w = .ok v' w' ∧ St w0 fp0 (slA e v' (xs ++ news) :: L) w' := by
 obtain ⟨v', w', h1, h2⟩ := St.appSrc hC ty (n := xs.length) hS hs hl
 refine ⟨v', w', h1, ?_⟩
 have hn := hs.newsLen
 have e1 : xs.length + m = (xs ++ news).length := by rw [List.length_append, hn, Nat.mul_one]
 rw [e1] at h2
 exact h2
theorem wpList_appSl {w : World} {ops : Array Oper} {rest : List Oper} {o : Oper} {a : Act} {Q : Exit → Act → World → Prop} (hgd : o.guard = none) (s x : Operand) (t tx : TypeId)
 (ho : o.op = .call { callee := .builtin .append, args := #[s, x], argTypes := #[t, tx] }) {e : TypeId} {v v2 : Value} (hs : a.eval s = v) (hx : a.eval x = v2) (hC : AppSrc P t tx e 1) {w0 : World} {fp0 : List Nat} {L : List Asn} {m : Nat} {xs news : List Value}
 (hS : St w0 fp0 (slA e v xs :: L) w) (hsrc : Go.Src P 1 tx v2 m news w) (hl : xs.length + m < 1099511627776)
 (h : ∀ v' w', RowKit.Hid (St w0 fp0 (slA e v' (xs ++ news) :: L) w') → wpList P ops Q rest (a.put o.dst v') w') : wpList P ops Q (o :: rest) a w := by
 refine wpList_plain hgd fun K hK => ?_
 obtain ⟨v', w', hr, h2⟩ := St.appSl hC o.type hS hsrc hl
 unfold Oper.wp execOp
 simp only [ho, resolve, invoke, builtin, Sem.run_bind, Sem.run_pure, Result.andThen_ok, List.map_toArray, List.map_cons, List.map_nil, hs, hx, hr]
 exact hK _ _ (h v' w' h2)
/-- What lies in a literal is appended. -/
theorem src_lit {tx e' : TypeId} (hk : P.underlying tx = some (.slice e')) (w : World) (b n c : Nat) (t : TypeId) (fr : Nat × Nat) (cs : Array Value) (h : w.heap[b]? = some (.cells cs t fr)) (hn : cs.size = n) (h1 : ∀ u ∈ cs.toList, u.oneCell' = true) : Go.Src P 1 tx (.slice (some ⟨b, 0, none⟩) n c) n cs.toList w :=
 Go.Src.ofSlice w hk _ n c _ (by simp [hn]) (fun j u hj => by
  rw [add_plain, Nat.zero_add, cell_of_row w b j cs t fr h]
  simpa using hj) h1
end
theorem appBS : AppSrc Tryz.prog 101 101 5 1 := appSrc (z := .int .u8 0) (bytes := 1) (by kernel_rfl) (by kernel_rfl) rfl (by decide) (by decide)
theorem appBT : AppSrc Tryz.prog 101 9 5 1 := appSrc (z := .int .u8 0) (bytes := 1) (by kernel_rfl) (by kernel_rfl) rfl (by decide) (by decide)
theorem bytesRow_get (s : ByteArray) (cap j : Nat) (hj : j < s.size) : (bytesRow s cap)[j]? = some (.int .u8 (s[j]'hj).toNat) := by
 have h : j < (s.data.map fun b => Value.int .u8 b.toNat).size := by simpa using hj
 rw [bytesRow, Array.getElem?_append_left h, Array.getElem?_map, Array.getElem?_eq_getElem (by simpa using hj)]
 rfl
end Go.Proofs.YtnefkkidfhmggaaGreat
/- Obligations of a region by tables: a call in frame form, an append, with values that hang on slots. -/
namespace Go.Proofs.YtnefkkidfhmggaaGreat
open Go Go.RowKit
theorem Rg.Ob.callG (G : Rg) (i : Nat) (PL : (Nat → Value) → List Asn) (PN : (Nat → Value) → Value → List Asn) {f : Nat} {args : (Nat → Value) → Array Value}
 (hc : ∀ g w, St G.w0 G.fp0 (PL g ++ G.R) w → Calls G.P f (args g) w fun e w' => ∃ v, e = .returned v ∧ G.shp i g v = v ∧ St G.w0 G.fp0 (PN g v ++ G.R) w')
 (hr : ∀ a w, (execOp (G.env i a) (opAt G.ops i)).run G.P w = .ok (.enter f (args (slots a))) w := by intro _ _; exact kr (by kernel_rfl)) (hL : ∀ L g, (G.pcs.map fun p => p.at (lk (closOf G.ops) i L) g) = PL g := by intro _ _; exact kr (by kernel_rfl)) (hN : ∀ L g v, (G.pcs.map fun p => p.at (ln (closOf G.ops) i L) (sput g (dstOf G.ops i) v)) = PN g v := by intro _ _ _; exact kr (by kernel_rfl))
 (hw : ∀ a, wantE G.ops (opAt G.ops i) (G.env i a) = some true := by intro _; exact kr (by kernel_rfl)) : G.Ob i := by
 intro o ho L a w hsz he hS
 have hd : o.dst = dstOf G.ops i := by rw [dstOf, ho]; rfl
 have hw' := hw a
 have h' := hr a w
 rw [opAt_eq ho] at hw' h'
 rw [hw', h', hd]
 unfold stP at hS
 rw [hL] at hS
 refine Calls.mono (hc (slots a) w hS) fun e w' h => ?_
 obtain ⟨v, rfl, h1, h2⟩ := h
 refine ⟨_, rfl, G.shp_of h1, ?_⟩
 unfold stP
 rw [hN]
 exact h2
/-- An operation that is carried out at once, of which all pieces are told. -/
theorem Rg.Ob.runG (G : Rg) (i : Nat) (PL : (Nat → Value) → List Asn) (PN : (Nat → Value) → Value → List Asn)
 (hr : ∀ a w, St G.w0 G.fp0 (PL (slots a) ++ G.R) w → ∃ v w', (execOp (G.env i a) (opAt G.ops i)).run G.P w = .ok (.value v) w' ∧ G.shp i (slots a) v = v ∧ St G.w0 G.fp0 (PN (slots a) v ++ G.R) w')
 (hL : ∀ L g, (G.pcs.map fun p => p.at (lk (closOf G.ops) i L) g) = PL g := by intro _ _; exact kr (by kernel_rfl)) (hN : ∀ L g v, (G.pcs.map fun p => p.at (ln (closOf G.ops) i L) (sput g (dstOf G.ops i) v)) = PN g v := by intro _ _ _; exact kr (by kernel_rfl))
 (hw : ∀ a, wantE G.ops (opAt G.ops i) (G.env i a) = some true := by intro _; exact kr (by kernel_rfl)) : G.Ob i := by
 intro o ho L a w hsz he hS
 have hd : o.dst = dstOf G.ops i := by rw [dstOf, ho]; rfl
 have hw' := hw a
 have h' := hr a w
 rw [opAt_eq ho] at hw' h'
 unfold stP at hS
 rw [hL] at hS
 obtain ⟨v, w', h1, h2, h3⟩ := h' hS
 rw [hw', h1, hd]
 refine ⟨G.shp_of h2, ?_⟩
 unfold stP
 rw [hN]
 exact h3
theorem Rg.Ob.appG (G : Rg) (i : Nat) (PL : (Nat → Value) → List Asn) (PN : (Nat → Value) → Value → List Asn) {t tx : TypeId} {s x : Operand} {vs vx : (Nat → Value) → Value}
 (hc : ∀ ty g w, St G.w0 G.fp0 (PL g ++ G.R) w → ∃ v w', (Builtin.append_ #[t, tx] ty #[vs g, vx g]).run G.P w = .ok v w' ∧ G.shp i g v = v ∧ St G.w0 G.fp0 (PN g v ++ G.R) w')
 (hop : (opAt G.ops i).op = .call ⟨.builtin .append, #[s, x], #[t, tx]⟩ := by rfl) (hs : ∀ a, G.env i a s = vs (slots a) := by intro _; exact kr (by kernel_rfl)) (hx : ∀ a, G.env i a x = vx (slots a) := by intro _; exact kr (by kernel_rfl))
 (hL : ∀ L g, (G.pcs.map fun p => p.at (lk (closOf G.ops) i L) g) = PL g := by intro _ _; exact kr (by kernel_rfl)) (hN : ∀ L g v, (G.pcs.map fun p => p.at (ln (closOf G.ops) i L) (sput g (dstOf G.ops i) v)) = PN g v := by intro _ _ _; exact kr (by kernel_rfl))
 (hw : ∀ a, wantE G.ops (opAt G.ops i) (G.env i a) = some true := by intro _; exact kr (by kernel_rfl)) : G.Ob i :=
 Rg.Ob.runG G i PL PN (fun a w hS => by
  obtain ⟨v, w', h1, h2⟩ := hc (opAt G.ops i).type (slots a) w hS
  refine ⟨v, w', ?_, h2⟩
  unfold execOp
  simp only [hop, resolve, invoke, builtin, Sem.run_bind, Sem.run_pure, Result.andThen_ok, List.map_toArray, List.map_cons, List.map_nil, hs, hx, h1]) hL hN hw
theorem Rg.Ob.cat (G : Rg) (i : Nat) (u v : ByteArray) (hl : u.size + v.size < 1099511627776) {ty r : TypeId} {x y : Operand} (hop : (opAt G.ops i).op = .binOp .add ty x y r := by rfl) (hx : ∀ a, G.env i a x = .string u := by intro _; exact kr (by kernel_rfl)) (hy : ∀ a, G.env i a y = .string v := by intro _; exact kr (by kernel_rfl)) (hv : ∀ g, G.valD i g = .string (u ++ v) := by intro _; exact kr (by kernel_rfl))
 (hq : (G.quiet i G.pcs.length && G.okV i) = true := by exact kr (by kernel_rfl)) (hw : ∀ a, wantE G.ops (opAt G.ops i) (G.env i a) = some true := by intro _; exact kr (by kernel_rfl)) : G.Ob i := Rg.Ob.read G i hq hw fun _ a w _ _ => by
 have h1 : ¬ (9223372036854775807 : Int) < (u.size : Int) + v.size := by omega
 rw [hv]
 simp [execOp, hop, hx, hy, go_sem, Op.stringOp, IntKind.max, IntKind.bits, IntKind.signed, h1]
/-- A box of cells that hang on slots. -/
theorem Rg.Ob.boxsG (G : Rg) (i k : Nat) {d : Nat} {ds : List Nat} {t : TypeId} {cs : (Nat → Value) → Array Value} (hk : G.pcs[k]? = some (.new i (d :: ds) fun g => boxsA t (g d) (cs g)) := by rfl)
 (hr : ∀ a w, (execOp (G.env i a) (opAt G.ops i)).run G.P w = .ok (.value (.slice (some ⟨w.heap.size, 0, none⟩) 1 1)) (w.alloc (.cells (cs (rv (d :: ds) (slots a))) t)) := by intro _ _; exact kr (by kernel_rfl))
 (hcs : ∀ g v, cs (rv (d :: ds) (sput g (some d) v)) = cs (rv (d :: ds) g) := by intro _ _; exact kr (by kernel_rfl))
 (hd : dstOf G.ops i = some d := by exact kr (by kernel_rfl)) (hself : ((closOf G.ops).getD i []).elem i = false := by exact kr (by kernel_rfl)) (hsh : ∀ g n, G.shp i g (.slice (some ⟨n, 0, none⟩) 1 1) = .slice (some ⟨n, 0, none⟩) 1 1 := by intro _ _; exact kr (by kernel_rfl))
 (hq : G.quiet i k = true := by exact kr (by kernel_rfl)) (hw : ∀ a, wantE G.ops (opAt G.ops i) (G.env i a) = some true := by intro _; exact kr (by kernel_rfl)) : G.Ob i := Rg.Ob.eff G i k hk (fun L a w fp _ _ hp => by
 rw [new_before hself] at hp
 obtain rfl : fp = [] := hp
 rw [hr a w]
 refine ⟨G.shp_of (hsh _ _), ?_⟩
 rw [new_after, hd]
 obtain ⟨h1, h2⟩ := boxs_new w t (cs (rv (d :: ds) (slots a)))
 refine ⟨_, ?_, h2⟩
 rw [hcs]
 have e : rv (d :: ds) (sput (slots a) (some d) (.slice (some ⟨w.heap.size, 0, none⟩) 1 1)) d = .slice (some ⟨w.heap.size, 0, none⟩) 1 1 := by unfold rv sput; simp
 rw [e]
 exact h1) hq hw
theorem text_size (l : List UInt8) : (textOf l).size = l.length := by show l.toArray.size = _; simp
theorem num_size (n : Int) : (textOf (numL n)).size = 8 := by rw [text_size, numL_length]
section
variable {P : Program} {w0 w : World} {fp0 : List Nat} {R : List Asn} {t tx e e' : TypeId} {v s x : Value} {xs : List Value}
theorem box_src {f : List Nat} (hk : P.underlying tx = some (.slice e')) (h : (boxA e s x).p w f) (h1 : x.oneCell' = true) : Go.Src P 1 tx (.slice (some ⟨pb s, 0, none⟩) 1 1) 1 [x] w := by
 obtain ⟨vb, rfl, h2, _⟩ := h
 exact src_lit hk w vb 1 1 e (0, 0) #[x] h2 rfl (by simpa using h1)
theorem appB1 (hC : AppSrc P t tx e 1) (hk : P.underlying tx = some (.slice e')) (ty : TypeId) (h1 : x.oneCell' = true) (hl : xs.length + 1 < 1099511627776) (hS : St w0 fp0 (boxA e s x :: slA e v xs :: R) w) :
 ∃ v' w', (Builtin.append_ #[t, tx] ty #[v, .slice (some ⟨pb s, 0, none⟩) 1 1]).run P w = .ok v' w' ∧ St w0 fp0 (boxA e s x :: slA e v' (xs ++ [x]) :: R) w' := by
 obtain ⟨f, hf⟩ := hS.has 0 rfl
 obtain ⟨v', w', h2, h3⟩ := St.appSl hC ty (hS.perm (List.Perm.swap _ _ _)) (box_src hk hf h1) hl
 exact ⟨v', w', h2, h3.perm (List.Perm.swap _ _ _)⟩
theorem appT1 (hC : AppSrc P t tx e 1) (hk : P.underlying tx = some .string) (ty : TypeId) (u : ByteArray) (hl : xs.length + u.size < 1099511627776) (hS : St w0 fp0 (slA e v xs :: R) w) :
 ∃ v' w', (Builtin.append_ #[t, tx] ty #[v, .string u]).run P w = .ok v' w' ∧ St w0 fp0 (slA e v' (xs ++ (bytes u).map u8C) :: R) w' :=
 St.appSl hC ty hS (Go.Src.ofString w hk u) hl
end
theorem cons_eq {d : Nat} {v v' : Value} {l l' : List (Nat × Value)} (h : v = v') (hl : l = l') : (d, v) :: l = (d, v') :: l' := by rw [h, hl]
theorem frame_eq {a a1 : Act} {ks : List Nat} {l : List (Nat × Value)} (h : FrameLike a a1 ks) (hl : (ks.map fun k => (k, slots a1 k)) = l) : a1 = putL a l := by
 rw [← hl]
 exact h.eq
end Go.Proofs.YtnefkkidfhmggaaGreat
/- rowcodec: add. -/
namespace Go.Proofs.YtnefkkidfhmggaaGreat
open Go Go.RowKit
set_option maxRecDepth 100000
noncomputable def gRa3 (b : Value) (vb : Nat) (k n : Int) (t : ByteArray) (xs : List Value) := rgx Tryz.prog Tryz.f89 3 49 [11, 12, 13, 14, 15, 16, 17, 4] [(0, b), (3, pV vb 0)] (Vq 0 11 [Kv b, Vf.box] ++ Vq 3 14 [Kp vb 1, Kv (.int .i64 n), Kv (.string (textOf (numL n)))] ++ Vq 7 4 [Fv [17] fun g => g 17]) [.new 1 [12] fun g => boxA 5 (g 12) (.int .u8 2), .gen [2, 6] [13, 17] fun L g => match L 6 with | true => slA 5 (g 17) (xs ++ [Value.int .u8 2] ++ (bytes (textOf (numL n))).map u8C) | false => match L 2 with | true => slA 5 (g 13) (xs ++ [Value.int .u8 2]) | false => slA 5 b xs, Bk vb (29) [.int .i64 k, .int .i64 n, .string t]]
theorem rRa3 (b : Value) (vb : Nat) (k n : Int) (t : ByteArray) (xs : List Value) (w0 : World) (fp0 : List Nat) (R : List Asn) (hn : I64 n) (hl : xs.length + 20 < 1099511627776) {w : World} {c : Code} {a : Act} {Q : Exit → Act → World → Prop} (c1 : isReg c = true) (c2 : cops c = opsR Tryz.f89 3) (c3 : a.tmps.size = 49) (_c4 : a.defers = a.defers) (i0 : a.eval (.tmp 0) = b) (i3 : a.eval (.tmp 3) = .pointer (some ⟨vb, 0, none⟩))
 (hS : St w0 fp0 ([emp, slA 5 b xs, blkA vb (29) #[.int .i64 k, .int .i64 n, .string t]] ++ R) w)
 (hQ : ∀ (u12 u13 u17 : Value) (w1 : World), (∃ b, u12 = .slice (some ⟨b, 0, none⟩) 1 1) → St w0 fp0 ([boxA 5 (u12) (.int .u8 2), slA 5 (u17) (xs ++ [Value.int .u8 2] ++ (bytes (textOf (numL n))).map u8C), blkA vb (29) #[.int .i64 k, .int .i64 n, .string t]] ++ R) w1 → Q .normal (putL a [(11, b), (12, u12), (13, u13), (14, .pointer (some ⟨vb, 1, none⟩)), (15, .int .i64 n), (16, .string (textOf (numL n))), (17, u17), (4, u17)]) w1) : c.wp Tryz.prog Q a w := by
 have ok : (gRa3 b vb k n t xs w0 fp0 R).Ok 8 := Rg.ok _ 8 [1, 2, 4, 5, 6] ⟨.box _ 1 0 rfl, .appG _ 2 (fun g => [boxA 5 (g 12) (.int .u8 2), slA 5 b xs, blkA vb 29 #[.int .i64 k, .int .i64 n, .string t]]) (fun g v => [boxA 5 (g 12) (.int .u8 2), slA 5 v (xs ++ [Value.int .u8 2]), blkA vb 29 #[.int .i64 k, .int .i64 n, .string t]]) (fun ty g w h => let ⟨v, w2, h1, h2⟩ := appB1 appBS (e' := 5) (by kernel_rfl) ty rfl (by omega) h; ⟨v, w2, h1, rfl, h2⟩), .load _ 4 2 1, .callG _ 5 (fun g => [boxA 5 (g 12) (.int .u8 2), slA 5 (g 13) (xs ++ [Value.int .u8 2]), blkA vb 29 #[.int .i64 k, .int .i64 n, .string t]]) (fun g _ => [boxA 5 (g 12) (.int .u8 2), slA 5 (g 13) (xs ++ [Value.int .u8 2]), blkA vb 29 #[.int .i64 k, .int .i64 n, .string t]]) (fun g w h => (number_calls n hn w).mono fun e w2 ⟨e1, hb⟩ => ⟨_, e1, rfl, h.mono hb⟩), .appG _ 6 (fun g => [boxA 5 (g 12) (.int .u8 2), slA 5 (g 13) (xs ++ [Value.int .u8 2]), blkA vb 29 #[.int .i64 k, .int .i64 n, .string t]]) (fun g v => [boxA 5 (g 12) (.int .u8 2), slA 5 v (xs ++ [Value.int .u8 2] ++ (bytes (textOf (numL n))).map u8C), blkA vb 29 #[.int .i64 k, .int .i64 n, .string t]]) (fun ty g w h => let ⟨v, w2, h1, h2⟩ := appT1 appBT (by kernel_rfl) ty (textOf (numL n)) (by simp [textOf, numL, ByteArray.size]; omega) (h.perm (List.Perm.swap _ _ _)); ⟨v, w2, h1, rfl, h2.perm (List.Perm.swap _ _ _)⟩), trivial⟩
 refine wp_regD ok (by kernel_rfl) ⟨c1, c2⟩ ⟨c3, fun p hp => ?_⟩ hS fun A1 w1 N1 H1 => ?_
 · simp only [gRa3, rgx, List.map_nil, List.append_nil, List.mem_cons, List.not_mem_nil, or_false] at hp
   rcases hp with rfl | rfl
   · exact i0
   · exact i3
 have e11 := N1.val 0 rfl
 have e12 := N1.val 1 rfl
 have e14 := N1.val 2 rfl
 have e15 := N1.val 3 rfl
 have e16 := N1.val 4 rfl
 have e4 := N1.val 5 rfl
 have h := hQ (slots A1 12) (slots A1 13) (slots A1 17) w1 ⟨_, e12⟩ H1
 rw [frame_eq N1.frame (cons_eq e11 (cons_eq rfl (cons_eq rfl (cons_eq e14 (cons_eq e15 (cons_eq e16 (cons_eq rfl (cons_eq e4 rfl))))))))]
 exact h
end Go.Proofs.YtnefkkidfhmggaaGreat
/- rowcodec: add. -/
namespace Go.Proofs.YtnefkkidfhmggaaGreat
open Go Go.RowKit
/-- An object lies at block b. -/
def obA (b : Nat) (o : Obj) : Asn :=
 ⟨fun w fp => w.heap[b]? = some o ∧ fp = [b], fun h k hk => by rw [h.2, List.mem_singleton] at hk; rw [hk]; exact (Array.getElem?_eq_some_iff.1 h.1).1, fun h hs => ⟨(hs b (by rw [h.2]; simp)).trans h.1, h.2⟩⟩
theorem St.newob {w0 w w1 : World} {fp0 : List Nat} {L : List Asn} (h : St w0 fp0 L w) (hb : Below w.heap.size w w1) (he : w.heap.size = w1.heap.size) (o : Obj) : St w0 fp0 (obA w.heap.size o :: L) (w1.alloc o) := by
 have h1 : St w0 fp0 (L ++ [obA w.heap.size o]) (w1.alloc o) := h.add (hb.alloc (by omega) o) ⟨by rw [he]; exact heap_alloc_new w1 o, rfl⟩ (by simp)
 exact h1.perm List.perm_append_comm
theorem St.app8 {w0 w w' : World} {fp0 : List Nat} {R : List Asn} {t : TypeId} {v : Value} {xs : List UInt8} {news : List Value} (ys : List UInt8) (h : RowKit.Hid (St w0 fp0 (slA t v (xs.map u8C ++ news) :: R) w)) (hb : Below w.heap.size w w') (hn : news = ys.map u8C) : RowKit.Hid (St w0 fp0 (slA t v ((xs ++ ys).map u8C) :: R) w') := by
 have h2 := h.out.mono hb
 rw [hn, ← List.map_append] at h2
 exact h2
set_option maxHeartbeats 4000000 in
set_option maxRecDepth 20000 in
theorem radd_calls (v : Vl) (hv : I64 v.int) (b : Value) (xs : List UInt8) (hl : xs.length + 2 * v.text.size + 20 < 1099511627776) (w0 w : World) (fp0 : List Nat) (R : List Asn) (hS : St w0 fp0 (slA 5 b (xs.map u8C) :: R) w) :
 Calls Tryz.prog 89 #[b, v.val] w fun e w' => ∃ b', e = .returned b' ∧ St w0 fp0 (slA 5 b' ((xs ++ encL v).map u8C) :: R) w' := by
 obtain ⟨c0, c1, c2⟩ : (w.alloc (.cells #[.int .i64 v.kind, .int .i64 v.int, .string v.text] 29)).cell? ⟨w.heap.size, 0, none⟩ = some (.int .i64 v.kind) ∧ (w.alloc (.cells #[.int .i64 v.kind, .int .i64 v.int, .string v.text] 29)).cell? ⟨w.heap.size, 1, none⟩ = some (.int .i64 v.int) ∧ (w.alloc (.cells #[.int .i64 v.kind, .int .i64 v.int, .string v.text] 29)).cell? ⟨w.heap.size, 2, none⟩ = some (.string v.text) :=
  ⟨World.cell?_alloc_new _ _ _ 0, World.cell?_alloc_new _ _ _ 1, World.cell?_alloc_new _ _ _ 2⟩
 have HS0 := Lib.hid (hS.newblk 29 #[.int .i64 v.kind, .int .i64 v.int, .string v.text])
 have HS := Lib.hid HS0.out.drop
 have HL := Lib.hid hl
 have HV := Lib.hid hv
 unfold Vl.val
 clear hS hv hl
 go_enter Tryz.func89, Tryz.ntmps89
 go_upto_region 1 with (fail)
 generalize hW : w.alloc _ = W at *
 clear hW
 have hbl := World.block_lt_of_cell? W _ c0
 by_cases h1 : v.kind = 1
 · have HE : RowKit.Hid (encL v = [2] ++ numL v.int) := by show _ = _; rw [encL, if_pos h1]; rfl
   go_upto_region 3 with (fail)
   refine rRa3 (w0 := w0) (fp0 := fp0) b w.heap.size 1 v.int v.text (xs.map u8C) R HV.out (by have := HL.out; simp; omega) rfl (by kernel_rfl) rfl rfl rfl rfl ?_ ?_
   · rw [← h1]
     exact St.emp.2 (HS0.out.perm (List.Perm.swap _ _ _))
   · intro u12 u13 u17 w1 _ h
     have h2 : St w0 fp0 (slA 5 u17 ((xs ++ encL v).map u8C) :: R) w1 := by
      have h3 : St w0 fp0 (slA 5 u17 (xs.map u8C ++ [.int .u8 2] ++ (bytes (textOf (numL v.int))).map u8C) :: blkA w.heap.size 29 #[.int .i64 1, .int .i64 v.int, .string v.text] :: R) w1 := h.drop
      have h4 := (h3.perm (List.Perm.swap _ _ _)).drop
      rw [bytes_textOf, show [Value.int .u8 2] = [(2 : UInt8)].map u8C from rfl, ← List.map_append, ← List.map_append, List.append_assoc, ← HE.out] at h4
      exact h4
     have H2 := Lib.hid h2
     clear h h2
     simp only [putL, List.foldl, Act.put, List.setIfInBounds_toArray, List.set_cons_succ, List.set_cons_zero]
     go_wp2
     go_ret
     have h := H2.out
     simp only [List.map_append] at h
     exact ⟨_, rfl, h⟩
 · by_cases h2 : v.kind = 2
   · have HE : RowKit.Hid (encL v = 3 :: ((bytes v.text).flatMap escB ++ [0])) := by show _ = _; rw [encL, if_neg h1, if_pos h2]
     have hcv : ∀ w, (convert 9 101 (.string v.text)).run Tryz.prog w = .ok (.slice (some ⟨w.heap.size, 0, none⟩) v.text.size (grownCap w v.text.size 0 5))
      (w.drew.alloc (.cells (bytesRow v.text (grownCap w v.text.size 0 5)) 5 ((bytesRow v.text (grownCap w v.text.size 0 5)).size, (bytesRow v.text (grownCap w v.text.size 0 5)).size + 1))) := fun w => run_bytes_of_string w 9 101 5 v.text (by kernel_rfl) (by kernel_rfl) (by kernel_rfl)
     have HCV := Lib.hid hcv
     clear hcv
     go_upto_region 6 with (first
      | (at_builtin; refine wpList_appSl rfl _ _ _ _ rfl rfl rfl appBS ((HS0.out.perm (List.Perm.swap _ _ _)).mono ((Below.refl _ _).alloc (Nat.le_refl _) _)) (src_lit (e' := 5) (by kernel_rfl) _ _ _ _ _ _ #[.int .u8 3] (heap_alloc_new _ _) rfl (by simp; rfl)) (by have := HL.out; simp; omega) ?_; intro b1 w1 h1))
     have H1 := Lib.hid (St.app8 [3] h1 (Below.refl _ _) rfl)
     clear c0 c1 c2 hbl
     obtain ⟨_, hvb⟩ := H1.out.has 1 rfl
     have c2 := (blk_get hvb).1 2
     simp only [List.getElem?_toArray, List.getElem?_cons_zero, List.getElem?_cons_succ] at c2
     clear h1 hvb
     have hcv := HCV.out w1
     have hbr : ∀ j (hj : j < v.text.size), (bytesRow v.text (grownCap w1 v.text.size 0 5))[j]? = some (.int .u8 (v.text[j]'hj).toNat) := bytesRow_get v.text _
     have H2 := Lib.hid ((H1.out.newob (Below.refl _ w1) rfl (.cells (bytesRow v.text (grownCap w1 v.text.size 0 5)) 5 ((bytesRow v.text (grownCap w1 v.text.size 0 5)).size, (bytesRow v.text (grownCap w1 v.text.size 0 5)).size + 1))).mono (below_drew _))
     have hts : v.text.size ≤ 1099511627776 := by have := HL.out; omega
     generalize grownCap w1 v.text.size 0 5 = G at *
     generalize bytesRow v.text G = br at *
     generalize (br.size, br.size + 1) = fr at *
     have Hbr := Lib.hid hbr
     clear hbr H1 HS HCV
     go_upto_region 7 with (fail)
     generalize (w1.alloc _).drew = W2 at *
     generalize w1.heap.size = B at *
     clear hcv c2
     obtain ⟨N, hN⟩ : ∃ N, v.text.size = N := ⟨_, rfl⟩
     have HN := Lib.hid hN
     rw [hN] at hts ⊢
     clear hN
     have H3 : RowKit.Hid (St w0 fp0 (slA 5 b1 ((xs ++ [3] ++ ((bytes v.text).take 0).flatMap escB).map u8C) :: obA B (.cells br 5 fr) :: blkA w.heap.size 29 #[.int .i64 v.kind, .int .i64 v.int, .string v.text] :: R) W2) := by
      have h := H2.out.perm (List.Perm.swap _ _ _)
      show St _ _ _ _
      rw [List.take_zero, List.flatMap_nil, List.append_nil]
      exact h
     go_loopg [0, 27] N (fun g z0 z27 wr => ∃ k : Nat, z27 = .int .i64 k ∧ g + k = N ∧ RowKit.Hid (St w0 fp0 (slA 5 z0 ((xs ++ [3] ++ ((bytes v.text).take k).flatMap escB).map u8C) :: obA B (.cells br 5 fr) :: blkA w.heap.size 29 #[.int .i64 v.kind, .int .i64 v.int, .string v.text] :: R) wr))
     case atStart => exact ⟨0, rfl, by omega, H3⟩
     case round =>
      obtain ⟨k, rfl, hgk, Hs⟩ := hrel
      by_cases hk : k < N
      · have hks : k < v.text.size := by have := HN.out; omega
        have HB1 := Lib.hid (Hbr.out k hks)
        have hst : ((bytes v.text).take (k + 1)).flatMap escB = ((bytes v.text).take k).flatMap escB ++ escB (v.text[k]'hks) := by
         have hkb : k < (bytes v.text).length := by simpa [bytes] using hks
         rw [List.take_add_one, List.getElem?_eq_getElem hkb, List.flatMap_append]
         simp [bytes]
         rfl
        have Hst : RowKit.Hid (xs ++ [3] ++ ((bytes v.text).take (k + 1)).flatMap escB = xs ++ [3] ++ ((bytes v.text).take k).flatMap escB ++ escB (v.text[k]'hks)) := by show _ = _; rw [hst]; simp only [List.append_assoc]
        have hfl : (((bytes v.text).take k).flatMap escB).length ≤ 2 * k := by
         have h : ∀ l : List UInt8, (l.flatMap escB).length ≤ 2 * l.length := by
          intro l
          induction l with
          | nil => simp
          | cons c l ih =>
           rw [List.flatMap_cons, List.length_append, List.length_cons]
           have : (escB c).length ≤ 2 := by unfold escB; split <;> simp
           omega
         have := h ((bytes v.text).take k)
         rw [List.length_take] at this
         omega
        have hlen : (xs ++ [3] ++ ((bytes v.text).take k).flatMap escB).length + 2 < 1099511627776 := by
         have := HL.out
         simp only [List.length_append, List.length_cons, List.length_nil]
         omega
        have Hlen := Lib.hid hlen
        obtain ⟨_, hob⟩ := Hs.out.has 1 rfl
        have cB := cell_of_row wr B k br 5 fr hob.1
        rw [HB1.out] at cB
        have hBl := World.block_lt_of_cell? wr _ cB
        have Hgk := Lib.hid hgk
        have hkn : (k : Int) < N := by omega
        obtain ⟨C, hC⟩ : ∃ C, v.text[k]'hks = C := ⟨_, rfl⟩
        rw [hC] at cB Hst
        clear hC hst hfl hlen hgk hob HB1
        clear hks
        generalize xs ++ [3] ++ ((bytes v.text).take k).flatMap escB = Y at *
        have hC2 := C.toNat_lt
        by_cases hc : C.toNat ≤ 1
        · have HEs : RowKit.Hid ([Value.int .u8 1, .int .u8 ((C.toNat : Int) + 1)] = (escB C).map u8C) := by
           show _ = _
           rw [escB, if_pos (UInt8.le_iff_toNat_le.2 hc)]
           simp only [List.map_cons, List.map_nil, u8C, UInt8.toNat_add]
           have e1 : (1 : UInt8).toNat = 1 := rfl
           rw [e1, Nat.mod_eq_of_lt (by omega)]
           rfl
          have hci : (C.toNat : Int) ≤ 1 := by omega
          have hw : IntKind.u8.wrap ((C.toNat : Int) + 1) = (C.toNat : Int) + 1 := by simp only [IntKind.wrap, IntKind.bits, IntKind.signed]; simp; omega
          clear hc
          go_wp2_with (first
           | (at_builtin; refine wpList_appSl rfl _ _ _ _ rfl rfl rfl appBS (Hs.out.mono ((Below.refl _ _).alloc (Nat.le_refl _) _)) (src_lit (e' := 5) (by kernel_rfl) _ _ _ _ _ _ #[.int .u8 1, .int .u8 ((C.toNat : Int) + 1)] (heap_alloc_new _ _) rfl (by simp; exact ⟨rfl, rfl⟩)) (by have := Hlen.out; simp at this ⊢; omega) ?_; intro b3 w3 h3))
          go_roundg (gk - 1)
          case rel => exact ⟨k + 1, by go_num, by have := Hgk.out; omega, by rw [Hst.out]; exact St.app8 _ h3 (Below.refl _ _) HEs.out⟩
          case measure => have := Hgk.out; omega
        · have HEs : RowKit.Hid ([Value.int .u8 C.toNat] = (escB C).map u8C) := by
           show _ = _
           rw [escB, if_neg (fun h => hc (UInt8.le_iff_toNat_le.1 h))]
           rfl
          have hci : ¬ (C.toNat : Int) ≤ 1 := by omega
          clear hc
          go_wp2_with (first
           | (at_builtin; refine wpList_appSl rfl _ _ _ _ rfl rfl rfl appBS (Hs.out.mono ((Below.refl _ _).alloc (Nat.le_refl _) _)) (src_lit (e' := 5) (by kernel_rfl) _ _ _ _ _ _ #[.int .u8 C.toNat] (heap_alloc_new _ _) rfl (by simp; rfl)) (by have := Hlen.out; simp at this ⊢; omega) ?_; intro b3 w3 h3))
          go_roundg (gk - 1)
          case rel => exact ⟨k + 1, by go_num, by have := Hgk.out; omega, by rw [Hst.out]; exact St.app8 _ h3 (Below.refl _ _) HEs.out⟩
          case measure => have := Hgk.out; omega
      · obtain rfl : k = N := by omega
        have hl : (bytes v.text).take k = bytes v.text := List.take_of_length_le (by have := HN.out; simp [bytes]; omega)
        rw [hl] at Hs
        have hfl : ((bytes v.text).flatMap escB).length ≤ 2 * k := by
         have h : ∀ l : List UInt8, (l.flatMap escB).length ≤ 2 * l.length := by
          intro l
          induction l with
          | nil => simp
          | cons c l ih =>
           rw [List.flatMap_cons, List.length_append, List.length_cons]
           have : (escB c).length ≤ 2 := by unfold escB; split <;> simp
           omega
         have h2 := h (bytes v.text)
         have : (bytes v.text).length = k := by have := HN.out; simpa [bytes] using this
         omega
        have Hlen : RowKit.Hid ((xs ++ [3] ++ (bytes v.text).flatMap escB).length + 2 < 1099511627776) := by
         show _ < _
         have := HL.out
         have := HN.out
         simp only [List.length_append, List.length_cons, List.length_nil]
         omega
        clear hl hfl
        have HE2 : RowKit.Hid (xs ++ encL v = xs ++ [3] ++ (bytes v.text).flatMap escB ++ [0]) := by show _ = _; rw [HE.out]; simp
        generalize xs ++ [3] ++ (bytes v.text).flatMap escB = Y at *
        clear hgk hk
        go_wp2_with (first
         | (at_builtin; refine wpList_appSl rfl _ _ _ _ rfl rfl rfl appBS (Hs.out.mono ((Below.refl _ _).alloc (Nat.le_refl _) _)) (src_lit (e' := 5) (by kernel_rfl) _ _ _ _ _ _ #[.int .u8 0] (heap_alloc_new _ _) rfl (by simp; rfl)) (by have := Hlen.out; simp at this ⊢; omega) ?_; intro b3 w3 h3))
        go_ret
        have h := (St.app8 [0] h3 (Below.refl _ _) rfl).out
        rw [← HE2.out] at h
        have h5 := St.dropAll (A := [obA B (.cells br 5 fr), blkA w.heap.size 29 #[.int .i64 v.kind, .int .i64 v.int, .string v.text]]) (show St w0 fp0 ([obA B (.cells br 5 fr), blkA w.heap.size 29 #[.int .i64 v.kind, .int .i64 v.int, .string v.text]] ++ (slA 5 b3 ((xs ++ encL v).map u8C) :: R)) w3 from St_re (L := [_, _, _]) h [1, 2, 0] [] (by kernel_rfl))
        simp only [List.map_append] at h5
        exact ⟨_, rfl, h5⟩
   · have HE : RowKit.Hid (encL v = [1]) := by show _ = _; rw [encL, if_neg h1, if_neg h2]
     go_wp2_with (first
      | (at_builtin; refine wpList_appSl rfl _ _ _ _ rfl rfl rfl appBS (HS.out.mono ((Below.refl _ _).alloc (Nat.le_refl _) _)) (src_lit (e' := 5) (by kernel_rfl) _ _ _ _ _ _ #[.int .u8 1] (heap_alloc_new _ _) rfl (by simp; rfl)) (by have := HL.out; simp; omega) ?_; intro b1 w1 h1))
     go_ret
     have h := (St.app8 [1] h1 (Below.refl _ _) rfl).out
     rw [← HE.out] at h
     simp only [List.map_append] at h
     exact ⟨_, rfl, h⟩
end Go.Proofs.YtnefkkidfhmggaaGreat
