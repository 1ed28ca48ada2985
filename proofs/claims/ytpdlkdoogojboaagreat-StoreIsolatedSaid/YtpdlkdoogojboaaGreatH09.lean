/- Part 9 of the proof: Cs, P4, Cq, Bu, Bt, It, Iu, So, Al, Cn2, M2r, M2 -/
import Derived.Test.YtpdlkdoogojboaaGreatH08
import Derived.Test.YtpdlkdoogojboaaGreatH04
import Derived.Test.YtpdlkdoogojboaaGreatH02
import Derived.Test.YtpdlkdoogojboaaGreatH05
import Derived.Test.YtpdlkdoogojboaaGreatH06
import Derived.OwnWalkIn
import Derived.TacticsInMore
import Derived.LoopIn
import Derived.LoopNIn
import Derived.Shelf.Abstract
import Derived.Shelf.RegionOpen
import Derived.Test.YtpdlkdoogojboaaGreatH07
/- collect: its start, over both trees. -/
namespace Go.Proofs.YtpdlkdoogojboaaGreat
open Go Go.RowKit
set_option maxRecDepth 100000
theorem entCs (β:Bool) [OkI β]:Tryz.prog.funcs[fCollect β]? =some (BCollect β)∧(BCollect β).body=some (bodyC (BCollect β))∧(BCollect β).ntmps=88:=by cases β <;> first | (exact absurd (OkI.ok (β:=true)) (by decide)) | exact ⟨kr (by kernel_rfl),kr (by kernel_rfl),kr (by kernel_rfl)⟩
noncomputable def gCs0 (β:Bool)  :=rg Tryz.prog (BCollect β) 0 88 [(8,1)] [] (Vq 0 8 [Kv (.slice none 0 0)]) []
theorem obCs0 (β:Bool) [OkI β]   (w0:World) (fp0:List Nat) (R:List Asn):(gCs0 β  w0 fp0 R).Ok 1:=by
 cases β <;> first | (exact absurd (OkI.ok (β:=true)) (by decide)) | exact Rg.ok _ 1 [] trivial
theorem cdCs0 (β:Bool) [OkI β]:IsSq (BCollect β) [] 0:=by cases β <;> first | (exact absurd (OkI.ok (β:=true)) (by decide)) | exact isq (by kernel_rfl)
noncomputable def gCs1 (β:Bool)  :=rg Tryz.prog (BCollect β) 1 88 [(9,1)] [] (Vq 0 9 [Kn 0]) []
theorem obCs1 (β:Bool) [OkI β]   (w0:World) (fp0:List Nat) (R:List Asn):(gCs1 β  w0 fp0 R).Ok 1:=by
 cases β <;> first | (exact absurd (OkI.ok (β:=true)) (by decide)) | exact Rg.ok _ 1 [] trivial
theorem cdCs1 (β:Bool) [OkI β]:IsSq (BCollect β) [1] 1:=by cases β <;> first | (exact absurd (OkI.ok (β:=true)) (by decide)) | exact isq (by kernel_rfl)
theorem sqCs0 (β:Bool) [OkI β]:Sq (BCollect β) [1,1]:=by cases β <;> first | (exact absurd (OkI.ok (β:=true)) (by decide)) | exact isQ (by kernel_rfl)
noncomputable def gCs2n (β:Bool)  :=rg Tryz.prog (BCollect β) 2 88 [(10,2)] [(2, .pointer none)] (Vq 0 10 [Kv (.pointer none),Kv (.bool false)]) []
theorem obCs2n (β:Bool) [OkI β]   (w0:World) (fp0:List Nat) (R:List Asn):(gCs2n β  w0 fp0 R).Ok 2:=by
 cases β <;> first | (exact absurd (OkI.ok (β:=true)) (by decide)) | exact Rg.ok _ 2 [] trivial
theorem cdCs2n (β:Bool) [OkI β]:IsSq (BCollect β) [1,1,0] 2:=by cases β <;> first | (exact absurd (OkI.ok (β:=true)) (by decide)) | exact isq (by kernel_rfl)
theorem ccCs11 (β:Bool) [OkI β]:isCond (csnd (cfst (csnd (csnd (bodyC (BCollect β))))))=true∧ccond (csnd (cfst (csnd (csnd (bodyC (BCollect β))))))=.tmp 11:=by cases β <;> first | (exact absurd (OkI.ok (β:=true)) (by decide)) | exact ⟨kr (by kernel_rfl),kr (by kernel_rfl)⟩
theorem isSkipCs1 (β:Bool) [OkI β]:isSkip (celse (csnd (cfst (csnd (csnd (bodyC (BCollect β)))))))=true:=by cases β <;> first | (exact absurd (OkI.ok (β:=true)) (by decide)) | exact kr (by kernel_rfl)
noncomputable def gCs2k (β:Bool) (lb:Nat):=rg Tryz.prog (BCollect β) 2 88 [(10,2)] [(2,pV lb 0)] (Vq 0 10 [Kp lb 0,Kv (.bool true)]) []
theorem obCs2k (β:Bool) [OkI β] (lb:Nat)  (w0:World) (fp0:List Nat) (R:List Asn):(gCs2k β lb w0 fp0 R).Ok 2:=by
 cases β <;> first | (exact absurd (OkI.ok (β:=true)) (by decide)) | exact Rg.ok _ 2 [] trivial
theorem cdCs2k (β:Bool) [OkI β]:IsSq (BCollect β) [1,1,0] 2:=by cases β <;> first | (exact absurd (OkI.ok (β:=true)) (by decide)) | exact isq (by kernel_rfl)
noncomputable def gCs3 (β:Bool) (b i0 lb:Nat) (ks vs ps kk:Value) (q:Bool) (xs:List Value):=rg Tryz.prog (BCollect β) 3 88 [(13,5),(12,1),(18,2),(9,1)] [(0,pV b 0),(2,pV lb 0)] (Vq 0 13 [Kp b 0,Kp lb 0,Kp lb 0,Kv kk,Kv (.tuple #[nV i0, .bool q])]++Vq 5 12 [Kv (.tuple #[nV i0, .bool q])]++Vq 6 18 [Kn i0,Kv (.bool q)]++Vq 8 9 [Kn i0]) [Bk b (tN β) [ks,vs,ps], .sl (tK β) (ks) xs [],Bk lb (tK β) [kk]]
theorem obCs3 (β:Bool) [OkI β] (b i0 lb:Nat) (ks vs ps kk:Value) (q:Bool) (xs:List Value) (hf:∀w fp fp',(blkA b (tN β) #[ks,vs,ps]).p w fp→(slA (tK β) ks xs).p w fp'→Calls Tryz.prog (fFind β) #[ptrV b,kk] w fun e w'=> e=.returned (.tuple #[.int .i64 i0, .bool q])∧Below w.heap.size w w') (w0:World) (fp0:List Nat) (R:List Asn):(gCs3 β b i0 lb ks vs ps kk q xs w0 fp0 R).Ok 9:=by
 cases β <;> first | (exact absurd (OkI.ok (β:=true)) (by decide)) | exact Rg.ok _ 9 [3,4] ⟨.load _ 3 2 0, .ask2 _ 4 0 1 hf,trivial⟩
theorem cdCs3 (β:Bool) [OkI β]:IsRg (BCollect β) [1,1,0,1,2] 3:=by cases β <;> first | (exact absurd (OkI.ok (β:=true)) (by decide)) | exact irg (by kernel_rfl)
theorem sqCs2 (β:Bool) [OkI β]:Sq (BCollect β) [1,1,1]:=by cases β <;> first | (exact absurd (OkI.ok (β:=true)) (by decide)) | exact isQ (by kernel_rfl)
noncomputable def gCs11 (β:Bool) (v1:Value):=rg Tryz.prog (BCollect β) 11 88 [(87,1),(8,1)] [(1,v1)] (Vq 0 87 [Kv v1]++Vq 1 8 [Kv v1]) []
theorem obCs11 (β:Bool) [OkI β] (v1:Value)  (w0:World) (fp0:List Nat) (R:List Asn):(gCs11 β v1 w0 fp0 R).Ok 2:=by
 cases β <;> first | (exact absurd (OkI.ok (β:=true)) (by decide)) | exact Rg.ok _ 2 [] trivial
theorem cdCs11 (β:Bool) [OkI β]:IsSq (BCollect β) [1,1,1,1] 11:=by cases β <;> first | (exact absurd (OkI.ok (β:=true)) (by decide)) | exact isq (by kernel_rfl)
theorem isRetCs3 (β:Bool) [OkI β]:isRet (csnd (csnd (csnd (csnd (csnd (bodyC (BCollect β)))))))=true:=by cases β <;> first | (exact absurd (OkI.ok (β:=true)) (by decide)) | exact kr (by kernel_rfl)
theorem resCs (β:Bool) [OkI β]:(BCollect β).results=#[.tmp 8]:=by cases β <;> first | (exact absurd (OkI.ok (β:=true)) (by decide)) | exact kr (by kernel_rfl)
set_option maxHeartbeats 4000000 in
theorem col_flat (β:Bool) [OkI β] (b i0 lb:Nat) (ks vs ps v0 pl ph kk:Value) (q:Bool) (xs:List Value) (OL X:Asn) (Y:Value→Asn) (hpl:(pl=.pointer none∧i0=0)∨(pl=.pointer (some ⟨lb,0,none⟩)∧OL=blkA lb (tK β) #[kk]))
 (hfind:pl≠.pointer none→∀w fp fp',(blkA b (tN β) #[ks,vs,ps]).p w fp→(slA (tK β) ks xs).p w fp'→Calls Tryz.prog (fFind β) #[ptrV b,kk] w fun e w'=> e=.returned (.tuple #[.int .i64 i0, .bool q])∧Below w.heap.size w w') (w0 w:World) (fp0:List Nat) (R:List Asn) (Rr:Ending→World→Prop)
 (HL:∀(Q:Exit→Act→World→Prop) (A:Act) (w:World),Knows 88 A [(0, .pointer (some ⟨b,0,none⟩)),(1,v0),(2,pl),(3,ph),(9, .int .i64 i0)]→St w0 fp0 ([blkA b (tN β) #[ks,vs,ps],slA (tK β) (ks) xs,OL,X]++R) w→
  (∀(v1:Value) (A:Act) (w:World),Knows 88 A [(1,v1)]→St w0 fp0 ([Y v1]++R) w→Q .normal A w)→(∀(v1:Value) (A:Act) (w:World),Knows 88 A [(8,v1)]→Rr (.returned v1) w→Q .ret A w)→(cfst (csnd (csnd (csnd (bodyC (BCollect β)))))).wp Tryz.prog Q A w)
 (hE:∀v1 w',St w0 fp0 ([Y v1]++R) w'→Rr (.returned v1) w')
 (hS:St w0 fp0 ([blkA b (tN β) #[ks,vs,ps],slA (tK β) (ks) xs,OL,X]++R) w):Calls Tryz.prog (fCollect β) #[ptrV b,v0,pl,ph] w Rr:=by
 refine calls_T [(0,pV b 0),(1,v0),(2,pl),(3,ph)] (entCs β) (by simp) (by kernel_rfl) fun A0 K0=> ?_
 refine wp_seqT (cdCs0 β).sq ?_
 refine wp_regT (obCs0 β   _ _ _) (by kernel_rfl) (cdCs0 β).cd (K0.sub (by kernel_rfl)) (St_re hS [] [0,1,2,3] (by kernel_rfl)) fun A1 w1 N1 H1=> ?_
 have S1:St w0 fp0 ([blkA b (tN β) #[ks,vs,ps],slA (tK β) (ks) xs,OL,X]++R) w1:=H1
 have K1:Knows 88 A1 [(0,pV b 0),(1,v0),(2,pl),(3,ph),(8, .slice none 0 0)]:=N1.knows K0 (by kernel_rfl)
 refine wp_seqT (cdCs1 β).sq ?_
 refine wp_regT (obCs1 β   _ _ _) (by kernel_rfl) (cdCs1 β).cd (K1.sub (by kernel_rfl)) (St_re S1 [] [0,1,2,3] (by kernel_rfl)) fun A2 w2 N2 H2=> ?_
 have S2:St w0 fp0 ([blkA b (tN β) #[ks,vs,ps],slA (tK β) (ks) xs,OL,X]++R) w2:=H2
 have K2:Knows 88 A2 [(0,pV b 0),(1,v0),(2,pl),(3,ph),(8, .slice none 0 0),(9,nV 0)]:=N2.knows K1 (by kernel_rfl)
 refine wp_seqJ (sqCs0 β) (fun A w=> Knows 88 A [(0,pV b 0),(1,v0),(2,pl),(3,ph),(9,nV i0)]∧St w0 fp0 ([blkA b (tN β) #[ks,vs,ps],slA (tK β) (ks) xs,OL,X]++R) w) ?_ ?_
 · skip
   rcases hpl with ⟨rfl,rfl⟩ | ⟨rfl,rfl⟩
   · skip
     refine wp_seqT (cdCs2n β).sq ?_
     refine wp_regT (obCs2n β   _ _ _) (by kernel_rfl) (cdCs2n β).cd (K2.sub (by kernel_rfl)) (St_re S2 [] [0,1,2,3] (by kernel_rfl)) fun A3 w3 N3 H3=> ?_
     have S3:St w0 fp0 ([blkA b (tN β) #[ks,vs,ps],slA (tK β) (ks) xs,OL,X]++R) w3:=H3
     have K3:Knows 88 A3 [(0,pV b 0),(1,v0),(2, .pointer none),(3,ph),(8, .slice none 0 0),(9,nV 0),(11, .bool false)]:=N3.knows K2 (by kernel_rfl)
     refine wp_condK (ccCs11 β) K3 (by rfl) (fun hq=> ?_) (fun hq=> ?_)
     · skip
       cases hq
     · skip
       refine wp_skipT (isSkipCs1 β) ?_
       exact ⟨K3.sub (by kernel_rfl),(St_re S3 [0,1,2,3] [] (by kernel_rfl))⟩
   · skip
     have hf:=hfind (by simp)
     refine wp_seqT (cdCs2k β).sq ?_
     refine wp_regT (obCs2k β lb  _ _ _) (by kernel_rfl) (cdCs2k β).cd (K2.sub (by kernel_rfl)) (St_re S2 [] [0,1,2,3] (by kernel_rfl)) fun A4 w4 N4 H4=> ?_
     have S4:St w0 fp0 ([blkA b (tN β) #[ks,vs,ps],slA (tK β) (ks) xs,blkA lb (tK β) #[kk],X]++R) w4:=H4
     have K4:Knows 88 A4 [(0,pV b 0),(1,v0),(2,pV lb 0),(3,ph),(8, .slice none 0 0),(9,nV 0),(11, .bool true)]:=N4.knows K2 (by kernel_rfl)
     refine wp_condK (ccCs11 β) K4 (by rfl) (fun hq=> ?_) (fun hq=> ?_)
     · skip
       refine wp_regT (obCs3 β b i0 lb ks vs ps kk q xs hf _ _ _) (by kernel_rfl) (cdCs3 β).cd (K4.sub (by kernel_rfl)) (St_re S4 [0,1,2] [3] (by kernel_rfl)) fun A5 w5 N5 H5=> ?_
       have S5:St w0 fp0 ([blkA b (tN β) #[ks,vs,ps],slA (tK β) (ks) xs,blkA lb (tK β) #[kk],X]++R) w5:=H5
       have K5:Knows 88 A5 [(0,pV b 0),(1,v0),(2,pV lb 0),(3,ph),(8, .slice none 0 0),(11, .bool true),(9,nV i0)]:=N5.knows K4 (by kernel_rfl)
       exact ⟨K5.sub (by kernel_rfl),(St_re S5 [0,1,2,3] [] (by kernel_rfl))⟩
     · skip
       cases hq
 · rintro A6 w6 ⟨K6,S6⟩
   refine wp_seqT (sqCs2 β) ?_
   refine HL _ _ _ K6 S6 (fun v1 A w K S=> ?_) fun v1 A w K hr=> ?_
   · skip
     show (csnd (csnd (csnd (csnd (bodyC (BCollect β)))))).wp Tryz.prog (bodyPost Tryz.prog (BCollect β) Rr) A w
     refine wp_seqT (cdCs11 β).sq ?_
     refine wp_regT (obCs11 β v1  _ _ _) (by kernel_rfl) (cdCs11 β).cd (K.sub (by kernel_rfl)) (St_re S [] [0] (by kernel_rfl)) fun A7 w7 N7 H7=> ?_
     have S7:St w0 fp0 ([Y v1]++R) w7:=H7
     have K7:Knows 88 A7 [(1,v1),(8,v1)]:=N7.knows K (by kernel_rfl)
     refine wp_retT (isRetCs3 β) ?_
     refine post_T K7 (res1 (resCs β) K7 (by rfl)) ?_
     exact hE v1 _ S7
   · skip
     exact post_T K (res1 (resCs β) K (by rfl)) (hr)
end Go.Proofs.YtpdlkdoogojboaaGreat
/- Plain: the entries of a tree in a range, node by node. -/
namespace Go.Proofs.YtpdlkdoogojboaaGreat
open T
section
variable {κ ν:Type}
def kidL:Nat→T κ ν→Nat→M κ ν
 | 0,_,_=> []
 | h+1,x,i=> match x.cs[i]? with
  | some c=> toL h c
  | none=> []
def partL:Nat→T κ ν→Nat→M κ ν
 | 0,x,i=> x.es.take i
 | h+1,x,i=> pre (toL h) (x.es.take i) (x.cs.take i)
theorem pre_snoc (f:T κ ν→M κ ν):∀(A:M κ ν) (C:List (T κ ν)) (a:κ×ν) (c:T κ ν),A.length=C.length→pre f (A++[a]) (C++[c])=pre f A C++f c++[a]
 | [],[],a,c,_=> by simp [pre]
 | x::A,y::C,a,c,h=> by
  rw [List.cons_append,List.cons_append,pre,pre,pre_snoc f A C a c (by simpa using h)]
  simp
 | [],_::_,_,_,h=> by simp at h
 | _::_,[],_,_,h=> by simp at h
theorem part_zero (h:Nat) (x:T κ ν):partL h x 0=[]:=by
 cases h <;> simp [partL,pre]
theorem part_succ {o h lo hi:Nat} {x:T κ ν} (hb:Body o h lo hi x) {i:Nat} {y:κ×ν} (hy:x.es[i]? =some y):partL h x (i+1)=partL h x i++kidL h x i++[y]:=by
 obtain ⟨hi',hy'⟩:=List.getElem?_eq_some_iff.1 hy
 cases h with
 | zero=> simp only [partL,kidL,List.append_nil];rw [List.take_succ_eq_append_getElem hi',hy']
 | succ h=>
  have h3:=hb.2.2.1
  have hc:i < x.cs.length:=by omega
  simp only [partL,kidL,List.getElem?_eq_getElem hc]
  rw [List.take_succ_eq_append_getElem hi',List.take_succ_eq_append_getElem hc,hy',pre_snoc _ _ _ _ _ (by simp;omega)]
theorem part_rest {o h lo hi:Nat} {x:T κ ν} (hb:Body o h lo hi x) {i:Nat} {y:κ×ν} (hy:x.es[i]? =some y):∃rest,toL h x=partL h x i++kidL h x i++y::rest:=by
 obtain ⟨hi',hy'⟩:=List.getElem?_eq_some_iff.1 hy
 cases h with
 | zero=> exact ⟨x.es.drop (i+1),by simp only [partL,kidL,List.append_nil,toL];exact split_at hy⟩
 | succ h=>
  have h3:=hb.2.2.1
  obtain ⟨c,hc⟩:∃c,x.cs[i]? =some c:=⟨_,List.getElem?_eq_getElem (by omega)⟩
  obtain ⟨d,hd⟩:∃d,x.cs[i+1]? =some d:=⟨_,List.getElem?_eq_getElem (by omega)⟩
  obtain ⟨t1,t2,t3⟩:=two_at hc hd hy
  refine ⟨toL h d++post (toL h) (x.es.drop (i+1)) (x.cs.drop (i+2)),?_⟩
  simp only [partL,kidL,hc]
  conv=> lhs;rw [←T.eta x,t1,t2]
  rw [toL_two h _ _ _ _ _ _ _ t3]
  simp
theorem part_end {o h lo hi:Nat} {x:T κ ν} (hb:Body o h lo hi x):toL h x=partL h x x.es.length++kidL h x x.es.length:=by
 cases h with
 | zero=> simp [partL,kidL,toL]
 | succ h=>
  have h3:=hb.2.2.1
  obtain ⟨es,cs⟩:=x
  simp only [es_node,cs_node] at h3
  obtain ⟨C,c,rfl⟩:=snoc_of (ne_nil (l:=cs) (by omega))
  have hl:es.length=C.length:=by simp at h3;omega
  rw [toL_last h _ _ _ hl]
  have e1:(C++[c])[es.length]? =some c:=by rw [hl];simp
  have e2:(C++[c]).take es.length=C:=by rw [hl];simp
  simp only [partL,kidL,es_node,cs_node,e1,e2,List.take_length]
end
section
variable {κ ν:Type} [KOrd κ]
def inR (lo hi:Option κ) (e:κ×ν):Bool:=(match lo with | none=> true | some k=> !decide (ltK e.1 k)) && (match hi with | none=> true | some k=> decide (ltK e.1 k))
def selM (lo hi:Option κ) (l:M κ ν):M κ ν:=l.filter (inR lo hi)
theorem selM_append (lo hi:Option κ) (l m:M κ ν):selM lo hi (l++m)=selM lo hi l++selM lo hi m:=List.filter_append _ _
theorem selM_all (l:M κ ν):selM none none l=l:=by
 unfold selM
 rw [List.filter_eq_self]
 intro a _
 rfl
def startI (lo:Option κ) (es:M κ ν):Nat:=match lo with | none=> 0 | some k=> posK es k
theorem startI_le (lo:Option κ) (es:M κ ν):startI lo es≤es.length:=by
 unfold startI
 cases lo with
 | none=> exact Nat.zero_le _
 | some k=> exact posK_le es k
theorem posK_ge {es:M κ ν} (ha:AscM es) {k:κ} {i:Nat} (h:posK es k≤i) {y:κ×ν} (hy:es[i]? =some y):¬ ltK y.1 k:=by
 obtain ⟨hi,hy'⟩:=List.getElem?_eq_some_iff.1 hy
 have hp:posK es k < es.length:=by omega
 have h0:=posK_head (es:=es) (k:=k) (List.drop_eq_getElem_cons hp)
 by_cases e:posK es k=i
 · subst e;rw [←hy'];exact h0
 · intro hlt
   apply h0
   have:=(List.pairwise_iff_getElem.1 ha) (posK es k) i hp hi (by omega)
   rw [hy'] at this
   exact ltK_trans this hlt
theorem sel_start {o h lob hib:Nat} {x:T κ ν} (hb:Body o h lob hib x) (ha:AscM (toL h x)) (lo hi:Option κ):selM lo hi (partL h x (startI lo x.es))=[]:=by
 cases lo with
 | none=> rw [show startI none x.es=0 from rfl,part_zero];rfl
 | some k=>
  have hle:=posK_le x.es k
  have hall:AllLt (partL h x (posK x.es k)) k:=by
   cases h with
   | zero=> exact posK_lt x.es k
   | succ h=>
    refine pre_lt (posK_lt x.es k) ?_
    have h3:=hb.2.2.1
    obtain ⟨c,hc⟩:∃c,x.cs[posK x.es k]? =some c:=⟨_,List.getElem?_eq_getElem (by omega)⟩
    have hl1:(x.es.take (posK x.es k)).length=(x.cs.take (posK x.es k)).length:=by simp;omega
    have hxe:toL (h+1) x=pre (toL h) (x.es.take (posK x.es k)) (x.cs.take (posK x.es k))++toL h c++post (toL h) (x.es.drop (posK x.es k)) (x.cs.drop (posK x.es k+1)):=by
     rw [←toL_split h _ _ _ _ _ hl1,List.take_append_drop,←split_at hc,T.eta]
    rw [hxe] at ha
    exact (AscM.append.1 (AscM.append.1 ha).1).1
  unfold selM
  rw [List.filter_eq_nil_iff]
  intro a ha'
  have:=hall a ha'
  simp [inR,this]
theorem sel_stop {l:M κ ν} {y:κ×ν} {rest:M κ ν} (ha:AscM (l++y::rest)) {lo:Option κ} {k:κ} (hk:¬ ltK y.1 k):selM lo (some k) (l++y::rest)=selM lo (some k) l:=by
 obtain ⟨_,_,_,h4,_⟩:=ha.mid
 rw [selM_append]
 have:selM lo (some k) (y::rest)=[]:=by
  unfold selM
  rw [List.filter_eq_nil_iff]
  intro a hm
  have hn:¬ ltK a.1 k:=by
   rcases List.mem_cons.1 hm with rfl | hm
   · exact hk
   · exact fun h=> hk (ltK_trans (h4 a hm) h)
  simp [inR,hn]
 rw [this,List.append_nil]
theorem sel_take {es:M κ ν} (ha:AscM es) {lo hi:Option κ} {i:Nat} (h:startI lo es≤i) {y:κ×ν} (hy:es[i]? =some y) (hh:∀k,hi=some k→ltK y.1 k):selM lo hi [y]=[y]:=by
 have h1:inR lo hi y=true:=by
  unfold inR
  cases lo with
  | none=>
   cases hi with
   | none=> rfl
   | some k=> simp [hh k rfl]
  | some k0=>
   have:=posK_ge ha (show posK es k0≤i from h) hy
   cases hi with
   | none=> simp [this]
   | some k=> simp [this,hh k rfl]
 unfold selM
 rw [List.filter_cons,if_pos h1]
 rfl
end
end Go.Proofs.YtpdlkdoogojboaaGreat
/- collect at trees. -/
namespace Go.Proofs.YtpdlkdoogojboaaGreat
open Go Go.RowKit
variable {β:Bool} [OkI β]
def entsV (l:MM):List Value:=l.flatMap fun e=> [encK e.1,encV e.2]
def entA (β:Bool) (v:Value) (l:MM):Asn:=rowA (tE β) 2 v l.length (entsV l)
theorem entsV_snoc (l:MM) (e:Ky×Va):entsV (l++[e])=entsV l++[encK e.1,encV e.2]:=by simp [entsV]
def optP (b:Nat):Option Ky→Value
 | none=> .pointer none
 | some _=> .pointer (some ⟨b,0,none⟩)
def optB (β:Bool) (b:Nat):Option Ky→Asn
 | none=> emp
 | some k=> blkA b (tK β) #[encK k]
/-- What collect promises. -/
def ColT (β:Bool) (lo hi:Option Ky) (lb hb h:Nat) (x:TT) (b:Nat):Prop:=∀(v0:Value) (l:MM) (w0 w:World) (fp0:List Nat) (R:List Asn),l.length+(toL h x).length+1 < 1099511627776→St w0 fp0 ([entA β v0 l,treeA β h x b,optB β lb lo,optB β hb hi]++R) w→
 Calls Tryz.prog (fCollect β) #[ptrV b,v0,optP lb lo,optP hb hi] w fun e w'=> ∃a n c,e=.returned (.slice a n c)∧St w0 fp0 ([entA β (.slice a n c) (l++selM lo hi (toL h x)),treeA β h x b,optB β lb lo,optB β hb hi]++R) w'
theorem part_len {o h lo hi:Nat} {x:TT} (hb:Body o h lo hi x) {i:Nat} (hi':i≤x.es.length):(partL h x i).length+(kidL h x i).length≤(toL h x).length:=by
 by_cases e:i < x.es.length
 · obtain ⟨rest,hr⟩:=part_rest hb (List.getElem?_eq_getElem e)
   rw [hr]
   simp only [List.length_append]
   omega
 · have e2:i=x.es.length:=by omega
   rw [part_end hb,e2,List.length_append]
   exact Nat.le_refl _
theorem col_loop {o h:Nat} (ho':o≤1024) (x:TT) (b:Nat) (lo hi:Option Ky) (lb hb:Nat) (hokh:∀k,hi=some k→k.ok β) (l:MM) (lob:Nat) (hbd:Body o h lob (o - 1) x) (ha:AscM (toL h x)) (hok:OkL β (toL h x)) (hlen:l.length+(toL h x).length+1 < 1099511627776) (bs:List Nat) (hl:bs.length=x.cs.length) (ks vs ps:Value) (w0:World) (fp0:List Nat) (R:List Asn)
 (HREC:∀(h' i:Nat) (c:TT) (cb:Nat),h=h'+1→x.cs[i]? =some c→bs[i]? =some cb→ColT β lo hi lb hb h' c cb) (Q:Exit→Act→World→Prop)
 (hQ:∀(v1:Value) (A:Act) (w:World),Knows 88 A [(8,v1)]→St w0 fp0 ([entA β v1 (l++selM lo hi (toL h x)),blkA b (tN β) #[ks,vs,ps],slA (tK β) ks (keysV x.es),slA (tV β) vs (valsV x.es),slA (tP β) ps (bs.map ptrV),starA (List.zipWith (kidA β h) x.cs bs),optB β lb lo,optB β hb hi]++R) w→Q .ret A w):
 ∀(g i:Nat) (v0:Value) (A:Act) (w:World),g+i=x.es.length→startI lo x.es≤i→Knows 88 A [(0, .pointer (some ⟨b,0,none⟩)),(1,v0),(2,optP lb lo),(3,optP hb hi),(9, .int .i64 i)]→
  St w0 fp0 ([entA β v0 (l++selM lo hi (partL h x i)),blkA b (tN β) #[ks,vs,ps],slA (tK β) ks (keysV x.es),slA (tV β) vs (valsV x.es),slA (tP β) ps (bs.map ptrV),starA (List.zipWith (kidA β h) x.cs bs),optB β lb lo,optB β hb hi]++R) w→
  Code.rounds Tryz.prog (cbody (cbody (cfst (csnd (csnd (csnd (bodyC (BCollect β)))))))) Q (g+1) A w
 | g,i,v0,A,w,hg,hsi,K,hS=> by
  rw [rounds_succ]
  obtain ⟨_,q1⟩:=hS.has 2 rfl
  obtain ⟨_,q3⟩:=hS.has 4 rfl
  obtain ⟨ak,ck,rfl, -⟩:=sl_get q1
  obtain ⟨pa,pc,rfl, -⟩:=sl_get q3
  have hes:x.es.length≤1023:=by have:=hbd.hi;omega
  have hae:AscM x.es:=asc_es ha
  obtain ⟨y,hy,hyo⟩:∃y:Ky×Va,(i < x.es.length→x.es[i]? =some y)∧∀kh,hi=some kh→y.1.ok β:=by
   by_cases e:i < x.es.length
   · exact ⟨x.es[i],fun _=> List.getElem?_eq_getElem e,fun _ _=> hok.es _ (List.getElem_mem e)⟩
   · cases hi with
     | none=> exact ⟨(.int 0, .int 0),fun h=> absurd h e,fun _ h=> nomatch h⟩
     | some kh=> exact ⟨(kh, .int 0),fun h=> absurd h e,fun _ _=> hokh kh rfl⟩
  obtain ⟨r,hr⟩:∃r:Int,∀kh,hi=some kh→r=KOrd.cmp y.1 kh:=by
   cases hi with
   | none=> exact ⟨0,fun _ h=> nomatch h⟩
   | some kh=> exact ⟨KOrd.cmp y.1 kh,fun _ e=> by cases e;rfl⟩
  obtain ⟨hh,hhh⟩:∃hh:Value,∀kh,hi=some kh→hh=encK kh:=by
   cases hi with
   | none=> exact ⟨.int .i64 0,fun _ h=> nomatch h⟩
   | some kh=> exact ⟨encK kh,fun _ e=> by cases e;rfl⟩
  obtain ⟨cb,hcb⟩:∃cb,bs.length≠0→bs[i]? =some cb:=by
   by_cases h0:bs.length=0
   · exact ⟨0,fun hh=> absurd h0 hh⟩
   · have:i < bs.length:=by
      rcases hbd.kids with ⟨_,e⟩ | ⟨_,_,e,_⟩
      · rw [hl,e] at h0;exact absurd rfl h0
      · omega
     exact ⟨_,fun _=> List.getElem?_eq_getElem this⟩
  have hpl:=part_len hbd (i:=i) (by omega)
  have hsl:(l++selM lo hi (partL h x i++kidL h x i)).length≤l.length+(toL h x).length:=by
   rw [List.length_append]
   have:(selM lo hi (partL h x i++kidL h x i)).length≤(partL h x i++kidL h x i).length:=List.length_filter_le _ _
   rw [List.length_append] at this
   omega
  have hbl:bs.length≤1025:=by
   rcases hbd.kids with ⟨_,e⟩ | ⟨_,_,e,_⟩
   · rw [hl,e];simp
   · omega
  refine col_round β b i _ ck _ pc cb _ (l++selM lo hi (partL h x i++kidL h x i)).length vs v0 (optP lb lo) (optP hb hi) hh r y.1 y.2 ak pa (keysV x.es) (valsV x.es) (bs.map ptrV) _ (entsV (l++selM lo hi (partL h x i++kidL h x i))) _ (optB β lb lo) (optB β hb hi) rfl (by rw [keysV_length,valsV_length]) (by rw [keysV_length];omega) rfl (by rw [List.length_map];omega) (by omega) (by rw [keysV_length];omega)
   (fun e=> by rw [keysV_length] at e;simp [keysV,hy e]) (fun e=> by rw [keysV_length] at e;simp [valsV,hy e]) (fun e=> by rw [List.length_map] at e;rw [List.getElem?_map,hcb e];rfl)
   (fun e=> ?_) (fun e w0 fp0 R w hs=> ?_) ?_ (fun e w=> ?_) w0 w fp0 R A _ (fun hst v1 A w' K' h2=> ?_) (fun hin hgo v2 A w' K' h2=> ?_) K hS
  · rw [List.length_map] at e
    have hk:kidL h x i=[]:=by
     rcases hbd.kids with ⟨rfl,_⟩ | ⟨_,rfl,e2,_⟩
     · rfl
     · omega
    rw [hk,List.append_nil]
    exact ⟨rfl,rfl⟩
  · rw [List.length_map] at e
    rcases hbd.kids with ⟨_,e2⟩ | ⟨h',rfl,e2,hk⟩
    · rw [hl,e2] at e;exact absurd rfl e
    · obtain ⟨c,hc⟩:∃c,x.cs[i]? =some c:=⟨_,List.getElem?_eq_getElem (by omega)⟩
      have hkl:kidL (h'+1) x i=toL h' c:=by simp only [kidL,hc]
      rw [hkl] at hpl
      have hpf:(selM lo hi (partL (h'+1) x i)).length≤(partL (h'+1) x i).length:=List.length_filter_le _ _
      have h3:=(St.kidout hl hc (hcb e)).1 (St_re (L:=[_,_,_,_]) hs [1,0,2,3] [] (by kernel_rfl))
      refine (HREC h' i c cb rfl hc (hcb e) v0 (l++selM lo hi (partL (h'+1) x i)) w0 w fp0 (restA β h' i (i+1) x.cs bs::R) (by rw [List.length_append];omega) (St_re (L:=[_,_,_,_,_]) h3 [2,0,3,4,1] [] (by kernel_rfl))).mono fun e9 w' ⟨a,n,c',h4,h5⟩=> ⟨a,n,c',h4,?_⟩
      rw [hkl,selM_append,←List.append_assoc]
      have h6:=(St.kidout hl hc (hcb e)).2 (St_re (L:=[_,_,_,_,_]) h5 [1,4,0,2,3] [] (by kernel_rfl))
      exact St_re (L:=[_,_,_,_]) h6 [1,0,2,3] [] (by kernel_rfl)
  · cases hi with
    | none=> exact .inl rfl
    | some kh=> exact .inr ⟨hb,rfl,by rw [hhh kh rfl];rfl⟩
  · cases hi with
    | none=> exact absurd rfl e
    | some kh=>
     rw [hhh kh rfl,hr kh rfl]
     exact (cmp_calls β y.1 kh (hyo kh rfl) (hokh kh rfl) w).mono fun e w' ⟨h1,h2⟩=> ⟨h1,h2 ▸ Below.refl _ _⟩
  · refine hQ v1 A w' K' ?_
    have hE:l++selM lo hi (partL h x i++kidL h x i)=l++selM lo hi (toL h x):=by
     rw [keysV_length] at hst
     rcases hst with e | ⟨e,e2,e3⟩
     · rw [part_end hbd,←e]
     · cases hi with
       | none=> exact absurd rfl e2
       | some kh=>
        obtain ⟨rest,hr2⟩:=part_rest hbd (hy e)
        rw [hr kh rfl] at e3
        rw [hr2] at ha ⊢
        rw [sel_stop ha (fun hlt=> by have hlt2:KOrd.cmp y.1 kh < 0:=hlt;omega)]
    rw [hE] at h2
    exact h2
  · rw [keysV_length] at hin
    obtain ⟨g',rfl⟩:∃g',g=g'+1:=⟨g - 1,by omega⟩
    refine col_loop ho' x b lo hi lb hb hokh l lob hbd ha hok hlen bs hl _ vs _ w0 fp0 R HREC Q hQ g' (i+1) v2 A w' (by omega) (by omega) K' ?_
    have hE:l++selM lo hi (partL h x (i+1))=(l++selM lo hi (partL h x i++kidL h x i))++[y]:=by
     rw [part_succ hbd (hy hin),selM_append,←List.append_assoc]
     congr 1
     refine sel_take hae hsi (hy hin) fun kh e=> ?_
     subst e
     rcases hgo with e2 | ⟨_,e3⟩
     · exact absurd e2 (by simp [optP])
     · have:=hr kh rfl
       rw [this] at e3
       exact e3
    rw [hE]
    unfold entA
    rw [entsV_snoc,List.length_append]
    exact h2
theorem lpCo (β:Bool) [OkI β]:isBlk (cfst (csnd (csnd (csnd (bodyC (BCollect β))))))=true∧isLoop (cbody (cfst (csnd (csnd (csnd (bodyC (BCollect β)))))))=true:=by cases β <;> first | (exact absurd (OkI.ok (β:=true)) (by decide)) | exact ⟨kr (by kernel_rfl),kr (by kernel_rfl)⟩
/-- **collect**. -/
theorem collect_calls {o:Nat} (ho':o≤1024) (lo hi:Option Ky) (lb hb:Nat) (hokl:∀k,lo=some k→k.ok β) (hokh:∀k,hi=some k→k.ok β):∀(h lob:Nat) (x:TT) (b:Nat),Body o h lob (o - 1) x→AscM (toL h x)→OkL β (toL h x)→ColT β lo hi lb hb h x b
 | h,lob,x,b,hbd,ha,hok=> by
  intro v0 l w0 w fp0 R hlen hS
  obtain ⟨p1,p2⟩:=lpCo β
  have hes:x.es.length≤o - 1:=hbd.hi
  have hae:AscM x.es:=asc_es ha
  obtain ⟨ks,vs,ps,bs,hl,h1⟩:=St.openNT (St_re (L:=[_,_,_,_]) hS [1,0,2,3] [] (by kernel_rfl))
  have h2:=St_re (L:=[_,_,_,_,_,_,_,_]) h1 [0,1,6] [5,2,3,4,7] (by kernel_rfl)
  obtain ⟨kk,q,hkq⟩:∃(kk:Value) (q:Bool),∀k,lo=some k→kk=encK k∧q=hasK x.es k:=by
   cases lo with
   | none=> exact ⟨.int .i64 0,false,fun _ h=> nomatch h⟩
   | some k=> exact ⟨encK k,hasK x.es k,fun _ e=> by cases e;exact ⟨rfl,rfl⟩⟩
  refine col_flat β b (startI lo x.es) lb ks vs ps v0 (optP lb lo) (optP hb hi) kk q (keysV x.es) (optB β lb lo) emp (fun _=> pureA False) ?_ (fun hne=> ?_) w0 w fp0 _ _ (fun Q A w K S hQn hQr=> ?_) (fun v1 w' h3=> absurd (St.pure.1 h3).1 id) (St_re (L:=[_,_,_,_]) (St.emp.2 h2) [1,2,3,0] [] (by kernel_rfl))
  · cases lo with
    | none=> exact .inl ⟨rfl,rfl⟩
    | some k=> exact .inr ⟨rfl,by rw [(hkq k rfl).1];rfl⟩
  · cases lo with
    | none=> exact absurd rfl hne
    | some k=>
     obtain ⟨rfl,rfl⟩:=hkq k rfl
     exact fun w fp fp' hbk hkk'=> find_calls b ks vs _ x.es k hok.es (hokl k rfl) w hbk ⟨_,hkk'⟩ hae (by omega)
  · refine wp_blkT p1 (wp_loopT (x.es.length - startI lo x.es+1) p2 (col_loop ho' x b lo hi lb hb hokh l lob hbd ha hok hlen bs hl ks vs ps w0 fp0 R ?_ _ (fun v1 A w' K' h3=> ?_) _ (startI lo x.es) v0 A w (by have:=startI_le lo x.es;omega) (Nat.le_refl _) K ?_))
    · intro h' i c cb e hc hcb
      subst e
      obtain ⟨_,_,k3,k4⟩:=hbd
      exact collect_calls ho' lo hi lb hb hokl hokh h' _ c cb (k4 c (List.mem_of_getElem? hc)) (asc_kid1 k3 hc ha) (hok.kid k3 hc)
    · refine hQr v1 A w' K' ?_
      obtain ⟨_,hr⟩:=h3.has 0 rfl
      obtain ⟨a,c,rfl,_⟩:=row_shape hr
      refine ⟨a,_,c,rfl,?_⟩
      have h4:=St.shutNT (es:=x.es) (cs:=x.cs) (bs:=bs) (ks:=ks) (vs:=vs) (ps:=ps) hl (St_re (L:=[_,_,_,_,_,_,_,_]) h3 [1,2,3,4,5,0,6,7] [] (by kernel_rfl))
      rw [T.eta] at h4
      exact St_re (L:=[_,_,_,_]) h4 [1,0,2,3] [] (by kernel_rfl)
    · rw [sel_start hbd ha,List.append_nil]
      exact St_re (L:=[_,_,_,_,_,_,_,_]) (St.emp.1 (St_re (L:=[_,_,_,_]) S [3,0,1,2] [] (by kernel_rfl))) [3,0,1,4,5,6,2,7] [] (by kernel_rfl)
end Go.Proofs.YtpdlkdoogojboaaGreat
/- between's iterator, over both trees. -/
namespace Go.Proofs.YtpdlkdoogojboaaGreat
open Go Go.RowKit
def tTP (β:Bool):Nat:=match β with | false=> 110 | true=> 150
def tKP (β:Bool):Nat:=match β with | false=> 265 | true=> 299
noncomputable def gBt0 (β:Bool) (bt bl bh tb rb N:Nat) (pl ph oo nn:Value) (X1:Value→Asn) (T0 OL OH:Asn) (w0:World) (fp0:List Nat) (R:List Asn):Rg where
 P:=Tryz.prog
 ops:=opsR (BBetw1 β) 0
 nt:=27
 ks:=[7,8,9,10,11,12,13,14,15]
 inp:=[(1, .pointer (some ⟨bt,0,none⟩)),(2, .pointer (some ⟨bl,0,none⟩)),(3, .pointer (some ⟨bh,0,none⟩))]
 vals:=[.is 0 7 (.pointer (some ⟨tb,0,none⟩)), .is 1 8 (.pointer (some ⟨tb,0,none⟩)), .is 2 9 (.pointer (some ⟨tb,0,none⟩)), .is 3 10 (.pointer (some ⟨rb,0,none⟩)), .is 4 11 (pl), .is 5 12 (ph),⟨6,13,[13],fun g=> .slice (sa (g 13)) N (sc (g 13))⟩, .is 7 14 (.int .i64 N), .is 8 15 (.int .i64 ((0:Nat):Int))]
 pcs:=[.gen [6] [13] fun L g=> match L 6 with | true=> X1 (g 13) | false=> emp, .blk bt (tTP β) [⟨.pointer (some ⟨tb,0,none⟩),[]⟩], .blk bl (tKP β) [⟨pl,[]⟩], .blk bh (tKP β) [⟨ph,[]⟩], .blk tb (tT β) [⟨.pointer (some ⟨rb,0,none⟩),[]⟩,⟨oo,[]⟩,⟨nn,[]⟩], .all (T0), .all (OL), .all (OH)]
 w0:=w0
 fp0:=fp0
 R:=R
set_option maxRecDepth 100000 in
theorem obBt0 (β:Bool) [OkI β] (bt bl bh tb rb N:Nat) (pl ph oo nn:Value) (X1:Value→Asn) (T0 OL OH:Asn) (hrec:∀(w0:World) (fp0:List Nat) (R:List Asn) (w:World),St w0 fp0 ([T0,OL,OH]++R) w→Calls Tryz.prog (fCollect β) #[ptrV rb, .slice none 0 0,pl,ph] w fun e w'=> ∃v a c,v=.slice a N c∧e=.returned v∧St w0 fp0 ([X1 v,T0,OL,OH]++R) w') (w0:World) (fp0:List Nat) (R:List Asn):(gBt0 β bt bl bh tb rb N pl ph oo nn X1 T0 OL OH w0 fp0 R).Ok 9:=by
 have h6:∀w,St w0 fp0 ([emp,blkA bt (tTP β) #[.pointer (some ⟨tb,0,none⟩)],blkA bl (tKP β) #[pl],blkA bh (tKP β) #[ph],blkA tb (tT β) #[.pointer (some ⟨rb,0,none⟩),oo,nn],T0,OL,OH]++R) w→Calls Tryz.prog (fCollect β) #[ptrV rb, .slice none 0 0,pl,ph] w fun e w'=> ∃v a c,v=.slice a N c∧e=.returned v∧St w0 fp0 ([X1 v,blkA bt (tTP β) #[.pointer (some ⟨tb,0,none⟩)],blkA bl (tKP β) #[pl],blkA bh (tKP β) #[ph],blkA tb (tT β) #[.pointer (some ⟨rb,0,none⟩),oo,nn],T0,OL,OH]++R) w':=fun w h=> (hrec _ _ _ w (St_re (L:=[_,_,_,_,_,_,_]) (St.emp.1 h) [4,5,6] [0,1,2,3] (by kernel_rfl))).mono fun e w' ⟨v,a,c,h0,h1,h2⟩=> ⟨v,a,c,h0,h1,St_re (L:=[_,_,_,_,_,_,_,_]) h2 [0,4,5,6,7,1,2,3] [] (by kernel_rfl)⟩
 cases β <;> first | (exact absurd (OkI.ok (β:=true)) (by decide)) | exact ⟨kr (by kernel_rfl),kr (by kernel_rfl), .load _ 0 1 0, .pure _ 1, .pure _ 2, .load _ 3 4 0, .load _ 4 2 0, .load _ 5 3 0, .callN _ 6 N _ _ h6, .pure _ 7, .pure _ 8,trivial⟩
/- between's iterator at trees. -/
variable {β:Bool} [OkI β]
theorem entsV_at (l:MM) (i:Nat) (h:i < l.length):(entsV l)[i * 2]? =some (encK l[i].1)∧(entsV l)[i * 2+1]? =some (encV l[i].2):=by
 induction l generalizing i with
 | nil=> simp at h
 | cons x l ih=>
  have e:entsV (x::l)=encK x.1::encV x.2::entsV l:=rfl
  cases i with
  | zero=> exact ⟨rfl,rfl⟩
  | succ i=>
   have:=ih i (by simpa using h)
   rw [e,show (i+1) * 2=i * 2+1+1 by omega,show i * 2+1+1+1=(i * 2+1)+1+1 by omega]
   simpa using this
/-- What the iterator reads when it starts. -/
def betL (β:Bool) (o h:Nat) (l:MM) (tb bt bl bh lb hb:Nat) (lo hi:Option Ky):List Asn:=
 [objA β o h l tb,blkA bt (tTP β) #[.pointer (some ⟨tb,0,none⟩)],blkA bl (tKP β) #[optP lb lo],blkA bh (tKP β) #[optP hb hi],optB β lb lo,optB β hb hi]
set_option maxHeartbeats 4000000 in
theorem betw1_seq {o h:Nat} (ho':o≤1024) (lo hi:Option Ky) (lb hb:Nat) (hokl:∀k,lo=some k→k.ok β) (hokh:∀k,hi=some k→k.ok β) (l:MM) (hok:OkL β l) (tb bt bl bh:Nat) (hlen:l.length+1 < 1099511627776) (n:Nat):
 SeqSt n Tryz.prog (fBetw1 β) #[.pointer (some ⟨bt,0,none⟩), .pointer (some ⟨bl,0,none⟩), .pointer (some ⟨bh,0,none⟩)] (fun e:Ky×Va=> #[encK e.1,encV e.2]) (selM lo hi l) (betL β o h l tb bt bl bh lb hb lo hi):=by
 intro y R J Jx w0 fp0 W hS h0 hY
 refine callsIn_wide.2 ?_
 obtain ⟨x,rb,hg,hS1⟩:=St.openOT (show St w0 fp0 (objA β o h l tb::(blkA bt (tTP β) #[.pointer (some ⟨tb,0,none⟩)]::blkA bl (tKP β) #[optP lb lo]::blkA bh (tKP β) #[optP hb hi]::optB β lb lo::optB β hb hi::R)) W from hS)
 obtain ⟨g1,g2,g3⟩:=hg
 have hsel:(selM lo hi l).length < 1099511627776:=Nat.lt_of_le_of_lt (List.length_filter_le _ _) (by omega)
 obtain ⟨sel,hsl⟩:∃sel,selM lo hi l=sel:=⟨_,rfl⟩
 have hcol:=collect_calls (β:=β) ho' lo hi lb hb hokl hokh h _ x rb g1 g2 (by rw [g3];exact hok)
 have HREG:=Lib.hid (obBt0 β bt bl bh tb rb sel.length (optP lb lo) (optP hb hi) (.int .i64 o) (.int .i64 l.length) (fun v=> entA β v sel) (treeA β h x rb) (optB β lb lo) (optB β hb hi) (fun w0 fp0 R w hs=> by
  refine (hcol (.slice none 0 0) [] w0 w fp0 R (by rw [g3];simp;omega) (St.nilR (tE β) 2 hs)).mono fun e w' ⟨a,n,c,h1,h2⟩=> ?_
  rw [g3,List.nil_append,hsl] at h2
  obtain ⟨_,hr⟩:=h2.has 0 rfl
  obtain ⟨a',c',e1,_⟩:=row_shape hr
  obtain ⟨rfl,rfl,rfl⟩:=Value.slice.inj e1
  exact ⟨_,_,_,rfl,h1,h2⟩) w0 fp0 R)
 have HS1:=Lib.hid (St.emp.2 (St_re (L:=[_,_,_,_,_,_,_]) hS1 [2,3,4,1,0,5,6] [] (by kernel_rfl)))
 have H0:RowKit.Hid (∀v W,St w0 fp0 ([entA β v sel,blkA bt (tTP β) #[.pointer (some ⟨tb,0,none⟩)],blkA bl (tKP β) #[optP lb lo],blkA bh (tKP β) #[optP hb hi],blkA tb (tT β) #[.pointer (some ⟨rb,0,none⟩), .int .i64 o, .int .i64 l.length],treeA β h x rb,optB β lb lo,optB β hb hi]++R) W→St w0 fp0 (J []++[entA β v sel]) W):=by
  intro v W hs
  refine h0 _ _ ?_
  have h1:=St.shutOT ⟨g1,g2,g3⟩ (St_re (L:=[_,_,_,_,_,_,_,_]) hs [5,4,1,2,3,6,7,0] [] (by kernel_rfl))
  have h2:=St_re (L:=[_,_,_,_,_,_,_]) h1 [6,0,1,2,3,4,5] [] (by kernel_rfl)
  exact St.comm (A:=[entA β v sel]) h2
 have HOK:RowKit.Hid (∀e∈sel,e.1.ok β):=by
  intro e he
  rw [←hsl] at he
  exact hok e (List.mem_filter.1 he).1
 have HY:=Lib.hid hY
 rw [hsl] at HY hsel ⊢
 clear hS hS1 g1 g2 g3 hlen ho' hsl hY h0 hcol hokl hokh hok
 have HW:RowKit.Hid (∀(c:Code) (a:Act) (Q:Exit→Act→World→Prop),isReg c=true→cops c=opsR (BBetw1 β) 0→a.tmps.size=27→a.defers=[]→a.eval (.tmp 1)=.pointer (some ⟨bt,0,none⟩)→a.eval (.tmp 2)=.pointer (some ⟨bl,0,none⟩)→a.eval (.tmp 3)=.pointer (some ⟨bh,0,none⟩)→
  (∀(u7 u8 u9 u10 u11 u12:Value) (ga:Option Addr) (gc:Nat) (w1:World),St w0 fp0 (J []++[entA β (.slice ga sel.length gc) sel]) w1→Q .normal (putL a [(7,u7),(8,u8),(9,u9),(10,u10),(11,u11),(12,u12),(13, .slice ga sel.length gc),(14, .int .i64 sel.length),(15, .int .i64 0)]) w1)→c.wp Tryz.prog Q a W):=by
  intro c a Q c1 c2 c3 c4 c5 c6 c7 hQ
  refine wp_regT HREG.out (by kernel_rfl) ⟨c1,c2⟩ ⟨c3,c4,fun p hp=> ?_⟩ HS1.out fun A1 w1 N1 H1=> ?_
  · simp only [gBt0,List.map_nil,List.append_nil,List.mem_cons,List.not_mem_nil,or_false] at hp
    rcases hp with rfl | rfl | rfl
    · exact c5
    · exact c6
    · exact c7
  have e13:slots A1 13=.slice (sa (slots A1 13)) sel.length (sc (slots A1 13)):=N1.val 6 rfl
  have e14:slots A1 14=.int .i64 sel.length:=N1.val 7 rfl
  have e15:slots A1 15=.int .i64 0:=N1.val 8 rfl
  have H1':St w0 fp0 ([entA β (slots A1 13) sel,blkA bt (tTP β) #[.pointer (some ⟨tb,0,none⟩)],blkA bl (tKP β) #[optP lb lo],blkA bh (tKP β) #[optP hb hi],blkA tb (tT β) #[.pointer (some ⟨rb,0,none⟩), .int .i64 o, .int .i64 l.length],treeA β h x rb,optB β lb lo,optB β hb hi]++R) w1:=H1
  have h2:=H0.out _ _ H1'
  rw [e13] at h2
  have:=hQ (slots A1 7) (slots A1 8) (slots A1 9) (slots A1 10) (slots A1 11) (slots A1 12) _ _ w1 h2
  rw [←e13,←e14,←e15] at this
  rw [show A1=putL a [(7,slots A1 7),(8,slots A1 8),(9,slots A1 9),(10,slots A1 10),(11,slots A1 11),(12,slots A1 12),(13,slots A1 13),(14,slots A1 14),(15,slots A1 15)] from N1.frame.eq]
  exact this
 clear HREG HS1 H0
 obtain ⟨E,hE⟩:∃E:Value→Asn,(fun v=> entA β v sel)=E:=⟨_,rfl⟩
 have HROW:RowKit.Hid (∀v w f,(E v).p w f→∃a c,v=.slice a sel.length c∧∀i,i < sel.length * 2→∃g,a=some ⟨g,0,none⟩∧g < w.heap.size∧w.cell? ⟨g,i,none⟩=(entsV sel)[i]? ∧∀j,w.frozen? ⟨g,j,none⟩=false):=by
  intro v w f hf
  rw [←hE] at hf
  obtain ⟨a,c,e1, -, -,e2⟩:=row_shape (show (rowA (tE β) 2 v sel.length (entsV sel)).p w f from hf)
  exact ⟨a,c,e1,e2⟩
 replace HW:RowKit.Hid (∀(c:Code) (a:Act) (Q:Exit→Act→World→Prop),isReg c=true→cops c=opsR (BBetw1 β) 0→a.tmps.size=27→a.defers=[]→a.eval (.tmp 1)=.pointer (some ⟨bt,0,none⟩)→a.eval (.tmp 2)=.pointer (some ⟨bl,0,none⟩)→a.eval (.tmp 3)=.pointer (some ⟨bh,0,none⟩)→
  (∀(u7 u8 u9 u10 u11 u12:Value) (ga:Option Addr) (gc:Nat) (w1:World),St w0 fp0 (J []++[E (.slice ga sel.length gc)]) w1→Q .normal (putL a [(7,u7),(8,u8),(9,u9),(10,u10),(11,u11),(12,u12),(13, .slice ga sel.length gc),(14, .int .i64 sel.length),(15, .int .i64 0)]) w1)→c.wp Tryz.prog Q a W):=by
  rw [←hE]
  exact HW
 clear hE HOK
 cases β
 case' false=> go_enter Tryz.func198,Tryz.ntmps198
 case' true=> first | (exact absurd (OkI.ok (β:=true)) (by decide)) | go_enter Tryz.func198,Tryz.ntmps198
 all_goals
  go_upto_region 0 with (fail)
  refine HW.out _ _ _ rfl (by kernel_rfl) rfl rfl rfl rfl rfl fun u7 u8 u9 u10 u11 u12 ga gc w1 h2=> ?_
  have H2:=Lib.hid h2
  clear h2 HW
  simp only [putL,List.foldl,Act.put,List.setIfInBounds_toArray,List.set_cons_succ,List.set_cons_zero]
  obtain ⟨N,hN⟩:∃N,sel.length=N:=⟨_,rfl⟩
  have HN:=Lib.hid hN
  rw [hN] at H2 hsel HROW ⊢
  clear hN
  go_wp2
  go_loopg [15] N (fun g z wr=> ∃k:Nat,z=.int .i64 k∧g+k=N∧RowKit.Hid (∃pre rest,sel=pre++rest∧pre.length=k∧St w0 fp0 (J pre++[E (.slice ga N gc)]) wr))
  case atStart=> exact ⟨0,rfl,rfl,⟨[],sel,rfl,rfl,H2.out⟩⟩
  case round=>
   obtain ⟨k,rfl,hgk,Hr⟩:=hrel
   by_cases hk:k < N
   · obtain ⟨pre,rest,hxs,hpl,hs⟩:=Hr.out
     cases rest with
     | nil=>
      exfalso
      have:=congrArg List.length hxs
      rw [HN.out,List.append_nil] at this
      omega
     | cons x rest=>
      obtain ⟨_,hrw⟩:=St.has (i:=0) (A:=E (.slice ga N gc)) hs.comm rfl
      have hkl:k < sel.length:=by rw [HN.out];exact hk
      have hxk:sel[k]=x:=by
       have:sel[k]? =some x:=by rw [hxs,←hpl];simp
       rw [List.getElem?_eq_getElem hkl] at this
       exact Option.some.inj this
      obtain ⟨ga',gc',e0,hcell⟩:=HROW.out _ _ _ hrw
      injection e0 with e1 e2 e3
      subst e1
      obtain ⟨gb,hga,hgl,hc0, -⟩:=hcell (k * 2) (by omega)
      obtain ⟨gb',hga', -,hc1, -⟩:=hcell (k * 2+1) (by omega)
      subst hga
      obtain rfl:gb'=gb:=by injection hga' with h;injection h with h;exact h.symm
      rw [(entsV_at sel k hkl).1,hxk] at hc0
      rw [(entsV_at sel k hkl).2,hxk] at hc1
      have HYx:RowKit.Hid (∀W',St w0 fp0 (J pre++[E (.slice (some ⟨gb',0,none⟩) N gc)]) W'→YieldAt Fence.wide (n - 1) Tryz.prog y #[encK x.1,encV x.2] W' fun e W'=>
       (e=.returned (.bool true)∧St w0 fp0 (J (pre++[x])++[E (.slice (some ⟨gb',0,none⟩) N gc)]) W')∨(e=.returned (.bool false)∧St w0 fp0 (Jx (pre++[x])++[E (.slice (some ⟨gb',0,none⟩) N gc)]) W')):=
       fun W' h=> HY.out pre x rest _ W' hxs h
      have Hs:=Lib.hid hs
      have Hxs:=Lib.hid hxs
      have Hpl:=Lib.hid hpl
      have hkn:(k:Int) < N:=by omega
      clear hs hxs hpl hrw hkl hxk hcell hga' Hr e2 e3
      have Hgk:=Lib.hid hgk
      clear hgk
      obtain ⟨xk,exk⟩:∃xk,x.1=xk:=⟨_,rfl⟩
      obtain ⟨xv,exv⟩:∃xv,x.2=xv:=⟨_,rfl⟩
      rw [exk] at hc0
      rw [exv] at hc1
      rw [exk,exv] at HYx
      clear exk exv
      cases xk <;> cases xv
      all_goals
       simp only [encK,encV] at hc0 hc1 HYx
       go_upto_region 3 with (fail)
       generalize hW2:wr.alloc _=W2
       have hb2:Below wr.heap.size wr W2:=by rw [←hW2];exact (Below.refl _ _).alloc (Nat.le_refl _) _
       have d0:=World.cell?_alloc_new wr _ _ 0 |>.symm.trans (congrArg (fun w=> World.cell? w ⟨wr.heap.size,0,none⟩) hW2) |>.symm
       have d1:=World.cell?_alloc_new wr _ _ 1 |>.symm.trans (congrArg (fun w=> World.cell? w ⟨wr.heap.size,1,none⟩) hW2) |>.symm
       simp only [List.getElem?_toArray,List.getElem?_cons_zero,List.getElem?_cons_succ] at d0 d1
       have dl:wr.heap.size < W2.heap.size:=by rw [←hW2];simp
       have HSo:RowKit.Hid (∀W' A,St w0 fp0 (A++[E (.slice (some ⟨gb',0,none⟩) N gc)]) W'→St w0 fp0 A W'):=fun W' A h=> St.dropAll (A:=[E (.slice (some ⟨gb',0,none⟩) N gc)]) h.comm
       obtain ⟨fn,tmps,assign,body,hy,hR⟩:=HYx.out W2 (Hs.out.mono hb2)
       have HR:=Lib.hid hR
       clear hb2 hR hW2 hc0 hc1 hgl H2 HYx Hs HY
       generalize wr.heap.size=eb at *
       refine (wpIn_wide (n:=n)).1 ?_
       gi_wp2
       refine ⟨fun h=> (by cases h),HR.out.mono ?_⟩
       rintro e W' (⟨rfl,hs'⟩ | ⟨rfl,hs'⟩)
       · have Hs':=Lib.hid hs'
         clear hs' HR hy d0 d1 dl
         gi_wp2
         go_wp2
         go_roundg (N - (k+1))
         case rel=> exact ⟨k+1,by go_num,by omega,⟨pre++[x],rest,by rw [Hxs.out];simp,by rw [List.length_append,Hpl.out];rfl,Hs'.out⟩⟩
         case measure=> have:=Hgk.out;omega
       · have Hs':=Lib.hid (HSo.out _ _ hs')
         clear hs' HR hy d0 d1 dl HSo
         gi_wp2
         go_wp2
         refine bodyPost_ret (results_none rfl _ _ _) rfl ?_
         exact ⟨⟨_,rfl⟩, .inr ⟨pre,x,rest,Hxs.out,Hs'.out⟩⟩
   · have hnk:k=N:=by omega
     have Hend:RowKit.Hid (St w0 fp0 (J sel) wr):=by
      obtain ⟨pre,rest,hxs,hpl,hs⟩:=Hr.out
      have:rest=[]:=by
       have:=congrArg List.length hxs
       rw [HN.out,List.length_append] at this
       exact List.length_eq_zero_iff.1 (by omega)
      subst this
      rw [List.append_nil] at hxs
      rw [hxs]
      exact St.dropAll (A:=[E (.slice ga N gc)]) (by rw [←hxs] at hs ⊢;exact hs.comm)
     clear Hr HY H2 hgk hk HN hsel
     subst hnk
     go_wp2
     go_end0
     exact ⟨⟨_,rfl⟩, .inl Hend.out⟩
end Go.Proofs.YtpdlkdoogojboaaGreat
/- between, All, From, Between. -/
namespace Go.Proofs.YtpdlkdoogojboaaGreat
open Go Go.RowKit
variable {β:Bool} [OkI β]
def iterL (β:Bool) (tb bt bl bh lb hb:Nat) (lo hi:Option Ky):List Asn:=
 [blkA bt (tTP β) #[.pointer (some ⟨tb,0,none⟩)],blkA bl (tKP β) #[optP lb lo],blkA bh (tKP β) #[optP hb hi]]
def iterF (β:Bool) (bt bl bh:Nat):Value:=.func (.func (fBetw1 β)) #[] #[.pointer (some ⟨bt,0,none⟩), .pointer (some ⟨bl,0,none⟩), .pointer (some ⟨bh,0,none⟩)]
theorem between_calls (tb lb hb:Nat) (lo hi:Option Ky) (w0 w:World) (fp0:List Nat) (R:List Asn) (hS:St w0 fp0 R w):
 Calls Tryz.prog (fBetween β) #[.pointer (some ⟨tb,0,none⟩),optP lb lo,optP hb hi] w fun e w'=> ∃bt bl bh,e=.returned (iterF β bt bl bh)∧St w0 fp0 (iterL β tb bt bl bh lb hb lo hi++R) w':=by
 have HS:RowKit.Hid (St w0 fp0 (iterL β tb w.heap.size (w.heap.size+1) (w.heap.size+1+1) lb hb lo hi++R) (((w.alloc (.cells #[.pointer (some ⟨tb,0,none⟩)] (tTP β))).alloc (.cells #[optP lb lo] (tKP β))).alloc (.cells #[optP hb hi] (tKP β)))):=by
  have h1:=((hS.newblk (tTP β) #[.pointer (some ⟨tb,0,none⟩)]).newblk (tKP β) #[optP lb lo]).newblk (tKP β) #[optP hb hi]
  simp only [World.size_alloc] at h1
  exact St_re (L:=[_,_,_]) h1 [2,1,0] [] (by kernel_rfl)
 clear hS
 cases lo <;> cases hi
 all_goals
  cases β
  case' false=> go_enter Tryz.func169,Tryz.ntmps169
  case' true=> first | (exact absurd (OkI.ok (β:=true)) (by decide)) | go_enter Tryz.func237,Tryz.ntmps237
  all_goals
   dsimp only [optP,tTP,tKP] at HS ⊢
   go_wp2
   go_ret
   exact ⟨_,_,_,rfl,HS.out⟩
end Go.Proofs.YtpdlkdoogojboaaGreat
/- All of the rows. -/
namespace Go.Proofs.YtpdlkdoogojboaaGreat
open Go Go.RowKit
theorem All_calls (tb:Nat) (w0 w:World) (fp0:List Nat) (R:List Asn) (hS:St w0 fp0 R w):
 Calls Tryz.prog 134 #[.pointer (some ⟨tb,0,none⟩)] w fun e w'=> ∃bt bl bh,e=.returned (iterF false bt bl bh)∧St w0 fp0 (iterL false tb bt bl bh 0 0 none none++R) w':=by
 have HC:=Lib.hid (between_calls (β:=false) tb 0 0 none none w0 w fp0 R hS)
 clear hS
 unfold iterF at *
 dsimp only [fBetween,optP] at HC
 go_enter Tryz.func134,Tryz.ntmps134
 go_wp2_with fail
 (with_reducible refine HC.out.mono ?_)
 rintro e w1 ⟨bt,bl,bh,rfl,hs⟩
 have HS:=Lib.hid hs
 clear hs HC
 go_wp2
 go_ret
 exact ⟨_,_,_,rfl,HS.out⟩
end Go.Proofs.YtpdlkdoogojboaaGreat
/- some: the rows that a predicate accepts. -/
namespace Go.Proofs.YtpdlkdoogojboaaGreat
open Go Go.RowKit Go.Shelf
attribute [local go_sem] Oper.semAt_some
theorem St.exo {w0 w:World} {fp0:List Nat} {α:Type} {F:α→List Asn} {L:List Asn}:St w0 fp0 (exA (fun a=> starA (F a))::L) w↔∃a,St w0 fp0 (F a++L) w:=by
 constructor
 · intro h
   obtain ⟨a,ha⟩:=h.unfold (L1:=F) fun f ⟨a,ha⟩=> ⟨a,ha⟩
   exact ⟨a,ha⟩
 · rintro ⟨a,ha⟩
   exact ha.fold fun f hf=> ⟨a,hf⟩
def vaA:Va→Option Addr×Nat×Nat
 | .sl a n c=> (a,n,c)
 | .int _=> (none,0,0)
def toRi (e:Re):Ri:=⟨e.id,(vaA e.va).1,(vaA e.va).2.1,(vaA e.va).2.2,e.r⟩
theorem toRi_v {e:Re} (h:∃a n c,e.va=.sl a n c):(toRi e).v=encV e.va:=by
 obtain ⟨a,n,c,h⟩:=h
 unfold toRi Ri.v
 rw [h]
 rfl
def somL (p:Re→Bool) (es:List Re):List Ri:=(es.filter p).map toRi
theorem somL_len (p:Re→Bool) (es:List Re):(somL p es).length≤es.length:=by
 rw [somL,List.length_map];exact List.length_filter_le _ _
theorem somL_snoc (p:Re→Bool) (A:List Re) (e:Re):somL p (A++[e])=somL p A++if p e then [toRi e] else []:=by
 unfold somL
 rw [List.filter_append,List.map_append]
 cases h:p e <;> simp [h]
def outA (b:Nat) (l:List Ri):Asn:=exA fun v=> starA [blkA b 169 #[v],rowA 212 2 v l.length (riV l)]
theorem St.out {w0 w:World} {fp0:List Nat} {L:List Asn} {b:Nat} {l:List Ri}:St w0 fp0 (outA b l::L) w↔∃v,St w0 fp0 (blkA b 169 #[v]::rowA 212 2 v l.length (riV l)::L) w:=
 St.exo (F:=fun v=> [blkA b 169 #[v],rowA 212 2 v l.length (riV l)])
theorem appIT:AppSrc Tryz.prog 169 169 212 2:=appSrc (z:=.agg #[.int .i64 0, .slice none 0 0]) (bytes:=32) (by kernel_rfl) (by kernel_rfl) rfl (by decide) (by decide)
theorem riV_one (y:Ri):riV [y]=[.int .i64 y.id,y.v]:=rfl
/-- out = append(out, item). -/
theorem St.appIt {w0 W:World} {fp0:List Nat} {L:List Asn} {bo:Nat} {v0:Value} {l:List Ri} (ty:TypeId) (y:Ri) (hlen:l.length+1 < 1099511627776) (hS:St w0 fp0 (blkA bo 169 #[v0]::rowA 212 2 v0 l.length (riV l)::L) W):
 ∃v' w',(Builtin.append_ #[169,169] ty #[v0, .slice (some ⟨W.heap.size,0,none⟩) 1 1]).run Tryz.prog (W.alloc (.cells #[.int .i64 y.id,y.v] 212))=.ok v' w'∧(∃a c,v'=.slice a (l.length+1) c)∧
  w'.cell? ⟨bo,0,none⟩=some v0∧w'.frozen? ⟨bo,0,none⟩=false∧bo < w'.heap.size∧St w0 fp0 (blkA bo 169 #[v']::rowA 212 2 v' (l++[y]).length (riV (l++[y]))::L) (w'.setCell ⟨bo,0,none⟩ v'):=by
 have h1:=hS.newblk 212 #[.int .i64 y.id,y.v]
 have h1:St w0 fp0 (rowA 212 2 v0 l.length (riV l)::blkA bo 169 #[v0]::L) (W.alloc (.cells #[.int .i64 y.id,y.v] 212)):=h1.drop.perm (List.Perm.swap _ _ _)
 obtain ⟨v',w',hr,h2⟩:=St.appSrc appIT ty h1 (src_litk (tx:=169) (e':=212) (by kernel_rfl) _ 2 W.heap.size 1 1 212 (0,0) #[.int .i64 y.id,y.v] (heap_alloc_new W _) rfl (by
  intro u hu
  simp only [List.mem_cons,List.not_mem_nil,or_false] at hu
  rcases hu with rfl | rfl <;> rfl)) hlen
 have h3:St w0 fp0 (blkA bo 169 #[v0]::rowA 212 2 v' (l.length+1) (riV l++[.int .i64 y.id,y.v])::L) w':=h2.perm (List.Perm.swap _ _ _)
 obtain ⟨_,ho⟩:=h2.has 0 rfl
 obtain ⟨a,c,e,_⟩:=row_shape ho
 obtain ⟨g,hg,hset2⟩:=h3.get 0 rfl
 have hc:=(blk_get hg).1 0
 have hf:=(blk_get hg).2.1 0
 have hl:=(blk_get hg).2.2
 obtain ⟨hb2,ht2⟩:=blk_set hg 0 v'
 have h4:=hset2 _ _ _ hb2 ht2
 refine ⟨v',w',hr,⟨a,c,e⟩,hc,hf,hl,?_⟩
 rw [riV_append,riV_one,List.length_append,List.length_singleton]
 exact h4
/-- What the predicate promises. -/
def IsC (f:Nat) (caps:Array Value) (p:Re→Bool) (S:Nat) (s:Sto) (LX:List Asn):Prop:=∀(w0:World) (fp0:List Nat) (R:List Asn) (w:World) (e:Re),e∈s.es→St w0 fp0 (stoL S s++(LX++R)) w→
 Calls Tryz.prog f (#[encV e.va]++caps) w fun ev w'=> ev=.returned (.bool (p e))∧St w0 fp0 (stoL S s++(LX++R)) w'
theorem St.slOf {w0 w:World} {fp0:List Nat} {R:List Asn} {S:Nat} {s:Sto} (h:St w0 fp0 (stoL S s++R) w):∀e∈s.es,∃a n c,e.va=.sl a n c:=by
 intro e he
 obtain ⟨f,hf⟩:=h.star_of
 obtain ⟨i,hi,rfl⟩:=List.mem_iff_getElem.1 he
 obtain ⟨g,hg, -⟩:=Star.get (i+3) (A:=reA s.es[i]) (by
  show (blkA _ _ _::_::_::(s.es.map reA++s.ixs.map ixA))[i+3]? =_
  simp only [List.getElem?_cons_succ]
  rw [List.getElem?_append_left (by simpa using hi),List.getElem?_map,List.getElem?_eq_getElem hi]
  rfl) hf
 obtain ⟨a,c,e1, -⟩:=row_shape hg
 exact encV_sl _ ⟨a,_,c,e1⟩
/-- .. but for the tree of the rows. -/
def stoR (S:Nat) (s:Sto):List Asn:=blkA S 113 #[.int .i64 s.cols,ptrV s.tb, .int .i64 s.next,s.iv]::rowA 152 2 s.iv s.ixs.length (ixV s.ixs)::(s.es.map reA++s.ixs.map ixA)
theorem reM_split {es:List Re} {pre rest:MM} {x:Ky×Va} (h:reM es=pre++x::rest):∃e:Re,x=(.int e.id,e.va)∧es.take (pre.length+1)=es.take pre.length++[e]∧e∈es:=by
 have hl:pre.length < es.length:=by
  have h1:=congrArg List.length h
  rw [reM,List.length_map,List.length_append,List.length_cons] at h1
  omega
 have hx:(reM es)[pre.length]? =some x:=by rw [h];simp
 rw [reM,List.getElem?_map,List.getElem?_eq_getElem hl] at hx
 exact ⟨es[pre.length],(Option.some.inj hx).symm,List.take_succ_eq_append_getElem hl,List.getElem_mem hl⟩
def smI (b5 b3:Nat) (isv:Value) (p:Re→Bool) (es:List Re) (L:List Asn) (pre:MM):List Asn:=outA b5 (somL p (es.take pre.length))::blkA b3 93 #[isv]::L
set_option maxHeartbeats 4000000 in
set_option maxRecDepth 20000 in
theorem some_calls (f:Nat) (caps:Array Value) (p:Re→Bool) (S:Nat) (s:Sto) (LX:List Asn) (he:∀args w,(callFunc f args).run Tryz.prog w=.ok (.enter f args) w) (hlen:s.es.length+1 < 1099511627776) (his:IsC f caps p S s LX)
 (w0 w:World) (fp0:List Nat) (R:List Asn) (hS:St w0 fp0 (stoL S s++(LX++R)) w):
 Calls Tryz.prog 104 #[ptrV S, .func (.func f) #[] caps] w fun e w'=> ∃v,e=.returned v∧St w0 fp0 (rowA 212 2 v (somL p s.es).length (riV (somL p s.es))::(stoL S s++(LX++R))) w':=by
 have HSL:=Lib.hid hS.slOf
 obtain ⟨tb,htb⟩:∃tb,s.tb=tb:=⟨_,rfl⟩
 have HS0:RowKit.Hid (St w0 fp0 (rowA 212 2 (.slice none 0 0) 0 []::blkA (w.heap.size+1) 169 #[.slice none 0 0]::blkA w.heap.size 93 #[.func (.func f) #[] caps]::(stoL S s++(LX++R))) ((w.alloc (.cells #[.func (.func f) #[] caps] 93)).alloc (.cells #[.slice none 0 0] 169))):=by
  have h1:=((hS.newblk 93 #[.func (.func f) #[] caps]).newblk 169 #[.slice none 0 0]).nilR 212 2
  simp only [World.size_alloc] at h1
  exact h1
 have HSEQ:=Lib.hid (fun bt bl bh=> betw1_seq (β:=false) (o:=16) (h:=s.h) (by omega) none none 0 0 (by simp) (by simp) (reM s.es) (okR _) s.tb bt bl bh (by rw [reM,List.length_map];exact hlen) (2 - 1))
 simp only [selM_all] at HSEQ
 have HIS:=Lib.hid his
 have HLEN:=Lib.hid hlen
 have c1:(((w.alloc (.cells #[.func (.func f) #[] caps] 93)).alloc (.cells #[.slice none 0 0] 169)).cell? ⟨S,1,none⟩)=some (ptrV tb):=by
  obtain ⟨_,hb⟩:=HS0.out.has 3 rfl
  have:=(blk_get hb).1 1
  rw [←htb]
  exact this
 have hSl:S < ((w.alloc (.cells #[.func (.func f) #[] caps] 93)).alloc (.cells #[.slice none 0 0] 169)).heap.size:=World.block_lt_of_cell? _ _ c1
 clear hS his hlen
 rw [htb] at HSEQ
 have HTB:=Lib.hid htb
 clear htb
 unfold ptrV at *
 dsimp only [fBetw1] at HSEQ
 refine calls_of_wp_m Tryz.func104 rfl ?_
 simp only [Tryz.ntmps104,List.size_toArray,List.length_cons,List.length_nil,Nat.reduceAdd,Nat.reduceSub,Array.replicate_succ,Array.replicate_zero,List.push_toArray,List.append_toArray,List.nil_append,List.cons_append]
 go_upto_region 2 with (fail)
 generalize hWW:(w.alloc _).alloc _=W0
 have HS1:=Lib.hid (show St w0 fp0 _ W0 from hWW ▸ HS0.out)
 have c1':W0.cell? ⟨S,1,none⟩=some (.pointer (some ⟨tb,0,none⟩)):=hWW ▸ c1
 have hSl':S < W0.heap.size:=hWW ▸ hSl
 clear hWW HS0 c1 hSl
 obtain ⟨b3,hbm⟩:∃b3,w.heap.size=b3:=⟨_,rfl⟩
 simp only [hbm] at HS1 ⊢
 clear hbm
 have HA:=Lib.hid (All_calls tb w0 W0 fp0 _ HS1.out)
 clear HS1
 go_wp2_with fail
 (with_reducible refine HA.out.mono ?_)
 rintro e w1 ⟨bt,bl,bh,rfl,hs1⟩
 have HS1:=Lib.hid hs1
 clear hs1 HA c1' hSl'
 unfold iterF
 dsimp only [fBetw1]
 go_wp2_with fail
 have HFR:RowKit.Hid (St w0 fp0 (betL false 16 s.h (reM s.es) tb bt bl bh 0 0 none none++(blkA (b3+1) 169 #[.slice none 0 0]::rowA 212 2 (.slice none 0 0) 0 []::blkA b3 93 #[.func (.func f) #[] caps]::stoR S s++(LX++R))) w1):=by
  have h1:St w0 fp0 (emp::emp::(iterL false tb bt bl bh 0 0 none none++(rowA 212 2 (.slice none 0 0) 0 []::blkA (b3+1) 169 #[.slice none 0 0]::blkA b3 93 #[.func (.func f) #[] caps]::(stoL S s++(LX++R))))) w1:=St.emp.2 (St.emp.2 HS1.out)
  refine h1.perm ?_
  rw [←HTB.out]
  unfold stoL stoR betL iterL optB
  exact (by classical exact List.perm_iff_count.2 fun a=> by simp only [List.cons_append,List.nil_append,List.count_append,List.count_cons] <;> omega)
 obtain ⟨b5,hb5⟩:∃b5,b3+1=b5:=⟨_,rfl⟩
 rw [hb5] at HFR ⊢
 clear HS1
 refine wp_rangeFunc_st (n:=2) rfl (enters_of Tryz.func198 (by kernel_rfl) rfl) (HSEQ.out bt bl bh) (fun _=> rfl)
  (smI b5 b3 (.func (.func f) #[] caps) p s.es (iterL false tb bt bl bh 0 0 none none++(stoL S s++(LX++R)))) (fun _ _=> [pureA False]) _ HFR.out ?h0 ?round ?done ?stop
 case h0=>
  intro Own W hW
  have h1:St w0 fp0 (emp::emp::(blkA b5 169 #[.slice none 0 0]::rowA 212 2 (.slice none 0 0) 0 []::(blkA b3 93 #[.func (.func f) #[] caps]::(iterL false tb bt bl bh 0 0 none none++(stoL S s++(LX++R)))++Own))) W:=by
   refine hW.perm ?_
   rw [←HTB.out]
   unfold stoL stoR betL iterL optB
   exact (by classical exact List.perm_iff_count.2 fun a=> by simp only [List.cons_append,List.nil_append,List.count_append,List.count_cons] <;> omega)
  have h2:=St.emp.1 (St.emp.1 h1)
  exact St.out.2 ⟨_,h2⟩
 case round=>
  intro l0 pre x rest Own W hxs hs
  obtain ⟨e,hx,het,hem⟩:=reM_split hxs
  obtain ⟨PRE,hPRE⟩:∃PRE,somL p (s.es.take pre.length)=PRE:=⟨_,rfl⟩
  have hPL:PRE.length+1 < 1099511627776:=by
   have h1:=somL_len p (s.es.take pre.length)
   rw [hPRE,List.length_take] at h1
   have:=HLEN.out
   omega
  obtain ⟨nx,hnx⟩:∃nx,pre++[x]=nx:=⟨_,rfl⟩
  have HNX:RowKit.Hid (somL p (s.es.take nx.length)=PRE++if p e then [toRi e] else []):=by
   show _=_
   rw [←hnx,List.length_append,show [x].length=1 from rfl,het,somL_snoc,hPRE]
  have hsm:smI b5 b3 (.func (.func f) #[] caps) p s.es (iterL false tb bt bl bh 0 0 none none++(stoL S s++(LX++R))) pre=outA b5 PRE::blkA b3 93 #[.func (.func f) #[] caps]::(iterL false tb bt bl bh 0 0 none none++(stoL S s++(LX++R))):=by rw [smI,hPRE]
  rw [hsm] at hs ⊢
  rw [hnx,hx]
  have HV:=Lib.hid (toRi_v (HSL.out e hem))
  have HEM:=Lib.hid hem
  clear hx het hPRE hxs hem hsm hnx
  obtain ⟨va,vn,vc,hvv⟩:∃a n c,encV e.va=.slice a n c:=by
   obtain ⟨a,n,c,h⟩:=HSL.out e HEM.out
   exact ⟨a,n,c,by rw [h];rfl⟩
  rw [hvv] at HV ⊢
  dsimp only [encK]
  gi_wp2
  refine ⟨hs,fun Own2 W2 hs2=> ?_⟩
  clear hs Own W
  have h2:St w0 fp0 (stoL S s++(LX++(R++(outA b5 PRE::blkA b3 93 #[.func (.func f) #[] caps]::(iterL false tb bt bl bh 0 0 none none++Own2))))) W2:=by
   refine hs2.perm ?_
   exact (by classical exact List.perm_iff_count.2 fun a=> by simp only [List.cons_append,List.count_append,List.count_cons] <;> omega)
  have HC:=Lib.hid (HIS.out w0 fp0 _ W2 e HEM.out h2)
  rw [hvv] at HC
  clear hvv
  obtain ⟨_,hb⟩:=hs2.has 1 rfl
  have d0:=(blk_get hb).1 0
  have dl:=(blk_get hb).2.2
  simp only [List.getElem?_toArray,List.getElem?_cons_zero] at d0
  clear hs2 h2 hb
  gi_wp2
  refine ⟨trivial,rfl,(CallsIn.inRound l0 (callsIn_wide.2 HC.out)).mono ?_⟩
  rintro ev w3 ⟨rfl,h3⟩
  clear HC d0 dl
  have h4:St w0 fp0 (outA b5 PRE::(blkA b3 93 #[.func (.func f) #[] caps]::(iterL false tb bt bl bh 0 0 none none++(stoL S s++(LX++R)))++Own2)) w3:=by
   refine h3.perm ?_
   exact (by classical exact List.perm_iff_count.2 fun a=> by simp only [List.cons_append,List.count_append,List.count_cons] <;> omega)
  obtain ⟨q,hq⟩:∃q,p e=q:=⟨_,rfl⟩
  rw [hq] at HNX ⊢
  clear hq h3
  cases q with
  | false=>
   have HF:RowKit.Hid (St w0 fp0 (smI b5 b3 (.func (.func f) #[] caps) p s.es (iterL false tb bt bl bh 0 0 none none++(stoL S s++(LX++R))) nx++Own2) w3):=by
    show St _ _ _ _
    unfold smI
    rw [HNX.out,if_neg (by simp),List.append_nil]
    exact h4
   clear h4 HNX
   gi_wp2
   exact HF.out
  | true=>
   obtain ⟨v0,h5⟩:=St.out.1 h4
   obtain ⟨_,hb⟩:=h5.has 0 rfl
   have d0:=(blk_get hb).1 0
   have dl:=(blk_get hb).2.2
   simp only [List.getElem?_toArray,List.getElem?_cons_zero] at d0
   obtain ⟨v',w',hr,⟨a',c',rfl⟩,e0,e1,e2,h6⟩:=h5.appIt 169 (toRi e) hPL
   rw [HV.out,show (toRi e).id=e.id from rfl] at hr
   have h7:=St.out.2 ⟨_,h6⟩
   have HF:RowKit.Hid (St w0 fp0 (smI b5 b3 (.func (.func f) #[] caps) p s.es (iterL false tb bt bl bh 0 0 none none++(stoL S s++(LX++R))) nx++Own2) (w'.setCell ⟨b5,0,none⟩ (.slice a' (PRE.length+1) c'))):=by
    show St _ _ _ _
    unfold smI
    rw [HNX.out,if_pos rfl]
    exact h7
   have HR:=Lib.hid hr
   clear h4 HNX h5 hb h6 h7 hr
   gi_wp2_with (gi_at_builtin;refine wpListIn_append_run rfl _ _ _ rfl rfl rfl HR.out ?_)
   exact HF.out
 case done=>
  intro D W hW
  have hlr:(reM s.es).length=s.es.length:=by rw [reM,List.length_map]
  have h1:St w0 fp0 (outA b5 (somL p s.es)::blkA b3 93 #[.func (.func f) #[] caps]::(iterL false tb bt bl bh 0 0 none none++(defA D::(stoL S s++(LX++R))))) W:=by
   refine hW.perm ?_
   unfold smI
   rw [hlr,List.take_length]
   exact (by classical exact List.perm_iff_count.2 fun a=> by simp only [List.count_append,List.count_cons] <;> omega)
  obtain ⟨v0,h2⟩:=St.out.1 h1
  obtain ⟨_,hb⟩:=h2.has 0 rfl
  have d0:=(blk_get hb).1 0
  have dl:=(blk_get hb).2.2
  simp only [List.getElem?_toArray,List.getElem?_cons_zero] at d0
  have h3:St w0 fp0 (defA D::rowA 212 2 v0 (somL p s.es).length (riV (somL p s.es))::(stoL S s++(LX++R))) W:=by
   refine St.dropAll (A:=[blkA b5 169 #[v0],blkA b3 93 #[.func (.func f) #[] caps]]++iterL false tb bt bl bh 0 0 none none) (h2.perm ?_)
   exact (by classical exact List.perm_iff_count.2 fun a=> by simp only [List.cons_append,List.nil_append,List.count_append,List.count_cons] <;> omega)
  have H3:=Lib.hid h3
  clear hW h1 h2 h3 hb hlr
  dsimp only
  go_wp2
  exact bodyPostM_mark H3.out rfl fun w' hw'=> ⟨_,results_tmp rfl _ _ _,v0,rfl,hw'⟩
 case stop=>
  intro D c pre x rest W hxs hW
  exact ((St.pure.1 (show St w0 fp0 (pureA False::[defA D]) W from hW.perm (List.Perm.swap _ _ _))).1).elim
end Go.Proofs.YtpdlkdoogojboaaGreat
/- All: an iterator over all rows. -/
namespace Go.Proofs.YtpdlkdoogojboaaGreat
open Go Go.RowKit
theorem all11_isc (S:Nat) (s:Sto):IsC 105 #[] (fun _=> true) S s []:=by
 intro w0 fp0 R w e he hs
 have HS:=Lib.hid hs
 generalize encV e.va=v
 clear hs
 go_enter Tryz.func105,Tryz.ntmps105
 go_wp2
 go_ret
 exact ⟨rfl,HS.out⟩
set_option maxRecDepth 20000 in
theorem all1_calls (bS S:Nat) (s:Sto) (hlen:s.es.length+1 < 1099511627776) (w0 w:World) (fp0:List Nat) (R:List Asn) (hS:St w0 fp0 (blkA bS 46 #[ptrV S]::(stoL S s++R)) w):
 Calls Tryz.prog 103 #[.pointer (some ⟨bS,0,none⟩)] w fun e w'=> ∃v,e=.returned v∧St w0 fp0 (rowA 212 2 v (somL (fun _=> true) s.es).length (riV (somL (fun _=> true) s.es))::blkA bS 46 #[ptrV S]::(stoL S s++R)) w':=by
 obtain ⟨_,hb⟩:=hS.has 0 rfl
 have c0:=(blk_get hb).1 0
 have cl:=(blk_get hb).2.2
 simp only [List.getElem?_toArray,List.getElem?_cons_zero] at c0
 have HC:=Lib.hid (some_calls 105 #[] (fun _=> true) S s [] (enters_own Tryz.func105 (by kernel_rfl) rfl) hlen (all11_isc S s) w0 w fp0 (blkA bS 46 #[ptrV S]::R) (hS.perm List.perm_middle.symm))
 clear hS hb
 unfold ptrV at *
 go_enter Tryz.func103,Tryz.ntmps103
 go_wp2_with fail
 (with_reducible refine HC.out.mono ?_)
 rintro e w1 ⟨v,rfl,h1⟩
 have H1:=Lib.hid (show St w0 fp0 (rowA 212 2 v (somL (fun _=> true) s.es).length (riV (somL (fun _=> true) s.es))::blkA bS 46 #[.pointer (some ⟨S,0,none⟩)]::(stoL S s++R)) w1 from h1.perm (List.Perm.cons _ List.perm_middle))
 clear HC h1 c0 cl
 go_wp2
 go_ret
 exact ⟨v,rfl,H1.out⟩
def allF (cb:Nat):Value:=.func (.func 133) #[] #[.pointer (some ⟨cb,0,none⟩)]
theorem each_calls (col:Value) (h1:col.oneCell'=true) (hc:∃f caps,col=.func (.func f) #[] caps) (w0 w:World) (fp0:List Nat) (R:List Asn) (hS:St w0 fp0 R w):
 Calls Tryz.prog 102 #[col] w fun e w'=> ∃cb,e=.returned (allF cb)∧St w0 fp0 (blkA cb 171 #[col]::R) w':=by
 obtain ⟨f,caps,rfl⟩:=hc
 have HS:=Lib.hid (hS.newblk 171 #[.func (.func f) #[] caps])
 clear hS
 unfold allF
 go_enter Tryz.func102,Tryz.ntmps102
 go_wp2
 go_ret
 exact ⟨_,rfl,HS.out⟩
theorem All_store (S:Nat) (w0 w:World) (fp0:List Nat) (R:List Asn) (hS:St w0 fp0 R w):
 Calls Tryz.prog 69 #[ptrV S] w fun e w'=> ∃cb bS,e=.returned (allF cb)∧St w0 fp0 (blkA cb 171 #[.func (.func 103) #[] #[.pointer (some ⟨bS,0,none⟩)]]::blkA bS 46 #[ptrV S]::R) w':=by
 have HC:=Lib.hid (each_calls (.func (.func 103) #[] #[.pointer (some ⟨w.heap.size,0,none⟩)]) rfl ⟨_,_,rfl⟩ w0 _ fp0 _ (hS.newblk 46 #[ptrV S]))
 clear hS
 unfold ptrV allF at *
 go_enter Tryz.func69,Tryz.ntmps69
 go_wp2_with fail
 (with_reducible refine HC.out.mono ?_)
 rintro e w1 ⟨cb,rfl,h1⟩
 have H1:=Lib.hid h1
 clear h1 HC
 go_wp2
 go_ret
 exact ⟨_,_,rfl,H1.out⟩
/-- What an iterator over the store needs. -/
theorem somL_row {p:Re→Bool} {es:List Re} {x:Ri} (h:x∈somL p es):∃e∈es,p e=true∧x=toRi e:=by
 obtain ⟨e,he,rfl⟩:=List.mem_map.1 h
 obtain ⟨h1,h2⟩:=List.mem_filter.1 he
 exact ⟨e,h1,h2,rfl⟩
theorem somL_len2 {p:Re→Bool} {cols:Nat} {I:List (List Int)} {L:LL} {next:Int} {s:Sto} (hok:s.Ok cols I L next) (hc:cols≤1000000):∀x∈somL p s.es,x.r.length < 1099511627776:=by
 intro x hx
 obtain ⟨e,he, -,rfl⟩:=somL_row hx
 have hm:(e.id,e.r)∈L:=by rw [←hok.rows];exact List.mem_map.2 ⟨_,he,rfl⟩
 have:e.r.length=cols:=(hok.row _ hm).2.2.1
 show e.r.length < _
 omega
/-- The rows of a store are read. -/
theorem som_read {p:Re→Bool} {S cols:Nat} {I:List (List Int)} {L:LL} {next:Int} {s:Sto} (hok:s.Ok cols I L next) {w0 w:World} {fp0:List Nat} {R:List Asn} (hs:St w0 fp0 (stoL S s++R) w):∀x∈somL p s.es,ValsAt w x.r x.v:=by
 intro x hx
 obtain ⟨e,he, -,rfl⟩:=somL_row hx
 obtain ⟨f,hf⟩:=hs.star_of
 rw [toRi_v (hs.slOf e he)]
 exact re_at hok hf he
theorem all_seq {S cols:Nat} {I:List (List Int)} {L:LL} {next:Int} {s:Sto} (hok:s.Ok cols I L next) (hc:cols≤1000000) (hlen:s.es.length+1 < 1099511627776) (bS cb:Nat) (n:Nat):
 SeqG n Tryz.prog 133 #[.pointer (some ⟨cb,0,none⟩)] 2 itG (fun W=> ∀x∈somL (fun _=> true) s.es,ValsAt W x.r x.v) (somL (fun _=> true) s.es) (blkA cb 171 #[.func (.func 103) #[] #[.pointer (some ⟨bS,0,none⟩)]]::(blkA bS 46 #[ptrV S]::stoL S s)):=
 each1_seq 103 #[.pointer (some ⟨bS,0,none⟩)] cb _ _ (enters_own Tryz.func103 (by kernel_rfl) rfl) (Nat.lt_of_le_of_lt (somL_len _ _) (by omega)) (somL_len2 hok hc) (fun w0 fp0 R w hs=> by
  have h1:St w0 fp0 (blkA bS 46 #[ptrV S]::(stoL S s++(blkA cb 171 #[.func (.func 103) #[] #[.pointer (some ⟨bS,0,none⟩)]]::R))) w:=hs.perm (by
   simp only [List.cons_append]
   exact (by classical exact List.perm_iff_count.2 fun a=> by simp only [List.count_append,List.count_cons] <;> omega))
  refine (all1_calls bS S s hlen w0 w fp0 _ h1).mono ?_
  rintro e w' ⟨v,rfl,h2⟩
  refine ⟨v,rfl,h2.perm ?_⟩
  simp only [List.cons_append]
  exact (by classical exact List.perm_iff_count.2 fun a=> by simp only [List.count_append,List.count_cons] <;> omega)) n
/- slices.Clone of columns, of lists of integers, of foreign keys. -/
theorem appCL:AppSrc Tryz.prog 84 84 146 6:=appSrc (z:=.agg #[.string ⟨#[]⟩, .int .i64 0, .int .i64 0, .int .i64 0, .int .i64 0, .bool false]) (bytes:=56) (by kernel_rfl) (by kernel_rfl) rfl (by decide) (by decide)
set_option maxHeartbeats 1000000 in
theorem cloneCL (xs:List Value) (n:Nat) (v:Value) (w:World) (hs:SlX [] w 6 n xs v) (h1:∀u∈xs,u.oneCell'=true) (hlen:n < 1099511627776):
 Calls Tryz.prog 108 #[v] w fun e w'=> ∃v' f',e=.returned v'∧(rowA 146 6 v' n xs).p w' f'∧Below w.heap.size w w'∧∀k∈f',w.heap.size≤k:=by
 rcases hs.cases (by decide) with ⟨c,rfl,rfl,rfl⟩ | ⟨ad,c,rfl⟩
 · have hnil:=fun w'=> Lib.run_eql_slice_nil (P:=Tryz.prog) w' 84 146 none 0 c 0 0 Tryz.underlying84
   simp only [Option.isNone_none] at hnil
   clear hs hlen h1
   go_enter Tryz.func108,Tryz.ntmps108
   go_wp2
   go_ret
   exact ⟨_,[],rfl,row_nil _ _ _,Below.refl _ _,by simp⟩
 · have hb0:Below w.heap.size w (w.alloc (.cells #[] 146)):=(Below.refl _ _).alloc (Nat.le_refl _) _
   have hrow:(rowA 146 6 (.slice (some ⟨w.heap.size,0,none⟩) 0 0) 0 []).p (w.alloc (.cells #[] 146)) [w.heap.size]:=by
    have h:=World.ownsRow_lit (base:=0) (e:=146) (size:=6) w #[] 0 (Nat.zero_le _) (by simp) (by simp)
    exact ⟨h,rfl⟩
   obtain ⟨v',w',f',hr,h2,h3⟩:=appCL 84 _ _ 0 [] _ _ _ _ hrow ((hs.mono hb0).src (tx:=84) (e':=146) (by kernel_rfl) (by decide) h1) (by omega)
   rw [Nat.zero_add,List.nil_append] at h2
   have hb:Below w.heap.size w w':=hb0.trans (h3.below (by simp) (by simp))
   have HO:RowKit.Hid ((rowA 146 6 v' n xs).p w' f'∧Below w.heap.size w w'∧∀k∈f',w.heap.size≤k):=by
    refine ⟨h2,hb,fun k hk=> ?_⟩
    rcases h3.new k hk with h | h
    · rw [List.mem_singleton.1 h];exact Nat.le_refl _
    · have:=hb0.size;omega
   have hnil:=fun w'=> Lib.run_eql_slice_nil (P:=Tryz.prog) w' 84 146 (some ad) n c 0 0 Tryz.underlying84
   simp only [Option.isNone_some] at hnil
   have HR:=Lib.hid hr
   clear hs hrow h2 h3 hb hb0 hr
   go_enter Tryz.func108,Tryz.ntmps108
   go_wp2_with (at_builtin;refine wpList_append_run rfl _ _ _ rfl rfl rfl HR.out ?_)
   go_ret
   exact ⟨_,_,rfl,HO.out⟩
theorem appJS:AppSrc Tryz.prog 85 85 90 1:=appSrc (z:=.slice none 0 0) (bytes:=24) (by kernel_rfl) (by kernel_rfl) rfl (by decide) (by decide)
set_option maxHeartbeats 1000000 in
theorem cloneJS (xs:List Value) (n:Nat) (v:Value) (w:World) (hs:SlX [] w 1 n xs v) (h1:∀u∈xs,u.oneCell'=true) (hlen:n < 1099511627776):
 Calls Tryz.prog 109 #[v] w fun e w'=> ∃v' f',e=.returned v'∧(rowA 90 1 v' n xs).p w' f'∧Below w.heap.size w w'∧∀k∈f',w.heap.size≤k:=by
 rcases hs.cases (by decide) with ⟨c,rfl,rfl,rfl⟩ | ⟨ad,c,rfl⟩
 · have hnil:=fun w'=> Lib.run_eql_slice_nil (P:=Tryz.prog) w' 85 90 none 0 c 0 0 Tryz.underlying85
   simp only [Option.isNone_none] at hnil
   clear hs hlen h1
   go_enter Tryz.func109,Tryz.ntmps109
   go_wp2
   go_ret
   exact ⟨_,[],rfl,row_nil _ _ _,Below.refl _ _,by simp⟩
 · have hb0:Below w.heap.size w (w.alloc (.cells #[] 90)):=(Below.refl _ _).alloc (Nat.le_refl _) _
   have hrow:(rowA 90 1 (.slice (some ⟨w.heap.size,0,none⟩) 0 0) 0 []).p (w.alloc (.cells #[] 90)) [w.heap.size]:=by
    have h:=World.ownsRow_lit (base:=0) (e:=90) (size:=1) w #[] 0 (Nat.zero_le _) (by simp) (by simp)
    exact ⟨h,rfl⟩
   obtain ⟨v',w',f',hr,h2,h3⟩:=appJS 85 _ _ 0 [] _ _ _ _ hrow ((hs.mono hb0).src (tx:=85) (e':=90) (by kernel_rfl) (by decide) h1) (by omega)
   rw [Nat.zero_add,List.nil_append] at h2
   have hb:Below w.heap.size w w':=hb0.trans (h3.below (by simp) (by simp))
   have HO:RowKit.Hid ((rowA 90 1 v' n xs).p w' f'∧Below w.heap.size w w'∧∀k∈f',w.heap.size≤k):=by
    refine ⟨h2,hb,fun k hk=> ?_⟩
    rcases h3.new k hk with h | h
    · rw [List.mem_singleton.1 h];exact Nat.le_refl _
    · have:=hb0.size;omega
   have hnil:=fun w'=> Lib.run_eql_slice_nil (P:=Tryz.prog) w' 85 90 (some ad) n c 0 0 Tryz.underlying85
   simp only [Option.isNone_some] at hnil
   have HR:=Lib.hid hr
   clear hs hrow h2 h3 hb hb0 hr
   go_enter Tryz.func109,Tryz.ntmps109
   go_wp2_with (at_builtin;refine wpList_append_run rfl _ _ _ rfl rfl rfl HR.out ?_)
   go_ret
   exact ⟨_,_,rfl,HO.out⟩
theorem appFO:AppSrc Tryz.prog 86 86 92 3:=appSrc (z:=.agg #[.slice none 0 0, .int .i64 0, .int .i64 0]) (bytes:=40) (by kernel_rfl) (by kernel_rfl) rfl (by decide) (by decide)
set_option maxHeartbeats 1000000 in
theorem cloneFO (xs:List Value) (n:Nat) (v:Value) (w:World) (hs:SlX [] w 3 n xs v) (h1:∀u∈xs,u.oneCell'=true) (hlen:n < 1099511627776):
 Calls Tryz.prog 111 #[v] w fun e w'=> ∃v' f',e=.returned v'∧(rowA 92 3 v' n xs).p w' f'∧Below w.heap.size w w'∧∀k∈f',w.heap.size≤k:=by
 rcases hs.cases (by decide) with ⟨c,rfl,rfl,rfl⟩ | ⟨ad,c,rfl⟩
 · have hnil:=fun w'=> Lib.run_eql_slice_nil (P:=Tryz.prog) w' 86 92 none 0 c 0 0 Tryz.underlying86
   simp only [Option.isNone_none] at hnil
   clear hs hlen h1
   go_enter Tryz.func111,Tryz.ntmps111
   go_wp2
   go_ret
   exact ⟨_,[],rfl,row_nil _ _ _,Below.refl _ _,by simp⟩
 · have hb0:Below w.heap.size w (w.alloc (.cells #[] 92)):=(Below.refl _ _).alloc (Nat.le_refl _) _
   have hrow:(rowA 92 3 (.slice (some ⟨w.heap.size,0,none⟩) 0 0) 0 []).p (w.alloc (.cells #[] 92)) [w.heap.size]:=by
    have h:=World.ownsRow_lit (base:=0) (e:=92) (size:=3) w #[] 0 (Nat.zero_le _) (by simp) (by simp)
    exact ⟨h,rfl⟩
   obtain ⟨v',w',f',hr,h2,h3⟩:=appFO 86 _ _ 0 [] _ _ _ _ hrow ((hs.mono hb0).src (tx:=86) (e':=92) (by kernel_rfl) (by decide) h1) (by omega)
   rw [Nat.zero_add,List.nil_append] at h2
   have hb:Below w.heap.size w w':=hb0.trans (h3.below (by simp) (by simp))
   have HO:RowKit.Hid ((rowA 92 3 v' n xs).p w' f'∧Below w.heap.size w w'∧∀k∈f',w.heap.size≤k):=by
    refine ⟨h2,hb,fun k hk=> ?_⟩
    rcases h3.new k hk with h | h
    · rw [List.mem_singleton.1 h];exact Nat.le_refl _
    · have:=hb0.size;omega
   have hnil:=fun w'=> Lib.run_eql_slice_nil (P:=Tryz.prog) w' 86 92 (some ad) n c 0 0 Tryz.underlying86
   simp only [Option.isNone_some] at hnil
   have HR:=Lib.hid hr
   clear hs hrow h2 h3 hb hb0 hr
   go_enter Tryz.func111,Tryz.ntmps111
   go_wp2_with (at_builtin;refine wpList_append_run rfl _ _ _ rfl rfl rfl HR.out ?_)
   go_ret
   exact ⟨_,_,rfl,HO.out⟩
/- copySchema: its two drawn regions. -/
set_option maxRecDepth 100000
theorem Rg.Ob.indexN (G:Rg) (i b n c m s:Nat) (hm:m < n) {t e:TypeId} {x y:Operand} (hop:(opAt G.ops i).op=.indexAddr t x y:=by rfl) (hu:G.P.underlying t=some (.slice e):=by rfl) (hz:∀w,(sizeOf e).run G.P w=.ok s w:=by intro _;exact kr (by kernel_rfl)) (hx:∀a,G.env i a x=.slice (some ⟨b,0,none⟩) n c:=by intro _;exact kr (by kernel_rfl)) (hy:∀a,G.env i a y=.int .i64 m:=by intro _;exact kr (by kernel_rfl)) (hv:∀g,G.valD i g=.pointer (some ⟨b,m * s,none⟩):=by intro _;exact kr (by kernel_rfl))
 (hq:(G.quiet i G.pcs.length && G.okV i)=true:=by exact kr (by kernel_rfl)) (hw:∀a,wantE G.ops (opAt G.ops i) (G.env i a)=some true:=by intro _;exact kr (by kernel_rfl)):G.Ob i:=Rg.Ob.read G i hq hw fun L a w _ _=> by
 have e1:0+m * s=m * s:=by omega
 simp only [execOp,hop,hx,hy,Sem.run_bind,run_index1 hu (hz w) hm,Result.andThen_ok,Sem.run_pure,hv,e1]
theorem row_at {w:World} {t:TypeId} {size g n c i:Nat} {xs:List Value} {u:Value} {f:List Nat} (h:(rowA t size (.slice (some ⟨g,0,none⟩) n c) n xs).p w f) (hl:xs.length=n * size) (hu:xs[i]? =some u):w.cell? ⟨g,i,none⟩=some u∧w.frozen? ⟨g,i,none⟩=false∧g < w.heap.size:=by
 obtain ⟨a,c',e, -, -,h4⟩:=row_shape h
 have hi:=(List.getElem?_eq_some_iff.1 hu).1
 obtain ⟨g',e1,h5,h6,h7⟩:=h4 i (by omega)
 injection e with e
 rw [e1] at e
 injection e with e
 injection e with e
 subst e
 exact ⟨h6.trans hu,h7 i,h5⟩
theorem storeRow1 {P:Program} {w:World} {ty t:TypeId} {size g n c i:Nat} {xs:List Value} {u v:Value} {f:List Nat} (hb:(rowA t size (.slice (some ⟨g,0,none⟩) n c) n xs).p w f) (hl:xs.length=n * size) (hu:xs[i]? =some u) (hz:(sizeOf ty).run P w=.ok 1 w) (h1:v.oneCell'=true):
 ∃w' f',(Instr.storeAt ty (.pointer (some ⟨g,i,none⟩)) v).run P w=.ok () w'∧(rowA t size (.slice (some ⟨g,0,none⟩) n c) n (xs.set i v)).p w' f'∧Tr w w' f f':=by
 obtain ⟨hc,hfz, -⟩:=row_at hb hl hu
 obtain ⟨h2,h3⟩:=hb
 obtain ⟨h4,h5⟩:=h2.stored i v
 refine ⟨_,[g],run_store1 hz h1 hc hfz,⟨h4,rfl⟩,?_⟩
 rw [h3]
 exact Tr.of_grown (o:=some g) (o':=some g) h5 (fun k hk=> .inl hk)
theorem clone_in {w0 w w2:World} {fp0 f:List Nat} {R:List Asn} {A B C:Asn} (h:St w0 fp0 ([A,B]++R) w) (h1:C.p w2 f) (h2:Below w.heap.size w w2) (h3:∀k∈f,w.heap.size≤k):St w0 fp0 ([A,starA [B,C]]++R) w2:=by
 have h4:=St_re (L:=[_,_,_]) (h.addF h1 h2 h3) [2,0,1] [] (by kernel_rfl)
 have h5:St w0 fp0 ([B,C]++(A::R)) w2:=St_re (L:=[_,_,_]) (h.addF h1 h2 h3) [2,0,1] [] (by kernel_rfl)
 exact (St.star.2 h5).perm (List.Perm.swap _ _ _)
noncomputable def gCs10 (tb kg n kc i m:Nat) (nm cv fv xv u:Value) (us XS:List Value):=rgx Tryz.prog Tryz.f74 10 69 [28,29,30,31,32,33,34,35,36,37] [(5,pV tb 0),(6,nV i)] (Vq 0 28 [Kp tb 2,Kv (.slice (some ⟨kg,0,none⟩) n kc),Kn i,Kp tb 2,Kv (.slice (some ⟨kg,0,none⟩) n kc),Kn i,Kp kg i,Kv u,Vf.slice,Kp kg i]) [Bk tb (89) [nm,cv, .slice (some ⟨kg,0,none⟩) n kc,fv,xv], .gen [8,10] [36] fun L g=> match L 10 with | true=> starA [rowA 90 1 (.slice (some ⟨kg,0,none⟩) n kc) n (us.set (i) (.slice (sa (g 36)) (sn (g 36)) (sc (g 36)))),rowA 3 1 (g 36) m XS] | false=> match L 8 with | true=> starA [rowA 90 1 (.slice (some ⟨kg,0,none⟩) n kc) n us,rowA 3 1 (g 36) m XS] | false=> rowA 90 1 (.slice (some ⟨kg,0,none⟩) n kc) n us]
theorem rCs10 (tb kg n kc i m:Nat) (nm cv fv xv u:Value) (us XS:List Value) (w0:World) (fp0:List Nat) (R:List Asn) (hi:i < n) (hl:us.length=n * 1) (hu:us[i]? =some u) (hcl:∀(L:List Asn) (w:World),St w0 fp0 (L++R) w→Calls Tryz.prog 110 #[u] w fun e w2=> ∃v f,e=.returned v∧(rowA 3 1 v m XS).p w2 f∧Below w.heap.size w w2∧∀k∈f,w.heap.size≤k) {w:World} {c:Code} {a:Act} {Q:Exit→Act→World→Prop} (c1:isReg c=true) (c2:cops c=opsR Tryz.f74 10) (c3:a.tmps.size=69) (_c4:a.defers=a.defers) (i5:a.eval (.tmp 5)=.pointer (some ⟨tb,0,none⟩)) (i6:a.eval (.tmp 6)=.int .i64 i)
 (hS:St w0 fp0 ([blkA tb (89) #[nm,cv, .slice (some ⟨kg,0,none⟩) n kc,fv,xv],rowA 90 1 (.slice (some ⟨kg,0,none⟩) n kc) n us]++R) w)
 (hQ:∀(u36:Value) (w1:World),(∃a n c,u36=.slice a n c)→St w0 fp0 ([blkA tb (89) #[nm,cv, .slice (some ⟨kg,0,none⟩) n kc,fv,xv],starA [rowA 90 1 (.slice (some ⟨kg,0,none⟩) n kc) n (us.set (i) (.slice (sa (u36)) (sn (u36)) (sc (u36)))),rowA 3 1 (u36) m XS]]++R) w1→Q .normal (putL a [(28, .pointer (some ⟨tb,2,none⟩)),(29, .slice (some ⟨kg,0,none⟩) n kc),(30, .int .i64 i),(31, .pointer (some ⟨tb,2,none⟩)),(32, .slice (some ⟨kg,0,none⟩) n kc),(33, .int .i64 i),(34, .pointer (some ⟨kg,i,none⟩)),(35,u),(36,u36),(37, .pointer (some ⟨kg,i,none⟩))]) w1):c.wp Tryz.prog Q a w:=by
 have ok:(gCs10 tb kg n kc i m nm cv fv xv u us XS w0 fp0 R).Ok 11:=Rg.ok _ 11 [1,4,6,7,8,9,10] ⟨.load _ 1 0 2, .load _ 4 0 2, .index _ 6 kg n kc i hi, .loadBy _ 7 1 (b:=kg) (j:=i) (A:=rowA 90 1 (.slice (some ⟨kg,0,none⟩) n kc) n us) (fun w f h=> ⟨u,(row_at h hl hu).1,fun _=> kr (by kernel_rfl)⟩) (hA:=by intro _ _;exact kr (by kernel_rfl)), .callG _ 8 (f:=110) (args:=fun _=> #[u]) (fun _=> [blkA tb 89 #[nm,cv, .slice (some ⟨kg,0,none⟩) n kc,fv,xv],rowA 90 1 (.slice (some ⟨kg,0,none⟩) n kc) n us]) (fun _ v=> [blkA tb 89 #[nm,cv, .slice (some ⟨kg,0,none⟩) n kc,fv,xv],starA [rowA 90 1 (.slice (some ⟨kg,0,none⟩) n kc) n us,rowA 3 1 (v) m XS]]) (fun g w h=> (hcl [_,_] w h).mono fun e w2 ⟨v,f,e1,h1,h2,h3⟩=> (by obtain ⟨a,c,e2, -⟩:=row_shape h1;subst e2;exact ⟨_,e1,kr (by kernel_rfl),clone_in h h1 h2 h3⟩)), .index _ 9 kg n kc i hi, .skip1 _ 10 1 (fun g=> starA [rowA 90 1 (.slice (some ⟨kg,0,none⟩) n kc) n us,rowA 3 1 (g 36) m XS]) (fun g=> starA [rowA 90 1 (.slice (some ⟨kg,0,none⟩) n kc) n (us.set (i) (.slice (sa (g 36)) (sn (g 36)) (sc (g 36)))),rowA 3 1 (g 36) m XS]) (fun L a w fp hS hp=> (by obtain ⟨f0,hf0, -,hk⟩:=Star.get 0 rfl (show Star w [rowA 90 1 (.slice (some ⟨kg,0,none⟩) n kc) n us,rowA 3 1 (slots a 36) m XS] fp from hp);obtain ⟨w2,f2,h1,h2,h3⟩:=storeRow1 (P:=Tryz.prog) (ty:=90) (v:=.slice (sa (slots a 36)) (sn (slots a 36)) (sc (slots a 36))) hf0 hl hu (kr (by kernel_rfl)) rfl;obtain ⟨fp2,q1,q2⟩:=hk _ w2 f2 h2 h3;exact ⟨w2,fp2,exec_store rfl (kr (by kernel_rfl)) (kr (by kernel_rfl)) h1,q1,q2⟩)),trivial⟩
 refine wp_regD ok (by kernel_rfl) ⟨c1,c2⟩ ⟨c3,fun p hp=> ?_⟩ hS fun A1 w1 N1 H1=> ?_
 · simp only [gCs10,rgx,List.map_nil,List.append_nil,List.mem_cons,List.not_mem_nil,or_false] at hp
   rcases hp with rfl | rfl
   · exact i5
   · exact i6
 have e28:=N1.val 0 rfl
 have e29:=N1.val 1 rfl
 have e30:=N1.val 2 rfl
 have e31:=N1.val 3 rfl
 have e32:=N1.val 4 rfl
 have e33:=N1.val 5 rfl
 have e34:=N1.val 6 rfl
 have e35:=N1.val 7 rfl
 have e36:=N1.val 8 rfl
 have e37:=N1.val 9 rfl
 have h:=hQ (slots A1 36) w1 ⟨_,_,_,e36⟩ H1
 rw [frame_eq N1.frame (cons_eq e28 (cons_eq e29 (cons_eq e30 (cons_eq e31 (cons_eq e32 (cons_eq e33 (cons_eq e34 (cons_eq e35 (cons_eq rfl (cons_eq e37 rfl))))))))))]
 exact h
noncomputable def gCs16 (tb kg n kc i m:Nat) (nm cv kv xv u:Value) (us XS:List Value):=rgx Tryz.prog Tryz.f74 16 69 [49,50,51,52,53,54,55,56,57,58,59,60] [(5,pV tb 0),(7,nV i)] (Vq 0 49 [Kp tb 3,Kv (.slice (some ⟨kg,0,none⟩) n kc),Kn i,Kp tb 3,Kv (.slice (some ⟨kg,0,none⟩) n kc),Kn i,Kp kg (i * 3),Kp kg (i * 3),Kv u,Vf.slice,Kp kg (i * 3),Kp kg (i * 3)]) [Bk tb (89) [nm,cv,kv, .slice (some ⟨kg,0,none⟩) n kc,xv], .gen [9,12] [58] fun L g=> match L 12 with | true=> starA [rowA 92 3 (.slice (some ⟨kg,0,none⟩) n kc) n (us.set (i * 3) (.slice (sa (g 58)) (sn (g 58)) (sc (g 58)))),rowA 3 1 (g 58) m XS] | false=> match L 9 with | true=> starA [rowA 92 3 (.slice (some ⟨kg,0,none⟩) n kc) n us,rowA 3 1 (g 58) m XS] | false=> rowA 92 3 (.slice (some ⟨kg,0,none⟩) n kc) n us]
theorem rCs16 (tb kg n kc i m:Nat) (nm cv kv xv u:Value) (us XS:List Value) (w0:World) (fp0:List Nat) (R:List Asn) (hi:i < n) (hl:us.length=n * 3) (hu:us[i * 3]? =some u) (hcl:∀(L:List Asn) (w:World),St w0 fp0 (L++R) w→Calls Tryz.prog 110 #[u] w fun e w2=> ∃v f,e=.returned v∧(rowA 3 1 v m XS).p w2 f∧Below w.heap.size w w2∧∀k∈f,w.heap.size≤k) {w:World} {c:Code} {a:Act} {Q:Exit→Act→World→Prop} (c1:isReg c=true) (c2:cops c=opsR Tryz.f74 16) (c3:a.tmps.size=69) (_c4:a.defers=a.defers) (i5:a.eval (.tmp 5)=.pointer (some ⟨tb,0,none⟩)) (i7:a.eval (.tmp 7)=.int .i64 i)
 (hS:St w0 fp0 ([blkA tb (89) #[nm,cv,kv, .slice (some ⟨kg,0,none⟩) n kc,xv],rowA 92 3 (.slice (some ⟨kg,0,none⟩) n kc) n us]++R) w)
 (hQ:∀(u58:Value) (w1:World),(∃a n c,u58=.slice a n c)→St w0 fp0 ([blkA tb (89) #[nm,cv,kv, .slice (some ⟨kg,0,none⟩) n kc,xv],starA [rowA 92 3 (.slice (some ⟨kg,0,none⟩) n kc) n (us.set (i * 3) (.slice (sa (u58)) (sn (u58)) (sc (u58)))),rowA 3 1 (u58) m XS]]++R) w1→Q .normal (putL a [(49, .pointer (some ⟨tb,3,none⟩)),(50, .slice (some ⟨kg,0,none⟩) n kc),(51, .int .i64 i),(52, .pointer (some ⟨tb,3,none⟩)),(53, .slice (some ⟨kg,0,none⟩) n kc),(54, .int .i64 i),(55, .pointer (some ⟨kg,i * 3,none⟩)),(56, .pointer (some ⟨kg,i * 3,none⟩)),(57,u),(58,u58),(59, .pointer (some ⟨kg,i * 3,none⟩)),(60, .pointer (some ⟨kg,i * 3,none⟩))]) w1):c.wp Tryz.prog Q a w:=by
 have ok:(gCs16 tb kg n kc i m nm cv kv xv u us XS w0 fp0 R).Ok 13:=Rg.ok _ 13 [1,4,6,8,9,10,12] ⟨.load _ 1 0 3, .load _ 4 0 3, .indexN _ 6 kg n kc i 3 hi, .loadBy _ 8 1 (b:=kg) (j:=i * 3) (A:=rowA 92 3 (.slice (some ⟨kg,0,none⟩) n kc) n us) (fun w f h=> ⟨u,(row_at h hl hu).1,fun _=> kr (by kernel_rfl)⟩) (hA:=by intro _ _;exact kr (by kernel_rfl)), .callG _ 9 (f:=110) (args:=fun _=> #[u]) (fun _=> [blkA tb 89 #[nm,cv,kv, .slice (some ⟨kg,0,none⟩) n kc,xv],rowA 92 3 (.slice (some ⟨kg,0,none⟩) n kc) n us]) (fun _ v=> [blkA tb 89 #[nm,cv,kv, .slice (some ⟨kg,0,none⟩) n kc,xv],starA [rowA 92 3 (.slice (some ⟨kg,0,none⟩) n kc) n us,rowA 3 1 (v) m XS]]) (fun g w h=> (hcl [_,_] w h).mono fun e w2 ⟨v,f,e1,h1,h2,h3⟩=> (by obtain ⟨a,c,e2, -⟩:=row_shape h1;subst e2;exact ⟨_,e1,kr (by kernel_rfl),clone_in h h1 h2 h3⟩)), .indexN _ 10 kg n kc i 3 hi, .skip1 _ 12 1 (fun g=> starA [rowA 92 3 (.slice (some ⟨kg,0,none⟩) n kc) n us,rowA 3 1 (g 58) m XS]) (fun g=> starA [rowA 92 3 (.slice (some ⟨kg,0,none⟩) n kc) n (us.set (i * 3) (.slice (sa (g 58)) (sn (g 58)) (sc (g 58)))),rowA 3 1 (g 58) m XS]) (fun L a w fp hS hp=> (by obtain ⟨f0,hf0, -,hk⟩:=Star.get 0 rfl (show Star w [rowA 92 3 (.slice (some ⟨kg,0,none⟩) n kc) n us,rowA 3 1 (slots a 58) m XS] fp from hp);obtain ⟨w2,f2,h1,h2,h3⟩:=storeRow1 (P:=Tryz.prog) (ty:=90) (v:=.slice (sa (slots a 58)) (sn (slots a 58)) (sc (slots a 58))) hf0 hl hu (kr (by kernel_rfl)) rfl;obtain ⟨fp2,q1,q2⟩:=hk _ w2 f2 h2 h3;exact ⟨w2,fp2,exec_store rfl (kr (by kernel_rfl)) (kr (by kernel_rfl)) h1,q1,q2⟩)),trivial⟩
 refine wp_regD ok (by kernel_rfl) ⟨c1,c2⟩ ⟨c3,fun p hp=> ?_⟩ hS fun A1 w1 N1 H1=> ?_
 · simp only [gCs16,rgx,List.map_nil,List.append_nil,List.mem_cons,List.not_mem_nil,or_false] at hp
   rcases hp with rfl | rfl
   · exact i5
   · exact i7
 have e49:=N1.val 0 rfl
 have e50:=N1.val 1 rfl
 have e51:=N1.val 2 rfl
 have e52:=N1.val 3 rfl
 have e53:=N1.val 4 rfl
 have e54:=N1.val 5 rfl
 have e55:=N1.val 6 rfl
 have e56:=N1.val 7 rfl
 have e57:=N1.val 8 rfl
 have e58:=N1.val 9 rfl
 have e59:=N1.val 10 rfl
 have e60:=N1.val 11 rfl
 have h:=hQ (slots A1 58) w1 ⟨_,_,_,e58⟩ H1
 rw [frame_eq N1.frame (cons_eq e49 (cons_eq e50 (cons_eq e51 (cons_eq e52 (cons_eq e53 (cons_eq e54 (cons_eq e55 (cons_eq e56 (cons_eq e57 (cons_eq rfl (cons_eq e59 (cons_eq e60 rfl))))))))))))]
 exact h
end Go.Proofs.YtpdlkdoogojboaaGreat
/- store.copySchema. -/
namespace Go.Proofs.YtpdlkdoogojboaaGreat
open Go Go.RowKit
def Td.sh (t:Td):Nat×List (List Int)×List (List Int):=(t.n,t.K,t.F)
theorem appTB:AppSrc Tryz.prog 23 23 89 5:=appSrc (z:=.agg #[.string ⟨#[]⟩, .slice none 0 0, .slice none 0 0, .slice none 0 0, .slice none 0 0]) (bytes:=112) (by kernel_rfl) (by kernel_rfl) rfl (by decide) (by decide)
/-- Lists of columns that are cloned, of the first k keys; of the first k foreign keys. -/
def KUp (K:List (List Int)) (vs us:List Value) (Y:List Asn) (k:Nat):Prop:=us.length=K.length∧(∀w f,Star w Y f→∀j (h:j < K.length),j < k→∃u,us[j]? =some u∧IntsX [] w K[j] u)∧∀j,k≤j→us[j]? =vs[j]?
def FUp (F:List (List Int)) (vs us:List Value) (Y:List Asn) (k:Nat):Prop:=us.length=F.length * 3∧(∀w f,Star w Y f→∀j (h:j < F.length),j < k→∃u a b,us[j * 3]? =some u∧us[j * 3+1]? =some (.int .i64 a)∧us[j * 3+2]? =some (.int .i64 b)∧IntsX [] w F[j] u)∧∀j,k * 3≤j→us[j]? =vs[j]?
theorem KUp.next {K:List (List Int)} {vs us:List Value} {Y:List Asn} {k:Nat} (h:KUp K vs us Y k) (hk:k < K.length) (v:Value):KUp K vs (us.set k v) (rowA 3 1 v K[k].length (K[k].map intC)::Y) (k+1):=by
 obtain ⟨h1,h2,h3⟩:=h
 refine ⟨by rw [List.length_set,h1],fun w f hs j hj hjk=> ?_,fun j hj=> ?_⟩
 · obtain ⟨f0,g,h4,h5, -, -⟩:=hs
   by_cases e:j=k
   · subst e
     exact ⟨v,by rw [List.getElem?_set_self (by omega)],SlX.of_row (X:=[]) h4 (by simp) (by simp)⟩
   · obtain ⟨u,h6,h7⟩:=h2 w g h5 j hj (by omega)
     exact ⟨u,by rw [List.getElem?_set_ne (by omega)];exact h6,h7⟩
 · rw [List.getElem?_set_ne (by omega)]
   exact h3 j (by omega)
theorem FUp.next {F:List (List Int)} {vs us:List Value} {Y:List Asn} {k:Nat} {a b:Int} (h:FUp F vs us Y k) (hk:k < F.length) (v:Value) (ha:vs[k * 3+1]? =some (.int .i64 a)) (hb:vs[k * 3+2]? =some (.int .i64 b)):FUp F vs (us.set (k * 3) v) (rowA 3 1 v F[k].length (F[k].map intC)::Y) (k+1):=by
 obtain ⟨h1,h2,h3⟩:=h
 refine ⟨by rw [List.length_set,h1],fun w f hs j hj hjk=> ?_,fun j hj=> ?_⟩
 · obtain ⟨f0,g,h4,h5, -, -⟩:=hs
   by_cases e:j=k
   · subst e
     exact ⟨v,a,b,by rw [List.getElem?_set_self (by omega)],by rw [List.getElem?_set_ne (by omega),h3 _ (by omega)];exact ha,by rw [List.getElem?_set_ne (by omega),h3 _ (by omega)];exact hb,SlX.of_row (X:=[]) h4 (by simp) (by simp)⟩
   · obtain ⟨u,a',b',h6,h7,h8,h9⟩:=h2 w g h5 j hj (by omega)
     exact ⟨u,a',b',by rw [List.getElem?_set_ne (by omega)];exact h6,by rw [List.getElem?_set_ne (by omega)];exact h7,by rw [List.getElem?_set_ne (by omega)];exact h8,h9⟩
 · rw [List.getElem?_set_ne (by omega)]
   exact h3 j (by omega)
theorem KUp.start {K:List (List Int)} {vs:List Value} (h:vs.length=K.length):KUp K vs vs [] 0:=⟨h,fun _ _ _ _ _ h=> by omega,fun _ _=> rfl⟩
theorem FUp.start {F:List (List Int)} {vs:List Value} (h:vs.length=F.length * 3):FUp F vs vs [] 0:=⟨h,fun _ _ _ _ _ h=> by omega,fun _ _=> rfl⟩
/-- What is laid for a table. -/
def tdL (t:Td) (Y1 Y2:List Asn):List Asn:=rowA 92 3 t.fv t.F.length t.fvs::(Y2++(rowA 90 1 t.kv t.K.length t.kvs::(Y1++[rowA 146 6 (.slice t.ca t.n t.cc) t.n t.cvs])))
theorem td_star {t:Td} {Y1 Y2 X:List Asn} {vs1 vs2:List Value} {l:List Td} (h0:t.cvs.length=t.n * 6) (h1:∀u∈t.cvs,u.oneCell'=true) (hk:KUp t.K vs1 t.kvs Y1 t.K.length) (hf:FUp t.F vs2 t.fvs Y2 t.F.length) (hX:∀w f,Star w X f→∀y∈l,y.X w) (w:World) (f:List Nat) (hs:Star w (tdL t Y1 Y2++X) f):∀y∈l++[t],y.X w:=by
 obtain ⟨g,f1,h2,h3, -, -⟩:=hs.append
 obtain ⟨fa,ga,a1,a2, -, -⟩:=h2
 obtain ⟨fb,gb,b1,b2, -, -⟩:=a2.append
 obtain ⟨fc,gc,c1,c2, -, -⟩:=b2
 obtain ⟨fd,gd,d1,d2, -, -⟩:=c2.append
 obtain ⟨fe,ge,e1, -, -, -⟩:=d2
 intro y hy
 rcases List.mem_append.1 hy with hy | hy
 · exact hX w f1 h3 y hy
 · rw [List.mem_singleton.1 hy]
   exact ⟨SlX.of_row (X:=[]) e1 h0 (by simp),h1,⟨SlX.of_row (X:=[]) c1 (by rw [hk.1];omega) (by simp),fun i hi=> hk.2.1 w fd d1 i hi hi⟩,⟨SlX.of_row (X:=[]) a1 hf.1 (by simp),fun i hi=> hf.2.1 w fb b1 i hi hi⟩⟩
/-- .. after k tables. -/
def CsInv (w0:World) (fp0:List Nat) (R:List Asn) (td:List Td) (z:Value) (k:Nat) (w:World):Prop:=∃(l:List Td) (X:List Asn),l.map Td.sh=(td.take k).map Td.sh∧l.length=k∧(∀w f,Star w X f→∀y∈l,y.X w)∧St w0 fp0 (rowA 89 5 z k (l.flatMap Td.c)::(X++R)) w
theorem one_ints {vs:List Value} {ks:List (List Int)} {w:World} {v:Value} (h:KeysX w vs ks v):∀u∈vs,u.oneCell'=true:=by
 intro u hu
 obtain ⟨i,hi,rfl⟩:=List.mem_iff_getElem.1 hu
 have hl:=h.1.2.1
 obtain ⟨u,h1,h2⟩:=h.2 i (by omega)
 rw [List.getElem?_eq_getElem hi] at h1
 rw [Option.some.inj h1]
 obtain ⟨a,n,c,rfl, -, -⟩:=h2.shape
 rfl
theorem one_fors {vs:List Value} {ks:List (List Int)} {w:World} {v:Value} (h:ForsX w vs ks v):∀u∈vs,u.oneCell'=true:=by
 intro u hu
 obtain ⟨j,hj,rfl⟩:=List.mem_iff_getElem.1 hu
 have hl:=h.1.2.1
 obtain ⟨i,r,rfl,hr⟩:∃i r,j=i * 3+r∧r < 3:=⟨j / 3,j % 3,by omega,by omega⟩
 obtain ⟨u,a,b,h1,h2,h3,h4⟩:=h.2 i (by omega)
 rcases (by omega:r=0∨r=1∨r=2) with rfl | rfl | rfl
 · rw [Nat.add_zero] at hj
   rw [List.getElem?_eq_getElem hj] at h1
   have:=Option.some.inj h1
   simp only [Nat.add_zero]
   rw [this]
   obtain ⟨a,n,c,rfl, -, -⟩:=h4.shape
   rfl
 · rw [List.getElem?_eq_getElem hj] at h2
   rw [Option.some.inj h2]
   rfl
 · rw [List.getElem?_eq_getElem hj] at h3
   rw [Option.some.inj h3]
   rfl
end Go.Proofs.YtpdlkdoogojboaaGreat
