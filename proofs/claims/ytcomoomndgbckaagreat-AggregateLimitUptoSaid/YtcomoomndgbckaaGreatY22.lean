/- Part 22 of the proof. -/
import Derived.Test.YtcomoomndgbckaaGreatY20
set_option maxHeartbeats 16000000
set_option maxRecDepth 100000
open Go Go.RowKit
open Go.Lib (hid)
open List (getElem_mem getElem_cons_zero length_append append_assoc length_take mem_cons mem_singleton mem_append take_length length_nil length_cons not_mem_nil take_append_getElem)
open Nat (zero_le le_succ lt_succ_self)
namespace Go.Proofs.YtcomoomndgbckaaGreat
noncomputable section
section
open Go.Sort
def CmpP (S:Prop) (w:World) (e:Ending) (w':World):Prop:=∃x:Int,e=.returned (qi x)/\(S->x=0)/\Below w.heap.size w w'
theorem tInts2_calls (a b:Int) (w:World):Calls Tryz.prog 165 #[qi a,qi b] w (CmpP (a=b) w):=by
 by_cases h:a=b
 . subst h
   go_enter Tryz.func165,Tryz.ntmps165;go_wp2;go_ret;exact ⟨_,rfl,λ _=> rfl,zi⟩
 . exact (tInts_calls a b w).mono λ e w'=> by rintro ⟨x,h1,o⟩;exact ⟨x,h1,λ e=> absurd e h,o⟩
def CmpC (d:Nat):Prop:=∀(z1:Int) (ps1:List (List Value)) (a1:Option Addr) (n1 k1:Nat) (z2:Int) (ps2:List (List Value)) (a2:Option Addr) (n2 k2:Nat) (w:World),PtsAt d w ps1 (qs a1 n1 k1)->ps1.length=n1->PtsAt d w ps2 (qs a2 n2 k2)->ps2.length=n2->
 Calls Tryz.prog 166 #[.agg #[qi z1,qs a1 n1 k1],.agg #[qi z2,qs a2 n2 k2]] w (CmpP (z1=z2/\a1=a2/\n1=n2/\k1=k2) w)
theorem tParts_of (d:Nat) (ih:∀d',d' < d->CmpC d') (co kd vr y:Int) (o:Option Addr) (m k:Nat) (xs:List (List Value)) (co' kd' vr' y':Int) (o':Option Addr) (m' k':Nat) (xs':List (List Value)) (w:World) (hl:LsAt 2 (TmE d) w xs (qs o m k)) (hxs:xs.length=m) (hl':LsAt 2 (TmE d) w xs' (qs o' m' k')) (hxs':xs'.length=m'):
 Calls Tryz.prog 164 #[.agg #[qi co,qi kd,qi vr,qi y,qs o m k],.agg #[qi co',qi kd',qi vr',qi y',qs o' m' k']] w (CmpP (kd=kd'/\vr=vr'/\y=y'/\o=o'/\m=m'/\k=k') w):=by
 have HL:=hid hl;have aj:=hid hl';have ae:=hid hxs;have aa:=hid hxs';have ad:=hid ih;have C:Hid (Below w.heap.size w ((w.alloc (.cells #[qi co,qi kd,qi vr,qi y,qs o m k] 200)).alloc (.cells #[qi co',qi kd',qi vr',qi y',qs o' m' k'] 200))):=(zi.alloc lr _).alloc (by simp) _;have J:=hid ((VarIs.new w #[qi co,qi kd,qi vr,qi y,qs o m k] 200).alloc (.cells #[qi co',qi kd',qi vr',qi y',qs o' m' k'] 200));have I:=hid (VarIs.new1 w (.cells #[qi co,qi kd,qi vr,qi y,qs o m k] 200) #[qi co',qi kd',qi vr',qi y',qs o' m' k'] 200);clear hl hl' hxs hxs' ih;go_enter Tryz.func164,Tryz.ntmps164;have g1:=J.a1;have h1:=I.a1;by_cases h1:kd=kd'
 . subst h1
   clear g1 h1;have g1:=J.a1;have g2:=J.a2;have h1:=I.a1;have h2:=I.a2;by_cases h2:vr=vr'
   . subst h2
     have g3:=J.a3;have h3:=I.a3;by_cases h3:y=y'
     . subst h3
       have g4:=J.a4;have V:=I.a4;by_cases V:m=0
       . subst V
         go_wp2_with fail;refine (tInts2_calls ((0:Nat):Int) (m':Int) _).mono ?_;rintro e w1 ⟨x,rfl,A,q⟩;have K:=hid A;have D:=hid (C.trans (q.mono C.size));clear A q;go_wp2;go_ret;exact ⟨_,rfl,(λ h=> K.out (by have:=h.2.2.2.2.1;omega)),D⟩
       . have z4:((m:Int)==0)=false:=by simp;omega
         by_cases h5:m'=0
         . subst h5
           go_wp2_with fail;refine (tInts2_calls (m:Int) ((0:Nat):Int) _).mono ?_;rintro e w1 ⟨x,rfl,A,q⟩;have K:=hid A;have D:=hid (C.trans (q.mono C.size));clear A q;go_wp2;go_ret;exact ⟨_,rfl,(λ h=> K.out (by have:=h.2.2.2.2.1;omega)),D⟩
         . have z5:((m':Int)==0)=false:=by simp;omega
           have g4:=J.a4;have V:=I.a4;obtain ⟨b2,G,x2,a2,n2,k2,e2,ac,rfl,-,f0,f1,rfl,T,M⟩:=TmsAt.cell (LsAt.mono (TmE.mono _) HL C) ae (by omega);obtain ⟨b3,F,x3,a3,n3,k3,e3,ab,rfl,-,e0,e1,he,O,L⟩:=TmsAt.cell (LsAt.mono (TmE.mono _) aj C) aa (by omega);obtain rfl:e2=e3:=by omega
           have HS:Hid (((b2=b3/\G=F)/\m=m'/\k=k')->x2=x3/\a2=a3/\n2=n3/\k2=k3):=λ h=> by obtain ⟨⟨rfl,rfl⟩,-⟩:=h;rw [f0] at e0;rw [f1] at e1;cases e0;cases e1;exact ⟨rfl,rfl,rfl,rfl⟩
           have ag:=hid M;have ai:=hid T;have af:=hid L;have ah:=hid O;have mm:(0:Int) < (m:Int):=by omega
           have ak:(0:Int) < (m':Int):=by omega
           clear T M O L he;go_upto_region 9 with (fail)
           refine wp_region_segs [([0,1,2,3,4,5,6,7],8)] [9] [] (by kernel_rfl) (by kernel_rfl) ?_;simp only [q2c,wpSegs];have am:=cell_regrown (w:=(((w.alloc (.cells #[qi co,qi kd,qi vr,qi y,qs (some ⟨b2,G,none⟩) m k] 200)).alloc (.cells #[qi co',qi kd,qi vr,qi y,qs (some ⟨b3,F,none⟩) m' k'] 200))).drew) g4;have al:=cell_regrown (w:=(((w.alloc (.cells #[qi co,qi kd,qi vr,qi y,qs (some ⟨b2,G,none⟩) m k] 200)).alloc (.cells #[qi co',qi kd,qi vr,qi y,qs (some ⟨b3,F,none⟩) m' k'] 200))).drew) V;have ao:=cell_regrown (w:=(((w.alloc (.cells #[qi co,qi kd,qi vr,qi y,qs (some ⟨b2,G,none⟩) m k] 200)).alloc (.cells #[qi co',qi kd,qi vr,qi y,qs (some ⟨b3,F,none⟩) m' k'] 200))).drew) f0;have an:=cell_regrown (w:=(((w.alloc (.cells #[qi co,qi kd,qi vr,qi y,qs (some ⟨b2,G,none⟩) m k] 200)).alloc (.cells #[qi co',qi kd,qi vr,qi y,qs (some ⟨b3,F,none⟩) m' k'] 200))).drew) f1;have aq:=cell_regrown (w:=(((w.alloc (.cells #[qi co,qi kd,qi vr,qi y,qs (some ⟨b2,G,none⟩) m k] 200)).alloc (.cells #[qi co',qi kd,qi vr,qi y,qs (some ⟨b3,F,none⟩) m' k'] 200))).drew) e0;have ap:=cell_regrown (w:=(((w.alloc (.cells #[qi co,qi kd,qi vr,qi y,qs (some ⟨b2,G,none⟩) m k] 200)).alloc (.cells #[qi co',qi kd,qi vr,qi y,qs (some ⟨b3,F,none⟩) m' k'] 200))).drew) e1;clear g4 V f0 f1 e0 e1;have H:Hid (Below (((w.alloc (.cells #[qi co,qi kd,qi vr,qi y,qs (some ⟨b2,G,none⟩) m k] 200)).alloc (.cells #[qi co',qi kd,qi vr,qi y,qs (some ⟨b3,F,none⟩) m' k'] 200))).heap.size (((w.alloc (.cells #[qi co,qi kd,qi vr,qi y,qs (some ⟨b2,G,none⟩) m k] 200)).alloc (.cells #[qi co',qi kd,qi vr,qi y,qs (some ⟨b3,F,none⟩) m' k'] 200))) (((w.alloc (.cells #[qi co,qi kd,qi vr,qi y,qs (some ⟨b2,G,none⟩) m k] 200)).alloc (.cells #[qi co',qi kd,qi vr,qi y,qs (some ⟨b3,F,none⟩) m' k'] 200))).drew):=zi.drew
           repeat (first | go_big_quiet_step (fail) | quiet_step (fail))
           refine wpQuiet_nil ?_;refine ⟨rfl,λ wy hby=> ?_⟩;go_simp;simp only [uponV];have W:=hid (H.trans (hby.mono H.size));refine (ad.out _ (lt_succ_self _) x2 ac a2 n2 k2 x3 ab a3 n3 k3 _ (PtsAt.mono ag W) ai (PtsAt.mono af W) ah).mono ?_;rintro e w6 ⟨t,rfl,ht,q⟩;refine ⟨_,rfl,q,?_⟩;have HT:=hid ht;replace H:=hid (W.trans (q.mono W.size));clear q hby W ht;go_simp
           repeat (first | go_big_quiet_step (fail) | quiet_step (fail))
           refine wpQuiet_nil ?_;intro wz U;replace H:=hid (H.trans (U.mono H.size));clear U;simp only [wpList];have D:=hid (C.trans (H.mono C.size));go_wp2;go_ret;exact ⟨_,rfl,(λ h=> HT.out (HS.out (by first | exact h | simpa using h))),D⟩
     . have z3:(y==y')=false:=by simp [h3]
       go_wp2_with fail;refine (tInts2_calls y y' _).mono ?_;rintro e w1 ⟨x,rfl,A,q⟩;have K:=hid A;have D:=hid (C.trans (q.mono C.size));clear A q;go_wp2;go_ret;exact ⟨_,rfl,(λ h=> absurd h.2.2.1 h3),D⟩
   . have z2:(vr==vr')=false:=by simp [h2]
     go_wp2_with fail;refine (tInts2_calls vr vr' _).mono ?_;rintro e w1 ⟨x,rfl,A,q⟩;have K:=hid A;have D:=hid (C.trans (q.mono C.size));clear A q;go_wp2;go_ret;exact ⟨_,rfl,(λ h=> absurd h.2.1 h2),D⟩
 . have z1:(kd==kd')=false:=by simp [h1]
   go_wp2_with fail;refine (tInts2_calls kd kd' _).mono ?_;rintro e w1 ⟨x,rfl,A,q⟩;have K:=hid A;have D:=hid (C.trans (q.mono C.size));clear A q;go_wp2;go_ret;exact ⟨_,rfl,(λ h=> absurd h.1 h1),D⟩
theorem tCmp_calls (d:Nat):CmpC d:=by
 induction d using Nat.strongRecOn with
 | ind d ih=>
  intro z1 aQ a1 D k1 z2 aP a2 H k2 w ad ap an ao;have aO:D<=2000000000000:=by obtain ⟨_,_,_,h⟩:=ad.shape;omega
  have aI:=hid (tParts_of d ih);have aK:=hid ad;have aM:=hid ap;have aJ:=hid an;have aL:=hid ao;have aH:Hid (Below w.heap.size w ((w.alloc (.cells #[qi z1,qs a1 D k1] 189)).alloc (.cells #[qi z2,qs a2 H k2] 189))):=(zi.alloc lr _).alloc (by simp) _;have V0:=hid ((VarIs.new w #[qi z1,qs a1 D k1] 189).alloc (.cells #[qi z2,qs a2 H k2] 189));have V1:=hid (VarIs.new1 w (.cells #[qi z1,qs a1 D k1] 189) #[qi z2,qs a2 H k2] 189);clear ad ap an ao ih;go_enter Tryz.func166,Tryz.ntmps166;go_wp2;go_loopw [5] (λ z wr=> ∃j:Nat,j<=D/\j<=H/\z=qi j/\Hid (Below (w.heap.size+2) ((w.alloc (.cells #[qi z1,qs a1 D k1] 189)).alloc (.cells #[qi z2,qs a2 H k2] 189)) wr)) (λ z _=> D - (intOf z).toNat)
  case atStart=> exact ⟨0,zero_le _,zero_le _,rfl,zi⟩
  case round=>
   obtain ⟨j,bd,bc,rfl,U⟩:=hrel
   rename World=> G
   have I:=hid (aH.trans (U.mono (by omega)));by_cases hlt1:j < D
   . by_cases hlt2:j < H
     . have c1:=(V0.below U (by omega)).a1
       have A:=(V1.below U (lt_succ_self _)).a1;obtain ⟨b,o,co,kd,vr,y,o1,m1,q1,xs,rfl,au,M,d1,d2,d3,d4,-,am,aE,hl⟩:=PtsAt.cell (PtsAt.mono aK I) j (by rw [aM.out];exact hlt1);obtain ⟨b',o',L,ak,ag,y',ai,aj,ah,az,rfl,aa,K,e1,e2,e3,e4,-,V,ar,aq⟩:=PtsAt.cell (PtsAt.mono aJ I) j (by rw [aL.out];exact hlt2);have HS:Hid ((b=b'/\o=o')->co=L/\kd=ak/\vr=ag/\y=y'/\o1=ai/\m1=aj/\q1=ah):=λ h=> by obtain ⟨rfl,rfl⟩:=h;rw [M] at K;rw [d1] at e1;rw [d2] at e2;rw [d3] at e3;rw [d4] at e4;cases K;cases e1;cases e2;cases e3;cases e4;exact ⟨rfl,rfl,rfl,rfl,rfl,rfl,rfl⟩
       have ax:=hid M;have aw:=hid K;have ay:=hid au;have ac:=hid aa;have aG:=hid am;have av:=hid V;have HL:=hid hl;have aN:=hid aq;have ba:(0:Int)<=(j:Int):=by omega
       have jj:(j:Int) < (D:Int):=by omega
       have bb:(j:Int) < (H:Int):=by omega
       clear au aa am V aE ar hl aq;go_upto_region 4 with (fail)
       refine wp_region_segs [([0,1,2,3,4,5,6,7,8,9],10)] [11] [] (by kernel_rfl) (by kernel_rfl) ?_;simp only [q2c,wpSegs];have aD:=cell_regrown (w:=G.drew) c1;have al:=cell_regrown (w:=G.drew) A;have aC:=cell_regrown (w:=G.drew) M;have aZ:=cell_regrown (w:=G.drew) d1;have aY:=cell_regrown (w:=G.drew) d2;have aX:=cell_regrown (w:=G.drew) d3;have aW:=cell_regrown (w:=G.drew) d4;have aB:=cell_regrown (w:=G.drew) K;have aV:=cell_regrown (w:=G.drew) e1;have aU:=cell_regrown (w:=G.drew) e2;have aT:=cell_regrown (w:=G.drew) e3;have aS:=cell_regrown (w:=G.drew) e4;clear c1 A M d1 d2 d3 d4 K e1 e2 e3 e4;have C:Hid (Below (G).heap.size (G) (G).drew):=zi.drew
       repeat (first | go_big_quiet_step (fail) | quiet_step (fail))
       refine wpQuiet_nil ?_;refine ⟨rfl,λ wy hby=> ?_⟩;go_simp;simp only [uponV];have T:=hid (C.trans (hby.mono C.size));refine (aI.out co kd vr y o1 m1 q1 xs L ak ag y' ai aj ah az _ (LsAt.mono (TmE.mono _) HL T) aG (LsAt.mono (TmE.mono _) aN T) av).mono ?_;rintro e w6 ⟨t,rfl,ht,F⟩;refine ⟨_,rfl,F,?_⟩;have HT:=hid ht;replace C:=hid (T.trans (F.mono T.size));clear F hby T ht;go_simp
       repeat (first | go_big_quiet_step (fail) | quiet_step (fail))
       refine wpQuiet_nil ?_;intro wz J;replace C:=hid (C.trans (J.mono C.size));clear J;simp only [wpList];have Hz:=hid (U.trans (C.mono (by have:=U.size;simp at this;omega)));have ae:=hid (I.trans (C.mono I.size));by_cases ht0:t=0
       . subst ht0
         have c1:=(V0.below Hz (by omega)).a1;have A:=(V1.below Hz (lt_succ_self _)).a1;have M:=(C.cell (p:=⟨b,o+j * 5,none⟩) ay).trans ax;have K:=(C.cell (p:=⟨b',o'+j * 5,none⟩) ac).trans aw;by_cases hc:co=L
         . subst hc
           go_upto_region 7 with (fail)
           go_quiet (fail);have Hd:=hid (below_drewN (B:=wz.heap.size) wz nq);generalize World.drewN wz nq=wn at Hd ⊢;have O:=hid (Hz.trans ((Hd).mono (by have:=Hz.size;simp at this;omega)));clear M K c1 A;go_wp2;go_roundw
           case rel=> exact ⟨j+1,by omega,by omega,by go_num,O⟩
           case measure=> simp [intOf];omega
         . have zc:(co==L)=false:=by simp [hc]
           go_upto_region 7 with (fail)
           go_quiet (fail);have Hd:=hid (below_drewN (B:=wz.heap.size) wz nq);generalize World.drewN wz nq=wn at Hd ⊢;have O:=hid (Hz.trans ((Hd).mono (by have:=Hz.size;simp at this;omega)));have ab:=hid (ae.trans (Hd.mono ae.size));have af:=hid (C.trans (Hd.mono C.size));clear M K c1 A;have c1:=(V0.below O (by omega)).a1;have A:=(V1.below O (lt_succ_self _)).a1;have M:=(af.cell (p:=⟨b,o+j * 5,none⟩) ay).trans ax;have K:=(af.cell (p:=⟨b',o'+j * 5,none⟩) ac).trans aw;clear af C;go_upto_region 8 with (fail)
           refine wp_region_segs [([0,1,2,3,4,5,6,7,8,9,10,11],12)] [13] [] (by kernel_rfl) (by kernel_rfl) ?_;simp only [q2c,wpSegs];have aD:=cell_regrown (w:=wn.drew) c1;have al:=cell_regrown (w:=wn.drew) A;have aC:=cell_regrown (w:=wn.drew) M;have aB:=cell_regrown (w:=wn.drew) K;clear c1 A M K;have C:Hid (Below (wn).heap.size (wn) (wn).drew):=zi.drew
           repeat (first | go_big_quiet_step (fail) | quiet_step (fail))
           refine wpQuiet_nil ?_;refine ⟨rfl,λ wy hby=> ?_⟩;go_simp;simp only [uponV];have T:=hid (C.trans (hby.mono C.size));refine (tInts_calls co L _).mono ?_;rintro e w7 ⟨x,rfl,F⟩;refine ⟨_,rfl,F,?_⟩;replace C:=hid (T.trans (F.mono T.size));clear F hby T;go_simp
           repeat (first | go_big_quiet_step (fail) | quiet_step (fail))
           refine wpQuiet_nil ?_;intro wu J;replace C:=hid (C.trans (J.mono C.size));clear J;simp only [wpList];have Hu:=hid (ab.trans (C.mono ab.size));go_wp2;go_ret;exact ⟨_,rfl,(λ h=> absurd (HS.out (by first | exact h.2.1 | simpa using h.2.1)).1 hc),Hu⟩
       . have z0:(t==0)=false:=by simp [ht0]
         go_wp2;go_ret;exact ⟨_,rfl,(λ h=> HT.out (HS.out (by first | exact h.2.1 | simpa using h.2.1)).2),ae⟩
     . have aA:(j:Int) < (D:Int):=by omega
       have aR:¬ (j:Int) < (H:Int):=by omega
       have hn:¬ D=H:=by omega
       have q:=(V0.below U (by omega))
       have c0:=q.a0;have c1:=q.a1;clear q;have q:=(V1.below U (lt_succ_self _))
       have aF:=q.a0;have A:=q.a1;clear q;have HW:=I;have zn:((D:Int)==(H:Int))=false:=by simp;omega
       go_wp2_with fail;refine (tInts2_calls (D:Int) (H:Int) _).mono ?_;rintro e w1 ⟨x,rfl,W,F⟩;have HX:=hid W;have H1:=hid (HW.trans (F.mono HW.size));clear W F;go_wp2;go_ret;exact ⟨_,rfl,(λ h=> absurd h.2.2.1 hn),H1⟩
   . have aA:¬ (j:Int) < (D:Int):=by omega
     have q:=(V0.below U (by omega))
     have c0:=q.a0;have c1:=q.a1;clear q;have q:=(V1.below U (lt_succ_self _))
     have aF:=q.a0;have A:=q.a1;clear q;have HW:=I;by_cases hn:D=H
     . subst hn
       go_wp2_with fail;refine (tInts2_calls z1 z2 _).mono ?_;rintro e w1 ⟨x,rfl,W,F⟩;have HX:=hid W;have H1:=hid (HW.trans (F.mono HW.size));clear W F;go_wp2;go_ret;exact ⟨_,rfl,(λ h=> HX.out h.1),H1⟩
     . have zn:((D:Int)==(H:Int))=false:=by simp;omega
       go_wp2_with fail;refine (tInts2_calls (D:Int) (H:Int) _).mono ?_;rintro e w1 ⟨x,rfl,W,F⟩;have HX:=hid W;have H1:=hid (HW.trans (F.mono HW.size));clear W F;go_wp2;go_ret;exact ⟨_,rfl,(λ h=> absurd h.2.2.1 hn),H1⟩
end
section
open Go.Sort
def CoNz (p:List Value):Prop:=∃(co:Int) (l:List Value),p=qi co::l/\co≠0
def Canc (ps:List (List Value)) (p:List Value):Prop:=∃(co:Int) (l:List Value) (rest:List (List Value)),ps=(qi co::l)::rest/\p=qi (-co)::l
theorem nz_snoc {l:List (List Value)} {x:List Value} (h:∀p∈l,CoNz p) (hx:CoNz x):∀p∈l++[x],CoNz p:=λ p o=> by
 rcases mem_append.1 o with o | o
 . exact h p o
 . rw [mem_singleton.1 o];exact hx
theorem pt_co {T:World->List Value->List Value->Prop} {w:World} {c1 c2 c3 c4:Int} {v:Value} (c:Int) (h:PtE T w [qi c1,qi c2,qi c3,qi c4,v] [qi c1,qi c2,qi c3,qi c4,v]):PtE T w [qi c,qi c2,qi c3,qi c4,v] [qi c,qi c2,qi c3,qi c4,v]:=by
 obtain ⟨-,G,F,D,b,o,m,k,q,e,h1,C,A⟩:=h;cases e;exact ⟨rfl,c,_,_,_,_,_,_,q,rfl,h1,C,A⟩
abbrev CancJ (ps out:List (List Value)) (j:Nat) (put:Bool):Prop:=(j=0/\put=false/\out=[])\/(0 < j/\put=true/\out=(ps.take j).tail)
theorem canc_step {ps out:List (List Value)} {j:Nat} {x:List Value} (h:CancJ ps out j true) (hj:j < ps.length) (hx:ps[j]=x):0 < j+1/\true=true/\out++[x]=(ps.take (j+1)).tail:=by
 rcases h with ⟨-,h,-⟩ | ⟨h1,-,rfl⟩
 . cases h
 . refine ⟨by omega,rfl,?_⟩
   subst hx;rw [<-take_append_getElem hj,List.tail_append_of_ne_nil];intro e;have:=congrArg List.length e;simp only [length_take,length_nil] at this;omega
theorem canc_first {ps out:List (List Value)} {j:Nat} (h:CancJ ps out j false) (hj:j < ps.length):0 < j+1/\true=true/\out=(ps.take (j+1)).tail:=by
 rcases h with ⟨rfl,-,rfl⟩ | ⟨-,h,-⟩
 . refine ⟨by omega,rfl,?_⟩
   cases ps with
   | nil=> simp at hj
   | cons=> simp
 . cases h
theorem canc_sum {ps out:List (List Value)} {cj co sm:Int} {j:Nat} {l l':List Value} (hc:Canc ps (qi co::l')) (h:CancJ ps out j false) (hj:j < ps.length) (hx:ps[j]=qi cj::l) (hs:wrap64 (cj+co)=sm):sm=0:=by
 rcases h with ⟨rfl,-,-⟩ | ⟨-,h,-⟩
 . obtain ⟨c,r,rest,rfl,e⟩:=hc
   cases e;simp only [getElem_cons_zero] at hx;cases hx;rw [<-hs,Int.add_right_neg]
   first | decide | exact IntWalk.i64_in 0 (by omega) | simp [wrap64]
 . cases h
theorem canc_same {ps out:List (List Value)} {cj co ej kd rj vr yj y:Int} {o1 o:Option Addr} {m1 m q1 k j:Nat} (hc:Canc ps [qi co,qi kd,qi vr,qi y,qs o m k]) (h:CancJ ps out j false) (hj:j < ps.length) (hx:ps[j]=[qi cj,qi ej,qi rj,qi yj,qs o1 m1 q1]):ej=kd/\rj=vr/\yj=y/\o1=o/\m1=m/\q1=k:=by
 rcases h with ⟨rfl,-,-⟩ | ⟨-,h,-⟩
 . obtain ⟨c,r,rest,rfl,e⟩:=hc
   cases e;simp only [getElem_cons_zero] at hx;cases hx;exact ⟨rfl,rfl,rfl,rfl,rfl,rfl⟩
 . cases h
theorem canc_end {ps out:List (List Value)} {n:Nat} (h:CancJ ps out n true) (hn:ps.length=n):out=ps.tail:=by
 rcases h with ⟨-,h,-⟩ | ⟨-,-,rfl⟩
 . cases h
 . rw [<-hn,take_length]
theorem canc_no {ps out:List (List Value)} {n:Nat} {p:List Value} (hc:Canc ps p) (hn:ps.length=n):¬ CancJ ps out n false:=by
 rintro (⟨rfl,-,-⟩ | ⟨-,h,-⟩)
 . obtain ⟨c,r,rest,rfl,e⟩:=hc
   simp at hn
 . cases h
theorem one_pt {c1 c2 c3 c4:Int} {a:Option Addr} {n k:Nat}:∀u∈[qi c1,qi c2,qi c3,qi c4,qs a n k],u.oneCell'=true:=by
 intro u o;simp only [mem_cons,not_mem_nil,or_false] at o;rcases o with rfl | rfl | rfl | rfl | rfl <;> rfl
theorem Tryz.info200':(Tryz.prog.info? 200).map (λ i=> (i.zero,i.size,i.bytes))=some (some (.agg #[qi 0,qi 0,qi 0,qi 0,q0]),5,56):=by kernel_rfl
def InsP (d:Nat) (X:Nat->Prop) (ps:List (List Value)) (p:List Value) (w:World) (e:Ending) (w':World):Prop:=∃(a:Option Addr) (n k:Nat) (ps':List (List Value)),e=.returned (qs a n k)/\ps'.length=n/\n<=ps.length+1/\Ind X w' (λ w=> PtsAt d w ps' (qs a n k))/\(∀x∈ps',CoNz x)/\(Canc ps p->ps'=ps.tail)/\Below w.heap.size w w'
theorem tIns_calls (d:Nat) (X:Nat->Prop) (ps:List (List Value)) (a:Option Addr) (n c:Nat) (co kd vr y:Int) (o:Option Addr) (m k:Nat) (w:World) (hX:∀j,X j->j < w.heap.size) (hl:Ind X w λ w=> PtsAt d w ps (qs a n c)) (hn:ps.length=n) (hn9:n<=100000000) (hp:Ind X w λ w=> PtE (TmE d) w [qi co,qi kd,qi vr,qi y,qs o m k] [qi co,qi kd,qi vr,qi y,qs o m k]) (hz:∀x∈ps,CoNz x) (hzp:co≠0):
 Calls Tryz.prog 162 #[qs a n c,.agg #[qi co,qi kd,qi vr,qi y,qs o m k]] w (InsP d X ps [qi co,qi kd,qi vr,qi y,qs o m k] w):=by
 have HX:=hid hX;have HL:=hid hl;have HN:=hid hn;have ao:=hid hp;have aD:=hid hz;have aq:Hid (CoNz [qi co,qi kd,qi vr,qi y,qs o m k]):=⟨_,_,rfl,hzp⟩
 obtain ⟨-,_,_,_,_,_,_,_,xs,ep,ac,-,ak⟩:=hp.here;cases ep;have aF:=hid ak;have az:=hid ac;have aC:=hid (tParts_of d λ d' _=> tCmp_calls d');have V0:=hid (VarIs.new w #[qi co,qi kd,qi vr,qi y,qs o m k] 200);have ay:Hid (Below w.heap.size w (w.alloc (.cells #[qi co,qi kd,qi vr,qi y,qs o m k] 200))):=zi.alloc lr _;obtain ⟨i0,ii,ab,aa,W⟩:=info_parts Tryz.info200';clear hX hl hn hp hz hzp ac ak;go_enter Tryz.func162,Tryz.ntmps162;go_wp2;go_loopw [5,6,7] (λ z5 z6 z7 wr=> ∃(j:Nat) (put:Bool) (out:List (List Value)),j<=n/\z6=.bool put/\z7=qi j/\Hid (out.length<=j+1/\(put=false->out.length<=j))/\Hid (∀x∈out,CoNz x)/\Hid (Canc ps [qi co,qi kd,qi vr,qi y,qs o m k]->CancJ ps out j put)/\Hid (Bl 200 5 (PtE (TmE d)) (w.heap.size+1) X wr out z5)/\Hid (Below (w.heap.size+1) (w.alloc (.cells #[qi co,qi kd,qi vr,qi y,qs o m k] 200)) wr)) (λ _ _ z _=> n - (intOf z).toNat)
 case atStart=> exact ⟨0,false,[],zero_le _,rfl,rfl,⟨zero_le _,λ _=> zero_le _⟩,(λ x h=> by cases h),(λ _=> .inl ⟨rfl,rfl,rfl⟩),Bl.nil _ _ _ _ _ _,zi⟩
 case round=>
  obtain ⟨j,put,out,hj,rfl,rfl,G,M,T,HB,J⟩:=hrel
  rename World=> V
  have q:=hid (ay.trans (J.mono (le_succ _)));by_cases hlt:j < n
  . have O:j < ps.length:=by rw [HN.out];exact hlt
    obtain ⟨b,s,cj,ej,rj,yj,o1,m1,q1,av,rfl,an,d0,d1,d2,d3,d4,ad,ac,aw,hl⟩:=PtsAt.cell HL.here j O;have ah:=pts_ind HL j O;rw [ad] at ah;have af:=hid ah;have ae:=hid ad;have K:=hid (And.intro d0 (And.intro d1 (And.intro d2 (And.intro d3 d4))));have ag:=hid (aD.out _ (getElem_mem O));rw [ad] at ag;have A:=hid an;have aG:=hid hl;have aA:=hid ac;have aV:(0:Int)<=(j:Int):=by omega
    have jj:(j:Int) < (n:Int):=by omega
    have F:=HB;clear an ad hl aw ac d0 d1 d2 d3 d4 ah HB;cases put with
    | true=>
     have d0:=(q.cell (p:=⟨b,s+j * 5,none⟩) A).trans K.1;have d1:=(q.cell (p:=⟨b,s+j * 5+1,none⟩) A).trans K.2.1;have d2:=(q.cell (p:=⟨b,s+j * 5+2,none⟩) A).trans K.2.2.1;have d3:=(q.cell (p:=⟨b,s+j * 5+3,none⟩) A).trans K.2.2.2.1;have d4:=(q.cell (p:=⟨b,s+j * 5+4,none⟩) A).trans K.2.2.2.2;go_wp2_with (at_builtin;go_loud (refine wpList_push (E:=PtE (TmE d)) rfl _ _ 187 rfl i0 _ 56 Tryz.underlying187 ii ab aa W rfl (by decide) (by decide) rfl F.out [qi cj,qi ej,qi rj,qi yj,qs o1 m1 q1] [_,_,_,_,_] 200 rfl rfl one_pt ?hE (by have:=G.out.1;omega) (by have:=J.size;simp at this;omega) (λ j h=> Nat.lt_succ_of_lt (HX.out j h)) ?_))
     case hE=>
      refine af.mono q λ j hj h=> ?_;rcases h with h | h
      . exact h
      . have:=(F.ge j h).1
        omega
     intro v' w' H C _ _;have L:=hid (J.trans C);have I:=hid (q.trans (C.mono (by have:=q.size;omega)));clear C;go_wp2;go_roundw
     case rel=> exact ⟨j+1,true,_,by omega,rfl,by go_num,(by have:=G.out;show _/\_;simp only [length_append,List.length_singleton];exact ⟨by omega,λ h=> by cases h⟩),(nz_snoc M ag),(λ h=> .inr (canc_step (T.out h) O ae)),H,L⟩
     case measure=> simp [intOf];omega
    | false=>
     have d0:=(q.cell (p:=⟨b,s+j * 5,none⟩) A).trans K.1;have d1:=(q.cell (p:=⟨b,s+j * 5+1,none⟩) A).trans K.2.1;have d2:=(q.cell (p:=⟨b,s+j * 5+2,none⟩) A).trans K.2.2.1;have d3:=(q.cell (p:=⟨b,s+j * 5+3,none⟩) A).trans K.2.2.2.1;have d4:=(q.cell (p:=⟨b,s+j * 5+4,none⟩) A).trans K.2.2.2.2;have D:=(V0.below J (lt_succ_self _))
     have g0:=D.a0;have g1:=D.a1;have g2:=D.a2;have g3:=D.a3;have g4:=D.a4;clear D;go_upto_region 8 with (fail)
     refine wp_region_segs [([0,1,2,3,4],5)] [6] [] (by kernel_rfl) (by kernel_rfl) ?_;simp only [q2c,wpSegs];have aU:=cell_regrown (w:=V.drew) d0;have aT:=cell_regrown (w:=V.drew) d1;have aS:=cell_regrown (w:=V.drew) d2;have aR:=cell_regrown (w:=V.drew) d3;have aQ:=cell_regrown (w:=V.drew) d4;have aP:=cell_regrown (w:=V.drew) g0;have aO:=cell_regrown (w:=V.drew) g1;have aN:=cell_regrown (w:=V.drew) g2;have aM:=cell_regrown (w:=V.drew) g3;have aL:=cell_regrown (w:=V.drew) g4;clear d0 d1 d2 d3 d4 g0 g1 g2 g3 g4;have U:Hid (Below (V).heap.size (V) (V).drew):=zi.drew
     repeat (first | go_big_quiet_step (fail) | quiet_step (fail))
     refine wpQuiet_nil ?_;refine ⟨rfl,λ wy hby=> ?_⟩;go_simp;simp only [uponV];have Hy:=hid (U.trans (hby.mono U.size));refine (aC.out cj ej rj yj o1 m1 q1 av co kd vr y o m k xs wy (LsAt.mono (TmE.mono _) aG (q.trans (Hy.mono q.size))) aA (LsAt.mono (TmE.mono _) aF (q.trans (Hy.mono q.size))) az).mono ?_;rintro e w6 ⟨t,rfl,ht,hb⟩;refine ⟨_,rfl,hb,?_⟩;have HT:=hid ht;replace U:=hid (Hy.trans (hb.mono Hy.size));clear hb hby Hy ht;go_simp
     repeat (first | go_big_quiet_step (fail) | quiet_step (fail))
     refine wpQuiet_nil ?_;intro wz am;replace U:=hid (U.trans (am.mono U.size));clear am;simp only [wpList];replace q:=hid (q.trans (U.mono q.size));replace J:=hid (J.trans (U.mono (by have:=J.size;simp at this;omega)));replace F:=hid (F.below U);clear U;by_cases ht0:t=0
     . subst ht0
       have d0:=(q.cell (p:=⟨b,s+j * 5,none⟩) A).trans K.1;have d1:=(q.cell (p:=⟨b,s+j * 5+1,none⟩) A).trans K.2.1;have d2:=(q.cell (p:=⟨b,s+j * 5+2,none⟩) A).trans K.2.2.1;have d3:=(q.cell (p:=⟨b,s+j * 5+3,none⟩) A).trans K.2.2.2.1;have d4:=(q.cell (p:=⟨b,s+j * 5+4,none⟩) A).trans K.2.2.2.2;go_wp2_with (refine wpList_store_row rfl _ _ _ rfl _ rfl rfl (VarIs.new _ _ _) rfl (by kernel_rfl) rfl ?_);intro w5 V5 A5;clear d0 d1 d2 d3 d4;have U:Hid (Below wz.heap.size wz w5):=(zi.alloc lr _).trans (A5.below (by simp) (λ k hk=> by show ¬ k=_;omega));clear A5;have aj:w.heap.size+1<=wz.heap.size:=by have:=J.size;simp at this;omega
       have h0:=V5.a0;have g0:=(V0.below (J.trans (U.mono aj)) (lt_succ_self _)).a0;have ax:=V5.free 0;go_upto_region 13 with (fail)
       generalize hsm:wrap64 (cj+co)=sm at *;have aB:=hid hsm;have V6:Hid (VarIs (w5.setCell ⟨wz.heap.size,0,none⟩ (qi sm)) wz.heap.size #[qi sm,qi ej,qi rj,qi yj,qs o1 m1 q1]):=V5.set 0 (by simp) (qi sm);have ai:Hid (Below wz.heap.size wz (w5.setCell ⟨wz.heap.size,0,none⟩ (qi sm))):=U.setCell (p:=⟨wz.heap.size,0,none⟩) lr (qi sm);generalize World.setCell w5 ⟨wz.heap.size,0,none⟩ (qi sm)=w6 at *;clear hsm h0 g0 ax V5 U;replace q:=hid (q.trans (ai.mono q.size));replace J:=hid (J.trans (ai.mono aj));replace F:=hid (F.below ai);have h0:=V6.a0;have h1:=V6.a1;have h2:=V6.a2;have h3:=V6.a3;have h4:=V6.a4;by_cases hs0:sm=0
       . subst hs0
         go_wp2;go_roundw
         case rel=> exact ⟨j+1,true,out,by omega,rfl,by go_num,(by have:=G.out;exact ⟨by omega,λ h=> by cases h⟩),M,(λ h=> .inr (canc_first (T.out h) O)),F,J⟩
         case measure=> simp [intOf];omega
       . have zs:(sm==0)=false:=by simp [hs0]
         go_wp2_with (at_builtin;go_loud (refine wpList_push (E:=PtE (TmE d)) rfl _ _ 187 rfl i0 _ 56 Tryz.underlying187 ii ab aa W rfl (by decide) (by decide) rfl F.out [qi sm,qi ej,qi rj,qi yj,qs o1 m1 q1] [_,_,_,_,_] 200 rfl rfl one_pt ?hE (by have:=G.out.1;omega) (by have:=J.size;simp at this;omega) (λ j h=> Nat.lt_succ_of_lt (HX.out j h)) ?_))
         case hE=>
          refine (af.imp λ w h=> pt_co sm h).mono q λ j hj h=> ?_;rcases h with h | h
          . exact h
          . have:=(F.ge j h).1
            omega
         intro v' w' H C _ _;have L:=hid (J.trans C);have I:=hid (q.trans (C.mono (by have:=q.size;omega)));clear C;go_wp2;go_roundw
         case rel=> exact ⟨j+1,true,_,by omega,rfl,by go_num,(by have:=G.out;show _/\_;simp only [length_append,List.length_singleton];exact ⟨by omega,λ h=> by cases h⟩),(nz_snoc M ⟨_,_,rfl,hs0⟩),(λ h=> absurd (canc_sum h (T.out h) O ae aB) hs0),H,L⟩
         case measure=> simp [intOf];omega
     . have z0:(t==0)=false:=by simp [ht0]
       by_cases hp:0 < t
       . have D:=(V0.below J (lt_succ_self _))
         have g0:=D.a0;have g1:=D.a1;have g2:=D.a2;have g3:=D.a3;have g4:=D.a4;clear D;go_wp2_with (at_builtin;go_loud (refine wpList_push (E:=PtE (TmE d)) rfl _ _ 187 rfl i0 _ 56 Tryz.underlying187 ii ab aa W rfl (by decide) (by decide) rfl F.out [qi co,qi kd,qi vr,qi y,qs o m k] [_,_,_,_,_] 200 rfl rfl one_pt ?hE (by have:=G.out.1;omega) (by have:=J.size;simp at this;omega) (λ j h=> Nat.lt_succ_of_lt (HX.out j h)) ?_))
         case hE=>
          refine ao.mono q λ j hj h=> ?_;rcases h with h | h
          . exact h
          . have:=(F.ge j h).1
            omega
         intro v' w' H C _ _;have L:=hid (J.trans C);have I:=hid (q.trans (C.mono (by have:=q.size;omega)));clear C;clear g0 g1 g2 g3 g4 F J q;have F:=H;have J:=L;have q:=I;have ar:=G;have G:Hid ((out++[[qi co,qi kd,qi vr,qi y,qs o m k]]).length<=j+1/\True):=⟨by have:=ar.2 (by simp);simp only [length_append,List.length_singleton];omega,trivial⟩
         have ap:=M;have M:=hid (nz_snoc ap aq);clear H L I;have d0:=(q.cell (p:=⟨b,s+j * 5,none⟩) A).trans K.1;have d1:=(q.cell (p:=⟨b,s+j * 5+1,none⟩) A).trans K.2.1;have d2:=(q.cell (p:=⟨b,s+j * 5+2,none⟩) A).trans K.2.2.1;have d3:=(q.cell (p:=⟨b,s+j * 5+3,none⟩) A).trans K.2.2.2.1;have d4:=(q.cell (p:=⟨b,s+j * 5+4,none⟩) A).trans K.2.2.2.2;go_wp2_with (at_builtin;go_loud (refine wpList_push (E:=PtE (TmE d)) rfl _ _ 187 rfl i0 _ 56 Tryz.underlying187 ii ab aa W rfl (by decide) (by decide) rfl F.out [qi cj,qi ej,qi rj,qi yj,qs o1 m1 q1] [_,_,_,_,_] 200 rfl rfl one_pt ?hE (by have:=G.out.1;omega) (by have:=J.size;simp at this;omega) (λ j h=> Nat.lt_succ_of_lt (HX.out j h)) ?_))
         case hE=>
          refine af.mono q λ j hj h=> ?_;rcases h with h | h
          . exact h
          . have:=(F.ge j h).1
            omega
         intro aK aJ H C _ _;have L:=hid (J.trans C);have I:=hid (q.trans (C.mono (by have:=q.size;omega)));clear C;go_wp2;go_roundw
         case rel=> exact ⟨j+1,true,out++[[qi co,qi kd,qi vr,qi y,qs o m k],[qi cj,qi ej,qi rj,qi yj,qs o1 m1 q1]],by omega,rfl,by go_num,(by have:=G.1;simp only [length_append,List.length_singleton] at this;show _/\_;simp only [length_append,length_cons,length_nil];exact ⟨by omega,λ h=> by cases h⟩),(by have:=nz_snoc M ag;rw [append_assoc] at this;exact this),(λ h=> absurd (HT.out (canc_same h (T.out h) O ae)) ht0),H,L⟩
         case measure=> simp [intOf];omega
       . have d0:=(q.cell (p:=⟨b,s+j * 5,none⟩) A).trans K.1
         have d1:=(q.cell (p:=⟨b,s+j * 5+1,none⟩) A).trans K.2.1;have d2:=(q.cell (p:=⟨b,s+j * 5+2,none⟩) A).trans K.2.2.1;have d3:=(q.cell (p:=⟨b,s+j * 5+3,none⟩) A).trans K.2.2.2.1;have d4:=(q.cell (p:=⟨b,s+j * 5+4,none⟩) A).trans K.2.2.2.2;go_wp2_with (at_builtin;go_loud (refine wpList_push (E:=PtE (TmE d)) rfl _ _ 187 rfl i0 _ 56 Tryz.underlying187 ii ab aa W rfl (by decide) (by decide) rfl F.out [qi cj,qi ej,qi rj,qi yj,qs o1 m1 q1] [_,_,_,_,_] 200 rfl rfl one_pt ?hE (by have:=G.out.1;omega) (by have:=J.size;simp at this;omega) (λ j h=> Nat.lt_succ_of_lt (HX.out j h)) ?_))
         case hE=>
          refine af.mono q λ j hj h=> ?_;rcases h with h | h
          . exact h
          . have:=(F.ge j h).1
            omega
         intro v' w' H C _ _;have L:=hid (J.trans C);have I:=hid (q.trans (C.mono (by have:=q.size;omega)));clear C;go_wp2;go_roundw
         case rel=> exact ⟨j+1,false,_,by omega,rfl,by go_num,(by have:=G.2 (by simp);show _/\_;simp only [length_append,List.length_singleton];exact ⟨by omega,λ _=> by omega⟩),(nz_snoc M ag),(λ h=> absurd (HT.out (canc_same h (T.out h) O ae)) ht0),H,L⟩
         case measure=> simp [intOf];omega
  . obtain rfl:n=j:=by omega
    have F:=HB;have au:=hid λ (ps':List (List Value)) (w':World) (v':Value) (h:Bl 200 5 (PtE (TmE d)) (w.heap.size+1) X w' ps' v') (hl:ps'.length<=1000000000)=> show Ind X w' λ w=> PtsAt d w ps' v' from (h.done (by omega)).sub λ j _ hj=> ⟨hj,λ e=> by have:=(h.ge j e).1;have:=HX.out j hj;omega⟩
    cases put with
    | true=>
     obtain ⟨va,vc,hv⟩:=HB.shape;subst hv;go_wp2;go_ret;exact ⟨_,_,_,out,rfl,rfl,(by have:=G.1;have:=HN.out;omega),au.out _ _ _ HB (by have:=G.1;omega),M,(λ h=> canc_end (T.out h) HN),q⟩
    | false=>
     have D:=(V0.below J (lt_succ_self _))
     have g0:=D.a0;have g1:=D.a1;have g2:=D.a2;have g3:=D.a3;have g4:=D.a4;clear D;go_wp2_with (at_builtin;go_loud (refine wpList_push (E:=PtE (TmE d)) rfl _ _ 187 rfl i0 _ 56 Tryz.underlying187 ii ab aa W rfl (by decide) (by decide) rfl F.out [qi co,qi kd,qi vr,qi y,qs o m k] [_,_,_,_,_] 200 rfl rfl one_pt ?hE (by have:=G.out.1;omega) (by have:=J.size;simp at this;omega) (λ j h=> Nat.lt_succ_of_lt (HX.out j h)) ?_))
     case hE=>
      refine ao.mono q λ j hj h=> ?_;rcases h with h | h
      . exact h
      . have:=(F.ge j h).1
        omega
     intro v' w' H C _ _;have L:=hid (J.trans C);have I:=hid (q.trans (C.mono (by have:=q.size;omega)));clear C;obtain ⟨va,vc,hv⟩:=H.shape;subst hv;have al:(out++[[qi co,qi kd,qi vr,qi y,qs o m k]]).length<=n+1:=by have:=G.2 (by simp);rw [length_append,List.length_singleton];omega
     have aH:=hid al;have aI:=hid (au.out _ _ _ H (by omega));have aE:=hid (nz_snoc M aq);clear al;go_wp2;go_ret;exact ⟨_,_,_,out++[[qi co,qi kd,qi vr,qi y,qs o m k]],rfl,rfl,(by rw [HN.out];exact aH),aI,aE,(λ h=> absurd (T.out h) (canc_no h HN)),I⟩
end
end
end Go.Proofs.YtcomoomndgbckaaGreat
