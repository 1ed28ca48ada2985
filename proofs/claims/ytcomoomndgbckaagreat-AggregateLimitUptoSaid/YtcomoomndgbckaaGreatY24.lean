/- Part 24 of the proof. -/
import Derived.Test.YtcomoomndgbckaaGreatY23
set_option maxHeartbeats 16000000
set_option maxRecDepth 100000
open Go Go.RowKit
open Go.Lib (hid)
open List (getElem_mem mem_singleton)
open Nat (zero_le le_succ add_zero zero_mul)
namespace Go.Proofs.YtcomoomndgbckaaGreat
noncomputable section
section
open Go.Sort
theorem neg_l {ps1 ps2:List (List Value)} (h:∀p∈ps1,CoNz p) (e:ps2=ps1.map negP):NegL ps1 ps2:=⟨λ p hp=> by
 obtain ⟨c,l,h1,-⟩:=h p hp;exact ⟨c,l,h1⟩,e⟩
theorem tBin_calls (d:Nat) (X:Nat->Prop) (op z1:Int) (ps1:List (List Value)) (a1:Option Addr) (n1 k1:Nat) (z2:Int) (ps2:List (List Value)) (a2:Option Addr) (n2 k2:Nat) (w:World) (hX:∀j,X j->j < w.heap.size) (hl1:Ind X w λ w=> PtsAt d w ps1 (qs a1 n1 k1)) (hn1:ps1.length=n1) (hl2:Ind X w λ w=> PtsAt d w ps2 (qs a2 n2 k2)) (hn2:ps2.length=n2) (hn9:n1+n2<=10000000) (hz1:∀p∈ps1,CoNz p/\CoOk p) (bd:∀p∈ps2,CoNz p/\CoOk p):
 Calls Tryz.prog 154 #[qi op,.agg #[qi z1,qs a1 n1 k1],.agg #[qi z2,qs a2 n2 k2]] w (TermP (d+1) (n1+n2+1) X False w):=by
 have aD:=hid hl1;have ad:=hid hn1;have bg:=hid hl2;have aK:=hid hn2;have bl:=hid hz1;have aW:Hid (∀p∈ps1,CoNz p):=λ p hp=> (hz1 p hp).1;have bn:Hid (∀p∈ps2,CoNz p):=λ p hp=> (bd p hp).1;have aj:Hid (∀w':World,w.heap.size+2 < w'.heap.size->w.heap.size<=w'.heap.size->∀j,(X j\/j=w.heap.size+2)->j < w'.heap.size):=λ w' h1 h2 j h=> by
  rcases h with h | h
  . have:=hX j h
    omega
  . omega
 have ak:Hid (∀k,k < w.heap.size->(X k\/k=w.heap.size+2)->X k):=λ k hk h=> by
  rcases h with h | h
  . exact h
  . omega
 have V0:=hid (((VarIs.new w #[qi z1,qs a1 n1 k1] 189).alloc (.cells #[qi z2,qs a2 n2 k2] 189)).alloc (.cells q0d 189));have V1:=hid ((VarIs.new1 w (.cells #[qi z1,qs a1 n1 k1] 189) #[qi z2,qs a2 n2 k2] 189).alloc (.cells q0d 189));have V2:=hid (VarIs.new2 w (.cells #[qi z1,qs a1 n1 k1] 189) (.cells #[qi z2,qs a2 n2 k2] 189) q0d 189);have O:Hid (Below w.heap.size w (((w.alloc (.cells #[qi z1,qs a1 n1 k1] 189)).alloc (.cells #[qi z2,qs a2 n2 k2] 189)).alloc (.cells q0d 189))):=((zi.alloc lr _).alloc (by simp) _).alloc (by simp <;> omega) _;clear hX hl1 hn1 hl2 hn2 hz1 bd;go_enter Tryz.func154,Tryz.ntmps154;by_cases h4:op=4
 . subst h4
   go_wp2_with fail;refine (tAdd_calls d (λ j=> X j\/j=w.heap.size+2) z1 ps1 a1 n1 k1 z2 ps2 a2 n2 k2 _ (aj.out _ V2.lt O.size) (aD.mono O ak) ad (bg.mono O ak) aK (by omega) aW bn).mono ?_;rintro e w6 ⟨c6,f6,a6,n6,k6,ae,rfl,L,K,aa,M,J,o⟩;have I:=hid L;have U:=hid K;have ba:=hid aa;have ag:=hid M;have ac:=hid J;have G:=hid (O.trans (o.mono O.size));have T:=hid (V2.below o V2.lt);have ai:=hid (V0.below o V0.lt);have ah:=hid (V1.below o V1.lt);clear L K aa M J o;go_wp2_with (refine wpList_store_row rfl _ _ _ rfl _ rfl rfl T.out rfl (by kernel_rfl) rfl ?_);intro wE V D;have C:=hid (G.trans (D.below G.size λ k hk=> by show ¬ k=_;omega));have H:=hid (ag.agr (Z:=X) D (λ j _ h=> .inr h) (λ _ _ h=> .inl h));clear D;go_wp2;refine bodyPost_ret (v:=.tuple #[.agg #[qi c6,qs a6 n6 k6],qi f6]) ?_ rfl ?_
   . exact results_cell_tmp rfl _ _ rfl V Tryz.underlying189 rfl (by kernel_rfl)
   . exact ⟨c6,f6,a6,n6,k6,ae,rfl,I,(by have:=U.out;omega),(λ h=> h.elim),(H.imp λ w h=> PtsAt.le h (le_succ _)),(λ h=> ac.out (by first | exact h | trivial)),C⟩
 have z4:(op==4)=false:=by simp [h4]
 by_cases h5:op=5
 . subst h5
   go_wp2_with fail;refine (tScale_calls d (λ j=> X j\/j=w.heap.size+2) z2 ps2 a2 n2 k2 (-1) _ (aj.out _ V2.lt O.size) (bg.mono O ak) aK (by omega)).mono ?_;rintro e w6 ⟨c6,f6,a6,n6,k6,ae,rfl,L,K,aa,M,J,o⟩;have I:=hid L;have U:=hid K;have ba:=hid aa;have ag:=hid M;have ac:=hid J;have G:=hid (O.trans (o.mono O.size));have T:=hid (V2.below o V2.lt);have ai:=hid (V0.below o V0.lt);have ah:=hid (V1.below o V1.lt);clear L K aa M J o;go_wp2_with (refine wpList_store_row rfl _ _ _ rfl _ rfl rfl (VarIs.new _ _ _) rfl (by kernel_rfl) rfl ?_);intro w7 ab AB;have A:=hid (((zi.alloc lr _).trans (AB.below (by simp) (λ k hk=> by show ¬ k=_;omega)):Below w6.heap.size w6 w7));have F:=hid (G.trans (A.mono G.size));have W:=hid (T.below A T.lt);have am:=hid (ai.below A ai.lt);have al:=hid (ah.below A ah.lt);have aE:=hid (ag.mono A λ _ _ h=> h);clear AB A;by_cases hf:f6=0
   . subst hf
     have x0:=am.a0;have x1:=am.a1;have y0:=ab.a0;have y1:=ab.a1;go_wp2_with fail;refine (tAdd_calls d (λ j=> X j\/j=w.heap.size+2) z1 ps1 a1 n1 k1 c6 ae a6 n6 k6 _ (aj.out _ W.lt F.size) (aD.mono F ak) ad aE I (by have:=U.out;have:=aK.out;omega) aW (λ p hp=> (ac.out (by simp) p hp).1)).mono ?_;rintro e w8 ⟨c8,f8,a8,n8,k8,aM,rfl,ax,ar,av,az,ap,o⟩;have aL:=hid ax;have aJ:=hid ar;have bf:=hid av;have aY:=hid az;have aU:=hid ap;have aB:=hid (F.trans (o.mono F.size));have aG:=hid (W.below o W.lt);have aI:=hid (am.below o am.lt);have aH:=hid (al.below o al.lt);clear ax ar av az ap o;clear x0 x1 y0 y1;go_wp2_with (refine wpList_store_row rfl _ _ _ rfl _ rfl rfl aG.out rfl (by kernel_rfl) rfl ?_);intro wE V D;have C:=hid (aB.trans (D.below aB.size λ k hk=> by show ¬ k=_;omega));have H:=hid (aY.agr (Z:=X) D (λ j _ h=> .inr h) (λ _ _ h=> .inl h));clear D;go_wp2;refine bodyPost_ret (v:=.tuple #[.agg #[qi c8,qs a8 n8 k8],qi f8]) ?_ rfl ?_
     . exact results_cell_tmp rfl _ _ rfl V Tryz.underlying189 rfl (by kernel_rfl)
     . exact ⟨c8,f8,a8,n8,k8,aM,rfl,aL,(by have:=U.out;have:=aK.out;have:=aJ.out;omega),(λ h=> h.elim),(H.imp λ w h=> PtsAt.le h (le_succ _)),(λ h=> aU.out (by first | exact h | trivial)),C⟩
   . have zf:(f6==0)=false:=by simp [hf]
     go_wp2_with (refine wpList_store_row rfl _ _ _ rfl _ rfl rfl W.out rfl (by kernel_rfl) rfl ?_);intro wE V D;have C:=hid (F.trans (D.below F.size λ k hk=> by show ¬ k=_;omega));clear D;go_wp2;refine bodyPost_ret (v:=.tuple #[.agg q0d,qi f6]) ?_ rfl ?_
     . exact results_cell_tmp rfl _ _ rfl V Tryz.underlying189 rfl (by kernel_rfl)
     . exact ⟨0,f6,none,0,0,[],rfl,rfl,zero_le _,(λ h=> h.elim),Ind.triv λ _=> .inl ⟨rfl,none,rfl⟩,(λ h=> absurd h hf),C⟩
 have z5:(op==5)=false:=by simp [h5]
 by_cases h6:op=6
 . subst h6
   by_cases h1:0 < n1
   . have bq:(0:Int) < (n1:Int):=by omega
     by_cases h2:0 < n2
     . have bi:(0:Int) < (n2:Int):=by omega
       go_wp2_with (refine wpList_store_row rfl _ _ _ rfl _ rfl rfl V2.out rfl (by kernel_rfl) rfl ?_);intro wE V D;have C:=hid (O.trans (D.below O.size λ k hk=> by show ¬ k=_;omega));clear D;go_wp2;refine bodyPost_ret (v:=.tuple #[.agg q0d,qi 7]) ?_ rfl ?_
       . exact results_cell_tmp rfl _ _ rfl V Tryz.underlying189 rfl (by kernel_rfl)
       . exact ⟨0,7,none,0,0,[],rfl,rfl,zero_le _,(λ h=> h.elim),Ind.triv λ _=> .inl ⟨rfl,none,rfl⟩,(λ h=> absurd h (by decide)),C⟩
     . obtain rfl:n2=0:=by omega
       go_wp2_with fail;refine (tScale_calls d (λ j=> X j\/j=w.heap.size+2) z1 ps1 a1 n1 k1 z2 _ (aj.out _ V2.lt O.size) (aD.mono O ak) ad (by omega)).mono ?_;rintro e w6 ⟨c6,f6,a6,n6,k6,ae,rfl,L,K,aa,M,J,o⟩;have I:=hid L;have U:=hid K;have ba:=hid aa;have ag:=hid M;have ac:=hid J;have G:=hid (O.trans (o.mono O.size));have T:=hid (V2.below o V2.lt);have ai:=hid (V0.below o V0.lt);have ah:=hid (V1.below o V1.lt);clear L K aa M J o;go_wp2_with (refine wpList_store_row rfl _ _ _ rfl _ rfl rfl T.out rfl (by kernel_rfl) rfl ?_);intro wE V D;have C:=hid (G.trans (D.below G.size λ k hk=> by show ¬ k=_;omega));have H:=hid (ag.agr (Z:=X) D (λ j _ h=> .inr h) (λ _ _ h=> .inl h));clear D;go_wp2;refine bodyPost_ret (v:=.tuple #[.agg #[qi c6,qs a6 n6 k6],qi f6]) ?_ rfl ?_
       . exact results_cell_tmp rfl _ _ rfl V Tryz.underlying189 rfl (by kernel_rfl)
       . exact ⟨c6,f6,a6,n6,k6,ae,rfl,I,(by have:=ad.out;have:=U.out;omega),(λ h=> h.elim),(H.imp λ w h=> PtsAt.le h (le_succ _)),(λ h=> ac.out (by first | exact h | trivial)),C⟩
   . obtain rfl:n1=0:=by omega
     by_cases h2:0 < n2
     . have bi:(0:Int) < (n2:Int):=by omega
       go_wp2_with fail;refine (tScale_calls d (λ j=> X j\/j=w.heap.size+2) z2 ps2 a2 n2 k2 z1 _ (aj.out _ V2.lt O.size) (bg.mono O ak) aK (by omega)).mono ?_;rintro e w6 ⟨c6,f6,a6,n6,k6,ae,rfl,L,K,aa,M,J,o⟩;have I:=hid L;have U:=hid K;have ba:=hid aa;have ag:=hid M;have ac:=hid J;have G:=hid (O.trans (o.mono O.size));have T:=hid (V2.below o V2.lt);have ai:=hid (V0.below o V0.lt);have ah:=hid (V1.below o V1.lt);clear L K aa M J o;go_wp2_with (refine wpList_store_row rfl _ _ _ rfl _ rfl rfl T.out rfl (by kernel_rfl) rfl ?_);intro wE V D;have C:=hid (G.trans (D.below G.size λ k hk=> by show ¬ k=_;omega));have H:=hid (ag.agr (Z:=X) D (λ j _ h=> .inr h) (λ _ _ h=> .inl h));clear D;go_wp2;refine bodyPost_ret (v:=.tuple #[.agg #[qi c6,qs a6 n6 k6],qi f6]) ?_ rfl ?_
       . exact results_cell_tmp rfl _ _ rfl V Tryz.underlying189 rfl (by kernel_rfl)
       . exact ⟨c6,f6,a6,n6,k6,ae,rfl,I,(by have:=aK.out;have:=U.out;omega),(λ h=> h.elim),(H.imp λ w h=> PtsAt.le h (le_succ _)),(λ h=> ac.out (by first | exact h | trivial)),C⟩
     . obtain rfl:n2=0:=by omega
       go_wp2_with fail;refine (tScale_calls d (λ j=> X j\/j=w.heap.size+2) z1 ps1 a1 0 k1 z2 _ (aj.out _ V2.lt O.size) (aD.mono O ak) ad (by omega)).mono ?_;rintro e w6 ⟨c6,f6,a6,n6,k6,ae,rfl,L,K,aa,M,J,o⟩;have I:=hid L;have U:=hid K;have ba:=hid aa;have ag:=hid M;have ac:=hid J;have G:=hid (O.trans (o.mono O.size));have T:=hid (V2.below o V2.lt);have ai:=hid (V0.below o V0.lt);have ah:=hid (V1.below o V1.lt);clear L K aa M J o;go_wp2_with (refine wpList_store_row rfl _ _ _ rfl _ rfl rfl T.out rfl (by kernel_rfl) rfl ?_);intro wE V D;have C:=hid (G.trans (D.below G.size λ k hk=> by show ¬ k=_;omega));have H:=hid (ag.agr (Z:=X) D (λ j _ h=> .inr h) (λ _ _ h=> .inl h));clear D;go_wp2;refine bodyPost_ret (v:=.tuple #[.agg #[qi c6,qs a6 n6 k6],qi f6]) ?_ rfl ?_
       . exact results_cell_tmp rfl _ _ rfl V Tryz.underlying189 rfl (by kernel_rfl)
       . exact ⟨c6,f6,a6,n6,k6,ae,rfl,I,(by have:=ad.out;have:=U.out;omega),(λ h=> h.elim),(H.imp λ w h=> PtsAt.le h (le_succ _)),(λ h=> ac.out (by first | exact h | trivial)),C⟩
 have z6:(op==6)=false:=by simp [h6]
 by_cases h2:0 < n2
 . have bi:(0:Int) < (n2:Int):=by omega
   go_wp2_with (refine wpList_store_row rfl _ _ _ rfl _ rfl rfl V2.out rfl (by kernel_rfl) rfl ?_);intro wE V D;have C:=hid (O.trans (D.below O.size λ k hk=> by show ¬ k=_;omega));clear D;go_wp2;refine bodyPost_ret (v:=.tuple #[.agg q0d,qi 7]) ?_ rfl ?_
   . exact results_cell_tmp rfl _ _ rfl V Tryz.underlying189 rfl (by kernel_rfl)
   . exact ⟨0,7,none,0,0,[],rfl,rfl,zero_le _,(λ h=> h.elim),Ind.triv λ _=> .inl ⟨rfl,none,rfl⟩,(λ h=> absurd h (by decide)),C⟩
 . obtain rfl:n2=0:=by omega
   go_wp2_with fail;refine (tWith_calls z2 _ _ _).mono ?_;rintro e w1 ⟨q,rfl,hq,rfl⟩;have HQ:=hid hq;clear hq;cases q with
   | false=>
    go_wp2_with (refine wpList_store_row rfl _ _ _ rfl _ rfl rfl V2.out rfl (by kernel_rfl) rfl ?_);intro wE V D;have C:=hid (O.trans (D.below O.size λ k hk=> by show ¬ k=_;omega));clear D;go_wp2;refine bodyPost_ret (v:=.tuple #[.agg q0d,qi 7]) ?_ rfl ?_
    . exact results_cell_tmp rfl _ _ rfl V Tryz.underlying189 rfl (by kernel_rfl)
    . exact ⟨0,7,none,0,0,[],rfl,rfl,zero_le _,(λ h=> h.elim),Ind.triv λ _=> .inl ⟨rfl,none,rfl⟩,(λ h=> absurd h (by decide)),C⟩
   | true=>
    have bd:=HQ.1 (by simp);clear HQ;go_wp2_with fail;refine (tDiv_calls d (λ j=> X j\/j=w.heap.size+2) z1 ps1 a1 n1 k1 z2 _ (aj.out _ V2.lt O.size) (aD.mono O ak) ad).mono ?_;rintro e w6 (⟨bo,rfl,o⟩ | ⟨c6,f6,a6,n6,k6,ae,rfl,L,K,-,M,J,o⟩)
    . have G:=hid (O.trans (o.mono O.size))
      have T:=hid (V2.below o V2.lt);have ai:=hid (V0.below o V0.lt);have ah:=hid (V1.below o V1.lt);have ag:=hid ((aD.mono O ak).mono o λ _ _ h=> h);have I:=ad;have ac:Hid ((0:Int)=0->∀p∈ps1,CoNz p/\CoOk p):=λ _=> bl;clear o;go_wp2_with (refine wpList_store_row rfl _ _ _ rfl _ rfl rfl (VarIs.new _ _ _) rfl (by kernel_rfl) rfl ?_);intro w7 ab AB;have A:=hid (((zi.alloc lr _).trans (AB.below (by simp) (λ k hk=> by show ¬ k=_;omega)):Below w6.heap.size w6 w7));have F:=hid (G.trans (A.mono G.size));have W:=hid (T.below A T.lt);have am:=hid (ai.below A ai.lt);have al:=hid (ah.below A ah.lt);have aE:=hid (ag.mono A λ _ _ h=> h);clear AB A;by_cases h7:op=7
      . subst h7
        have y0:=ab.a0;have y1:=ab.a1;go_wp2_with (refine wpList_store_row rfl _ _ _ rfl _ rfl rfl W.out rfl (by kernel_rfl) rfl ?_);intro wE V D;clear y0 y1;have C:=hid (F.trans (D.below F.size λ k hk=> by show ¬ k=_;omega));have H:=hid (aE.agr (Z:=X) D (λ j _ h=> .inr h) (λ _ _ h=> .inl h));clear D;go_wp2;refine bodyPost_ret (v:=.tuple #[.agg #[qi z1,qs a1 n1 k1],qi 0]) ?_ rfl ?_
        . exact results_cell_tmp rfl _ _ rfl V Tryz.underlying189 rfl (by kernel_rfl)
        . exact ⟨z1,0,a1,n1,k1,ps1,rfl,I,(by have:=ad.out;omega),(λ h=> h.elim),(H.imp λ w h=> PtsAt.le h (le_succ _)),(λ h=> ac.out (by first | exact h | trivial)),C⟩
      . have z7:(op==7)=false:=by simp [h7]
        have y0:=ab.a0;have y1:=ab.a1;have x0:=al.a0;go_wp2_with fail;refine (tScale_calls (d) (λ j=> X j\/j=w.heap.size+2) z1 ps1 a1 n1 k1 _ _ (aj.out _ W.lt F.size) aE I (by have:=ad.out;omega)).mono ?_;rintro e w8 ⟨c8,f8,a8,n8,k8,aM,rfl,ax,ar,av,az,ap,o⟩;have aL:=hid ax;have aJ:=hid ar;have bf:=hid av;have aY:=hid az;have aU:=hid ap;have aB:=hid (F.trans (o.mono F.size));have aG:=hid (W.below o W.lt);have aI:=hid (am.below o am.lt);have aH:=hid (al.below o al.lt);clear ax ar av az ap o;clear y0 y1 x0;go_wp2_with (refine wpList_store_row rfl _ _ _ rfl _ rfl rfl (VarIs.new _ _ _) rfl (by kernel_rfl) rfl ?_);intro w9 aR AB;have A:=hid (((zi.alloc lr _).trans (AB.below (by simp) (λ k hk=> by show ¬ k=_;omega)):Below w8.heap.size w8 w9));have af:=hid (aB.trans (A.mono aB.size));have an:=hid (aG.below A aG.lt);have ao:=hid (aI.below A aI.lt);have aT:=hid (aH.below A aH.lt);have bh:=hid (aY.mono A λ _ _ h=> h);clear AB A;by_cases hf:f8=0
        . subst hf
          have x0:=ao.a0;have x1:=ao.a1;have y0:=aR.a0;have y1:=aR.a1;go_wp2_with fail;refine (tAdd_calls (d) (λ j=> X j\/j=w.heap.size+2) z1 ps1 a1 n1 k1 c8 aM a8 n8 k8 _ (aj.out _ an.lt af.size) (aD.mono af ak) ad bh aL (by have:=aJ.out;have:=ad.out;omega) aW (λ p hp=> (aU.out (by simp) p hp).1)).mono ?_;rintro e bm ⟨aQ,aP,a10,aF,aO,aN,rfl,ay,au,aw,aA,aq,o⟩;have aX:=hid ay;have bb:=hid au;have bc:=hid aw;have aZ:=hid aA;have aV:=hid aq;have aC:=hid (af.trans (o.mono af.size));have aS:=hid (an.below o an.lt);have bk:=hid (ao.below o ao.lt);have bj:=hid (aT.below o aT.lt);clear ay au aw aA aq o;clear x0 x1 y0 y1;have be:Hid (aF<=n1+0+1):=by show _<=_;have h:=bc.out (neg_l aW (bf.out (by first | rfl | simp) bl (by simp)));omega
          go_wp2_with (refine wpList_store_row rfl _ _ _ rfl _ rfl rfl aS.out rfl (by kernel_rfl) rfl ?_);intro wE V D;have C:=hid (aC.trans (D.below aC.size λ k hk=> by show ¬ k=_;omega));have H:=hid (aZ.agr (Z:=X) D (λ j _ h=> .inr h) (λ _ _ h=> .inl h));clear D;go_wp2;refine bodyPost_ret (v:=.tuple #[.agg #[qi aQ,qs a10 aF aO],qi aP]) ?_ rfl ?_
          . exact results_cell_tmp rfl _ _ rfl V Tryz.underlying189 rfl (by kernel_rfl)
          . exact ⟨aQ,aP,a10,aF,aO,aN,rfl,aX,(by have:=be.out;omega),(λ h=> h.elim),(H.imp λ w h=> PtsAt.le h (le_succ _)),(λ h=> aV.out (by first | exact h | trivial)),C⟩
        . have zf:(f8==0)=false:=by simp [hf]
          go_wp2_with (refine wpList_store_row rfl _ _ _ rfl _ rfl rfl an.out rfl (by kernel_rfl) rfl ?_);intro wE V D;have C:=hid (af.trans (D.below af.size λ k hk=> by show ¬ k=_;omega));clear D;go_wp2;refine bodyPost_ret (v:=.tuple #[.agg q0d,qi f8]) ?_ rfl ?_
          . exact results_cell_tmp rfl _ _ rfl V Tryz.underlying189 rfl (by kernel_rfl)
          . exact ⟨0,f8,none,0,0,[],rfl,rfl,zero_le _,(λ h=> h.elim),Ind.triv λ _=> .inl ⟨rfl,none,rfl⟩,(λ h=> absurd h hf),C⟩
    . have I:=hid L
      have U:=hid K;have ag:=hid M;have ac:=hid J;have G:=hid (O.trans (o.mono O.size));have T:=hid (V2.below o V2.lt);have ai:=hid (V0.below o V0.lt);have ah:=hid (V1.below o V1.lt);clear L K M J o;go_wp2_with (refine wpList_store_row rfl _ _ _ rfl _ rfl rfl (VarIs.new _ _ _) rfl (by kernel_rfl) rfl ?_);intro w7 ab AB;have A:=hid (((zi.alloc lr _).trans (AB.below (by simp) (λ k hk=> by show ¬ k=_;omega)):Below w6.heap.size w6 w7));have F:=hid (G.trans (A.mono G.size));have W:=hid (T.below A T.lt);have am:=hid (ai.below A ai.lt);have al:=hid (ah.below A ah.lt);have aE:=hid (ag.mono A λ _ _ h=> h);clear AB A;by_cases hf6:f6=0
      . subst hf6
        by_cases h7:op=7
        . subst h7
          have y0:=ab.a0;have y1:=ab.a1;go_wp2_with (refine wpList_store_row rfl _ _ _ rfl _ rfl rfl W.out rfl (by kernel_rfl) rfl ?_);intro wE V D;clear y0 y1;have C:=hid (F.trans (D.below F.size λ k hk=> by show ¬ k=_;omega));have H:=hid (aE.agr (Z:=X) D (λ j _ h=> .inr h) (λ _ _ h=> .inl h));clear D;go_wp2;refine bodyPost_ret (v:=.tuple #[.agg #[qi c6,qs a6 n6 k6],qi 0]) ?_ rfl ?_
          . exact results_cell_tmp rfl _ _ rfl V Tryz.underlying189 rfl (by kernel_rfl)
          . exact ⟨c6,0,a6,n6,k6,ae,rfl,I,(by have:=U.out;omega),(λ h=> h.elim),H,(λ h=> ac.out (by first | exact h | trivial)),C⟩
        . have z7:(op==7)=false:=by simp [h7]
          have y0:=ab.a0;have y1:=ab.a1;have x0:=al.a0;go_wp2_with fail;refine (tScale_calls (d+1) (λ j=> X j\/j=w.heap.size+2) c6 ae a6 n6 k6 _ _ (aj.out _ W.lt F.size) aE I (by have:=U.out;omega)).mono ?_;rintro e w8 ⟨c8,f8,a8,n8,k8,aM,rfl,ax,ar,av,az,ap,o⟩;have aL:=hid ax;have aJ:=hid ar;have bf:=hid av;have aY:=hid az;have aU:=hid ap;have aB:=hid (F.trans (o.mono F.size));have aG:=hid (W.below o W.lt);have aI:=hid (am.below o am.lt);have aH:=hid (al.below o al.lt);clear ax ar av az ap o;clear y0 y1 x0;go_wp2_with (refine wpList_store_row rfl _ _ _ rfl _ rfl rfl (VarIs.new _ _ _) rfl (by kernel_rfl) rfl ?_);intro w9 aR AB;have A:=hid (((zi.alloc lr _).trans (AB.below (by simp) (λ k hk=> by show ¬ k=_;omega)):Below w8.heap.size w8 w9));have af:=hid (aB.trans (A.mono aB.size));have an:=hid (aG.below A aG.lt);have ao:=hid (aI.below A aI.lt);have aT:=hid (aH.below A aH.lt);have bh:=hid (aY.mono A λ _ _ h=> h);clear AB A;by_cases hf:f8=0
          . subst hf
            have x0:=ao.a0;have x1:=ao.a1;have y0:=aR.a0;have y1:=aR.a1;go_wp2_with fail;refine (tAdd_calls (d+1) (λ j=> X j\/j=w.heap.size+2) z1 ps1 a1 n1 k1 c8 aM a8 n8 k8 _ (aj.out _ an.lt af.size) ((aD.mono af ak).imp λ w h=> PtsAt.le h (le_succ _)) ad bh aL (by have:=aJ.out;have:=ad.out;have:=I.out;have:=U.out;omega) aW (λ p hp=> (aU.out (by simp) p hp).1)).mono ?_;rintro e bm ⟨aQ,aP,a10,aF,aO,aN,rfl,ay,au,aw,aA,aq,o⟩;have aX:=hid ay;have bb:=hid au;have bc:=hid aw;have aZ:=hid aA;have aV:=hid aq;have aC:=hid (af.trans (o.mono af.size));have aS:=hid (an.below o an.lt);have bk:=hid (ao.below o ao.lt);have bj:=hid (aT.below o aT.lt);clear ay au aw aA aq o;clear x0 x1 y0 y1;have be:Hid (aF<=n1+0+1):=by show _<=_;have:=bb.out;have:=aJ.out;have:=I.out;have:=U.out;have:=aL.out;omega
            go_wp2_with (refine wpList_store_row rfl _ _ _ rfl _ rfl rfl aS.out rfl (by kernel_rfl) rfl ?_);intro wE V D;have C:=hid (aC.trans (D.below aC.size λ k hk=> by show ¬ k=_;omega));have H:=hid (aZ.agr (Z:=X) D (λ j _ h=> .inr h) (λ _ _ h=> .inl h));clear D;go_wp2;refine bodyPost_ret (v:=.tuple #[.agg #[qi aQ,qs a10 aF aO],qi aP]) ?_ rfl ?_
            . exact results_cell_tmp rfl _ _ rfl V Tryz.underlying189 rfl (by kernel_rfl)
            . exact ⟨aQ,aP,a10,aF,aO,aN,rfl,aX,(by have:=be.out;omega),(λ h=> h.elim),H,(λ h=> aV.out (by first | exact h | trivial)),C⟩
          . have zf:(f8==0)=false:=by simp [hf]
            go_wp2_with (refine wpList_store_row rfl _ _ _ rfl _ rfl rfl an.out rfl (by kernel_rfl) rfl ?_);intro wE V D;have C:=hid (af.trans (D.below af.size λ k hk=> by show ¬ k=_;omega));clear D;go_wp2;refine bodyPost_ret (v:=.tuple #[.agg q0d,qi f8]) ?_ rfl ?_
            . exact results_cell_tmp rfl _ _ rfl V Tryz.underlying189 rfl (by kernel_rfl)
            . exact ⟨0,f8,none,0,0,[],rfl,rfl,zero_le _,(λ h=> h.elim),Ind.triv λ _=> .inl ⟨rfl,none,rfl⟩,(λ h=> absurd h hf),C⟩
      . have bp:(f6==0)=false:=by simp [hf6]
        have y0:=ab.a0;have y1:=ab.a1;go_wp2_with (refine wpList_store_row rfl _ _ _ rfl _ rfl rfl W.out rfl (by kernel_rfl) rfl ?_);intro wE V D;clear y0 y1;have C:=hid (F.trans (D.below F.size λ k hk=> by show ¬ k=_;omega));have H:=hid (aE.agr (Z:=X) D (λ j _ h=> .inr h) (λ _ _ h=> .inl h));clear D;go_wp2;refine bodyPost_ret (v:=.tuple #[.agg #[qi c6,qs a6 n6 k6],qi f6]) ?_ rfl ?_
        . exact results_cell_tmp rfl _ _ rfl V Tryz.underlying189 rfl (by kernel_rfl)
        . exact ⟨c6,f6,a6,n6,k6,ae,rfl,I,(by have:=U.out;omega),(λ h=> h.elim),H,(λ h=> ac.out (by first | exact h | trivial)),C⟩
end
section
open Go.Sort
def LenP (d:Nat) (w:World) (e:Ending) (w':World):Prop:=∃(c:Int) (a:Option Addr) (n k:Nat) (ps:List (List Value)) (q:Bool),e=.returned (.tuple #[.agg #[qi c,qs a n k],.bool q])/\ps.length=n/\n<=1/\(∀X:Nat->Prop,(∀j,X j->j < w.heap.size)->Ind X w' (λ w=> PtsAt d w ps (qs a n k)))/\(∀p∈ps,CoNz p/\CoOk p)/\Below w.heap.size w w'
theorem tLen_calls (d:Nat) (E:Ex) (a:Option Addr) (n c:Nat) (w:World) (hs:ArgsAt w E.args (qs a n c)) (htx:∀e∈E.args,e.v.text.size<=2000000):
 Calls Tryz.prog 151 #[.agg #[qi E.op,qt E.table,qt E.name,qi E.index,qi E.v.kind,qi E.v.int,qt E.v.text,qs a n c]] w (LenP d w):=by
 obtain ⟨_,_,_,he,hn,ak⟩:=hs.shape;cases he;have HN:=hid hn.symm;have HS:=hid hs;have ae:=hid htx;obtain ⟨op,aa⟩:=gx E.op
 obtain ⟨tb,V⟩:=gx E.table
 obtain ⟨nm,ab⟩:=gx E.name
 obtain ⟨ix,ac⟩:=gx E.index
 obtain ⟨vk,T⟩:=gx E.v.kind
 obtain ⟨vi,U⟩:=gx E.v.int
 obtain ⟨vt,O⟩:=gx E.v.text
 rw [aa,V,ab,ac,T,U,O];have I:=hid (VarIs.new1 w (.cells #[qi op,qt tb,qt nm,qi ix,qi vk,qi vi,qt vt,qs a n c] 37) q0d 189);have D:Hid (Below w.heap.size w ((w.alloc (.cells #[qi op,qt tb,qt nm,qi ix,qi vk,qi vi,qt vt,qs a n c] 37)).alloc (.cells q0d 189))):=(zi.alloc lr _).alloc (by simp) _;clear hs aa V ab ac T U O htx hn;go_enter Tryz.func151,Tryz.ntmps151;by_cases h9:op=9
 . subst h9
   by_cases hn1:n=1
   . subst hn1
     obtain ⟨b,o,rfl⟩:=ArgsAt.addr HS (k:=0) (by rw [HN.out];omega);obtain ⟨s',W,e0,e1,e2,e3,e4,e5,e6,e7⟩:=ArgsAt.cell (HS.mono D) 0 (by rw [HN.out];omega);obtain ⟨sa,sn,sc,rfl,-,-⟩:=W.shape;simp only [zero_mul,add_zero] at e0 e1 e2 e3 e4 e5 e6 e7;clear W;have ag:0 < E.args.length:=by rw [HN.out];omega
     have ao:=hid (ae.out _ (getElem_mem ag));generalize E.args[0]=F at *;obtain ⟨J,q1⟩:=gx F.op
     obtain ⟨am,q2⟩:=gx F.table
     obtain ⟨an,q3⟩:=gx F.name
     obtain ⟨G,q4⟩:=gx F.index
     obtain ⟨M,q5⟩:=gx F.v.kind
     obtain ⟨al,q6⟩:=gx F.v.int
     obtain ⟨af,q7⟩:=gx F.v.text
     rw [q1] at e0;rw [q2] at e1;rw [q3] at e2;rw [q4] at e3;rw [q5] at e4;rw [q6] at e5;rw [q7] at e6;clear q1 q2 q3 q4 q5 q6 q7;by_cases hsn:sn=0
     . subst hsn
       go_wp2_with (refine wpList_store_row rfl _ _ _ rfl _ rfl rfl (VarIs.new2 _ _ _ _ _) rfl (by kernel_rfl) rfl ?_);intro L V5 A5;clear e0 e1 e2 e3 e4 e5 e6 e7;replace I:=hid ((I.alloc (.cells q0f 37)).agr A5 (by show ¬ _=_;omega));have C:Hid (Below w.heap.size w L):=(D.alloc D.size _).trans (A5.below (by have:=D.size;simp <;> omega) (λ k hk=> by show ¬ k=_;omega));clear A5;have h0:=V5.a0;have h3:=V5.a3;have h4:=V5.a4;have h6:=V5.a6;by_cases g1:J=1
       . subst g1
         by_cases g2:M=2
         . subst g2
           go_wp2_with (refine wpList_store_row rfl _ _ _ rfl _ rfl rfl I.out rfl (by kernel_rfl) rfl ?_);intro K H A;have q:=hid (C.trans (A.below C.size λ k hk=> by show ¬ k=_;omega));clear A;go_wp2;refine bodyPost_ret (v:=.tuple #[.agg #[qi (af.size:Nat),q0],.bool true]) ?_ rfl ?_
           . exact results_cell_tmp rfl _ _ rfl H Tryz.underlying189 rfl (by kernel_rfl)
           . exact ⟨_,none,0,0,[],true,rfl,rfl,zero_le _,(λ _ _=> Ind.triv λ _=> .inl ⟨rfl,none,rfl⟩),(λ p hp=> by cases hp),q⟩
         . have z2:(M==2)=false:=by simp [g2]
           go_wp2_with (refine wpList_store_row rfl _ _ _ rfl _ rfl rfl I.out rfl (by kernel_rfl) rfl ?_);intro K H A;have q:=hid (C.trans (A.below C.size λ k hk=> by show ¬ k=_;omega));clear A;go_wp2;refine bodyPost_ret (v:=.tuple #[.agg q0d,.bool false]) ?_ rfl ?_
           . exact results_cell_tmp rfl _ _ rfl H Tryz.underlying189 rfl (by kernel_rfl)
           . exact ⟨0,none,0,0,[],false,rfl,rfl,zero_le _,(λ _ _=> Ind.triv λ _=> .inl ⟨rfl,none,rfl⟩),(λ p hp=> by cases hp),q⟩
       . have z1:(J==1)=false:=by simp [g1]
         by_cases g3:J=2
         . subst g3
           by_cases g4:0<=G
           . have ah:=hid (I.alloc (.cells #[qi 1,qi 1,qi G,qi 0,q0] 200))
             have ad:=hid (C.alloc C.size (.cells #[qi 1,qi 1,qi G,qi 0,q0] 200));have HV:=hid (VarIs.new L #[qi 1,qi 1,qi G,qi 0,q0] 200);have ai:Hid (w.heap.size+2 < L.heap.size):=V5.lt;go_wp2_with (refine wpList_store_row rfl _ _ _ rfl _ rfl rfl ah.out rfl (by kernel_rfl) rfl ?_);intro K H A;have q:=hid (ad.trans (A.below ad.size λ k hk=> by show ¬ k=_;omega));have aj:Hid (∀X:Nat->Prop,(∀j,X j->j < w.heap.size)->Ind X K λ w=> PtsAt d w [[qi 1,qi 1,qi G,qi 0,q0]] (qs (some ⟨L.heap.size,0,none⟩) 1 1)):=λ X hx w' ha=> by have hs:=ai.out;have h1:=(HV.agr A (by show ¬ _=_;omega)).agr ha (λ h=> by have:=hx _ h;omega);exact one_ls h1 rfl ⟨rfl,1,1,G,0,none,0,0,[],rfl,rfl,λ h=> absurd h (by decide),.inl ⟨rfl,none,rfl⟩⟩
             clear A;go_wp2;refine bodyPost_ret (v:=.tuple #[.agg #[qi 0,qs (some ⟨L.heap.size,0,none⟩) 1 1],.bool true]) ?_ rfl ?_
             . exact results_cell_tmp rfl _ _ rfl H Tryz.underlying189 rfl (by kernel_rfl)
             . exact ⟨0,_,1,1,[[qi 1,qi 1,qi G,qi 0,q0]],true,rfl,rfl,lr,(λ X hx=> aj.out X hx),(λ p hp=> by rw [mem_singleton.1 hp];exact ⟨⟨1,_,rfl,by decide⟩,1,_,rfl,by decide,by decide⟩),q⟩
           . have z4:¬ (0:Int)<=G:=g4
             go_wp2_with (refine wpList_store_row rfl _ _ _ rfl _ rfl rfl I.out rfl (by kernel_rfl) rfl ?_);intro K H A;have q:=hid (C.trans (A.below C.size λ k hk=> by show ¬ k=_;omega));clear A;go_wp2;refine bodyPost_ret (v:=.tuple #[.agg q0d,.bool false]) ?_ rfl ?_
             . exact results_cell_tmp rfl _ _ rfl H Tryz.underlying189 rfl (by kernel_rfl)
             . exact ⟨0,none,0,0,[],false,rfl,rfl,zero_le _,(λ _ _=> Ind.triv λ _=> .inl ⟨rfl,none,rfl⟩),(λ p hp=> by cases hp),q⟩
         . have z3:(J==2)=false:=by simp [g3]
           go_wp2_with (refine wpList_store_row rfl _ _ _ rfl _ rfl rfl I.out rfl (by kernel_rfl) rfl ?_);intro K H A;have q:=hid (C.trans (A.below C.size λ k hk=> by show ¬ k=_;omega));clear A;go_wp2;refine bodyPost_ret (v:=.tuple #[.agg q0d,.bool false]) ?_ rfl ?_
           . exact results_cell_tmp rfl _ _ rfl H Tryz.underlying189 rfl (by kernel_rfl)
           . exact ⟨0,none,0,0,[],false,rfl,rfl,zero_le _,(λ _ _=> Ind.triv λ _=> .inl ⟨rfl,none,rfl⟩),(λ p hp=> by cases hp),q⟩
     . have zs:((sn:Int)==0)=false:=by simp;omega
       go_wp2_with (refine wpList_store_row rfl _ _ _ rfl _ rfl rfl I.out rfl (by kernel_rfl) rfl ?_);intro K H A;have q:=hid (D.trans (A.below D.size λ k hk=> by show ¬ k=_;omega));clear A;go_wp2;refine bodyPost_ret (v:=.tuple #[.agg q0d,.bool false]) ?_ rfl ?_
       . exact results_cell_tmp rfl _ _ rfl H Tryz.underlying189 rfl (by kernel_rfl)
       . exact ⟨0,none,0,0,[],false,rfl,rfl,zero_le _,(λ _ _=> Ind.triv λ _=> .inl ⟨rfl,none,rfl⟩),(λ p hp=> by cases hp),q⟩
   . have zn:((n:Int)==1)=false:=by simp;omega
     go_wp2_with (refine wpList_store_row rfl _ _ _ rfl _ rfl rfl I.out rfl (by kernel_rfl) rfl ?_);intro K H A;have q:=hid (D.trans (A.below D.size λ k hk=> by show ¬ k=_;omega));clear A;go_wp2;refine bodyPost_ret (v:=.tuple #[.agg q0d,.bool false]) ?_ rfl ?_
     . exact results_cell_tmp rfl _ _ rfl H Tryz.underlying189 rfl (by kernel_rfl)
     . exact ⟨0,none,0,0,[],false,rfl,rfl,zero_le _,(λ _ _=> Ind.triv λ _=> .inl ⟨rfl,none,rfl⟩),(λ p hp=> by cases hp),q⟩
 . have z9:(op==9)=false:=by simp [h9]
   go_wp2_with (refine wpList_store_row rfl _ _ _ rfl _ rfl rfl I.out rfl (by kernel_rfl) rfl ?_);intro K H A;have q:=hid (D.trans (A.below D.size λ k hk=> by show ¬ k=_;omega));clear A;go_wp2;refine bodyPost_ret (v:=.tuple #[.agg q0d,.bool false]) ?_ rfl ?_
   . exact results_cell_tmp rfl _ _ rfl H Tryz.underlying189 rfl (by kernel_rfl)
   . exact ⟨0,none,0,0,[],false,rfl,rfl,zero_le _,(λ _ _=> Ind.triv λ _=> .inl ⟨rfl,none,rfl⟩),(λ p hp=> by cases hp),q⟩
end
end
end Go.Proofs.YtcomoomndgbckaaGreat
