/- Part 10 of the proof. -/
import Derived.Test.YtcomoomndgbckaaGreatY07
import Derived.Test.YtcomoomndgbckaaGreatY08
set_option maxHeartbeats 16000000
set_option maxRecDepth 100000
open Go Go.RowKit
open Go.Lib (hid)
open List (nil_append cons_append)
namespace Go.Proofs.YtcomoomndgbckaaGreat
noncomputable section
structure StF (s:Stt):Prop where
 create:s.kind=1->(∀c∈s.create.cols,ColF c)/\∀e∈s.create.checks,Fm e
 values:s.kind=2->∀x∈s.values,∀e∈x,Fm e
 sets:s.kind=3->∀x∈s.sets,Fm x.e
 sel:s.kind=5->SelF s
 cond:s.cond.op=0\/Fm s.cond
theorem aFormS_calls (s:Stt) (v:StV) (w:World) (h:SttAt w s v) (hz:SttS s):Calls Tryz.prog 81 #[.agg (s.cells v).toArray] w (BoolP (StF s) w):=by
 obtain ⟨a1,O,J,a2,M,k2,a3,L,k3,a4,K,k4,a5,n5,k5,a6,n6,k6,a7,n7,k7,a8,n8,k8,a9,n9,k9,a10,I,G,a11,H,F,rfl,h1,m1,h2,m2,h3,m3,h4,m4,h5,m5,h6,m6,h7,m7,h8,m8,h9,m9,aO,aU,aN,aT⟩:=h.shapes;have an:=hid h1;have am:=hid h2;have al:=hid h3;have ak:=hid h4;have aj:=hid h5;have ai:=hid h6;have aA:=hid h7;have az:=hid h8;have ah:=hid h9;have af:=hid aO;have ae:=hid aN;clear h1 h2 h3 h4 h5 h6 h7 h8 h9 aO aN;have HZ:=hid hz;have HD:Hid (SttAt w s ⟨qs a1 s.create.cols.length J,qs a2 s.create.keys.length k2,qs a3 s.create.fks.length k3,qs a4 s.create.checks.length k4,qs a5 s.values.length k5,qs a6 s.sets.length k6,qs a7 s.items.length k7,qs a8 s.src.length k8,qs a9 s.cond.args.length k9,qs a10 s.group.length G,qs a11 s.order.length F⟩):=by show SttAt _ _ _;rw [an.out,am.out,al.out,ak.out,aj.out,ai.out,aA.out,az.out,ah.out,af.out,ae.out];exact h
 clear h hz;simp only [Stt.cells,Ex.cells,cons_append,nil_append];obtain ⟨U,hl⟩:=gx s.limit
 have HL:=hid hl;obtain ⟨kd,aL⟩:=gx s.kind
 obtain ⟨tb,aJ⟩:=gx s.table
 obtain ⟨wo,aF⟩:=gx s.cond.op
 obtain ⟨wt,aE⟩:=gx s.cond.table
 obtain ⟨wn,aG⟩:=gx s.cond.name
 obtain ⟨wi,aI⟩:=gx s.cond.index
 obtain ⟨wk,aH⟩:=gx s.cond.v.kind
 obtain ⟨wv,aD⟩:=gx s.cond.v.int
 obtain ⟨wx,aC⟩:=gx s.cond.v.text
 obtain ⟨nm,aK⟩:=gx s.name
 rw [aL,aJ,aF,aE,aG,aI,aH,aD,aC,aK,hl];have W:=hid aL;have ay:=hid aJ;have ag:=hid aK;have V:=hid (And.intro aF (And.intro aE (And.intro aG (And.intro aI (And.intro aH (And.intro aD aC))))));clear aL aJ aF aE aG aI aH aD aC aK hl;have Hv:=hid (VarIs.new w (q1a kd tb a1 O J a2 M k2 a3 L k3 a4 K k4 a5 n5 k5 a6 n6 k6 a7 n7 k7 a8 n8 k8 wo wt wn wi wk wv wx a9 n9 k9 a10 I G a11 H F U nm) 40);have aP:=hid (Hv.alloc (.cells #[qs a1 O J,qs a2 M k2,qs a3 L k3,qs a4 K k4] 29));have Hu:=hid (VarIs.new1 w (.cells (q1a kd tb a1 O J a2 M k2 a3 L k3 a4 K k4 a5 n5 k5 a6 n6 k6 a7 n7 k7 a8 n8 k8 wo wt wn wi wk wv wx a9 n9 k9 a10 I G a11 H F U nm) 40) #[qs a1 O J,qs a2 M k2,qs a3 L k3,qs a4 K k4] 29);clear Hv;have Hv:=aP;clear aP;have D:Hid (∀o,Below w.heap.size w ((w.alloc (.cells (q1a kd tb a1 O J a2 M k2 a3 L k3 a4 K k4 a5 n5 k5 a6 n6 k6 a7 n7 k7 a8 n8 k8 wo wt wn wi wk wv wx a9 n9 k9 a10 I G a11 H F U nm) 40)).alloc o)):=λ o=> (zi.alloc lr _).alloc (by simp) o;go_enter Tryz.func81,Tryz.ntmps81;have HB:Hid (Below w.heap.size w ((w.alloc (.cells (q1a kd tb a1 O J a2 M k2 a3 L k3 a4 K k4 a5 n5 k5 a6 n6 k6 a7 n7 k7 a8 n8 k8 wo wt wn wi wk wv wx a9 n9 k9 a10 I G a11 H F U nm) 40)).alloc (.cells #[qs a1 O J,qs a2 M k2,qs a3 L k3,qs a4 K k4] 29))):=hid (D.out _);have aa:Hid (Below (w.heap.size+2) ((w.alloc (.cells (q1a kd tb a1 O J a2 M k2 a3 L k3 a4 K k4 a5 n5 k5 a6 n6 k6 a7 n7 k7 a8 n8 k8 wo wt wn wi wk wv wx a9 n9 k9 a10 I G a11 H F U nm) 40)).alloc (.cells #[qs a1 O J,qs a2 M k2,qs a3 L k3,qs a4 K k4] 29)) ((w.alloc (.cells (q1a kd tb a1 O J a2 M k2 a3 L k3 a4 K k4 a5 n5 k5 a6 n6 k6 a7 n7 k7 a8 n8 k8 wo wt wn wi wk wv wx a9 n9 k9 a10 I G a11 H F U nm) 40)).alloc (.cells #[qs a1 O J,qs a2 M k2,qs a3 L k3,qs a4 K k4] 29))):=hid zi;go_upto_region 3 with (fail)
 go_cut [50] from 11 to 50 (λ z wy=> ∃q:Bool,z=.bool q/\((w.alloc (.cells (q1a kd tb a1 O J a2 M k2 a3 L k3 a4 K k4 a5 n5 k5 a6 n6 k6 a7 n7 k7 a8 n8 k8 wo wt wn wi wk wv wx a9 n9 k9 a10 I G a11 H F U nm) 40)).alloc (.cells #[qs a1 O J,qs a2 M k2,qs a3 L k3,qs a4 K k4] 29))=wy)
 case first=>
  clear W ay ag V HL an am al ak aj ai aA az ah af ae HD HZ Hv Hu D HB aa
  as_aux_lemma=>
   go_wp2 <;> (subst_vars;go_meet;exact ⟨_,rfl,rfl⟩)
 obtain ⟨q,rfl,rfl⟩:=hcut;cases q with
 | true=>
  go_wp2;go_ret;exact ⟨false,rfl,(λ h=> (by cases h)),HB⟩
 | false=>
  go_upto_region 5 with (fail)
  go_cut [75] from 51 to 75 (λ z wy=> ∃q:Bool,z=.bool q/\((w.alloc (.cells (q1a kd tb a1 O J a2 M k2 a3 L k3 a4 K k4 a5 n5 k5 a6 n6 k6 a7 n7 k7 a8 n8 k8 wo wt wn wi wk wv wx a9 n9 k9 a10 I G a11 H F U nm) 40)).alloc (.cells #[qs a1 O J,qs a2 M k2,qs a3 L k3,qs a4 K k4] 29))=wy)
  case first=>
   clear W ay ag V HL an am al ak aj ai aA az ah af ae HD HZ Hv Hu D HB aa
   as_aux_lemma=>
    go_wp2 <;> (subst_vars;go_meet;exact ⟨_,rfl,rfl⟩)
  obtain ⟨q,rfl,rfl⟩:=hcut;cases q with
  | true=>
   go_wp2;go_ret;exact ⟨false,rfl,(λ h=> (by cases h)),HB⟩
  | false=>
   go_upto_region 7 with (fail)
   go_cut [5,6] from 76 to 87 (λ z z2 wy=> (∃q:Bool,z=.bool q)/\(∃q:Bool,z2=.bool q)/\((w.alloc (.cells (q1a kd tb a1 O J a2 M k2 a3 L k3 a4 K k4 a5 n5 k5 a6 n6 k6 a7 n7 k7 a8 n8 k8 wo wt wn wi wk wv wx a9 n9 k9 a10 I G a11 H F U nm) 40)).alloc (.cells #[qs a1 O J,qs a2 M k2,qs a3 L k3,qs a4 K k4] 29))=wy)
   case first=>
    clear W ay ag V HL an am al ak aj ai aA az ah af ae HD HZ Hv Hu D HB aa
    as_aux_lemma=>
     go_wp2 <;> (subst_vars;go_meet;exact ⟨⟨_,rfl⟩,⟨_,rfl⟩,rfl⟩)
   obtain ⟨⟨q5,rfl⟩,⟨q6,rfl⟩,rfl⟩:=hcut;go_upto_region 8 with (fail)
   go_cut [121] from 88 to 121 (λ z wy=> ∃q:Bool,z=.bool q/\Hid (Below (w.heap.size+2) ((w.alloc (.cells (q1a kd tb a1 O J a2 M k2 a3 L k3 a4 K k4 a5 n5 k5 a6 n6 k6 a7 n7 k7 a8 n8 k8 wo wt wn wi wk wv wx a9 n9 k9 a10 I G a11 H F U nm) 40)).alloc (.cells #[qs a1 O J,qs a2 M k2,qs a3 L k3,qs a4 K k4] 29)) wy))
   case first=>
    as_aux_lemma=>
     cases q5 with
     | true=>
      go_wp2_with fail;refine (aName_calls tb _ (by have:=HZ.table;rw [ay.out] at this;omega)).mono ?_;rintro e w1 ⟨q,rfl,-,T⟩;have ad:=hid (aa.trans (T.mono (by have:=aa.size;simp at this ⊢ <;> omega)));clear T;cases q with
      | false=>
       go_wp2;go_meet;exact ⟨_,rfl,ad⟩
      | true=>
       cases q6 with
       | true=>
        obtain ⟨v1,C,-⟩:=Hv.below ad (by omega);have ac:=C 21;simp only [q2a] at ac;clear C;go_wp2_with fail;refine (aName_calls nm _ (by have:=HZ.name;rw [ag.out] at this;omega)).mono ?_;rintro e w2 ⟨q,rfl,-,T⟩;have aS:=hid (ad.trans (T.mono (by have:=ad.size;simp at this ⊢ <;> omega)));clear T;clear ac v1;cases q <;> (go_wp2;go_meet;exact ⟨_,rfl,aS⟩)
       | false=>
        obtain ⟨v1,C,-⟩:=Hv.below ad (by omega);have ac:=C 21;simp only [q2a] at ac;clear C;go_wp2 <;> (go_meet;exact ⟨_,rfl,ad⟩)
     | false=>
      by_cases he:tb=⟨#[]⟩
      . subst he
        cases q6 with
        | true=>
         obtain ⟨v1,C,-⟩:=Hv.below aa (by omega);have ac:=C 21;simp only [q2a] at ac;clear C;go_wp2_with fail;refine (aName_calls nm _ (by have:=HZ.name;rw [ag.out] at this;omega)).mono ?_;rintro e w1 ⟨q,rfl,-,T⟩;have ad:=hid (aa.trans (T.mono (by have:=aa.size;simp at this ⊢ <;> omega)));clear T;clear ac v1;cases q <;> (go_wp2;go_meet;exact ⟨_,rfl,ad⟩)
        | false=>
         obtain ⟨v1,C,-⟩:=Hv.below aa (by omega);have ac:=C 21;simp only [q2a] at ac;clear C;go_wp2 <;> (go_meet;exact ⟨_,rfl,aa⟩)
      . have aQ:¬ tb.toList=[]:=mt (λ h=> empty_of'' h) he
        have aV:tb.toList.isEmpty=false:=List.isEmpty_eq_false_iff.2 aQ;go_wp2;go_meet;exact ⟨_,rfl,aa⟩
   obtain ⟨q,rfl,aB⟩:=hcut;cases q with
   | true=>
    go_wp2;go_ret;exact ⟨false,rfl,(λ h=> (by cases h)),(D.out _).trans (aB.mono (by omega))⟩
   | false=>
    go_upto_region 10 with (fail)
    go_cut [139] from 122 to 139 (λ z wy=> ∃q:Bool,z=.bool q/\Hid (q=false->s.cond.op=0\/Fm s.cond)/\Hid (Below (w.heap.size+2) ((w.alloc (.cells (q1a kd tb a1 O J a2 M k2 a3 L k3 a4 K k4 a5 n5 k5 a6 n6 k6 a7 n7 k7 a8 n8 k8 wo wt wn wi wk wv wx a9 n9 k9 a10 I G a11 H F U nm) 40)).alloc (.cells #[qs a1 O J,qs a2 M k2,qs a3 L k3,qs a4 K k4] 29)) wy))
    case first=>
     as_aux_lemma=>
      obtain ⟨v1,C,-⟩:=Hv.below aB (by omega);have ax:=C 10;have aw:=C 11;have av:=C 12;have au:=C 13;have ar:=C 14;have aq:=C 15;have ap:=C 16;have ao:=C 17;simp only [q2a] at ax aw av au ar aq ap ao;clear C;have HA:=hid λ w=> aAbs_calls s.cond (qs a9 n9 k9) a9 n9 k9 w rfl;simp only [Ex.val] at HA;rw [V.1,V.2.1,V.2.2.1,V.2.2.2.1,V.2.2.2.2.1,V.2.2.2.2.2.1,V.2.2.2.2.2.2] at HA;go_wp2_with fail;refine (HA.out _).mono ?_;rintro e w4 ⟨q,rfl,hq,T⟩;have Hq:=hid hq;have A:=hid (aB.trans (T.mono (by have:=aB.size;simp at this ⊢ <;> omega)));clear T;clear ax aw av au ar aq ap ao v1;clear hq HA;cases q with
      | true=>
       go_wp2;go_meet;exact ⟨_,rfl,(λ _=> .inl (V.1.trans (Hq.out (by simp)))),A⟩
      | false=>
       by_cases h3:kd < 3
       . go_wp2
         go_meet;exact ⟨_,rfl,(λ h=> (by cases h)),A⟩
       by_cases h5:5 < kd
       . go_wp2
         go_meet;exact ⟨_,rfl,(λ h=> (by cases h)),A⟩
       have HA:=hid λ w h=> aForm_calls _ s.cond lr HZ.cond a9 n9 k9 w h;rw [V.1,V.2.1,V.2.2.1,V.2.2.2.1,V.2.2.2.2.1,V.2.2.2.2.2.1,V.2.2.2.2.2.2] at HA;obtain ⟨v1,C,-⟩:=Hv.below A (by omega);have ax:=C 10;have aw:=C 11;have av:=C 12;have au:=C 13;have ar:=C 14;have aq:=C 15;have ap:=C 16;have ao:=C 17;simp only [q2a] at ax aw av au ar aq ap ao;clear C;have HX:=hid (HD.cond.mono ((D.out _).trans (A.mono (by omega))));simp only [ah.out] at HX;go_wp2_with fail;refine (HA.out _ HX).mono ?_;rintro e w5 ⟨q,rfl,hq,T⟩;have Hq:=hid hq;have ab:=hid (A.trans (T.mono (by have:=A.size;simp at this ⊢ <;> omega)));clear T;clear ax aw av au ar aq ap ao v1;clear hq HA;cases q with
       | true=>
        go_wp2;go_meet;exact ⟨_,rfl,(λ _=> .inr (Hq.out (by simp))),ab⟩
       | false=>
        go_wp2;go_meet;exact ⟨_,rfl,(λ h=> (by cases h)),ab⟩
    obtain ⟨q,rfl,HQ,A⟩:=hcut;cases q with
    | true=>
     go_wp2;go_ret;exact ⟨false,rfl,(λ h=> (by cases h)),(D.out _).trans (A.mono (by omega))⟩
    | false=>
     replace HQ:=hid (HQ.out (by simp));by_cases h1:kd=1
     . subst h1
       as_aux_lemma=>
        obtain ⟨v1,C,-⟩:=Hv.below A (by omega);have c0:=C 0;simp only [q2a] at c0;clear C;have u2:=Hu.below A (by simp);have g0:=u2.a0;have g1:=u2.a1;have g2:=u2.a2;have g3:=u2.a3;clear u2;have aM:=hid W;have HX:Hid (DfAt wc s.create (qs a1 O J) (qs a2 M k2) (qs a3 L k3) (qs a4 K k4)):=by have:=HD.create.mono ((D.out _).trans (A.mono (by omega)));rw [an.out,am.out,al.out,ak.out] at this;exact this
        go_wp2_with fail;refine (aCre_calls s.create a1 a2 a3 a4 O M L K J k2 k3 k4 _ HX HZ.create).mono ?_;rintro e w5 ⟨q,rfl,hq,T⟩;have Hq:=hid hq;have ab:=hid (A.trans (T.mono (by have:=A.size;simp at this ⊢ <;> omega)));clear T;clear hq;go_wp2;go_ret;exact ⟨q,rfl,(λ h=> ⟨λ _=> Hq.out h,(λ h=> absurd (W.symm.trans h) (by decide)),(λ h=> absurd (W.symm.trans h) (by decide)),(λ h=> absurd (W.symm.trans h) (by decide)),HQ⟩),((D.out _).trans (ab.mono (by omega)))⟩
     by_cases h2:kd=2
     . subst h2
       as_aux_lemma=>
        obtain ⟨v1,C,-⟩:=Hv.below A (by omega);have c6:=C 6;simp only [q2a] at c6;clear C;have aM:=hid W;have HX:=hid (HD.values.mono ExsE.mono ((D.out _).trans (A.mono (by omega))));rw [<-aj.out] at c6;go_wp2_with fail;refine (aInsr_calls s.values a5 k5 _ HX HZ.values).mono ?_;rintro e w5 ⟨q,rfl,hq,T⟩;have Hq:=hid hq;have ab:=hid (A.trans (T.mono (by have:=A.size;simp at this ⊢ <;> omega)));clear T;clear hq;go_wp2;go_ret;exact ⟨q,rfl,(λ h=> ⟨(λ h=> absurd (W.symm.trans h) (by decide)),λ _=> Hq.out h,(λ h=> absurd (W.symm.trans h) (by decide)),(λ h=> absurd (W.symm.trans h) (by decide)),HQ⟩),((D.out _).trans (ab.mono (by omega)))⟩
     by_cases h3:kd=3
     . subst h3
       as_aux_lemma=>
        obtain ⟨v1,C,-⟩:=Hv.below A (by omega);have c7:=C 7;simp only [q2a] at c7;clear C;have aM:=hid W;have HX:=hid (HD.sets.mono AsE.mono ((D.out _).trans (A.mono (by omega))));rw [<-ai.out] at c7;go_wp2_with fail;refine (aSets_calls s.sets a6 k6 _ HX HZ.sets).mono ?_;rintro e w5 ⟨q,rfl,hq,T⟩;have Hq:=hid hq;have ab:=hid (A.trans (T.mono (by have:=A.size;simp at this ⊢ <;> omega)));clear T;clear hq;go_wp2;go_ret;exact ⟨q,rfl,(λ h=> ⟨(λ h=> absurd (W.symm.trans h) (by decide)),(λ h=> absurd (W.symm.trans h) (by decide)),λ _=> Hq.out h,(λ h=> absurd (W.symm.trans h) (by decide)),HQ⟩),((D.out _).trans (ab.mono (by omega)))⟩
     by_cases h5:kd=5
     . subst h5
       as_aux_lemma=>
        have c0:=(Hv.below A (by omega)).a0;have aM:=hid W;have HX:Hid (SttAt wc s ⟨qs a1 O J,qs a2 M k2,qs a3 L k3,qs a4 K k4,qs a5 n5 k5,qs a6 n6 k6,qs a7 n7 k7,qs a8 n8 k8,qs a9 n9 k9,qs a10 I G,qs a11 H F⟩):=by have:=HD.mono ((D.out _).trans (A.mono (by omega)));rw [an.out,am.out,al.out,ak.out,aj.out,ai.out,aA.out,az.out,ah.out,af.out,ae.out] at this;exact this
        have aR:=hid (Hv.below A (by omega)).cell;have HA:Hid (∀w',SttAt w' s ⟨qs a1 O J,qs a2 M k2,qs a3 L k3,qs a4 K k4,qs a5 n5 k5,qs a6 n6 k6,qs a7 n7 k7,qs a8 n8 k8,qs a9 n9 k9,qs a10 I G,qs a11 H F⟩->Calls Tryz.prog 111 #[.agg (q1a 5 tb a1 O J a2 M k2 a3 L k3 a4 K k4 a5 n5 k5 a6 n6 k6 a7 n7 k7 a8 n8 k8 wo wt wn wi wk wv wx a9 n9 k9 a10 I G a11 H F U nm)] w' (BoolP (SelF s) w')):=λ w' h=> by have:=aQry_calls s _ w' h HZ;simp only [Stt.cells,Ex.cells,cons_append,nil_append,W.out,ay.out,ag.out,HL.out,V.1,V.2.1,V.2.2.1,V.2.2.2.1,V.2.2.2.2.1,V.2.2.2.2.2.1,V.2.2.2.2.2.2] at this;exact this
        go_wp2_with (refine wpList_load_stmt rfl _ rfl _ rfl aR.out rfl ?_);refine (HA.out _ HX).mono ?_;rintro e w5 ⟨q,rfl,hq,T⟩;have Hq:=hid hq;have ab:=hid (A.trans (T.mono (by have:=A.size;simp at this ⊢ <;> omega)));clear T;clear hq;go_wp2;go_ret;exact ⟨q,rfl,(λ h=> ⟨(λ h=> absurd (W.symm.trans h) (by decide)),(λ h=> absurd (W.symm.trans h) (by decide)),(λ h=> absurd (W.symm.trans h) (by decide)),λ _=> Hq.out h,HQ⟩),((D.out _).trans (ab.mono (by omega)))⟩
     as_aux_lemma=>
      go_wp2 <;> (go_ret;exact ⟨_,rfl,(λ _=> ⟨(λ h=> absurd (W.symm.trans h) h1),(λ h=> absurd (W.symm.trans h) h2),(λ h=> absurd (W.symm.trans h) h3),(λ h=> absurd (W.symm.trans h) h5),HQ⟩),(D.out _).trans (A.mono (by omega))⟩)
end
end Go.Proofs.YtcomoomndgbckaaGreat
