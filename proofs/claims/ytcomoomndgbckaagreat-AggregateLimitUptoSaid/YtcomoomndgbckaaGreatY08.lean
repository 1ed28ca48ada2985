/- Part 8 of the proof. -/
import Derived.Test.YtcomoomndgbckaaGreatY06
set_option maxHeartbeats 16000000
set_option maxRecDepth 100000
open Go Go.RowKit
open Go.Lib (hid)
open List (getElem?_toArray getElem?_cons_zero getElem_mem nil_append cons_append mem_iff_getElem)
open Nat (zero_le le_succ lt_succ_self)
namespace Go.Proofs.YtcomoomndgbckaaGreat
noncomputable section
theorem aQry_calls (s:Stt) (v:StV) (w:World) (h:SttAt w s v) (hz:SttS s):Calls Tryz.prog 111 #[.agg (s.cells v).toArray] w (BoolP (SelF s) w):=by
 obtain ⟨a1,n1,k1,a2,n2,k2,a3,n3,k3,a4,n4,k4,a5,n5,k5,a6,n6,k6,a7,n7,k7,a8,n8,k8,a9,n9,k9,a10,O,ac,a11,M,ab,rfl,h1,m1,h2,m2,h3,m3,h4,m4,h5,m5,h6,m6,h7,m7,h8,m8,h9,m9,am,aO,al,aN⟩:=h.shapes;have aJ:=hid h1;have aI:=hid h2;have aH:=hid h3;have aG:=hid h4;have aF:=hid h5;have aE:=hid h6;have aj:=hid h7;have ai:=hid h8;have aD:=hid h9;have ae:=hid am;have ad:=hid al;clear h1 h2 h3 h4 h5 h6 h7 h8 h9 am al;have HZ:=hid hz;have HD:Hid (SttAt w s ⟨qs a1 s.create.cols.length k1,qs a2 s.create.keys.length k2,qs a3 s.create.fks.length k3,qs a4 s.create.checks.length k4,qs a5 s.values.length k5,qs a6 s.sets.length k6,qs a7 s.items.length k7,qs a8 s.src.length k8,qs a9 s.cond.args.length k9,qs a10 s.group.length ac,qs a11 s.order.length ab⟩):=by show SttAt _ _ _;rw [aJ.out,aI.out,aH.out,aG.out,aF.out,aE.out,aj.out,ai.out,aD.out,ae.out,ad.out];exact h
 clear h hz;simp only [Stt.cells,Ex.cells,cons_append,nil_append];obtain ⟨aa,hl⟩:=gx s.limit
 have HL:=hid hl;obtain ⟨kd,ay⟩:=gx s.kind
 obtain ⟨tb,aw⟩:=gx s.table
 obtain ⟨wo,aq⟩:=gx s.cond.op
 obtain ⟨wt,ap⟩:=gx s.cond.table
 obtain ⟨wn,ar⟩:=gx s.cond.name
 obtain ⟨wi,av⟩:=gx s.cond.index
 obtain ⟨wk,au⟩:=gx s.cond.v.kind
 obtain ⟨wv,ao⟩:=gx s.cond.v.int
 obtain ⟨wx,an⟩:=gx s.cond.v.text
 obtain ⟨nm,ax⟩:=gx s.name
 rw [ay,aw,aq,ap,ar,av,au,ao,an,ax,hl];clear ay aw aq ap ar av au ao an ax hl;have Hv:=hid (VarIs.new w (q1a kd tb a1 n1 k1 a2 n2 k2 a3 n3 k3 a4 n4 k4 a5 n5 k5 a6 n6 k6 a7 n7 k7 a8 n8 k8 wo wt wn wi wk wv wx a9 n9 k9 a10 O ac a11 M ab aa nm) 40);have ah:Hid (∀o,Below w.heap.size w (w.alloc o)):=λ o=> zi.alloc lr o;go_enter Tryz.func111,Tryz.ntmps111;go_wp2;go_loopw [3] (λ z wr=> ∃k:Nat,k<=n7/\z=qi k/\Hid (∀j (h:j < s.items.length),j < k->ItF s.items[j])/\Hid (Below (w.heap.size+1) (w.alloc (.cells (q1a kd tb a1 n1 k1 a2 n2 k2 a3 n3 k3 a4 n4 k4 a5 n5 k5 a6 n6 k6 a7 n7 k7 a8 n8 k8 wo wt wn wi wk wv wx a9 n9 k9 a10 O ac a11 M ab aa nm) 40)) wr)) (λ z _=> n7 - (intOf z).toNat)
 case atStart=> exact ⟨0,zero_le _,rfl,(λ j _ h=> by omega),zi⟩
 case round=>
  obtain ⟨k,hk,rfl,Hj,K⟩:=hrel;have A:=hid ((ah.out _).trans (K.mono (le_succ _)));obtain ⟨v1,H,-⟩:=Hv.below K (lt_succ_self _);have U:=H 8;have T:=H 9;have G:=H 18;have F:=H 19;have D:=H 20;simp only [q2a] at U T G F D;clear H;by_cases hlt:k < n7
  . have J:k < s.items.length:=by rw [aj.out];exact hlt
    have V:=HD.items.mono ItE.mono A;obtain ⟨b,o,a,n,c,rfl,af,hx,W,d1,d2,d3,d4,d5,d6,d7,d8⟩:=ItAt.cell V k J;have HX:Hid (∀x,s.items[k]=x->ItF x->∀j (h:j < s.items.length),j < k+1->ItF s.items[j]):=λ x e h j hj hjk=> by
     by_cases e2:j=k
     . subst e2;rw [e];exact h
     . exact Hj.out j hj (by omega)
    replace HX:=hid (HX.out _ rfl);have HY:=hid (HZ.items _ (getElem_mem J));generalize s.items[k]=y at *;obtain ⟨ag,E'⟩:=y;simp only at W d1 d2 d3 d4 d5 d6 d7 d8 hx HY;have aC:=hid hx;clear V J hx;by_cases h0:ag < 0
    . go_wp2
      go_ret;exact ⟨false,rfl,(λ h=> (by cases h)),(A.alloc A.size _)⟩
    by_cases h5:5 < ag
    . go_wp2
      go_ret;exact ⟨false,rfl,(λ h=> (by cases h)),(A.alloc A.size _)⟩
    by_cases h1:ag=1
    . subst h1
      have HA:=hid λ w=> aAbs_calls E' (qs a n c) a n c w rfl;simp only [Ex.val] at HA;go_wp2_with fail;refine (HA.out _).mono ?_;rintro e w1 ⟨q,rfl,hq,I⟩;have Hq:=hid hq;have L:=hid ((K.alloc (by have:=K.size;simp at this;omega) _).trans (I.mono (by have:=K.size;simp at this ⊢;omega)));have C:=hid ((A.alloc A.size _).trans (I.mono (by have:=A.size;simp at this ⊢;omega)));have e0:=((VarIs.new wr #[qi 1,qi E'.op,qt E'.table,qt E'.name,qi E'.index,qi E'.v.kind,qi E'.v.int,qt E'.v.text,qs a n c] 66).below I (by simp)).cell 0;simp only [getElem?_toArray,getElem?_cons_zero] at e0;clear I hq U T G F D v1 W d1 d2 d3 d4 d5 d6 d7 d8;cases q with
      | true=>
       go_wp2;go_roundw
       case rel=> exact ⟨k+1,by omega,by go_num,HX.out ⟨by simp,.inl ⟨rfl,Hq.out (by simp)⟩⟩,L⟩
       case measure=> simp [intOf];omega
      | false=>
       go_wp2;go_ret;exact ⟨false,rfl,(λ h=> (by cases h)),C⟩
    . have HA:=hid λ w h=> aForm_calls _ E' lr HY a n c w h
      go_wp2_with fail;refine (HA.out _ (aC.mono (zi.alloc lr _))).mono ?_;rintro e w1 ⟨q,rfl,hq,I⟩;have Hq:=hid hq;have L:=hid ((K.alloc (by have:=K.size;simp at this;omega) _).trans (I.mono (by have:=K.size;simp at this ⊢;omega)));have C:=hid ((A.alloc A.size _).trans (I.mono (by have:=A.size;simp at this ⊢;omega)));clear I hq U T G F D v1 W d1 d2 d3 d4 d5 d6 d7 d8;cases q with
      | true=>
       go_wp2;go_roundw
       case rel=> exact ⟨k+1,by omega,by go_num,HX.out ⟨by simp;omega,.inr ⟨h1,Hq.out (by simp)⟩⟩,L⟩
       case measure=> simp [intOf];omega
      | false=>
       go_wp2;go_ret;exact ⟨false,rfl,(λ h=> (by cases h)),C⟩
  . obtain rfl:n7=k:=by omega
    have aM:Hid (∀e∈s.items,ItF e):=λ e he=> by obtain ⟨j,hj,rfl⟩:=mem_iff_getElem.1 he;exact Hj.out j hj (by have:=aj.out;omega)
    clear Hj;go_wp2;clear U T G F D v1;go_loopw [5] (λ z wr=> ∃k:Nat,k<=n8/\z=qi k/\Hid (Below (w.heap.size+1) (w.alloc (.cells (q1a kd tb a1 n1 k1 a2 n2 k2 a3 n3 k3 a4 n4 k4 a5 n5 k5 a6 n6 k6 a7 n7 k7 a8 n8 k8 wo wt wn wi wk wv wx a9 n9 k9 a10 O ac a11 M ab aa nm) 40)) wr)) (λ z _=> n8 - (intOf z).toNat)
    case atStart=> exact ⟨0,zero_le _,rfl,K⟩
    case round=>
     obtain ⟨k,hk,rfl,K⟩:=hrel;have A:=hid ((ah.out _).trans (K.mono (le_succ _)));obtain ⟨v1,H,-⟩:=Hv.below K (lt_succ_self _);have U:=H 8;have T:=H 9;have G:=H 18;have F:=H 19;have D:=H 20;simp only [q2a] at U T G F D;clear H;by_cases hlt:k < n8
     . have J:k < s.src.length:=by rw [ai.out];exact hlt
       have V:=HD.src.mono SrE.mono A;obtain ⟨b,o,rfl,af,W,d1⟩:=SrAt.cell V k J;have HY:=hid (HZ.src _ (getElem_mem J));generalize s.src[k]=y at *;obtain ⟨yt,ya⟩:=y;simp only at W d1 HY;clear V J;go_wp2_with fail;refine (aName_calls yt _ (by have:=HY.1;omega)).mono ?_;rintro e w1 ⟨q,rfl,-,I⟩;have L:=hid (K.trans (I.mono (by have:=K.size;simp at this ⊢;omega)));have C:=hid (A.trans (I.mono (by have:=A.size;simp at this ⊢;omega)));replace W:=(I.cell (p:=⟨b,o+k * 2,none⟩) af).trans W;replace d1:=(I.cell (p:=⟨b,o+k * 2+1,none⟩) af).trans d1;clear I U T G F D v1;obtain ⟨v1,H,-⟩:=Hv.below L (lt_succ_self _);have U:=H 8;have T:=H 9;have G:=H 18;have F:=H 19;have D:=H 20;simp only [q2a] at U T G F D;clear H;cases q with
       | false=>
        go_wp2;go_ret;exact ⟨false,rfl,(λ h=> (by cases h)),C⟩
       | true=>
        by_cases he:ya=⟨#[]⟩
        . subst he
          go_wp2;go_roundw
          case rel=> exact ⟨k+1,by omega,by go_num,L⟩
          case measure=> simp [intOf];omega
        . have aA:¬ ya.toList=[]:=mt (λ h=> empty_of'' h) he
          have aP:ya.toList.isEmpty=false:=List.isEmpty_eq_false_iff.2 aA;go_wp2_with fail;refine (aName_calls ya _ (by have:=HY.2;omega)).mono ?_;rintro e w2 ⟨q,rfl,-,I⟩;have aB:=hid (L.trans (I.mono (by have:=L.size;simp at this ⊢;omega)));have az:=hid (C.trans (I.mono (by have:=C.size;simp at this ⊢;omega)));clear I U T G F D v1 W d1;cases q with
          | true=>
           go_wp2;go_roundw
           case rel=> exact ⟨k+1,by omega,by go_num,aB⟩
           case measure=> simp [intOf];omega
          | false=>
           go_wp2;go_ret;exact ⟨false,rfl,(λ h=> (by cases h)),az⟩
     . obtain rfl:n8=k:=by omega
       go_wp2;clear U T G F D v1;go_loopw [6] (λ z wr=> ∃k:Nat,k<=O/\z=qi k/\Hid (∀j (h:j < s.group.length),j < k->s.group[j].op=2/\Fm s.group[j])/\Hid (Below (w.heap.size+1) (w.alloc (.cells (q1a kd tb a1 n1 k1 a2 n2 k2 a3 n3 k3 a4 n4 k4 a5 n5 k5 a6 n6 k6 a7 n7 k7 a8 n8 k8 wo wt wn wi wk wv wx a9 n9 k9 a10 O ac a11 M ab aa nm) 40)) wr)) (λ z _=> O - (intOf z).toNat)
       case atStart=> exact ⟨0,zero_le _,rfl,(λ j _ h=> by omega),K⟩
       case round=>
        obtain ⟨k,hk,rfl,Hj,K⟩:=hrel;have A:=hid ((ah.out _).trans (K.mono (le_succ _)));obtain ⟨v1,H,-⟩:=Hv.below K (lt_succ_self _);have U:=H 8;have T:=H 9;have G:=H 18;have F:=H 19;have D:=H 20;simp only [q2a] at U T G F D;clear H;by_cases hlt:k < O
        . have J:k < s.group.length:=by rw [ae.out];exact hlt
          obtain ⟨b,o,rfl⟩:=HD.group.addr J;obtain ⟨s',ak,W,d1,d2,d3,d4,d5,d6,d7⟩:=(HD.group.mono A).cell k J;obtain ⟨sa,sn,sc,rfl,-,-⟩:=ak.shape;have HX:Hid (∀x,s.group[k]=x->(x.op=2/\Fm x)->∀j (h:j < s.group.length),j < k+1->(s.group[j].op=2/\Fm s.group[j])):=λ x e h j hj hjk=> by
           by_cases e2:j=k
           . subst e2;rw [e];exact h
           . exact Hj.out j hj (by omega)
          replace HX:=hid (HX.out _ rfl);have HY:=hid (HZ.group _ (getElem_mem J));generalize s.group[k]=E' at *;have HO:Hid (∃p,E'.op=p):=⟨_,rfl⟩
          by_cases h2:E'.op=2
          . have HA:=hid (aForm_calls _ E' lr HY _ _ _ _ ak)
            have H2:=hid h2;rw [h2] at HA;rw [h2] at W;clear h2;go_wp2_with fail;refine HA.mono ?_;rintro e w1 ⟨q,rfl,hq,I⟩;have Hq:=hid hq;have L:=hid (K.trans (I.mono (by have:=K.size;simp at this ⊢;omega)));have C:=hid (A.trans (I.mono (by have:=A.size;simp at this ⊢;omega)));clear I U T G F D v1 hq W d1 d2 d3 d4 d5 d6 d7;cases q with
            | true=>
             go_wp2;go_roundw
             case rel=> exact ⟨k+1,by omega,by go_num,HX.out ⟨H2,Hq.out (by simp)⟩,L⟩
             case measure=> simp [intOf];omega
            | false=>
             go_wp2;go_ret;exact ⟨false,rfl,(λ h=> (by cases h)),C⟩
          . obtain ⟨p,hp⟩:=HO
            rw [hp] at h2 W;go_wp2;go_ret;exact ⟨false,rfl,(λ h=> (by cases h)),A⟩
        . obtain rfl:O=k:=by omega
          have aL:Hid (∀e∈s.group,e.op=2/\Fm e):=λ e he=> by obtain ⟨j,hj,rfl⟩:=mem_iff_getElem.1 he;exact Hj.out j hj (by have:=ae.out;omega)
          clear Hj;go_wp2;clear U T G F D v1;go_loopw [7] (λ z wr=> ∃k:Nat,k<=M/\z=qi k/\Hid (∀j (h:j < s.order.length),j < k->1<=s.order[j].item/\s.order[j].item<=2147483648)/\Hid (Below (w.heap.size+1) (w.alloc (.cells (q1a kd tb a1 n1 k1 a2 n2 k2 a3 n3 k3 a4 n4 k4 a5 n5 k5 a6 n6 k6 a7 n7 k7 a8 n8 k8 wo wt wn wi wk wv wx a9 n9 k9 a10 O ac a11 M ab aa nm) 40)) wr)) (λ z _=> M - (intOf z).toNat)
          case atStart=> exact ⟨0,zero_le _,rfl,(λ j _ h=> by omega),K⟩
          case round=>
           obtain ⟨k,hk,rfl,Hj,K⟩:=hrel;have A:=hid ((ah.out _).trans (K.mono (le_succ _)));obtain ⟨v1,H,-⟩:=Hv.below K (lt_succ_self _);have U:=H 8;have T:=H 9;have G:=H 18;have F:=H 19;have D:=H 20;simp only [q2a] at U T G F D;clear H;by_cases hlt:k < M
           . have J:k < s.order.length:=by rw [ad.out];exact hlt
             have V:=HD.order.mono OrE.mono A;obtain ⟨b,o,rfl,af,W,d1⟩:=OrAt.cell V k J;have HX:Hid (∀x,s.order[k]=x->(1<=x.item/\x.item<=2147483648)->∀j (h:j < s.order.length),j < k+1->(1<=s.order[j].item/\s.order[j].item<=2147483648)):=λ x e h j hj hjk=> by
              by_cases e2:j=k
              . subst e2;rw [e];exact h
              . exact Hj.out j hj (by omega)
             replace HX:=hid (HX.out _ rfl);generalize s.order[k]=y at *;obtain ⟨yi,yd⟩:=y;simp only at W d1;clear V J;by_cases h1:yi < 1
             . go_wp2
               go_ret;exact ⟨false,rfl,(λ h=> (by cases h)),A⟩
             have H1:=hid h1;go_wp2_with fail;refine (aNumb_calls yi _).mono ?_;rintro e w1 ⟨q,rfl,hq,I⟩;have Hq:=hid hq;have L:=hid (K.trans (I.mono (by have:=K.size;simp at this ⊢;omega)));have C:=hid (A.trans (I.mono (by have:=A.size;simp at this ⊢;omega)));clear I U T G F D v1 hq W d1;cases q with
             | true=>
              go_wp2;go_roundw
              case rel=> exact ⟨k+1,by omega,by go_num,HX.out ⟨by have:=H1.out;show 1<=yi;omega,(Hq.out (by simp)).2⟩,L⟩
              case measure=> simp [intOf];omega
             | false=>
              go_wp2;go_ret;exact ⟨false,rfl,(λ h=> (by cases h)),C⟩
           . obtain rfl:M=k:=by omega
             have aK:Hid (∀e∈s.order,1<=e.item/\e.item<=2147483648):=λ e he=> by obtain ⟨j,hj,rfl⟩:=mem_iff_getElem.1 he;exact Hj.out j hj (by have:=ad.out;omega)
             clear Hj;by_cases h8:n8=0
             . subst h8
               go_wp2;go_ret;exact ⟨false,rfl,(λ h=> (by cases h)),A⟩
             have aQ:0 < n8:=by omega
             go_wp2_with fail;refine (aNumb_calls aa _).mono ?_;rintro e w1 ⟨q,rfl,hq,I⟩;have Hq:=hid hq;have L:=hid (K.trans (I.mono (by have:=K.size;simp at this ⊢;omega)));have C:=hid (A.trans (I.mono (by have:=A.size;simp at this ⊢;omega)));clear I U T G F D v1 hq;go_wp2;go_ret;exact ⟨q,rfl,(λ h=> ⟨aM,aL,aK,by have:=ai.out;omega,by have:=HL.out;rw [this];exact Hq.out h⟩),C⟩
end
end Go.Proofs.YtcomoomndgbckaaGreat
