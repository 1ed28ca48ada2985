/- Part 19 of the proof. -/
import Derived.Test.YtcomoomndgbckaaGreatY14
set_option maxHeartbeats 16000000
set_option maxRecDepth 100000
open Go Go.RowKit
open Go.Lib (hid)
open List (getElem_mem length_append nil_append length_take cons_append take_succ_eq_append_getElem take_length mem_iff_getElem)
open Nat (zero_le le_succ lt_succ_self le_trans)
namespace Go.Proofs.YtcomoomndgbckaaGreat
noncomputable section
section
open Go.Sort
def InvP (s:Stt) (w:World) (e:Ending) (w':World):Prop:=∃q:Bool,e=.returned (.bool q)/\(q=false->∀f∈s.create.fks,f.cols.length=f.target.length)/\Below w.heap.size w w'
theorem bInval_calls (s:Stt) (v:StV) (w:World) (h:SttAt w s v) (hs:SttS s):Calls Tryz.prog 102 #[.agg (s.cells v).toArray] w (InvP s w):=by
 obtain ⟨a1,C,T,a2,G,k2,a3,F,k3,a4,U,k4,a5,n5,k5,a6,n6,k6,a7,n7,k7,a8,n8,k8,a9,n9,k9,a10,L,I,a11,K,H,rfl,h1,m1,h2,m2,h3,m3,h4,m4,h5,m5,h6,m6,h7,m7,h8,m8,h9,m9,av,aM,au,aL⟩:=h.shapes;have aB:=hid h1;have ay:=hid h2;have am:=hid h3;have aK:=hid h4;have aJ:=hid h5;have aI:=hid h6;have aH:=hid h7;have aG:=hid h8;have aF:=hid h9;have aA:=hid av;have az:=hid au;clear h1 h2 h3 h4 h5 h6 h7 h8 h9 av au;have HS:=hid hs;have HD:Hid (SttAt w s ⟨qs a1 s.create.cols.length T,qs a2 s.create.keys.length k2,qs a3 s.create.fks.length k3,qs a4 s.create.checks.length k4,qs a5 s.values.length k5,qs a6 s.sets.length k6,qs a7 s.items.length k7,qs a8 s.src.length k8,qs a9 s.cond.args.length k9,qs a10 s.group.length I,qs a11 s.order.length H⟩):=by show SttAt _ _ _;rw [aB.out,ay.out,am.out,aK.out,aJ.out,aI.out,aH.out,aG.out,aF.out,aA.out,az.out];exact h
 clear h hs;simp only [Stt.cells,Ex.cells,cons_append,nil_append];obtain ⟨M,hl⟩:=gx s.limit
 have HL:=hid hl;obtain ⟨kd,al⟩:=gx s.kind
 obtain ⟨tb,aj⟩:=gx s.table
 obtain ⟨wo,af⟩:=gx s.cond.op
 obtain ⟨wt,ae⟩:=gx s.cond.table
 obtain ⟨wn,ag⟩:=gx s.cond.name
 obtain ⟨wi,ai⟩:=gx s.cond.index
 obtain ⟨wk,ah⟩:=gx s.cond.v.kind
 obtain ⟨wv,ad⟩:=gx s.cond.v.int
 obtain ⟨wx,ac⟩:=gx s.cond.v.text
 obtain ⟨nm,ak⟩:=gx s.name
 rw [al,aj,af,ae,ag,ai,ah,ad,ac,ak,hl];have HK:=hid al;have aE:=hid aj;have aV:=hid ak;have HC:=hid (And.intro af (And.intro ae (And.intro ag (And.intro ai (And.intro ah (And.intro ad ac))))));clear al aj af ae ag ai ah ad ac ak hl;have Hv:=hid (VarIs.new w (q1a kd tb a1 C T a2 G k2 a3 F k3 a4 U k4 a5 n5 k5 a6 n6 k6 a7 n7 k7 a8 n8 k8 wo wt wn wi wk wv wx a9 n9 k9 a10 L I a11 K H M nm) 40);have aw:=hid (Hv.alloc (.cells #[qs a1 C T,qs a2 G k2,qs a3 F k3,qs a4 U k4] 29));have Hu:=hid (VarIs.new1 w (.cells (q1a kd tb a1 C T a2 G k2 a3 F k3 a4 U k4 a5 n5 k5 a6 n6 k6 a7 n7 k7 a8 n8 k8 wo wt wn wi wk wv wx a9 n9 k9 a10 L I a11 K H M nm) 40) #[qs a1 C T,qs a2 G k2,qs a3 F k3,qs a4 U k4] 29);clear Hv;have Hv:=aw;clear aw;have aa:Hid (∀o,Below w.heap.size w ((w.alloc (.cells (q1a kd tb a1 C T a2 G k2 a3 F k3 a4 U k4 a5 n5 k5 a6 n6 k6 a7 n7 k7 a8 n8 k8 wo wt wn wi wk wv wx a9 n9 k9 a10 L I a11 K H M nm) 40)).alloc o)):=λ o=> (zi.alloc lr _).alloc (by simp) o;go_enter Tryz.func102,Tryz.ntmps102;have an:Hid (Below (w.heap.size+2) ((w.alloc (.cells (q1a kd tb a1 C T a2 G k2 a3 F k3 a4 U k4 a5 n5 k5 a6 n6 k6 a7 n7 k7 a8 n8 k8 wo wt wn wi wk wv wx a9 n9 k9 a10 L I a11 K H M nm) 40)).alloc (.cells #[qs a1 C T,qs a2 G k2,qs a3 F k3,qs a4 U k4] 29)) ((w.alloc (.cells (q1a kd tb a1 C T a2 G k2 a3 F k3 a4 U k4 a5 n5 k5 a6 n6 k6 a7 n7 k7 a8 n8 k8 wo wt wn wi wk wv wx a9 n9 k9 a10 L I a11 K H M nm) 40)).alloc (.cells #[qs a1 C T,qs a2 G k2,qs a3 F k3,qs a4 U k4] 29))):=hid zi;have aR:tb.size<=2000000:=aE.out ▸ HS.table;go_wp2_with fail;refine (bName_calls tb _ (by omega)).mono ?_;rintro e w1 ⟨q,rfl,-,hb⟩;have D:=hid (an.trans (hb.mono (by have:=an.size;simp at this ⊢)));have A:=hid ((aa.out _).trans (D.mono (by omega)));clear hb an;obtain ⟨v1,V,-⟩:=Hu.below D (by simp);have g0:=V 0;simp only [q2a] at g0;clear V;cases q with
 | false=>
  go_wp2;go_ret;exact ⟨true,rfl,(λ h=> (by cases h)),A⟩
 | true=>
  by_cases h0:C=0
  . subst h0
    go_wp2;go_ret;exact ⟨true,rfl,(λ h=> (by cases h)),A⟩
  . clear A
    have aS:((C:Int)==0)=false:=by simp [h0]
    go_wp2;clear g0 v1;go_loopw [4] (λ z wr=> ∃k:Nat,k<=C/\z=qi k/\Hid (Below (w.heap.size+2) ((w.alloc (.cells (q1a kd tb a1 C T a2 G k2 a3 F k3 a4 U k4 a5 n5 k5 a6 n6 k6 a7 n7 k7 a8 n8 k8 wo wt wn wi wk wv wx a9 n9 k9 a10 L I a11 K H M nm) 40)).alloc (.cells #[qs a1 C T,qs a2 G k2,qs a3 F k3,qs a4 U k4] 29)) wr)) (λ z _=> C - (intOf z).toNat)
    case atStart=> exact ⟨0,zero_le _,rfl,D⟩
    case round=>
     clear D;obtain ⟨k,hk,rfl,D⟩:=hrel;have A:=hid ((aa.out _).trans (D.mono (by omega)));obtain ⟨v1,V,-⟩:=Hu.below D (by simp);have g0:=V 0;simp only [q2a] at g0;clear V;by_cases hlt:k < C
     . have J:k < s.create.cols.length:=by rw [aB.out];exact hlt
       have O:=HD.create.cols.mono ClE.mono A;obtain ⟨b,o,rfl,ar,d0,d1,d2,d3,d4,d5⟩:=ClAt.cell O k J;have HY:=hid (HS.create.1 _ (getElem_mem J));generalize s.create.cols[k]=y at *;have HC:=hid λ w=> bCol_calls y w (by have:=HY.out;omega);clear O J;go_wp2_with fail;refine (HC.out _).mono ?_;rintro e w3 ⟨q,rfl,-,hb⟩;have aC:=hid (D.trans (hb.mono (by have:=D.size;simp at this;omega)));have ax:=hid (A.trans (hb.mono A.size));clear hb d0 d1 d2 d3 d4 d5 g0 v1;cases q with
       | true=>
        go_wp2;go_roundw
        case rel=> exact ⟨k+1,by omega,by go_num,aC⟩
        case measure=> simp [intOf];omega
       | false=>
        go_wp2;go_ret;exact ⟨true,rfl,(λ h=> (by cases h)),ax⟩
     . obtain rfl:C=k:=by omega
       go_wp2;clear g0 v1;go_loopw [5] (λ z wr=> ∃k:Nat,k<=G/\z=qi k/\Hid (Below (w.heap.size+2) ((w.alloc (.cells (q1a kd tb a1 C T a2 G k2 a3 F k3 a4 U k4 a5 n5 k5 a6 n6 k6 a7 n7 k7 a8 n8 k8 wo wt wn wi wk wv wx a9 n9 k9 a10 L I a11 K H M nm) 40)).alloc (.cells #[qs a1 C T,qs a2 G k2,qs a3 F k3,qs a4 U k4] 29)) wr)) (λ z _=> G - (intOf z).toNat)
       case atStart=> exact ⟨0,zero_le _,rfl,D⟩
       case round=>
        clear D;obtain ⟨k,hk,rfl,D⟩:=hrel;have A:=hid ((aa.out _).trans (D.mono (by omega)));obtain ⟨v1,V,-⟩:=Hu.below D (by simp);have g1:=V 1;simp only [q2a] at g1;clear V;by_cases hlt:k < G
        . have J:k < s.create.keys.length:=by rw [ay.out];exact hlt
          have O:=HD.create.keys.mono (LlE.mono NmE.mono) A;obtain ⟨b,o,a12,aQ,rfl,ar,d0,-⟩:=LlAt.cell O k J;obtain ⟨ny,ao⟩:=gx ((s.create.keys[k]).length)
          rw [ao] at d0;clear O J ao;by_cases h0:ny=0
          . subst h0
            go_wp2;go_ret;exact ⟨true,rfl,(λ h=> (by cases h)),A⟩
          . go_wp2
            go_roundw
            case rel=> exact ⟨k+1,by omega,by go_num,D⟩
            case measure=> simp [intOf];omega
        . obtain rfl:G=k:=by omega
          go_wp2;clear g1 v1;go_loopw [6] (λ z wr=> ∃k:Nat,k<=F/\z=qi k/\Hid (∀j (h:j < s.create.fks.length),j < k->s.create.fks[j].cols.length=s.create.fks[j].target.length)/\Hid (Below (w.heap.size+2) ((w.alloc (.cells (q1a kd tb a1 C T a2 G k2 a3 F k3 a4 U k4 a5 n5 k5 a6 n6 k6 a7 n7 k7 a8 n8 k8 wo wt wn wi wk wv wx a9 n9 k9 a10 L I a11 K H M nm) 40)).alloc (.cells #[qs a1 C T,qs a2 G k2,qs a3 F k3,qs a4 U k4] 29)) wr)) (λ z _=> F - (intOf z).toNat)
          case atStart=> exact ⟨0,zero_le _,rfl,(λ j _ h=> by omega),D⟩
          case round=>
           clear D;obtain ⟨k,hk,rfl,Hj,D⟩:=hrel;have A:=hid ((aa.out _).trans (D.mono (by omega)));obtain ⟨v1,V,-⟩:=Hu.below D (by simp);have g2:=V 2;simp only [q2a] at g2;clear V;by_cases hlt:k < F
           . have J:k < s.create.fks.length:=by rw [am.out];exact hlt
             have O:=HD.create.fks.mono RfE.mono A;obtain ⟨b,o,aU,aP,aT,aO,rfl,ar,d0,-,d2,-,-⟩:=RfAt.cell O k J;have HX:Hid (∀x,s.create.fks[k]=x->x.cols.length=x.target.length->∀j (h:j < s.create.fks.length),j < k+1->s.create.fks[j].cols.length=s.create.fks[j].target.length):=λ x e h j hj hjk=> by
              by_cases e2:j=k
              . subst e2;rw [e];exact h
              . exact Hj.out j hj (by omega)
             replace HX:=hid (HX.out _ rfl);obtain ⟨W,aq⟩:=gx ((s.create.fks[k]).cols.length)
             obtain ⟨ab,ap⟩:=gx ((s.create.fks[k]).target.length)
             rw [aq] at d0 HX;rw [ap] at d2 HX;have kk:(k:Int) < (F:Int):=by omega
             have aN:(0:Int)<=(k:Int):=by omega
             clear O J aq ap;by_cases h0:W=0
             . subst h0
               have z0:(((0:Nat):Int)==0)=true:=rfl;go_upto_region 17 with (fail)
               go_quiet (fail);clear g2 v1 d0 d2;have Hq:=hid (A.trans (below_drewN wr nq));go_wp2;go_ret;exact ⟨true,rfl,(λ h=> (by cases h)),Hq⟩
             . have z0:((W:Int)==0)=false:=by simp [h0]
               by_cases h1:W=ab
               . have z1:((W:Int) !=(ab:Int))=false:=by simp [h1]
                 have aD:=hid (HX.out h1);subst h1;go_upto_region 17 with (fail)
                 go_quiet (fail);clear g2 v1 d0 d2;have Hq:=hid (D.trans (below_drewN wr nq));go_wp2;go_roundw
                 case rel=> exact ⟨k+1,by omega,by go_num,aD,Hq⟩
                 case measure=> simp [intOf];omega
               . have z1:((W:Int) !=(ab:Int))=true:=by simp;omega
                 go_upto_region 17 with (fail)
                 go_quiet (fail);clear g2 v1 d0 d2;have Hq:=hid (A.trans (below_drewN wr nq));go_wp2;go_ret;exact ⟨true,rfl,(λ h=> (by cases h)),Hq⟩
           . obtain rfl:F=k:=by omega
             have HF:Hid (∀f∈s.create.fks,f.cols.length=f.target.length):=λ f hf=> by obtain ⟨j,hj,rfl⟩:=mem_iff_getElem.1 hf;exact Hj.out j hj (by have:=am.out;omega)
             clear Hj;go_wp2;go_ret;exact ⟨false,rfl,(λ _=> HF),A⟩
end
section
open Go.Sort
theorem bExist_calls (s:Stt) (v:StV) (w:World) (h:SttAt w s v) (S:List Tb) (sa:Option Addr) (sc:Nat) (hsc:SchAt w S (qs sa S.length sc)) (hl9:s.create.cols.length<=2000000):Calls Tryz.prog 103 #[qs sa S.length sc,.agg (s.cells v).toArray] w (BoolP True w):=by
 obtain ⟨a1,G,U,a2,F,k2,a3,I,k3,a4,V,k4,a5,n5,k5,a6,n6,k6,a7,n7,k7,a8,n8,k8,a9,n9,k9,a10,O,K,a11,M,J,rfl,h1,m1,h2,m2,h3,m3,h4,m4,h5,m5,h6,m6,h7,m7,h8,m8,h9,m9,aA,ba,az,aZ⟩:=h.shapes;have au:=hid h1;have af:=hid h2;have aD:=hid h3;have aV:=hid h4;have aU:=hid h5;have aT:=hid h6;have aS:=hid h7;have aR:=hid h8;have aQ:=hid h9;have aF:=hid aA;have aE:=hid az;clear h1 h2 h3 h4 h5 h6 h7 h8 h9 aA az;have aP:=hid hsc;have aW:=hid hl9;have HD:Hid (SttAt w s ⟨qs a1 s.create.cols.length U,qs a2 s.create.keys.length k2,qs a3 s.create.fks.length k3,qs a4 s.create.checks.length k4,qs a5 s.values.length k5,qs a6 s.sets.length k6,qs a7 s.items.length k7,qs a8 s.src.length k8,qs a9 s.cond.args.length k9,qs a10 s.group.length K,qs a11 s.order.length J⟩):=by show SttAt _ _ _;rw [au.out,af.out,aD.out,aV.out,aU.out,aT.out,aS.out,aR.out,aQ.out,aF.out,aE.out];exact h
 clear h hsc;simp only [Stt.cells,Ex.cells,cons_append,nil_append];obtain ⟨T,hl⟩:=gx s.limit
 have HL:=hid hl;obtain ⟨kd,ar⟩:=gx s.kind
 obtain ⟨tb,ap⟩:=gx s.table
 obtain ⟨wo,al⟩:=gx s.cond.op
 obtain ⟨wt,ak⟩:=gx s.cond.table
 obtain ⟨wn,am⟩:=gx s.cond.name
 obtain ⟨wi,ao⟩:=gx s.cond.index
 obtain ⟨wk,an⟩:=gx s.cond.v.kind
 obtain ⟨wv,aj⟩:=gx s.cond.v.int
 obtain ⟨wx,ai⟩:=gx s.cond.v.text
 obtain ⟨nm,aq⟩:=gx s.name
 rw [ar,ap,al,ak,am,ao,an,aj,ai,aq,hl];have HK:=hid ar;have bi:=hid ap;have bj:=hid aq;have HC:=hid (And.intro al (And.intro ak (And.intro am (And.intro ao (And.intro an (And.intro aj ai))))));clear ar ap al ak am ao an aj ai aq hl;have Hv:=hid (VarIs.new w (q1a kd tb a1 G U a2 F k2 a3 I k3 a4 V k4 a5 n5 k5 a6 n6 k6 a7 n7 k7 a8 n8 k8 wo wt wn wi wk wv wx a9 n9 k9 a10 O K a11 M J T nm) 40);have aB:=hid (Hv.alloc (.cells #[qs a1 G U,qs a2 F k2,qs a3 I k3,qs a4 V k4] 29));have Hu:=hid (VarIs.new1 w (.cells (q1a kd tb a1 G U a2 F k2 a3 I k3 a4 V k4 a5 n5 k5 a6 n6 k6 a7 n7 k7 a8 n8 k8 wo wt wn wi wk wv wx a9 n9 k9 a10 O K a11 M J T nm) 40) #[qs a1 G U,qs a2 F k2,qs a3 I k3,qs a4 V k4] 29);clear Hv;have Hv:=aB;clear aB;have ab:Hid (∀o,Below w.heap.size w ((w.alloc (.cells (q1a kd tb a1 G U a2 F k2 a3 I k3 a4 V k4 a5 n5 k5 a6 n6 k6 a7 n7 k7 a8 n8 k8 wo wt wn wi wk wv wx a9 n9 k9 a10 O K a11 M J T nm) 40)).alloc o)):=λ o=> (zi.alloc lr _).alloc (by simp) o;go_enter Tryz.func103,Tryz.ntmps103;have aY:G<=2000000:=au.out ▸ aW.out;have ad:Hid (Below (w.heap.size+2) ((w.alloc (.cells (q1a kd tb a1 G U a2 F k2 a3 I k3 a4 V k4 a5 n5 k5 a6 n6 k6 a7 n7 k7 a8 n8 k8 wo wt wn wi wk wv wx a9 n9 k9 a10 O K a11 M J T nm) 40)).alloc (.cells #[qs a1 G U,qs a2 F k2,qs a3 I k3,qs a4 V k4] 29)) ((w.alloc (.cells (q1a kd tb a1 G U a2 F k2 a3 I k3 a4 V k4 a5 n5 k5 a6 n6 k6 a7 n7 k7 a8 n8 k8 wo wt wn wi wk wv wx a9 n9 k9 a10 O K a11 M J T nm) 40)).alloc (.cells #[qs a1 G U,qs a2 F k2,qs a3 I k3,qs a4 V k4] 29))):=hid zi;have ah:=hid (aP.mono TbE.mono (ab.out (.cells #[qs a1 G U,qs a2 F k2,qs a3 I k3,qs a4 V k4] 29)));go_wp2_with fail;refine (bFind_calls S sa sc tb _ ah).mono ?_;rintro e w1 ⟨p,q,rfl,-,W⟩;have C:=hid (ad.trans (W.mono (by have:=ad.size;simp at this ⊢)));have A:=hid ((ab.out _).trans (C.mono (by omega)));clear W ad ah;obtain ⟨v1,v2,-⟩:=Hu.below C (by simp);have g0:=v2 0;simp only [q2a] at g0;clear v2;cases q with
 | true=>
  go_wp2;go_ret;exact ⟨true,rfl,(λ _=> trivial),A⟩
 | false=>
  clear A;go_wp2;clear g0 v1;go_loopw [8,9] (λ v z wr=> ∃(k:Nat) (ss:List ByteArray),k<=G/\z=qi k/\Hid (ss.length=k)/\Hid (Bl 9 1 NmE (w.heap.size+2) (λ _=> False) wr ss v)/\Hid (Below (w.heap.size+2) ((w.alloc (.cells (q1a kd tb a1 G U a2 F k2 a3 I k3 a4 V k4 a5 n5 k5 a6 n6 k6 a7 n7 k7 a8 n8 k8 wo wt wn wi wk wv wx a9 n9 k9 a10 O K a11 M J T nm) 40)).alloc (.cells #[qs a1 G U,qs a2 F k2,qs a3 I k3,qs a4 V k4] 29)) wr)) (λ _ z _=> G - (intOf z).toNat)
  case atStart=> exact ⟨0,[],zero_le _,rfl,rfl,Bl.nil _ _ _ _ _ _,C⟩
  case round=>
   clear C;obtain ⟨k,ss,hk,rfl,ae,HB,C⟩:=hrel;have A:=hid ((ab.out _).trans (C.mono (by omega)));obtain ⟨v1,v2,-⟩:=Hu.below C (by simp);have g0:=v2 0;simp only [q2a] at g0;clear v2;by_cases hlt:k < G
   . have H:k < s.create.cols.length:=by rw [au.out];exact hlt
     have D:=HD.create.cols.mono ClE.mono A;obtain ⟨b,o,rfl,ax,d0,-,-,-,-,-⟩:=ClAt.cell D k H;generalize s.create.cols[k]=y at *;clear D H;go_wp2_with (at_builtin;go_loud (refine wpList_pushS rfl _ _ rfl rfl HB.out rfl ?c0 ?c1 ?_))
     case c0=> have:=ae.out;omega
     case c1=> have:=C.size;simp at this;omega
     intro v' w' ad ay;have aM:=hid (C.trans ay);clear ay;go_wp2;go_roundw
     case rel=> exact ⟨k+1,_,by omega,by go_num,(by show _=_;rw [length_append,ae.out];rfl),ad,aM⟩
     case measure=> simp [intOf];omega
   . obtain rfl:G=k:=by omega
     have aC:=hid (HB.at (by have:=ae.out;omega));obtain ⟨va,vc,rfl⟩:=HB.shape;have HC:=hid (bTwice_calls ss va vc _ aC);go_wp2_with fail;refine (HC).mono ?_;rintro e w3 ⟨q,rfl,-,W⟩;have ac:=hid (C.trans (W.mono (by have:=C.size;simp at this;omega)));have L:=hid (A.trans (W.mono A.size));clear W g0 v1;cases q with
     | true=>
      go_wp2;go_ret;exact ⟨true,rfl,(λ _=> trivial),L⟩
     | false=>
      clear C HB ae aC HC;have C:=ac;clear ac L;go_wp2;go_loopw [10] (λ z wr=> ∃k:Nat,k<=F/\z=qi k/\Hid (Below (w.heap.size+2) ((w.alloc (.cells (q1a kd tb a1 G U a2 F k2 a3 I k3 a4 V k4 a5 n5 k5 a6 n6 k6 a7 n7 k7 a8 n8 k8 wo wt wn wi wk wv wx a9 n9 k9 a10 O K a11 M J T nm) 40)).alloc (.cells #[qs a1 G U,qs a2 F k2,qs a3 I k3,qs a4 V k4] 29)) wr)) (λ z _=> F - (intOf z).toNat)
      case atStart=> exact ⟨0,zero_le _,rfl,C⟩
      case round=>
       clear C;obtain ⟨k,hk,rfl,C⟩:=hrel;have A:=hid ((ab.out _).trans (C.mono (by omega)));obtain ⟨v1,v2,-⟩:=Hu.below C (by simp);have g1:=v2 1;simp only [q2a] at g1;clear v2;by_cases hlt:k < F
       . have H:k < s.create.keys.length:=by rw [af.out];exact hlt
         have D:=HD.create.keys.mono (LlE.mono NmE.mono) A;obtain ⟨b,o,a12,aJ,rfl,ax,d0,hx⟩:=LlAt.cell D k H;generalize s.create.keys[k]=y at *;have HC:=hid (bTwice_calls y a12 aJ _ hx);clear D H hx;go_wp2_with fail;refine (HC).mono ?_;rintro e w3 ⟨q,rfl,-,W⟩;have ac:=hid (C.trans (W.mono (by have:=C.size;simp at this;omega)));have L:=hid (A.trans (W.mono A.size));clear W d0 g1 v1;cases q with
         | true=>
          go_wp2;go_ret;exact ⟨true,rfl,(λ _=> trivial),L⟩
         | false=>
          go_wp2;go_loopw [11] (λ z wy=> ∃i:Nat,i<=k/\z=qi i/\Hid (Below (w.heap.size+2) ((w.alloc (.cells #[qi kd,qt tb,qs a1 G U,qs (some ⟨b,o,none⟩) F k2,qs a3 I k3,qs a4 V k4,qs a5 n5 k5,qs a6 n6 k6,qs a7 n7 k7,qs a8 n8 k8,qi wo,qt wt,qt wn,qi wi,qi wk,qi wv,qt wx,qs a9 n9 k9,qs a10 O K,qs a11 M J,qi T,qt nm] 40)).alloc (.cells #[qs a1 G U,qs (some ⟨b,o,none⟩) F k2,qs a3 I k3,qs a4 V k4] 29)) wy)) (λ z _=> k - (intOf z).toNat)
          case atStart=> exact ⟨0,zero_le _,rfl,ac⟩
          case round=>
           obtain ⟨i,hi,rfl,aa⟩:=hrel;have aL:=hid ((ab.out _).trans (aa.mono (by omega)));obtain ⟨v1,v2,-⟩:=Hu.below aa (by simp);have g1:=v2 1;simp only [q2a] at g1;clear v2;by_cases hik:i < k
           . have av:i < s.create.keys.length:=by rw [af.out];omega
             have H:k < s.create.keys.length:=by rw [af.out];omega
             have D:=HD.create.keys.mono (LlE.mono NmE.mono) aL;obtain ⟨b3,o3,a13,aI,e0,aX,d0,hx⟩:=LlAt.cell D k H;obtain ⟨b4,o4,a14,aH,e1,-,d1,hy⟩:=LlAt.cell D i av;cases e0;cases e1;generalize s.create.keys[k]=y at *;generalize s.create.keys[i]=z at *;have aO:=hid hx;have aN:=hid hy;have bb:(0:Int)<=(k:Int):=by omega
             have kk:(k:Int) < (F:Int):=by omega
             have bg:(0:Int)<=(i:Int):=by omega
             have ii:(i:Int) < (F:Int):=by omega
             clear D H av hx hy;clear v1;go_upto_region 20 with (fail)
             refine wp_region_segs [([0,1,2,3,4,5,6,7,8,9],10)] [] [] (by kernel_rfl) (by kernel_rfl) ?_;simp only [q2c,wpSegs];have bc:=cell_regrown (w:=wr.drew) g1;have be:=cell_regrown (w:=wr.drew) d0;have bd:=cell_regrown (w:=wr.drew) d1;clear g1 d0 d1;have Hr:Hid (Below (wr).heap.size (wr) (wr).drew):=zi.drew
             repeat (quiet_step (fail))
             refine wpQuiet_nil ?_;refine ⟨rfl,λ wy hby=> ?_⟩;go_simp;simp only [uponV];have Hy:=hid (Hr.trans (hby.mono Hr.size));refine (bTexts_calls y z a13 a14 aI aH _ (aO.mono NmE.mono Hy) (aN.mono NmE.mono Hy)).mono ?_;rintro e w1 ⟨q,rfl,-,W⟩;refine ⟨_,rfl,W,?_⟩;replace Hr:=hid (Hy.trans (W.mono Hy.size));clear W hby Hy;go_simp
             repeat (quiet_step (fail))
             refine wpQuiet_nil ?_;intro wz aw;replace Hr:=hid (Hr.trans (aw.mono Hr.size));clear aw;simp only [wpList];have ag:=hid (aa.trans (Hr.mono (by have:=aa.size;simp at this;omega)));clear Hr;cases q with
             | true=>
              go_wp2;go_ret;exact ⟨true,rfl,(λ _=> trivial),((ab.out _).trans (ag.mono (by omega)))⟩
             | false=>
              go_wp2;go_roundw
              case rel=> exact ⟨i+1,by omega,by go_num,ag⟩
              case measure=> simp [intOf];omega
           . obtain rfl:k=i:=by omega
             go_wp2;go_roundw
             case rel=> exact ⟨k+1,by omega,by go_num,aa⟩
             case measure=> simp [intOf];omega
       . obtain rfl:F=k:=by omega
         go_wp2;clear g1 v1;go_loopw [12] (λ z wr=> ∃k:Nat,k<=I/\z=qi k/\Hid (Below (w.heap.size+2) ((w.alloc (.cells (q1a kd tb a1 G U a2 F k2 a3 I k3 a4 V k4 a5 n5 k5 a6 n6 k6 a7 n7 k7 a8 n8 k8 wo wt wn wi wk wv wx a9 n9 k9 a10 O K a11 M J T nm) 40)).alloc (.cells #[qs a1 G U,qs a2 F k2,qs a3 I k3,qs a4 V k4] 29)) wr)) (λ z _=> I - (intOf z).toNat)
         case atStart=> exact ⟨0,zero_le _,rfl,C⟩
         case round=>
          clear C;obtain ⟨k,hk,rfl,C⟩:=hrel;have A:=hid ((ab.out _).trans (C.mono (by omega)));obtain ⟨v1,v2,-⟩:=Hu.below C (by simp);have g2:=v2 2;simp only [q2a] at g2;clear v2;by_cases hlt:k < I
          . have H:k < s.create.fks.length:=by rw [aD.out];exact hlt
            have D:=HD.create.fks.mono RfE.mono A;obtain ⟨b,o,aK,aG,bh,bf,rfl,ax,d0,d1,d2,hx,-⟩:=RfAt.cell D k H;generalize s.create.fks[k]=y at *;have HC:=hid (bTwice_calls y.cols aK aG _ hx);clear D H hx;go_wp2_with fail;refine (HC).mono ?_;rintro e w3 ⟨q,rfl,-,W⟩;have ac:=hid (C.trans (W.mono (by have:=C.size;simp at this;omega)));have L:=hid (A.trans (W.mono A.size));clear W d0 d1 d2 g2 v1;cases q with
            | true=>
             go_wp2;go_ret;exact ⟨true,rfl,(λ _=> trivial),L⟩
            | false=>
             go_wp2;go_roundw
             case rel=> exact ⟨k+1,by omega,by go_num,ac⟩
             case measure=> simp [intOf];omega
          . obtain rfl:I=k:=by omega
            go_wp2;go_ret;exact ⟨false,rfl,(λ _=> trivial),A⟩
end
section
open Go.Sort
def bestV (k:Int):Rw->Vl
 | []=> nilV
 | x::r=> if k=4 then minV x r else if k=5 then maxV x r else x
theorem bestV_snoc (k:Int) (l:Rw) (y:Vl):bestV k (l++[y])=if l=[]\/k=4/\cmpV y (bestV k l) < 0\/k=5/\0 < cmpV y (bestV k l) then y else bestV k l:=by
 cases l with
 | nil=>
  show (if k=4 then minV y [] else if k=5 then maxV y [] else y)=(if ([]:Rw)=[]\/k=4/\cmpV y (bestV k []) < 0\/k=5/\0 < cmpV y (bestV k []) then y else bestV k [])
  rw [if_pos (Or.inl rfl)];by_cases h4:k=4
  . rw [if_pos h4];rfl
  . rw [if_neg h4];by_cases h5:k=5
    . rw [if_pos h5];rfl
    . rw [if_neg h5]
 | cons x r=>
  show (if k=4 then minV x (r++[y]) else if k=5 then maxV x (r++[y]) else x)=_;by_cases h4:k=4
  . subst h4
    have e:bestV 4 (x::r)=minV x r:=rfl;rw [e];simp only [minV,List.foldl_append,List.foldl_cons,List.foldl_nil,if_true];simp
  . by_cases h5:k=5
    . subst h5
      have e:bestV 5 (x::r)=maxV x r:=rfl;rw [e];simp only [maxV,List.foldl_append,List.foldl_cons,List.foldl_nil,if_true];simp
    . simp [bestV,h4,h5]
theorem sumV_snoc (l:Rw) (y:Vl):sumV (l++[y])=if y.kind=1 then wrap64 (sumV l+y.int) else sumV l:=by
 unfold sumV;rw [List.foldl_append];rfl
theorem aggV_fin (k:Int) (l:Rw):aggV k l=if k=1 then intV l.length else if k=2 then intV (nnV l).length else if k=3 then (if nnV l=[] then nilV else intV (sumV (nnV l))) else if k=4\/k=5 then bestV k (nnV l) else nilV:=by
 unfold aggV;by_cases h1:k=1
 . rw [if_pos h1,if_pos h1]
 by_cases h2:k=2
 . rw [if_neg h1,if_neg h1,if_pos h2,if_pos h2]
 rw [if_neg h1,if_neg h1,if_neg h2,if_neg h2];cases nnV l with
 | nil=> simp [bestV]
 | cons x r=>
  by_cases h3:k=3
  . subst h3;simp
  by_cases h4:k=4
  . subst h4;simp [bestV]
  by_cases h5:k=5
  . subst h5;simp [bestV]
  simp [h3,h4,h5]
theorem rAggr_calls (kk:Int) (l:Rw) (s:Value) (w:World) (hs:ValsAt w l s) (hlen:l.length < 1000000000):Calls Tryz.prog 60 #[qi kk,s] w (ValEnd (aggV kk l) w):=by
 obtain ⟨a,n,c,rfl,hn,-⟩:=hs.shape;have HS:=hid hs;have HN:Hid (l.length=n):=hn.symm;have aE:n < 1000000000:=by omega
 have V0:=hid ((VarIs.new w q0c 35).alloc (.cells q0c 35));have U:Hid (Below w.heap.size w ((w.alloc (.cells q0c 35)).alloc (.cells q0c 35))):=(zi.alloc lr _).alloc (by simp) _;clear hs hn hlen;go_enter Tryz.func60,Tryz.ntmps60;go_wp2_with (refine wpList_store_row rfl _ _ _ rfl _ rfl rfl (VarIs.new1 _ _ _ _) rfl (by kernel_rfl) rfl ?_);intro w1 au A1;have av:=hid (V0.agr A1 (by show ¬ _=_;omega));have ay:=hid (U.trans (A1.below U.size (λ k L=> by show ¬ k=_;omega)));have ad:Hid (w.heap.size+2<=w1.heap.size):=by have:=A1.size;simp at this;exact this
 clear V0 U A1;go_wp2;go_loopw [5,6,8] (λ c t z wr=> ∃k:Nat,k<=n/\z=qi k/\c=qi ((nnV (l.take k)).length:Nat)/\t=qi (sumV (nnV (l.take k)))/\Hid (VarIs wr (w.heap.size+1) #[qi (bestV kk (nnV (l.take k))).kind,qi (bestV kk (nnV (l.take k))).int,qt (bestV kk (nnV (l.take k))).text])/\Hid (Below (w.heap.size+1) w1 wr)) (λ _ _ z _=> n - (intOf z).toNat)
 case atStart=> exact ⟨0,zero_le _,rfl,rfl,rfl,au,zi⟩
 case round=>
  obtain ⟨k,L,rfl,rfl,rfl,J,Hb⟩:=hrel;have D:=hid (ay.trans (Hb.mono (le_succ _)));have aw:Hid (w.heap.size+1<=wr.heap.size):=le_trans (by have:=ad.out;omega) Hb.size;by_cases hlt:k < n
  . have I:k < l.length:=by rw [HN.out];exact hlt
    obtain ⟨b,o,rfl⟩:=ValsAt.has HS k hlt;obtain ⟨d0,d1,d2⟩:=(HS.mono D).cell k I;have ar:=(HS.mono D).lt I;have az:=hid (HS.txt l[k] (getElem_mem I));have HT:Hid (nnV (l.take (k+1))=nnV (l.take k)++nnV [l[k]]):=by show _=_;rw [take_succ_eq_append_getElem I];unfold nnV;rw [List.filter_append]
    have aA:Hid ((nnV (l.take k)).length<=k):=by show _<=_;refine le_trans (List.length_filter_le _ _) ?_;rw [length_take];omega
    generalize l[k]=y at *;generalize nnV (l.take k)=X at *;have aC:(0:Int)<=(k:Int):=by omega
    have ik:(k:Int) < (n:Int):=by omega
    clear I;by_cases h0:y.kind=0
    . have V:Hid (nnV (l.take (k+1))=X):=by
       show _=_;rw [HT.out];simp [nnV,h0]
      have z0:(y.kind==0)=true:=by simp [h0]
      clear h0;go_wp2;clear d0 d1 d2;go_roundw
      case rel=> exact ⟨k+1,by omega,by go_num,by rw [V.out],by rw [V.out],by rw [V.out];exact J,Hb⟩
      case measure=> simp [intOf];omega
    have H:Hid (nnV (l.take (k+1))=X++[y]):=by show _=_;rw [HT.out];simp [nnV,h0]
    have z0:(y.kind==0)=false:=by simp [h0]
    have aD:X.length<=n:=by have:=aA.out;omega
    have HD:=hid (And.intro ar (And.intro d0 (And.intro d1 d2)));go_upto_region 8 with (fail)
    go_cut [30] from 25 to 30 (λ z wx=> ∃q:Bool,z=.bool q/\Hid (q=true↔y.kind=1)/\wr=wx)
    case first=> go_wp2 <;> (go_meet;exact ⟨_,rfl,(by show _↔_;simp),rfl⟩)
    obtain ⟨q1,rfl,ag,rfl⟩:=hcut;go_step;go_cut [6] from 31 to 37 (λ z wx=> z=qi (sumV (X++[y]))/\wr=wx)
    case first=>
     cases q1 with
     | true=>
      go_wp2;go_meet;exact ⟨by rw [sumV_snoc,if_pos (ag.1 (by simp))],rfl⟩
     | false=>
      go_wp2;go_meet;exact ⟨by rw [sumV_snoc,if_neg (λ h=> absurd (ag.2 h) (by simp))],rfl⟩
    obtain ⟨rfl,rfl⟩:=hcut;obtain ⟨m,hm⟩:=gx (bestV kk X)
    have HM:=hid hm;rw [hm] at J;clear hm;have v0:=J.a0;have v1:=J.a1;have v2:=J.a2;go_upto_region 10 with (fail)
    refine wp_region_segs [([0,1,2,3,4],5)] [6] [] (by kernel_rfl) (by kernel_rfl) ?_;simp only [q2c,wpSegs];have aq:=cell_regrown (w:=wr.drew) d0;have ap:=cell_regrown (w:=wr.drew) d1;have ao:=cell_regrown (w:=wr.drew) d2;have an:=cell_regrown (w:=wr.drew) v0;have am:=cell_regrown (w:=wr.drew) v1;have al:=cell_regrown (w:=wr.drew) v2;clear d0 d1 d2 v0 v1 v2;have K:Hid (Below (wr).heap.size (wr) (wr).drew):=zi.drew
    repeat (first | go_big_quiet_step (fail) | quiet_step (fail))
    refine wpQuiet_nil ?_;refine ⟨rfl,λ wy hby=> ?_⟩;go_simp;simp only [uponV];have Hy:=hid (K.trans (hby.mono K.size));refine (rcmp_calls y m _ az).mono ?_;rintro e w2 ⟨rfl,hb⟩;refine ⟨_,rfl,hb,?_⟩;replace K:=hid (Hy.trans (hb.mono Hy.size));clear hb hby Hy;go_simp
    repeat (first | go_big_quiet_step (fail) | quiet_step (fail))
    refine wpQuiet_nil ?_;intro wz ab;replace K:=hid (K.trans (ab.mono K.size));clear ab;simp only [wpList];have aF:=hid (D.trans (K.mono D.size));have T:=hid (Hb.trans (K.mono aw));have ac:=hid (J.below K J.lt);have W:=hid λ j (u:Value) (h:wr.cell? ⟨b,j,none⟩=some u)=> (K.cell (p:=⟨b,j,none⟩) HD.1).trans h;obtain ⟨cc,O⟩:=gx (cmpV y m)
    have aB:=hid O;rw [O];clear K O aq ap ao an am al
    rename_i _ wq
    go_upto_region 11 with (fail)
    go_cut [61] from 44 to 61 (λ z wx=> ∃q:Bool,z=.bool q/\Hid (q=true↔X=[]\/kk=4/\cc < 0\/kk=5/\0 < cc)/\wz=wx)
    case first=>
     by_cases hx:X=[]
     . have z1:(((X.length:Nat):Int)+1==1)=true:=by rw [hx];rfl
       have HX:=hid hx;clear hx;go_wp2_with fail;go_meet;exact ⟨_,rfl,⟨λ _=> .inl HX,λ _=> rfl⟩,rfl⟩
     . have aa:0 < X.length:=List.length_pos_iff.2 hx
       have z1:(((X.length:Nat):Int)+1==1)=false:=by rw [beq_eq_false_iff_ne];omega
       have HX:=hid hx;clear hx aa;by_cases h4:kk=4
       . have z4:(kk==4)=true:=by simp [h4]
         have z5:(kk==5)=false:=by simp [h4]
         have H4:=hid h4;clear h4;by_cases hl:cc < 0
         . go_wp2_with fail
           go_meet;exact ⟨_,rfl,⟨λ _=> .inr (.inl ⟨H4,hl⟩),λ _=> rfl⟩,rfl⟩
         . go_wp2_with fail
           go_meet;exact ⟨_,rfl,⟨λ h=> (by cases h),λ h=> absurd h (by rintro (h | h | h);exact HX.out h;have:=h.2;omega;have:=H4.out;omega)⟩,rfl⟩
       . have z4:(kk==4)=false:=by simp [h4]
         have H4:=hid h4;clear h4;by_cases h5:kk=5
         . have z5:(kk==5)=true:=by simp [h5]
           have H5:=hid h5;clear h5;by_cases hl:0 < cc
           . go_wp2_with fail
             go_meet;exact ⟨_,rfl,⟨λ _=> .inr (.inr ⟨H5,hl⟩),λ _=> rfl⟩,rfl⟩
           . go_wp2_with fail
             go_meet;exact ⟨_,rfl,⟨λ h=> (by cases h),λ h=> absurd h (by rintro (h | h | h);exact HX.out h;exact H4.out h.1;have:=h.2;omega)⟩,rfl⟩
         . have z5:(kk==5)=false:=by simp [h5]
           have H5:=hid h5;clear h5;go_wp2_with fail;go_meet;exact ⟨_,rfl,⟨λ h=> (by cases h),λ h=> absurd h (by rintro (h | h | h);exact HX.out h;exact H4.out h.1;exact H5.out h.1)⟩,rfl⟩
    obtain ⟨q2,rfl,af,rfl⟩:=hcut;go_step;have aj:Hid (bestV kk (X++[y])=if X=[]\/kk=4/\cc < 0\/kk=5/\0 < cc then y else m):=by show _=_;rw [bestV_snoc,HM.out,aB.out]
    have ai:Hid ((X++[y]).length=X.length+1):=by show _=_;simp
    cases q2 with
    | true=>
     have HY:Hid (bestV kk (X++[y])=y):=by show _=_;rw [aj.out,if_pos (af.1 (by simp))]
     have e0:=W.out _ _ HD.2.1;have e1:=W.out _ _ HD.2.2.1;have e2:=W.out _ _ HD.2.2.2;go_wp2_with (refine wpList_store_row rfl _ _ _ rfl _ rfl rfl ac.out rfl (by kernel_rfl) rfl ?_);intro M F C;have ax:=hid (T.trans (C.below (by have:=T.size;have:=ad.out;omega) λ k L=> by show ¬ k=_;omega));clear C e0 e1 e2;go_wp2;go_roundw
     case rel=> exact ⟨k+1,by omega,by go_num,by rw [H.out,ai.out];go_num,by rw [H.out],by rw [H.out,HY.out];exact F,ax⟩
     case measure=> simp [intOf];omega
    | false=>
     have HY:Hid (bestV kk (X++[y])=m):=by show _=_;rw [aj.out,if_neg (λ h=> absurd (af.2 h) (by simp))]
     go_wp2;go_roundw
     case rel=> exact ⟨k+1,by omega,by go_num,by rw [H.out,ai.out];go_num,by rw [H.out],by rw [H.out,HY.out];exact ac,T⟩
     case measure=> simp [intOf];omega
  . obtain rfl:n=k:=by omega
    have G:=hid (av.below Hb (lt_succ_self _));have ah:Hid (nnV (l.take n)=nnV l):=by show _=_;rw [<-HN.out,take_length]
    rw [ah.out] at J ⊢;have HA:=hid (aggV_fin kk l);have ae:=HN.out;have aG:(nnV l).length<=n:=by rw [<-ae];exact List.length_filter_le _ _
    generalize hX:nnV l=X at *;clear hX ah;by_cases h1:kk=1
    . subst h1
      go_wp2_with (refine wpList_store_row rfl _ _ _ rfl _ rfl rfl G.out rfl (by kernel_rfl) rfl ?_);intro M F C;have A:=hid (D.trans (C.below D.size λ k L=> by show ¬ k=_;omega));clear C;go_wp2;refine bodyPost_ret (v:=.agg #[qi 1,qi n,qt ⟨#[]⟩]) ?_ rfl ?_
      . exact results_cell_var rfl _ _ rfl F Tryz.underlying35 rfl (by kernel_rfl)
      . exact ⟨by rw [HA.out,<-HN.out];rfl,A⟩
    by_cases h2:kk=2
    . subst h2
      go_wp2_with (refine wpList_store_row rfl _ _ _ rfl _ rfl rfl G.out rfl (by kernel_rfl) rfl ?_);intro M F C;have A:=hid (D.trans (C.below D.size λ k L=> by show ¬ k=_;omega));clear C;go_wp2;refine bodyPost_ret (v:=.agg #[qi 1,qi (X.length:Nat),qt ⟨#[]⟩]) ?_ rfl ?_
      . exact results_cell_var rfl _ _ rfl F Tryz.underlying35 rfl (by kernel_rfl)
      . exact ⟨by rw [HA.out];rfl,A⟩
    by_cases h3:kk=3
    . subst h3
      by_cases hx:X=[]
      . subst hx
        go_wp2_with (refine wpList_store_row rfl _ _ _ rfl _ rfl rfl G.out rfl (by kernel_rfl) rfl ?_);intro M F C;have A:=hid (D.trans (C.below D.size λ k L=> by show ¬ k=_;omega));clear C;go_wp2;refine bodyPost_ret (v:=.agg q0c) ?_ rfl ?_
        . exact results_cell_var rfl _ _ rfl F Tryz.underlying35 rfl (by kernel_rfl)
        . exact ⟨by rw [HA.out];rfl,A⟩
      have aa:0 < X.length:=List.length_pos_iff.2 hx;have z1:(((X.length:Nat):Int)==0)=false:=by rw [beq_eq_false_iff_ne];omega
      go_wp2_with (refine wpList_store_row rfl _ _ _ rfl _ rfl rfl G.out rfl (by kernel_rfl) rfl ?_);intro M F C;have A:=hid (D.trans (C.below D.size λ k L=> by show ¬ k=_;omega));clear C;go_wp2;refine bodyPost_ret (v:=.agg #[qi 1,qi (sumV X),qt ⟨#[]⟩]) ?_ rfl ?_
      . exact results_cell_var rfl _ _ rfl F Tryz.underlying35 rfl (by kernel_rfl)
      . exact ⟨by rw [HA.out];simp [hx];rfl,A⟩
    by_cases h4:kk=4\/kk=5
    . have ak:Hid (aggV kk l=bestV kk X):=by show _=_;rw [HA.out,if_neg h1,if_neg h2,if_neg h3,if_pos h4]
      clear HA;generalize bestV kk X=m at *;have v0:=J.a0;have v1:=J.a1;have v2:=J.a2;rcases h4 with rfl | rfl
      . go_wp2_with (refine wpList_store_row rfl _ _ _ rfl _ rfl rfl G.out rfl (by kernel_rfl) rfl ?_)
        intro M F C;have A:=hid (D.trans (C.below D.size λ k L=> by show ¬ k=_;omega));clear C;go_wp2;refine bodyPost_ret (v:=.agg #[qi m.kind,qi m.int,qt m.text]) ?_ rfl ?_
        . exact results_cell_var rfl _ _ rfl F Tryz.underlying35 rfl (by kernel_rfl)
        . exact ⟨by rw [ak.out];rfl,A⟩
      . go_wp2_with (refine wpList_store_row rfl _ _ _ rfl _ rfl rfl G.out rfl (by kernel_rfl) rfl ?_)
        intro M F C;have A:=hid (D.trans (C.below D.size λ k L=> by show ¬ k=_;omega));clear C;go_wp2;refine bodyPost_ret (v:=.agg #[qi m.kind,qi m.int,qt m.text]) ?_ rfl ?_
        . exact results_cell_var rfl _ _ rfl F Tryz.underlying35 rfl (by kernel_rfl)
        . exact ⟨by rw [ak.out];rfl,A⟩
    . have z1:(kk==1)=false:=by simp [h1]
      have z2:(kk==2)=false:=by simp [h2]
      have z3:(kk==3)=false:=by simp [h3]
      have z4:(kk==4)=false:=by simp;omega
      have z5:(kk==5)=false:=by simp;omega
      go_wp2_with (refine wpList_store_row rfl _ _ _ rfl _ rfl rfl G.out rfl (by kernel_rfl) rfl ?_);intro M F C;have A:=hid (D.trans (C.below D.size λ k L=> by show ¬ k=_;omega));clear C;go_wp2;refine bodyPost_ret (v:=.agg q0c) ?_ rfl ?_
      . exact results_cell_var rfl _ _ rfl F Tryz.underlying35 rfl (by kernel_rfl)
      . exact ⟨by rw [HA.out,if_neg h1,if_neg h2,if_neg h3,if_neg h4];rfl,A⟩
end
end
end Go.Proofs.YtcomoomndgbckaaGreat
