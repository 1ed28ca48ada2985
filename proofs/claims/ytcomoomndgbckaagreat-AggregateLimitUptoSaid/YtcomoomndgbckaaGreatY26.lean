/- Part 26 of the proof. -/
import Derived.Test.YtcomoomndgbckaaGreatY25
set_option maxHeartbeats 16000000
set_option maxRecDepth 100000
open Go Go.RowKit
open Go.Lib (hid)
open List (getElem_mem length_append nil_append length_take cons_append take_succ_eq_append_getElem getElem?_eq_getElem take_of_length_le take_length append_nil)
open Nat (zero_le le_succ lt_succ_self le_trans lt_of_lt_of_le)
namespace Go.Proofs.YtcomoomndgbckaaGreat
noncomputable section
section
open Go.Sort
theorem aSmall_calls (s:Stt) (v:StV) (w:World) (h:SttAt w s v) (hn:(allE s).length<=1000000000):Calls Tryz.prog 50 #[.agg (s.cells v).toArray] w (BoolP True w):=by
 obtain ⟨a1,K,M,a2,H,k2,a3,F,k3,a4,O,k4,a5,n5,k5,a6,W,k6,a7,n7,k7,a8,V,k8,a9,n9,k9,a10,J,D,a11,I,C,rfl,h1,m1,h2,m2,h3,m3,h4,m4,h5,m5,h6,m6,h7,m7,h8,m8,h9,m9,aD,be,aC,bd⟩:=h.shapes;have az:=hid h1;have ay:=hid h2;have ax:=hid h3;have aM:=hid h4;have aL:=hid h5;have aw:=hid h6;have aK:=hid h7;have av:=hid h8;have aJ:=hid h9;have af:=hid aD;have ae:=hid aC;clear h1 h2 h3 h4 h5 h6 h7 h8 h9 aD aC;have aN:=hid hn;have HD:Hid (SttAt w s ⟨qs a1 s.create.cols.length M,qs a2 s.create.keys.length k2,qs a3 s.create.fks.length k3,qs a4 s.create.checks.length k4,qs a5 s.values.length k5,qs a6 s.sets.length k6,qs a7 s.items.length k7,qs a8 s.src.length k8,qs a9 s.cond.args.length k9,qs a10 s.group.length D,qs a11 s.order.length C⟩):=by show SttAt _ _ _;rw [az.out,ay.out,ax.out,aM.out,aL.out,aw.out,aK.out,av.out,aJ.out,af.out,ae.out];exact h
 clear h hn;simp only [Stt.cells,Ex.cells,cons_append,nil_append];obtain ⟨T,hl⟩:=gx s.limit
 have HL:=hid hl;obtain ⟨kd,ar⟩:=gx s.kind
 obtain ⟨tb,ap⟩:=gx s.table
 obtain ⟨wo,al⟩:=gx s.cond.op
 obtain ⟨wt,ak⟩:=gx s.cond.table
 obtain ⟨wn,am⟩:=gx s.cond.name
 obtain ⟨wi,ao⟩:=gx s.cond.index
 obtain ⟨wk,an⟩:=gx s.cond.v.kind
 obtain ⟨wv,aj⟩:=gx s.cond.v.int
 obtain ⟨wx,ai⟩:=gx s.cond.v.text
 obtain ⟨nm,aq⟩:=gx s.name
 rw [ar,ap,al,ak,am,ao,an,aj,ai,aq,hl];have HK:=hid ar;have aY:=hid ap;have aZ:=hid aq;have HC:=hid (And.intro al (And.intro ak (And.intro am (And.intro ao (And.intro an (And.intro aj ai))))));clear ar ap al ak am ao an aj ai aq hl;have Hv:=hid (VarIs.new w (q1a kd tb a1 K M a2 H k2 a3 F k3 a4 O k4 a5 n5 k5 a6 W k6 a7 n7 k7 a8 V k8 wo wt wn wi wk wv wx a9 n9 k9 a10 J D a11 I C T nm) 40);have aE:=hid (Hv.alloc (.cells #[qs a1 K M,qs a2 H k2,qs a3 F k3,qs a4 O k4] 29));have Hu:=hid (VarIs.new1 w (.cells (q1a kd tb a1 K M a2 H k2 a3 F k3 a4 O k4 a5 n5 k5 a6 W k6 a7 n7 k7 a8 V k8 wo wt wn wi wk wv wx a9 n9 k9 a10 J D a11 I C T nm) 40) #[qs a1 K M,qs a2 H k2,qs a3 F k3,qs a4 O k4] 29);clear Hv;have Hv:=aE;clear aE;have aa:Hid (∀o,Below w.heap.size w ((w.alloc (.cells (q1a kd tb a1 K M a2 H k2 a3 F k3 a4 O k4 a5 n5 k5 a6 W k6 a7 n7 k7 a8 V k8 wo wt wn wi wk wv wx a9 n9 k9 a10 J D a11 I C T nm) 40)).alloc o)):=λ o=> (zi.alloc lr _).alloc (by simp) o;go_enter Tryz.func50,Tryz.ntmps50;have ad:Hid (Below (w.heap.size+2) ((w.alloc (.cells (q1a kd tb a1 K M a2 H k2 a3 F k3 a4 O k4 a5 n5 k5 a6 W k6 a7 n7 k7 a8 V k8 wo wt wn wi wk wv wx a9 n9 k9 a10 J D a11 I C T nm) 40)).alloc (.cells #[qs a1 K M,qs a2 H k2,qs a3 F k3,qs a4 O k4] 29)) ((w.alloc (.cells (q1a kd tb a1 K M a2 H k2 a3 F k3 a4 O k4 a5 n5 k5 a6 W k6 a7 n7 k7 a8 V k8 wo wt wn wi wk wv wx a9 n9 k9 a10 J D a11 I C T nm) 40)).alloc (.cells #[qs a1 K M,qs a2 H k2,qs a3 F k3,qs a4 O k4] 29))):=hid zi;go_upto_region 3 with (fail)
 go_cut [46] from 45 to 46 (λ z wy=> ∃q:Bool,z=.bool q/\((w.alloc (.cells (q1a kd tb a1 K M a2 H k2 a3 F k3 a4 O k4 a5 n5 k5 a6 W k6 a7 n7 k7 a8 V k8 wo wt wn wi wk wv wx a9 n9 k9 a10 J D a11 I C T nm) 40)).alloc (.cells #[qs a1 K M,qs a2 H k2,qs a3 F k3,qs a4 O k4] 29))=wy)
 case first=> go_wp2 <;> (go_meet;exact ⟨_,rfl,rfl⟩)
 obtain ⟨q,rfl,rfl⟩:=hcut;cases q with
 | true=>
  go_wp2;go_ret;exact ⟨false,rfl,(λ h=> (by cases h)),aa.out _⟩
 | false=>
  have aI:Hid (SttAt ((w.alloc (.cells (q1a kd tb a1 K M a2 H k2 a3 F k3 a4 O k4 a5 n5 k5 a6 W k6 a7 n7 k7 a8 V k8 wo wt wn wi wk wv wx a9 n9 k9 a10 J D a11 I C T nm) 40)).alloc (.cells #[qs a1 K M,qs a2 H k2,qs a3 F k3,qs a4 O k4] 29)) s ⟨qs a1 K M,qs a2 H k2,qs a3 F k3,qs a4 O k4,qs a5 n5 k5,qs a6 W k6,qs a7 n7 k7,qs a8 V k8,qs a9 n9 k9,qs a10 J D,qs a11 I C⟩):=by have:=HD.mono (aa.out (.cells #[qs a1 K M,qs a2 H k2,qs a3 F k3,qs a4 O k4] 29));rw [az.out,ay.out,ax.out,aM.out,aL.out,aw.out,aK.out,av.out,aJ.out,af.out,ae.out] at this;exact this
  have aO:Hid (∀w',SttAt w' s ⟨qs a1 K M,qs a2 H k2,qs a3 F k3,qs a4 O k4,qs a5 n5 k5,qs a6 W k6,qs a7 n7 k7,qs a8 V k8,qs a9 n9 k9,qs a10 J D,qs a11 I C⟩->Calls Tryz.prog 76 #[.agg (q1a kd tb a1 K M a2 H k2 a3 F k3 a4 O k4 a5 n5 k5 a6 W k6 a7 n7 k7 a8 V k8 wo wt wn wi wk wv wx a9 n9 k9 a10 J D a11 I C T nm)] w' (AllP s w')):=λ w' h=> by have:=aAll_calls s _ w' h aN;simp only [Stt.cells,Ex.cells,cons_append,nil_append,HK.out,aY.out,aZ.out,HL.out,HC.1,HC.2.1,HC.2.2.1,HC.2.2.2.1,HC.2.2.2.2.1,HC.2.2.2.2.2.1,HC.2.2.2.2.2.2] at this;exact this
  have aF:=hid (Hv.below ad (by omega)).cell;go_wp2_with (refine wpList_load_stmt rfl _ rfl _ rfl aF.out rfl ?_);refine (aO.out _ aI).mono ?_;rintro e wl ⟨v,rfl,hv,hb⟩;obtain ⟨va,nE,vc,rfl,ah,-⟩:=hv.shape;have ba:=hid ah.symm;have aP:=hid hv;have bb:nE<=1000000000:=ah ▸ aN.out;have aG:=hid (ad.trans (hb.mono (by have:=ad.size;simp at this ⊢)));clear hv hb ah aF aI aO ad;go_wp2;go_loopw [4,6] (λ v z wr=> ∃(k:Nat) (x:Int),k<=nE/\z=qi k/\v=qi x/\Hid (Below wl.heap.size wl wr)) (λ _ z _=> nE - (intOf z).toNat)
  case atStart=> exact ⟨0,_,zero_le _,rfl,rfl,zi⟩
  case round=>
   obtain ⟨k,x,hk,rfl,rfl,ac⟩:=hrel;by_cases hlt:k < nE
   . have A:k < (allE s).length:=by rw [ba.out];exact hlt
     obtain ⟨b,o,rfl⟩:=aP.addr A;obtain ⟨s',ag,d0,d1,d2,d3,d4,d5,d6,d7⟩:=(aP.mono (show Below wl.heap.size wl wr from ac)).cell k A;obtain ⟨sa,sn,sc,rfl,-,-⟩:=ag.shape;generalize (allE s)[k]=E' at *;have aX:=hid (aWt_calls _ E' lr sa sn sc _ ag);clear ag A;go_wp2_with fail;refine aX.mono ?_;rintro e w3 ⟨t,rfl,hb⟩;have aH:=hid (ac.trans (hb.mono ac.size));clear hb d0 d1 d2 d3 d4 d5 d6 d7;go_wp2;go_roundw
     case rel=> exact ⟨k+1,_,by omega,by go_num,rfl,aH⟩
     case measure=> simp [intOf];omega
   . obtain rfl:nE=k:=by omega
     have G:=hid (aG.trans (ac.mono (by have:=aG.size;simp at this;omega)));go_wp2;go_loopw [4,7] (λ v z wr=> ∃(k:Nat) (x:Int),k<=W/\z=qi k/\v=qi x/\Hid (Below (w.heap.size+2) ((w.alloc (.cells (q1a kd tb a1 K M a2 H k2 a3 F k3 a4 O k4 a5 n5 k5 a6 W k6 a7 n7 k7 a8 V k8 wo wt wn wi wk wv wx a9 n9 k9 a10 J D a11 I C T nm) 40)).alloc (.cells #[qs a1 K M,qs a2 H k2,qs a3 F k3,qs a4 O k4] 29)) wr)) (λ _ z _=> W - (intOf z).toNat)
     case atStart=> exact ⟨0,_,zero_le _,rfl,rfl,G⟩
     case round=>
      clear G;obtain ⟨k,x,hk,rfl,rfl,G⟩:=hrel;have U:=hid ((aa.out _).trans (G.mono (by omega)));obtain ⟨v1,v2,-⟩:=Hv.below G (by omega);have c7:=v2 7;simp only [q2a] at c7;clear v2;by_cases hlt:k < W
      . have A:k < s.sets.length:=by rw [aw.out];exact hlt
        have L:=HD.sets.mono AsE.mono U;obtain ⟨b,o,a12,bc,aA,rfl,ab,-,d0,-,-,-,-,-,-,-,-⟩:=AsAt.cell L k A;generalize s.sets[k]=y at *;clear L A;go_wp2;go_roundw
        case rel=> exact ⟨k+1,_,by omega,by go_num,rfl,G⟩
        case measure=> simp [intOf];omega
      . obtain rfl:W=k:=by omega
        go_wp2;clear c7 v1;go_loopw [4,8] (λ v z wr=> ∃(k:Nat) (x:Int),k<=V/\z=qi k/\v=qi x/\Hid (Below (w.heap.size+2) ((w.alloc (.cells (q1a kd tb a1 K M a2 H k2 a3 F k3 a4 O k4 a5 n5 k5 a6 W k6 a7 n7 k7 a8 V k8 wo wt wn wi wk wv wx a9 n9 k9 a10 J D a11 I C T nm) 40)).alloc (.cells #[qs a1 K M,qs a2 H k2,qs a3 F k3,qs a4 O k4] 29)) wr)) (λ _ z _=> V - (intOf z).toNat)
        case atStart=> exact ⟨0,_,zero_le _,rfl,rfl,G⟩
        case round=>
         clear G;obtain ⟨k,x,hk,rfl,rfl,G⟩:=hrel;have U:=hid ((aa.out _).trans (G.mono (by omega)));obtain ⟨v1,v2,-⟩:=Hv.below G (by omega);have c9:=v2 9;simp only [q2a] at c9;clear v2;by_cases hlt:k < V
         . have A:k < s.src.length:=by rw [av.out];exact hlt
           have L:=HD.src.mono SrE.mono U;obtain ⟨b,o,rfl,ab,d0,d1⟩:=SrAt.cell L k A;generalize s.src[k]=y at *;obtain ⟨yt,ya⟩:=y;simp only at d0 d1;have kk:(k:Int) < (V:Int):=by omega
           have aQ:(0:Int)<=(k:Int):=by omega
           clear L A;go_upto_region 17 with (fail)
           go_quiet (fail);clear c9 v1 d0 d1;have Hq:=hid (G.trans (below_drewN wr nq));go_wp2;go_roundw
           case rel=> exact ⟨k+1,_,by omega,by go_num,rfl,Hq⟩
           case measure=> simp [intOf];omega
         . obtain rfl:V=k:=by omega
           go_wp2;clear c9 v1;go_loopw [4,9] (λ v z wr=> ∃(k:Nat) (x:Int),k<=K/\z=qi k/\v=qi x/\Hid (Below (w.heap.size+2) ((w.alloc (.cells (q1a kd tb a1 K M a2 H k2 a3 F k3 a4 O k4 a5 n5 k5 a6 W k6 a7 n7 k7 a8 V k8 wo wt wn wi wk wv wx a9 n9 k9 a10 J D a11 I C T nm) 40)).alloc (.cells #[qs a1 K M,qs a2 H k2,qs a3 F k3,qs a4 O k4] 29)) wr)) (λ _ z _=> K - (intOf z).toNat)
           case atStart=> exact ⟨0,_,zero_le _,rfl,rfl,G⟩
           case round=>
            clear G;obtain ⟨k,x,hk,rfl,rfl,G⟩:=hrel;have U:=hid ((aa.out _).trans (G.mono (by omega)));obtain ⟨v1,v2,-⟩:=Hu.below G (by simp);have g0:=v2 0;simp only [q2a] at g0;clear v2;by_cases hlt:k < K
            . have A:k < s.create.cols.length:=by rw [az.out];exact hlt
              have L:=HD.create.cols.mono ClE.mono U;obtain ⟨b,o,rfl,ab,d0,-,-,-,-,-⟩:=ClAt.cell L k A;generalize s.create.cols[k]=y at *;clear L A;go_wp2;go_roundw
              case rel=> exact ⟨k+1,_,by omega,by go_num,rfl,G⟩
              case measure=> simp [intOf];omega
            . obtain rfl:K=k:=by omega
              go_wp2;clear g0 v1;go_loopw [4,10] (λ v z wr=> ∃(k:Nat) (x:Int),k<=H/\z=qi k/\v=qi x/\Hid (Below (w.heap.size+2) ((w.alloc (.cells (q1a kd tb a1 K M a2 H k2 a3 F k3 a4 O k4 a5 n5 k5 a6 W k6 a7 n7 k7 a8 V k8 wo wt wn wi wk wv wx a9 n9 k9 a10 J D a11 I C T nm) 40)).alloc (.cells #[qs a1 K M,qs a2 H k2,qs a3 F k3,qs a4 O k4] 29)) wr)) (λ _ z _=> H - (intOf z).toNat)
              case atStart=> exact ⟨0,_,zero_le _,rfl,rfl,G⟩
              case round=>
               clear G;obtain ⟨k,x,hk,rfl,rfl,G⟩:=hrel;have U:=hid ((aa.out _).trans (G.mono (by omega)));obtain ⟨v1,v2,-⟩:=Hu.below G (by simp);have g1:=v2 1;simp only [q2a] at g1;clear v2;by_cases hlt:k < H
               . have A:k < s.create.keys.length:=by rw [ay.out];exact hlt
                 have L:=HD.create.keys.mono (LlE.mono NmE.mono) U;obtain ⟨b,o,a12,aA,rfl,ab,d0,hx⟩:=LlAt.cell L k A;generalize s.create.keys[k]=y at *;have HC:=hid (aWide_calls y a12 aA _ hx);clear L A hx;go_wp2_with fail;refine HC.mono ?_;rintro e w3 ⟨t,rfl,hb⟩;have au:=hid (G.trans (hb.mono (by have:=G.size;simp at this;omega)));clear hb d0 g1 v1;go_wp2;go_roundw
                 case rel=> exact ⟨k+1,_,by omega,by go_num,rfl,au⟩
                 case measure=> simp [intOf];omega
               . obtain rfl:H=k:=by omega
                 go_wp2;clear g1 v1;go_loopw [4,11] (λ v z wr=> ∃(k:Nat) (x:Int),k<=F/\z=qi k/\v=qi x/\Hid (Below (w.heap.size+2) ((w.alloc (.cells (q1a kd tb a1 K M a2 H k2 a3 F k3 a4 O k4 a5 n5 k5 a6 W k6 a7 n7 k7 a8 V k8 wo wt wn wi wk wv wx a9 n9 k9 a10 J D a11 I C T nm) 40)).alloc (.cells #[qs a1 K M,qs a2 H k2,qs a3 F k3,qs a4 O k4] 29)) wr)) (λ _ z _=> F - (intOf z).toNat)
                 case atStart=> exact ⟨0,_,zero_le _,rfl,rfl,G⟩
                 case round=>
                  clear G;obtain ⟨k,x,hk,rfl,rfl,G⟩:=hrel;have U:=hid ((aa.out _).trans (G.mono (by omega)));obtain ⟨v1,v2,-⟩:=Hu.below G (by simp);have g2:=v2 2;simp only [q2a] at g2;clear v2;by_cases hlt:k < F
                  . have A:k < s.create.fks.length:=by rw [ax.out];exact hlt
                    have L:=HD.create.fks.mono RfE.mono U;obtain ⟨b,o,aU,aS,aT,aR,rfl,ab,d0,d1,d2,hx,hy⟩:=RfAt.cell L k A;generalize s.create.fks[k]=y at *;obtain ⟨yc,yt,yg⟩:=y;simp only at d0 d1 d2 hx hy;have kk:(k:Int) < (F:Int):=by omega
                    have aQ:(0:Int)<=(k:Int):=by omega
                    have aW:=hid hx;have aV:=hid hy;clear L A hx hy;clear v1;go_upto_region 29 with (fail)
                    refine wp_region_segs [([0,1,2,3,4,5,6,8,9,10,11,12,13,14,16,17,18,19,20,21],7),([15],22)] [23,24,25] [] (by kernel_rfl) (by kernel_rfl) ?_;simp only [q2c,wpSegs];have bf:=cell_regrown (w:=wr.drew) g2;have bi:=cell_regrown (w:=wr.drew) d0;have bh:=cell_regrown (w:=wr.drew) d1;have bg:=cell_regrown (w:=wr.drew) d2;clear g2 d0 d1 d2;have Hr:Hid (Below (wr).heap.size (wr) (wr).drew):=zi.drew
                    repeat (quiet_step (fail))
                    refine wpQuiet_nil ?_;refine ⟨rfl,λ wy hby=> ?_⟩;go_simp;simp only [uponV];have Hy:=hid (Hr.trans (hby.mono Hr.size));refine (aWide_calls yc aU aS _ (aW.mono NmE.mono Hy)).mono ?_;rintro e w4 ⟨t,rfl,hb⟩;refine ⟨_,rfl,hb,?_⟩;replace Hr:=hid (Hy.trans (hb.mono Hy.size));clear hb hby Hy;go_simp
                    repeat (quiet_step (fail))
                    refine wpQuiet_nil ?_;refine ⟨rfl,λ wy hby=> ?_⟩;go_simp;simp only [uponV];have Hy:=hid (Hr.trans (hby.mono Hr.size));refine (aWide_calls yg aT aR _ (aV.mono NmE.mono Hy)).mono ?_;rintro e w5 ⟨t2,rfl,hb⟩;refine ⟨_,rfl,hb,?_⟩;replace Hr:=hid (Hy.trans (hb.mono Hy.size));clear hb hby Hy;go_simp
                    repeat (quiet_step (fail))
                    refine wpQuiet_nil ?_;intro wz aB;replace Hr:=hid (Hr.trans (aB.mono Hr.size));clear aB;simp only [wpList];have au:=hid (G.trans (Hr.mono (by have:=G.size;simp at this;omega)));clear Hr;go_wp2;go_roundw
                    case rel=> exact ⟨k+1,_,by omega,by go_num,rfl,au⟩
                    case measure=> simp [intOf];omega
                  . obtain rfl:F=k:=by omega
                    go_wp2;clear g2 v1;go_ret;exact ⟨_,rfl,(λ _=> trivial),U⟩
end
section
open Go.Sort
theorem cRule_16 (L:List Int) (tb nm:ByteArray) (ix:Int) (v:Vl) (A B:Ex) (t1 t2:Int) (hA:ET L t1 A) (hB:ET L t2 B) (hx:ExS (.mk 16 tb nm ix v [A,B])) (hk:Ex.bulk (.mk 16 tb nm ix v [A,B])<=1100000) (sa ta:Option Addr) (sc tc:Nat) (w:World) (hs:ArgsAt w [A,B] (qs sa 2 sc)) (ht:NosAt w [t1,t2] (qs ta 2 tc)):
 Calls Tryz.prog 120 #[.agg #[qi 16,qt tb,qt nm,qi ix,qi v.kind,qi v.int,qt v.text,qs sa 2 sc],qs ta 2 tc] w (RuleP L (.mk 16 tb nm ix v [A,B]) w):=by
 obtain ⟨G,F,rfl⟩:∃b o,ta=some ⟨b,o,none⟩:=by obtain ⟨b,o,cs,h,-⟩:=ht.get 0 (by simp);exact ⟨b,o,h⟩
 obtain ⟨_,_,V,T,q,-,D,rfl⟩:=ht.get 0 (by simp);cases T;have M:w.cell? ⟨G,F,none⟩=some (qi t1):=by simpa using D 0 (by omega)
 obtain ⟨_,_,U,O,-,-,C,rfl⟩:=ht.get 1 (by simp);cases O;have K:w.cell? ⟨G,F+1,none⟩=some (qi t2):=by simpa using C 0 (by omega)
 have HA:=hid hA;have HB:=hid hB;have HS:=hid hs;have J:=hid λ w' h=> cNull_calls _ (.mk 16 tb nm ix v [A,B]) lr sa 2 sc w' h;have I:=hid λ w' h=> tOf_calls _ (.mk 16 tb nm ix v [A,B]) lr hx hk (λ _=> False) sa 2 sc w' (λ _ h=> h.elim) h;simp only [Ex.op,Ex.table,Ex.name,Ex.index,Ex.v,Ex.args] at J I;have V0:=hid (VarIs.new w #[qi 16,qt tb,qt nm,qi ix,qi v.kind,qi v.int,qt v.text,qs sa 2 sc] 37);have H:Hid (Below w.heap.size w (w.alloc (.cells #[qi 16,qt tb,qt nm,qi ix,qi v.kind,qi v.int,qt v.text,qs sa 2 sc] 37))):=zi.alloc lr _;have M:=(H.cell (p:=⟨G,F,none⟩) q).trans M;have K:=(H.cell (p:=⟨G,F+1,none⟩) q).trans K;clear hs ht hA hB C hx hk D q;go_enter Tryz.func120,Tryz.ntmps120;go_wp2_with fail;refine (cFits_calls t1 2 _).mono ?_;rintro e W ⟨rfl,rfl⟩;cases h1:(t1==0 || t1==2)
 . go_wp2
   go_ret2;exact ⟨0,6,rfl,(λ h=> absurd h (by decide)),H⟩
 . go_wp2
   go_ret2;exact ⟨3,0,rfl,(λ _=> ⟨λ h=> absurd h (by decide),λ h=> absurd h (by decide),λ h=> absurd h (by decide),.inl rfl⟩),H⟩
theorem cRule_17 (L:List Int) (tb nm:ByteArray) (ix:Int) (v:Vl) (A:Ex) (t1:Int) (hA:ET L t1 A) (hx:ExS (.mk 17 tb nm ix v [A])) (hk:Ex.bulk (.mk 17 tb nm ix v [A])<=1100000) (sa ta:Option Addr) (sc tc:Nat) (w:World) (hs:ArgsAt w [A] (qs sa 1 sc)) (ht:NosAt w [t1] (qs ta 1 tc)):
 Calls Tryz.prog 120 #[.agg #[qi 17,qt tb,qt nm,qi ix,qi v.kind,qi v.int,qt v.text,qs sa 1 sc],qs ta 1 tc] w (RuleP L (.mk 17 tb nm ix v [A]) w):=by
 obtain ⟨J,I,rfl⟩:∃b o,ta=some ⟨b,o,none⟩:=by obtain ⟨b,o,cs,h,-⟩:=ht.get 0 (by simp);exact ⟨b,o,h⟩
 obtain ⟨_,_,M,K,C,-,q,rfl⟩:=ht.get 0 (by simp);cases K;have H:w.cell? ⟨J,I,none⟩=some (qi t1):=by simpa using q 0 (by omega)
 have V:=hid hA;have U:=hid hs;have G:=hid λ w' h=> cNull_calls _ (.mk 17 tb nm ix v [A]) lr sa 1 sc w' h;have F:=hid λ w' h=> tOf_calls _ (.mk 17 tb nm ix v [A]) lr hx hk (λ _=> False) sa 1 sc w' (λ _ h=> h.elim) h;simp only [Ex.op,Ex.table,Ex.name,Ex.index,Ex.v,Ex.args] at G F;have T:=hid (VarIs.new w #[qi 17,qt tb,qt nm,qi ix,qi v.kind,qi v.int,qt v.text,qs sa 1 sc] 37);have D:Hid (Below w.heap.size w (w.alloc (.cells #[qi 17,qt tb,qt nm,qi ix,qi v.kind,qi v.int,qt v.text,qs sa 1 sc] 37))):=zi.alloc lr _;have H:=(D.cell (p:=⟨J,I,none⟩) C).trans H;clear hs ht hA hx hk q C;go_enter Tryz.func120,Tryz.ntmps120;by_cases g1:t1=3
 . subst g1
   go_wp2;go_ret2;exact ⟨0,6,rfl,(λ h=> absurd h (by decide)),D⟩
 . have O:(t1==3)=false:=by simp [g1]
   go_wp2;go_ret2;exact ⟨3,0,rfl,(λ _=> ⟨λ h=> absurd h (by decide),λ h=> absurd h (by decide),λ h=> absurd h (by decide),.inl rfl⟩),D⟩
theorem cRule_18 (L:List Int) (op:Int) (hop:op=18\/op=19) (tb nm:ByteArray) (ix:Int) (v:Vl) (A B:Ex) (t1 t2:Int) (hA:ET L t1 A) (hB:ET L t2 B) (hx:ExS (.mk op tb nm ix v [A,B])) (hk:Ex.bulk (.mk op tb nm ix v [A,B])<=1100000) (sa ta:Option Addr) (sc tc:Nat) (w:World) (hs:ArgsAt w [A,B] (qs sa 2 sc)) (ht:NosAt w [t1,t2] (qs ta 2 tc)):
 Calls Tryz.prog 120 #[.agg #[qi op,qt tb,qt nm,qi ix,qi v.kind,qi v.int,qt v.text,qs sa 2 sc],qs ta 2 tc] w (RuleP L (.mk op tb nm ix v [A,B]) w):=by
 obtain ⟨H,G,rfl⟩:∃b o,ta=some ⟨b,o,none⟩:=by obtain ⟨b,o,cs,h,-⟩:=ht.get 0 (by simp);exact ⟨b,o,h⟩
 obtain ⟨_,_,W,U,q,-,D,rfl⟩:=ht.get 0 (by simp);cases U;have M:w.cell? ⟨H,G,none⟩=some (qi t1):=by simpa using D 0 (by omega)
 obtain ⟨_,_,V,T,-,-,C,rfl⟩:=ht.get 1 (by simp);cases T;have K:w.cell? ⟨H,G+1,none⟩=some (qi t2):=by simpa using C 0 (by omega)
 have HA:=hid hA;have HB:=hid hB;have HS:=hid hs;have J:=hid λ w' h=> cNull_calls _ (.mk op tb nm ix v [A,B]) lr sa 2 sc w' h;have I:=hid λ w' h=> tOf_calls _ (.mk op tb nm ix v [A,B]) lr hx hk (λ _=> False) sa 2 sc w' (λ _ h=> h.elim) h;simp only [Ex.op,Ex.table,Ex.name,Ex.index,Ex.v,Ex.args] at J I;have V0:=hid (VarIs.new w #[qi op,qt tb,qt nm,qi ix,qi v.kind,qi v.int,qt v.text,qs sa 2 sc] 37);have F:Hid (Below w.heap.size w (w.alloc (.cells #[qi op,qt tb,qt nm,qi ix,qi v.kind,qi v.int,qt v.text,qs sa 2 sc] 37))):=zi.alloc lr _;have M:=(F.cell (p:=⟨H,G,none⟩) q).trans M;have K:=(F.cell (p:=⟨H,G+1,none⟩) q).trans K;clear hs ht hA hB C hx hk D q;rcases hop with rfl | rfl
 all_goals
  go_enter Tryz.func120,Tryz.ntmps120;go_wp2_with fail;refine (cFits_calls t1 3 _).mono ?_;rintro e O ⟨rfl,rfl⟩;cases h1:(t1==0 || t1==3)
  . go_wp2
    go_ret2;exact ⟨0,6,rfl,(λ h=> absurd h (by decide)),F⟩
  . go_wp2_with fail
    refine (cFits_calls t2 3 _).mono ?_;rintro e O ⟨rfl,rfl⟩;cases h2:(t2==0 || t2==3)
    . go_wp2
      go_ret2;exact ⟨0,6,rfl,(λ h=> absurd h (by decide)),F⟩
    . go_wp2
      go_ret2;exact ⟨3,0,rfl,(λ _=> ⟨λ h=> absurd h (by decide),λ h=> absurd h (by decide),λ h=> absurd h (by decide),.inl rfl⟩),F⟩
theorem cRule_20 (L:List Int) (tb nm:ByteArray) (ix:Int) (v:Vl) (A:Ex) (t1:Int) (hA:ET L t1 A) (hx:ExS (.mk 20 tb nm ix v [A])) (hk:Ex.bulk (.mk 20 tb nm ix v [A])<=1100000) (sa ta:Option Addr) (sc tc:Nat) (w:World) (hs:ArgsAt w [A] (qs sa 1 sc)) (ht:NosAt w [t1] (qs ta 1 tc)):
 Calls Tryz.prog 120 #[.agg #[qi 20,qt tb,qt nm,qi ix,qi v.kind,qi v.int,qt v.text,qs sa 1 sc],qs ta 1 tc] w (RuleP L (.mk 20 tb nm ix v [A]) w):=by
 obtain ⟨J,I,rfl⟩:∃b o,ta=some ⟨b,o,none⟩:=by obtain ⟨b,o,cs,h,-⟩:=ht.get 0 (by simp);exact ⟨b,o,h⟩
 obtain ⟨_,_,O,M,C,-,q,rfl⟩:=ht.get 0 (by simp);cases M;have H:w.cell? ⟨J,I,none⟩=some (qi t1):=by simpa using q 0 (by omega)
 have V:=hid hA;have U:=hid hs;have G:=hid λ w' h=> cNull_calls _ (.mk 20 tb nm ix v [A]) lr sa 1 sc w' h;have F:=hid λ w' h=> tOf_calls _ (.mk 20 tb nm ix v [A]) lr hx hk (λ _=> False) sa 1 sc w' (λ _ h=> h.elim) h;simp only [Ex.op,Ex.table,Ex.name,Ex.index,Ex.v,Ex.args] at G F;have T:=hid (VarIs.new w #[qi 20,qt tb,qt nm,qi ix,qi v.kind,qi v.int,qt v.text,qs sa 1 sc] 37);have D:Hid (Below w.heap.size w (w.alloc (.cells #[qi 20,qt tb,qt nm,qi ix,qi v.kind,qi v.int,qt v.text,qs sa 1 sc] 37))):=zi.alloc lr _;have H:=(D.cell (p:=⟨J,I,none⟩) C).trans H;clear hs ht hA hx hk q C;go_enter Tryz.func120,Tryz.ntmps120;go_wp2_with fail;refine (cFits_calls t1 3 _).mono ?_;rintro e K ⟨rfl,rfl⟩;cases h1:(t1==0 || t1==3)
 . go_wp2
   go_ret2;exact ⟨0,6,rfl,(λ h=> absurd h (by decide)),D⟩
 . go_wp2_with fail
   refine (cFits_calls 0 3 _).mono ?_;rintro e K ⟨rfl,rfl⟩;go_wp2;go_ret2;exact ⟨3,0,rfl,(λ _=> ⟨λ h=> absurd h (by decide),λ h=> absurd h (by decide),λ h=> absurd h (by decide),.inl rfl⟩),D⟩
end
section
open Go.Sort
theorem okK_iff (es:List Xp) (hs:List Rw) (j:Nat) (R:Rw) (hj:j<=hs.length):okK es (lastK es hs j) R↔j=0\/0 < cmpR (keyV es R) ((lastK es hs j).getD []):=by
 unfold okK lastK;by_cases h0:j=0
 . simp [h0]
 . rw [if_neg h0,getElem?_eq_getElem (by omega)]
   simp [h0]
theorem lowK_eq (p:Option Rw) (k:Rw):lowK p k=(!p.isSome || decide (cmpR k (p.getD []) < 0)):=by
 cases p <;> simp [lowK]
def lenV:Value->Nat
 | .slice _ n _=> n
 | _=> 0
def RwE (w:World) (R:Rw) (cs:List Value):Prop:=∃x,cs=[x]/\ValsAt w R x
theorem rows_of {w:World} {L:List Rw} {s:Value} (h:LsAt 1 RwE w L s):RowsAt w L s:=by
 rcases h with ⟨rfl,b,rfl⟩ | ⟨b,o,n,c,rfl,rfl,K,T,J⟩
 . exact .mt
 . have I:∀i:Fin L.length,∃x,w.cell? ⟨b,o+i,none⟩=some x/\ValsAt w L[i] x:=λ i=> by
    obtain ⟨cs,-,H,x,rfl,G⟩:=J i i.isLt;exact ⟨x,by simpa using H 0 (by omega),G⟩
   obtain ⟨f,hf⟩:=Classical.axiomOfChoice I;refine .lie L ((List.finRange L.length).map f) b o _ c rfl K (by first | omega | (unfold maxLen;omega)) (λ i x hi=> ?_) ?_
   . simp only [List.getElem?_map] at hi
     obtain ⟨F,A,rfl⟩:=Option.map_eq_some_iff.1 hi;have D:F.val=i:=by rw [List.getElem?_eq_some_iff] at A;obtain ⟨O,C⟩:=A;rw [<-C];simp
     rw [<-D];exact (hf F).1
   . have key:∀(M:List Rw) (q:List Value),M.length=q.length->(∀i (h:i < M.length) (h':i < q.length),ValsAt w M[i] q[i])->RowVs w M q:=λ M=> by
      induction M with
      | nil=> intro q hl _;cases q with
       | nil=> exact .nil
       | cons=> simp at hl
      | cons R M ih=> intro q hl h;cases q with
       | nil=> simp at hl
       | cons x q=> exact .cons (h 0 (by simp) (by simp)) (ih q (by simpa using hl) λ i h1 h2=> h (i+1) (by simpa using h1) (by simpa using h2))
     exact key L _ (by simp) λ i h1 h2=> by have:=(hf ⟨i,h1⟩).2;simpa using this
def GroupsR (es:List Xp) (L:List Rw) (w:World) (e:Ending) (w':World):Prop:=∃v,e=.returned v/\GsAt w' (groupsL es L) v/\(∃a n c,v=qs a n c)/\Below w.heap.size w w'
theorem rGroups_calls (bd:Bd) (es:List Xp) (L:List Rw) (m:Nat) (s:Value) (w:World) (I:RowsAt w L s) (he:XpsAt w es (.slice bd.group.a bd.group.n bd.group.c)) (hm:∀r∈L,r.length=m) (hf:KeyFit es m) (hle:es.length < 1000000000) (hlen:L.length < 1000000000):
 Calls Tryz.prog 16 #[.agg bd.arr,s] w (GroupsR es L w):=by
 obtain ⟨a,n,c,rfl,hn,-⟩:=I.shape;have HS:=hid I;have HN:Hid (L.length=n):=hn.symm;have bK:n < 1000000000:=by omega
 have aR:es.length=bd.group.n:=by obtain ⟨_,_,_,e,h,-⟩:=he.shape;exact ((Value.slice.inj e).2.1.trans h).symm
 have aG:=hid λ R (hR:R∈L) (w':World) s (C:Below w.heap.size w w') (hv:ValsAt w' R s)=> rKey_calls bd es R s w' (he.mono C) hv (by rw [hm R hR];exact hf) hle;obtain ⟨cs,al⟩:∃cs:List Value,bd.arr=cs.toArray:=⟨bd.arr.toList,by simp⟩
 have aX:cs.length=26:=by have h:bd.arr.size=26:=rfl;rw [al] at h;simpa using h
 have aY:cs.toArray[18]? =some (.slice bd.group.a bd.group.n bd.group.c):=by rw [<-al];rfl
 rw [al] at aG ⊢;have av:=hid aX;have bh:=hid aR;have V0:=hid (VarIs.new w cs.toArray 46);have ae:Hid (Below w.heap.size w (w.alloc (.cells cs.toArray 46))):=zi.alloc lr _;have ac:Hid ((w.alloc (.cells cs.toArray 46)).heap.size=w.heap.size+1):=by show _=_;simp
 generalize bd.group.a=ga at *;generalize bd.group.n=gn at *;generalize bd.group.c=gc at *;have HC:=hid ((V0.cell 18).trans aY);obtain ⟨i0,ii,br,bq,bp⟩:=info_parts Tryz.info41';obtain ⟨j0,jj,bo,bn,bm⟩:=info_parts Tryz.info60';clear I hn he hm hf al aX aY hlen aR;go_enter Tryz.func16,Tryz.ntmps16;go_upto_region 1 with (fail)
 generalize w.alloc (.cells cs.toArray 46)=W0 at *;have bL:=HC.out;by_cases hg0:gn=0
 . subst hg0
   have HZ:Hid (groupsL es L=[L]):=by show _=_;unfold groupsL;rw [if_pos bh.out]
   have aA:Below W0.heap.size W0 (W0.alloc (.cells #[.slice a n c] 41)):=zi.alloc lr _;have HF:=hid (show GsAt (W0.alloc (.cells #[.slice a n c] 41)) (groupsL es L) (.slice (some ⟨W0.heap.size,0,none⟩) 1 1)/\Below w.heap.size w (W0.alloc (.cells #[.slice a n c] 41)) from ⟨by
    rw [HZ.out];refine ⟨_,1,1,rfl,rfl,λ i hi=> ?_⟩;obtain rfl:i=0:=by simpa using hi
    have hv:=VarIs.new W0 #[.slice a n c] 41;exact ⟨_,0,_,rfl,hv.lt,by simp,HS.mono (ae.trans (aA.mono ae.size))⟩,ae.trans (aA.mono ae.size)⟩)
   clear aA;go_wp2;go_ret;exact ⟨_,rfl,HF.1,⟨_,_,_,rfl⟩,HF.2⟩
 have aM:es.length≠0:=by have:=bh.out;omega
 obtain ⟨I,am⟩:=groups_cls es L aM;obtain ⟨gs,az⟩:=gx (groupsL es L)
 have aH:=hid az;rw [az] at am;have bj:=hid am;have M:Hid (gs.length=I.length):=by show _=_;rw [am.1];simp
 have z0:((gn:Int)==0)=false:=by rw [beq_eq_false_iff_ne];omega
 clear az am aM;go_wp2;go_loopw [5,6] (λ v l wr=> ∃(j:Nat) (qa:Option Addr) (qn qc:Nat),Hid (j<=I.length)/\l=.slice qa qn qc/\Hid (ValsAt wr ((lastK es I j).getD []) (.slice qa qn qc))/\Hid (Bl 41 1 GrE (w.heap.size+1) (λ _=> False) wr (gs.take j) v)/\Hid (Below (w.heap.size+1) W0 wr)) (λ v _ _=> I.length - lenV v)
 case atStart=> exact ⟨0,none,0,0,zero_le _,rfl,.mt,Bl.nil _ _ _ _ _ _,zi⟩
 case round=>
  obtain ⟨j,qa,qn,qc,ar,rfl,bf,HB,Hb⟩:=hrel
  rename World=> wj
  have aa:=hid (ae.trans (Hb.mono (le_succ _)));have an:=hid (V0.below Hb (lt_succ_self _));obtain ⟨va,vc,hv⟩:=HB.shape;have aN:(gs.take j).length=j:=by rw [length_take,M.out];have:=ar.out;omega
  rw [aN] at hv;subst hv;obtain ⟨G,ay⟩:=gx (lastK es I j)
  rw [ay] at bf;have bg:=hid ay;clear ay aN;go_wp2;go_loopw [7,8,9] (λ kv f z wr=> ∃(k:Nat) (pa:Option Addr) (pn pc:Nat),k<=n/\z=.int .i64 k/\f=.bool (pickK es (L.take k) G).isSome/\kv=.slice pa pn pc/\Hid (Ind (λ i=> i < wj.heap.size) wr λ w=> ValsAt w ((pickK es (L.take k) G).getD []) (.slice pa pn pc))/\Hid (Below wj.heap.size wj wr)) (λ _ _ z _=> n - (intOf z).toNat)
  case atStart=> exact ⟨0,none,0,0,zero_le _,rfl,by simp [pickK],rfl,Ind.triv λ _=> by simp [pickK];exact .mt,zi⟩
  case round=>
   obtain ⟨k,pa,pn,pc,hk,rfl,rfl,rfl,ah,V⟩:=hrel;have Hw:=hid (aa.trans (V.mono aa.size));by_cases hlt:k < n
   . have J:k < L.length:=by rw [HN.out];exact hlt
     obtain ⟨b,o,rfl⟩:=HS.has k hlt;obtain ⟨ax,nx,cx,A,-⟩:=HS.row k J;obtain ⟨hc,hx,-⟩:=A.out _ Hw;have aE:=hid hx;have ai:=hid λ (w':World) (C:Below wr.heap.size wr w')=> aG.out L[k] (getElem_mem J) w' (.slice ax nx cx) (Hw.trans (C.mono Hw.size)) (aE.mono C);have bc:Hid (pickK es (L.take (k+1)) G=if okK es G L[k] then (if lowK (pickK es (L.take k) G) (keyV es L[k]) then some (keyV es L[k]) else pickK es (L.take k) G) else pickK es (L.take k) G):=by show _=_;rw [take_succ_eq_append_getElem J,pick_snoc]
     have ao:Hid (okK es G L[k]↔j=0\/0 < cmpR (keyV es L[k]) (G.getD [])):=by show _↔_;rw [<-bg.out];exact okK_iff es I j L[k] ar
     generalize L[k]=R at *;generalize pickK es (L.take k) G=p at *;have k0:(0:Int)<=(k:Int):=by omega
     have k1:(k:Int) < (n:Int):=by omega
     have aB:=hid (an.below V an.lt);clear J hx A;go_upto_region 10 with (fail)
     refine wp_region_segs [([0,1,2,3,4],5)] [6] [] (by kernel_rfl) (by kernel_rfl) ?_;simp only [q2c,wpSegs];have aw:=cell_regrown (w:=wr.drew) hc;clear hc;have ad:=hid (aB.drew).cell;have D:Hid (Below (wr).heap.size (wr) (wr).drew):=zi.drew
     repeat (first | go_big_quiet_step (fail) | quiet_step (fail))
     refine quiet_load_row rfl 46 _ rfl _ rfl _ ad Tryz.underlying46 rfl (by rw [av.out];kernel_rfl) ?_;go_simp
     repeat (first | go_big_quiet_step (fail) | quiet_step (fail))
     refine wpQuiet_nil ?_;refine ⟨rfl,λ wy hby=> ?_⟩;go_simp;simp only [uponV];have T:=hid (D.trans (hby.mono D.size));have aL:=le_trans V.size T.size;refine (ai.out _ T).mono ?_;rintro e w4 ⟨kv,rfl,ab,⟨ka,kn,kc,rfl⟩,C⟩;refine ⟨_,rfl,C,?_⟩;replace D:=hid (T.trans (C.mono T.size));clear C hby T;have aq:=hid (ab.sub (Y:=λ i=> i < wj.heap.size) λ i _ h=> lt_of_lt_of_le h aL);clear ab aL;go_simp
     repeat (first | go_big_quiet_step (fail) | quiet_step (fail))
     refine wpQuiet_nil ?_;intro wz W;replace D:=hid (D.trans (W.mono D.size));have ap:=hid (aq.mono W (Y:=λ i=> i < wj.heap.size) λ _ _ h=> h);have K:=hid (V.trans (D.mono V.size));have aF:=hid (ah.mono D (Y:=λ i=> i < wj.heap.size) λ _ _ h=> h);have bz:=hid (bf.mono K);clear W aq aw ad ai;obtain ⟨fb,ak⟩:=gx p.isSome
     have aI:=hid ak;have U:=hid (lowK_eq p (keyV es R));rw [ak];rw [ak] at U;clear ak;have af:Hid (Below wz.heap.size wz wz):=zi;go_upto_region 11 with (fail)
     go_cut [8,50] from 32 to 49 (λ z8 z wx=> z8=.bool fb/\∃q:Bool,z=.bool q/\Hid (q=true↔okK es G R/\lowK p (keyV es R)=true)/\Hid (Below wz.heap.size wz wx))
     case first=>
      by_cases h0:j=0
      . have z0:((j:Int)==0)=true:=by rw [h0];rfl
        have HO:Hid (okK es G R):=ao.2 (.inl h0);have H0:=hid h0;clear h0;cases fb with
        | false=>
         go_wp2_with fail;go_meet;exact ⟨rfl,_,rfl,⟨λ _=> ⟨HO,by rw [U.out];simp⟩,λ _=> rfl⟩,af⟩
        | true=>
         have ag:=hid (rrows_calls (keyV es R) (p.getD []) (.slice ka kn kc) (.slice pa pn pc) wz (ap.here.mono af) (aF.here.mono af));go_wp2_with fail;refine ag.mono ?_;rintro e w9 ⟨rfl,C⟩;have H9:=hid (af.trans (C.mono af.size));obtain ⟨c2,O⟩:=gx (cmpR (keyV es R) (p.getD []))
         have aj:=hid O;rw [O];clear C O ag;by_cases hl:c2 < 0
         . go_wp2_with fail
           go_meet;exact ⟨rfl,_,rfl,⟨λ _=> ⟨HO,by rw [U.out,aj.out];simp [hl]⟩,λ _=> rfl⟩,H9⟩
         . go_wp2_with fail
           go_meet;exact ⟨rfl,_,rfl,⟨λ h=> absurd (of_decide_eq_true h) (by omega),λ h=> absurd h.2 (by rw [U.out,aj.out];simp;omega)⟩,H9⟩
      . have z0:((j:Int)==0)=false:=by
         rw [beq_eq_false_iff_ne];omega
        have H0:=hid h0;clear h0;have bb:=hid (rrows_calls (keyV es R) (G.getD []) (.slice ka kn kc) (.slice qa qn qc) wz ap.here bz);go_wp2_with fail;refine bb.mono ?_;rintro e w8 ⟨rfl,C⟩;have H8:=hid C;obtain ⟨c1,aU⟩:=gx (cmpR (keyV es R) (G.getD []))
        rw [aU] at ao ⊢;clear C aU bb;by_cases hl1:0 < c1
        . have HO:Hid (okK es G R):=ao.2 (.inr hl1)
          cases fb with
          | false=>
           go_wp2_with fail;go_meet;exact ⟨rfl,_,rfl,⟨λ _=> ⟨HO,by rw [U.out];simp⟩,λ _=> rfl⟩,H8⟩
          | true=>
           have ag:=hid (rrows_calls (keyV es R) (p.getD []) (.slice ka kn kc) (.slice pa pn pc) w8 (ap.here.mono H8) (aF.here.mono H8));go_wp2_with fail;refine ag.mono ?_;rintro e w9 ⟨rfl,C⟩;have H9:=hid (H8.trans (C.mono H8.size));obtain ⟨c2,O⟩:=gx (cmpR (keyV es R) (p.getD []))
           have aj:=hid O;rw [O];clear C O ag;by_cases hl:c2 < 0
           . go_wp2_with fail
             go_meet;exact ⟨rfl,_,rfl,⟨λ _=> ⟨HO,by rw [U.out,aj.out];simp [hl]⟩,λ _=> rfl⟩,H9⟩
           . go_wp2_with fail
             go_meet;exact ⟨rfl,_,rfl,⟨λ h=> absurd (of_decide_eq_true h) (by omega),λ h=> absurd h.2 (by rw [U.out,aj.out];simp;omega)⟩,H9⟩
        . have HO:Hid (¬ okK es G R):=λ h=> (ao.1 h).elim H0 hl1
          go_wp2_with fail;go_meet;exact ⟨rfl,_,rfl,⟨λ h=> (by cases h),λ h=> absurd h.1 HO⟩,H8⟩
     obtain ⟨rfl,q,rfl,HQ,Hx⟩:=hcut
     rename World=> wx
     have ba:=hid (K.trans (Hx.mono K.size));cases q with
     | true=>
      have HY:Hid (pickK es (L.take (k+1)) G=some (keyV es R)):=by show _=_;have h:=HQ.1 (by simp);rw [bc.out,if_pos h.1,if_pos h.2]
      have bC:=hid (ap.mono Hx (Y:=λ i=> i < wj.heap.size) λ _ _ h=> h);go_wp2;go_roundw
      case rel=> exact ⟨k+1,_,_,_,by omega,by go_num,by rw [HY.out];rfl,rfl,by rw [HY.out];exact bC,ba⟩
      case measure=> simp [intOf];omega
     | false=>
      have HY:Hid (pickK es (L.take (k+1)) G=p):=by
       show _=_;rw [bc.out];by_cases h1:okK es G R
       . rw [if_pos h1,if_neg (λ h2=> absurd (HQ.2 ⟨h1,h2⟩) (by simp))]
       . rw [if_neg h1]
      have bw:=hid (aF.mono Hx (Y:=λ i=> i < wj.heap.size) λ _ _ h=> h);go_wp2;go_roundw
      case rel=> exact ⟨k+1,_,_,_,by omega,by go_num,by rw [HY.out,aI.out],rfl,by rw [HY.out];exact bw,ba⟩
      case measure=> simp [intOf];omega
   . obtain rfl:n=k:=by omega
     have be:Hid (pickK es (L.take n) G=(I[j]?).map (keyV es)):=by show _=_;rw [<-HN.out,take_length,<-bg.out];exact pick_next es bj j ar
     rw [be.out] at ah ⊢;by_cases hjl:j < I.length
     . have HH:Hid ((I[j]?).map (keyV es)=some (keyV es I[j])):=by show _=_;rw [getElem?_eq_getElem hjl];rfl
       have bB:Hid (lastK es I (j+1)=some (keyV es I[j])):=by show _=_;unfold lastK;rw [if_neg (by omega)];exact HH
       have bE:Hid (gs.take (j+1)=gs.take j++[L.filter λ r=> keyC es r I[j]==0]):=by
        show _=_;have aQ:j < gs.length:=by rw [M.out];exact hjl
        rw [take_succ_eq_append_getElem aQ];congr 2;have h1:gs[j]? =(I.map λ h=> L.filter λ r=> keyC es r h==0)[j]? :=by rw [<-bj.1]
        rw [getElem?_eq_getElem aQ,List.getElem?_map,getElem?_eq_getElem hjl] at h1;exact Option.some.inj h1
       rw [HH.out] at ah ⊢;generalize I[j]=H at *;rw [show (some (keyV es H)).isSome=true from rfl];clear be HH
       rename World=> wm
       have aD:=hid (aa.trans (V.mono aa.size));have aZ:=hid (an.below V an.lt);have bk:=hid (HB.below V);go_wp2;go_loopw [11,12] (λ g z wr=> ∃k:Nat,k<=n/\z=.int .i64 k/\Hid (Bl 60 1 RwE wm.heap.size (λ i=> (Value.slice va j vc).ownBlock=some i) wr ((L.take k).filter λ r=> keyC es r H==0) g)/\Hid (Below wm.heap.size wm wr)) (λ _ z _=> n - (intOf z).toNat)
       case atStart=> exact ⟨0,zero_le _,rfl,by rw [show ((L.take 0).filter λ r=> keyC es r H==0)=[] from rfl];exact Bl.nil _ _ _ _ _ _,zi⟩
       case round=>
        obtain ⟨k,hk,rfl,HG,F⟩:=hrel;have Hw:=hid (aD.trans (F.mono aD.size));by_cases hlt:k < n
        . have J:k < L.length:=by rw [HN.out];exact hlt
          obtain ⟨b,o,rfl⟩:=HS.has k hlt;obtain ⟨ax,nx,cx,A,-⟩:=HS.row k J;obtain ⟨hc,hx,-⟩:=A.out _ Hw;have aE:=hid hx;have ai:=hid λ (w':World) (C:Below wr.heap.size wr w')=> aG.out L[k] (getElem_mem J) w' (.slice ax nx cx) (Hw.trans (C.mono Hw.size)) (aE.mono C);have HT:Hid ((L.take (k+1)).filter (λ r=> keyC es r H==0)=(L.take k).filter (λ r=> keyC es r H==0)++if cmpR (keyV es L[k]) (keyV es H)=0 then [L[k]] else []):=by
           show _=_;rw [take_succ_eq_append_getElem J,List.filter_append];congr 1;unfold keyC;by_cases h:cmpR (keyV es L[k]) (keyV es H)=0
           . rw [if_pos h];simp [h]
           . rw [if_neg h];simp [h]
          have bA:Hid (((L.take k).filter λ r=> keyC es r H==0).length<=1000000000):=by show _<=_;refine le_trans (List.length_filter_le _ _) ?_;rw [length_take];omega
          have bG:=hid λ w' h=> (A.out w' h).2.1;generalize L[k]=R at *;have k0:(0:Int)<=(k:Int):=by omega
          have k1:(k:Int) < (n:Int):=by omega
          have aB:=hid (aZ.below F aZ.lt);have bM:=hid hc;clear J hx;go_upto_region 19 with (fail)
          refine wp_region_segs [([0,1,2,3,4,6],5),([],7)] [8] [] (by kernel_rfl) (by kernel_rfl) ?_;simp only [q2c,wpSegs];have aw:=cell_regrown (w:=wr.drew) hc;clear hc;have ad:=hid (aB.drew).cell;have D:Hid (Below (wr).heap.size (wr) (wr).drew):=zi.drew
          repeat (first | go_big_quiet_step (fail) | quiet_step (fail))
          refine quiet_load_row rfl 46 _ rfl _ rfl _ ad Tryz.underlying46 rfl (by rw [av.out];kernel_rfl) ?_;go_simp
          repeat (first | go_big_quiet_step (fail) | quiet_step (fail))
          refine wpQuiet_nil ?_;refine ⟨rfl,λ wy hby=> ?_⟩;go_simp;simp only [uponV];have T:=hid (D.trans (hby.mono D.size));refine (ai.out _ T).mono ?_;rintro e w4 ⟨kv,rfl,ab,⟨ka,kn,kc,rfl⟩,C⟩;refine ⟨_,rfl,C,?_⟩;replace D:=hid (T.trans (C.mono T.size));clear C hby T;have aq:=hid ab.here;clear ab;go_simp
          repeat (first | go_big_quiet_step (fail) | quiet_step (fail))
          refine wpQuiet_nil ?_;refine ⟨rfl,λ wy hby=> ?_⟩;go_simp;simp only [uponV];have T:=hid (D.trans (hby.mono D.size));have bD:=hid (aq.mono hby);refine (rrows_calls (keyV es R) (keyV es H) (.slice ka kn kc) (.slice pa pn pc) _ bD (ah.here.mono (F.trans (T.mono F.size)))).mono ?_;rintro e w8 ⟨rfl,C⟩;refine ⟨_,rfl,C,?_⟩;replace D:=hid (T.trans (C.mono T.size));clear C hby T;go_simp
          repeat (first | go_big_quiet_step (fail) | quiet_step (fail))
          refine wpQuiet_nil ?_;intro wz W;replace D:=hid (D.trans (W.mono D.size));have K:=hid (F.trans (D.mono F.size));have aC:=hid (Hw.trans (D.mono Hw.size));have au:=hid (HG.below D);obtain ⟨cc,aT⟩:=gx (cmpR (keyV es R) (keyV es H))
          rw [aT] at HT ⊢;obtain ⟨hc,-,-⟩:=A.out _ aC;clear W aw ad ai aT D A;by_cases h0:cc=0
          . subst h0
            go_wp2_with (at_builtin;go_loud (refine wpList_pushW (E:=RwE) rfl _ _ 41 rfl j0 _ 24 Tryz.underlying41 jj bo bn bm rfl (by decide) (by decide) rfl au.out R [.slice ax nx cx] 60 rfl rfl one_sl ?hE bA.out K.out.size ?hX ?_))
            case hX=>
             intro i h;have:=(HB.ge i h).2;have:=V.size;have:=K.size;omega
            case hE=>
             intro w' ha;refine ⟨_,rfl,bG.out w' (aC.trans (ha.below aC.size λ i hi h=> ?_))⟩;rcases h with h | h
             . have:=(HB.ge i h).1
               omega
             . have:=(au.ge i h).1
               have:=aD.size;omega
            intro g' w9 bF aW _ _;have bt:=hid (K.trans aW);clear aW au hc;go_wp2;go_roundw
            case rel=> exact ⟨k+1,by omega,by go_num,by rw [HT.out,if_pos (by simp)];exact bF,bt⟩
            case measure=> simp [intOf];omega
          . have z1:(cc==0)=false:=by simp [h0]
            clear hc;go_wp2;go_roundw
            case rel=> exact ⟨k+1,by omega,by go_num,by rw [HT.out,if_neg h0,append_nil];exact au,K⟩
            case measure=> simp [intOf];omega
        . obtain rfl:n=k:=by omega
          have aO:((L.take n).filter λ r=> keyC es r H==0).length<=2000000000000:=by refine le_trans (List.length_filter_le _ _) ?_;rw [length_take];omega
          have bi:=hid (((HG.done aO).sub (Y:=λ i=> (Value.slice va j vc).ownBlock=some i) λ i _ e=> ⟨e,λ e2=> by have:=(HG.ge i e2).1;have:=(bk.ge i e).2;omega⟩).imp λ _ h=> rows_of h);clear aO;rw [<-HN.out,take_length] at bi;obtain ⟨ya,yc,hy⟩:=HG.shape;obtain ⟨yn,aJ⟩:=gx (((L.take n).filter λ r=> keyC es r H==0).length)
          rw [aJ] at hy;subst hy;clear aJ
          rename World=> wl
          have bH:=hid (bk.below F);have bs:Hid (w.heap.size+1<=wl.heap.size):=by have:=(Hb.trans (V.mono (by have:=Hb.size;have:=ac.out;omega))).size;have:=F.size;have:=ac.out;show _<=_;omega
          have bu:=hid ((Hb.trans (V.mono (by have:=Hb.size;have:=ac.out;omega))).trans (F.mono (by have:=(Hb.trans (V.mono (by have:=Hb.size;have:=ac.out;omega))).size;have:=ac.out;omega)));go_wp2_with (at_builtin;go_loud (refine wpList_push (E:=GrE) rfl _ _ 56 rfl i0 _ 24 Tryz.underlying56 ii br bq bp rfl (by decide) (by decide) rfl bH.out (L.filter λ r=> keyC es r H==0) [.slice ya yn yc] 41 rfl rfl one_sl ((bi.out.sub λ i _ h=> h.elim False.elim id).imp λ w h=> ⟨_,rfl,h⟩) ?hl bs.out (λ i h=> h.elim) ?_))
          case hl=>
           rw [length_take,M.out];have h1:=(groupsL_parts es L).1;rw [aH.out,M.out] at h1;have:=HN.out;omega
          intro v9 w9 bl aV aS _;have bv:=hid (bu.trans aV);have bx:=hid ((ah.mono F (Y:=λ i=> i < wj.heap.size) λ _ _ h=> h).agr (Agr.grown aS) (λ i _ e=> (HB.ge i e.symm).2) (Z:=λ _=> False) λ _ _ h=> h.elim);obtain ⟨bJ,bI,aK⟩:=bl.shape;have aP:(gs.take j++[L.filter λ r=> keyC es r H==0]).length=j+1:=by rw [length_append,length_take,M.out];have:=ar.out;simp;omega
          rw [aP] at aK;subst aK;clear aV aS aP;go_wp2;go_roundw
          case rel=> exact ⟨j+1,pa,pn,pc,(by show _<=_;omega),rfl,by rw [bB.out];exact bx.here,by rw [bE.out];exact bl,bv⟩
          case measure=> simp [lenV];omega
     . have HH:Hid ((I[j]?).map (keyV es)=none):=by show _=_;rw [List.getElem?_eq_none (by omega)];rfl
       rw [HH.out,show (none:Option Rw).isSome=false from rfl]
       rename World=> wm
       have HF:=hid (show GsAt wm (groupsL es L) (.slice va j vc)/\Below w.heap.size w wm from ⟨by have h:=gs_of ((HB.below V).at (by rw [length_take,M.out];have h1:=(groupsL_parts es L).1;rw [aH.out,M.out] at h1;have:=HN.out;omega));rw [take_of_length_le (by rw [M.out];omega)] at h;rw [aH.out];exact h,aa.trans (V.mono aa.size)⟩);go_wp2;go_ret;exact ⟨_,rfl,HF.1,⟨_,_,_,rfl⟩,HF.2⟩
end
end
end Go.Proofs.YtcomoomndgbckaaGreat
