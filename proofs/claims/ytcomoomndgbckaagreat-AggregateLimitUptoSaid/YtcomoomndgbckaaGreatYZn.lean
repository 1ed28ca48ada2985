/- Part 36 of the proof. -/
import Derived.Test.YtcomoomndgbckaaGreatY32
import Derived.Test.YtcomoomndgbckaaGreatY33
set_option maxHeartbeats 16000000
set_option maxRecDepth 100000
open Go Go.RowKit
open Go.Lib (hid)
open List (getElem?_toArray nil_append cons_append all_eq_true)
open Nat (lt_succ_self le_trans lt_of_lt_of_le)
namespace Go.Proofs.YtcomoomndgbckaaGreat
noncomputable section
section
open Go.Sort
theorem lawLimit_calls (s:Stt) (v:StV) (w:World) (h:SttAt w s v) (S:List Tb) (sa:Option Addr) (sc:Nat) (hsc:SchAt w S (qs sa S.length sc)) (hz:InZ S s) (R:List Rw) (ra:Option Addr) (rn rc:Nat) (hr:RowsAt w R (qs ra rn rc)) (_au:rn<=rc) (_hc9:rc<=9223372036854775807) (hrl:∀r∈R,r.length < 1099511627776):Calls Tryz.prog 5 #[qs sa S.length sc,.agg (s.cells v).toArray,qs ra rn rc] w (IsP true w):=by
 obtain ⟨a1,n1,k1,a2,n2,k2,a3,n3,k3,a4,n4,k4,a5,n5,k5,a6,n6,k6,a7,n7,k7,a8,n8,k8,a9,n9,k9,a10,J,H,a11,I,G,rfl,h1,m1,h2,m2,h3,m3,h4,m4,h5,m5,h6,m6,h7,m7,h8,m8,h9,m9,bb,bV,ba,bU⟩:=h.shapes;have br:=hid h1;have bq:=hid h2;have bp:=hid h3;have bo:=hid h4;have bn:=hid h5;have bm:=hid h6;have bl:=hid h7;have bk:=hid h8;have bj:=hid h9;have ax:=hid bb;have aw:=hid ba;clear h1 h2 h3 h4 h5 h6 h7 h8 h9 bb ba;have HD:Hid (SttAt w s ⟨qs a1 s.create.cols.length k1,qs a2 s.create.keys.length k2,qs a3 s.create.fks.length k3,qs a4 s.create.checks.length k4,qs a5 s.values.length k5,qs a6 s.sets.length k6,qs a7 s.items.length k7,qs a8 s.src.length k8,qs a9 s.cond.args.length k9,qs a10 s.group.length H,qs a11 s.order.length G⟩):=by show SttAt _ _ _;rw [br.out,bq.out,bp.out,bo.out,bn.out,bm.out,bl.out,bk.out,bj.out,ax.out,aw.out];exact h
 clear h;simp only [Stt.cells,Ex.cells,cons_append,nil_append];obtain ⟨lim,hl⟩:=gx s.limit
 have HL:=hid hl;obtain ⟨kd,aL⟩:=gx s.kind
 obtain ⟨tb,aJ⟩:=gx s.table
 obtain ⟨wo,aF⟩:=gx s.cond.op
 obtain ⟨wt,aE⟩:=gx s.cond.table
 obtain ⟨M,aG⟩:=gx s.cond.name
 obtain ⟨wi,aI⟩:=gx s.cond.index
 obtain ⟨wk,aH⟩:=gx s.cond.v.kind
 obtain ⟨wv,aD⟩:=gx s.cond.v.int
 obtain ⟨wx,aC⟩:=gx s.cond.v.text
 obtain ⟨nm,aK⟩:=gx s.name
 rw [aL,aJ,aF,aE,aG,aI,aH,aD,aC,aK,hl];have HK:=hid aL;have bJ:=hid aJ;have bN:=hid aK;have HC:=hid (And.intro aF (And.intro aE (And.intro aG (And.intro aI (And.intro aH (And.intro aD aC))))));clear aL aJ aF aE aG aI aH aD aC aK hl;have V0:=hid (VarIs.new w (q1a kd tb a1 n1 k1 a2 n2 k2 a3 n3 k3 a4 n4 k4 a5 n5 k5 a6 n6 k6 a7 n7 k7 a8 n8 k8 wo wt M wi wk wv wx a9 n9 k9 a10 J H a11 I G lim nm) 40);have aO:Hid (Below w.heap.size w (w.alloc (.cells (q1a kd tb a1 n1 k1 a2 n2 k2 a3 n3 k3 a4 n4 k4 a5 n5 k5 a6 n6 k6 a7 n7 k7 a8 n8 k8 wo wt M wi wk wv wx a9 n9 k9 a10 J H a11 I G lim nm) 40))):=zi.alloc lr _;have bI:Hid (Below ((w.alloc (.cells (q1a kd tb a1 n1 k1 a2 n2 k2 a3 n3 k3 a4 n4 k4 a5 n5 k5 a6 n6 k6 a7 n7 k7 a8 n8 k8 wo wt M wi wk wv wx a9 n9 k9 a10 J H a11 I G lim nm) 40))).heap.size (w.alloc (.cells (q1a kd tb a1 n1 k1 a2 n2 k2 a3 n3 k3 a4 n4 k4 a5 n5 k5 a6 n6 k6 a7 n7 k7 a8 n8 k8 wo wt M wi wk wv wx a9 n9 k9 a10 J H a11 I G lim nm) 40)) (w.alloc (.cells (q1a kd tb a1 n1 k1 a2 n2 k2 a3 n3 k3 a4 n4 k4 a5 n5 k5 a6 n6 k6 a7 n7 k7 a8 n8 k8 wo wt M wi wk wv wx a9 n9 k9 a10 J H a11 I G lim nm) 40))):=zi;have bu:Hid (SttAt w s ⟨qs a1 n1 k1,qs a2 n2 k2,qs a3 n3 k3,qs a4 n4 k4,qs a5 n5 k5,qs a6 n6 k6,qs a7 n7 k7,qs a8 n8 k8,qs a9 n9 k9,qs a10 J H,qs a11 I G⟩):=by have:=HD.mono zi;rw [br.out,bq.out,bp.out,bo.out,bn.out,bm.out,bl.out,bk.out,bj.out,ax.out,aw.out] at this;exact this
 obtain ⟨ns,aY⟩:=gx S.length
 have aV:Hid (∀w',Below w.heap.size w w'->SttAt w' s ⟨qs a1 n1 k1,qs a2 n2 k2,qs a3 n3 k3,qs a4 n4 k4,qs a5 n5 k5,qs a6 n6 k6,qs a7 n7 k7,qs a8 n8 k8,qs a9 n9 k9,qs a10 J H,qs a11 I G⟩->Calls Tryz.prog 9 #[qs sa S.length sc,.agg (q1a kd tb a1 n1 k1 a2 n2 k2 a3 n3 k3 a4 n4 k4 a5 n5 k5 a6 n6 k6 a7 n7 k7 a8 n8 k8 wo wt M wi wk wv wx a9 n9 k9 a10 J H a11 I G lim nm),qs ra rn rc] w' (BndQ s ⟨qs a1 n1 k1,qs a2 n2 k2,qs a3 n3 k3,qs a4 n4 k4,qs a5 n5 k5,qs a6 n6 k6,qs a7 n7 k7,qs a8 n8 k8,qs a9 n9 k9,qs a10 J H,qs a11 I G⟩ R w')):=λ w' A h=> by have:=bound_calls s ⟨qs a1 n1 k1,qs a2 n2 k2,qs a3 n3 k3,qs a4 n4 k4,qs a5 n5 k5,qs a6 n6 k6,qs a7 n7 k7,qs a8 n8 k8,qs a9 n9 k9,qs a10 J H,qs a11 I G⟩ w' h S sa sc (hsc.mono TbE.mono A) hz R _ (hr.mono A);simp only [Stt.cells,Ex.cells,cons_append,nil_append,HK.out,bJ.out,bN.out,HL.out,HC.1,HC.2.1,HC.2.2.1,HC.2.2.2.1,HC.2.2.2.2.1,HC.2.2.2.2.2.1,HC.2.2.2.2.2.2] at this;exact this
 have bi:Hid (s.items.length<=1100000/\s.group.length<=1100000):=⟨hz.items.1,hz.group.1⟩
 have HR:=hid hr;have bL:=hid hrl;have HN:Hid (R.length=rn):=by obtain ⟨_,_,_,e,h,-⟩:=hr.shape;exact ((Value.slice.inj e).2.1.trans h).symm
 rw [aY] at aV ⊢;unfold IsP;clear aY hsc hz hr hrl;go_enter Tryz.func5,Tryz.ntmps5;go_wp2_with fail;refine (awake_calls _).mono ?_;rintro e w1 ⟨rfl,A⟩;have ae:=hid (aO.trans (A.mono aO.size));have be:=hid (V0.below A V0.lt);clear A V0 aO bI;go_wp2_with (refine wpList_load_stmt rfl _ rfl _ rfl be.out.cell (by rfl) ?_);refine (aV.out _ ae (bu.mono ae)).mono ?_;rintro e L ⟨bd,q,rfl,hq,A⟩;have HQ:=hid hq;have ad:=hid (ae.trans (A.mono ae.size));have bF:=hid ae.size;clear hq A be aV;obtain ⟨cs,ab⟩:∃cs:List Value,bd.arr=cs.toArray:=⟨bd.arr.toList,by simp⟩
 have O:Hid (cs.length=26):=by show _=_;have h:bd.arr.size=26:=rfl;rw [ab] at h;simpa using h
 have bh:Hid (cs.all (·.oneCell')=true):=by show _=_;rw [all_eq_true];intro v hv;exact arr_one bd v (by rw [ab];exact hv)
 rw [ab];have aU:=hid ab;clear ab;go_wp2_with (refine wpList_store_row rfl _ _ _ rfl _ rfl rfl (VarIs.new _ _ _) (by rw [O.out];rfl) (by rw [O.out];kernel_rfl) bh ?_);intro w4 VB A4;have bz:=hid (((zi.alloc lr _).trans (A4.below (by simp) (λ k hk=> by show ¬ k=_;omega)):Below L.heap.size L w4));have bE:=hid (ad.trans (bz.mono ad.size));clear A4;cases q with
 | false=>
  go_wp2;go_ret;exact ⟨rfl,bE⟩
 | true=>
  obtain ⟨ap,hF,⟨cols,bB,gs,aj,aq,aB,hR⟩,aX,ao⟩:=HQ.out (by simp);have bC:bB.length=s.items.length:=by have:=congrArg List.length aj.agg;simpa using this
  obtain ⟨es,js,aZ,ar⟩:=bound_fit (w:=L) aj ((aq.mono zi (Y:=λ j=> j < w.heap.size) λ j _ h=> lt_of_lt_of_le h bF).here) (by rw [<-aX];exact bu.order.mono OrE.mono ad) hF hR aB ⟨by have:=bi.1;omega,by have:=bi.2;have:=aj.len;omega⟩;have bO:=hid aZ;have ay:=hid ar;have bs:=hid ao;have bR:=hid aB;have ah:=hid ap;have bK:=hid (hF.2.2.2.2);have bM:=hid λ r hr=> (hR r hr).1;clear aZ ar ao aj aq aB hR aX hF bC HQ ap;have bQ:Hid (∀q:Int,({ bd with limit:=q }:Bd).arr=(cs.set 20 (qi q)).toArray):=λ q=> by
   have h:bd.arr.toList=cs:=by rw [aU.out]
   rw [<-h];rfl
  have bt:=hid λ (q:Int)=> RFit.lim (ay.out R (λ _ h=> h) ah).1 q;have an:=hid λ (q:Int) (bx g k:Nat) (wyy:World) (h1:Below L.heap.size L wyy) (T:Boxed wyy bx 41 (qs (some ⟨g,0,none⟩) k k)) (o:RowsAt wyy R (qs (some ⟨g,0,none⟩) k k)) (hlt:g < wyy.heap.size)=> result_new { bd with limit:=q } es js (odsOf s.order) R cols.length q bx g 0 k k wyy rfl ((bt.out q).mono h1) T o hlt;simp only [bQ.out] at an;have bv:=hid λ (wyy:World) (h1:Below w.heap.size w wyy)=> all2_calls R (qs ra rn rc) wyy (HR.mono h1) bL (by have:=ah.out;omega);have V:Hid (∀q:Int,(cs.set 20 (qi q)).length=26):=λ q=> by rw [List.length_set];exact O
  have aM:Hid (∀(wq:World) (l:List Value) (q:Int),l.length=26->(∀q',l.set 20 (qi q')=cs.set 20 (qi q'))->VarIs wq L.heap.size l.toArray->VarIs (wq.setCell ⟨L.heap.size,20,none⟩ (qi q)) L.heap.size (cs.set 20 (qi q)).toArray):=λ wq l q h1 h2 hv=> by have:=hv.set 20 (by simp [h1]) (qi q);rw [List.set_toArray,h2] at this;exact this
  have al:w4.cell? ⟨L.heap.size,20,none⟩=some (qi bd.limit):=(VB.cell 20).trans (by rw [<-aU.out];rfl);have ak:=VB.free 20;have ac:=hid (aM.out w4 cs 0 O (λ _=> rfl) VB);have aW:Hid (Below L.heap.size L (w4.setCell ⟨L.heap.size,20,none⟩ (qi 0))):=bz.setCell lr _;obtain ⟨U,aA⟩:=gx L.heap.size
  have aT:=hid aA;rw [aA] at ac aM al ak an aW ⊢;clear aA VB ay bs aU bO bK bM bR;go_upto_region 7 with (fail)
  generalize World.setCell w4 ⟨U,20,none⟩ (qi 0)=wl0 at *;clear al ak;have aQ:Hid (∀wy,Below wl0.heap.size wl0 wy->Below U L wy):=λ wy h=> aW.trans (h.mono (by have:=aW.size;have:=aT.out;omega));have am:Hid (∀wy,Below U L wy->Below w.heap.size w wy):=λ wy h=> ad.trans (h.mono (by have:=ad.size;have:=aT.out;omega));refine wp_region_segs [([0,1],2),([],3)] [4] [] (by kernel_rfl) (by kernel_rfl) ?_;simp only [q2c,wpSegs];have af:=hid (ac.drew).cell;have D:Hid (Below (wl0).heap.size (wl0) (wl0).drew):=zi.drew
  repeat (first | go_big_quiet_step (fail) | quiet_step (fail))
  refine quiet_load_rowW rfl 46 _ rfl _ rfl _ af Tryz.underlying46 rfl (by rw [V.out];kernel_rfl) ?_;go_simp
  repeat (first | go_big_quiet_step (fail) | quiet_step (fail))
  refine wpQuiet_nil ?_;refine ⟨rfl,λ wy hby=> ?_⟩;go_simp;simp only [uponV];have F:=hid (D.trans (hby.mono D.size));refine (bv.out _ (am.out _ (aQ.out _ F))).mono ?_;rintro e w5 ⟨bx,g,k,rfl,T,o,A⟩;refine ⟨_,rfl,A,?_⟩;replace D:=hid (F.trans (A.mono F.size));clear A hby F;have ai:=hid T;have aR:=hid o.at
  have aS:=hid (own_lt o);clear T o;go_simp
  repeat (first | go_big_quiet_step (fail) | quiet_step (fail))
  refine wpQuiet_nil ?_;refine ⟨rfl,λ wy hby=> ?_⟩;go_simp;simp only [uponV];have F:=hid (D.trans (hby.mono D.size));have bP:Hid (U+1<=wy.heap.size):=le_trans ac.lt F.size;refine (an.out 0 bx g k _ (aQ.out _ F) ((hby.block bx ai.lt).trans ai) (aR.mono hby) (lt_of_lt_of_le aS hby.size)).mono ?_;rintro e w6 ⟨rv,rfl,aa,A⟩;refine ⟨_,rfl,A,?_⟩;replace D:=hid (F.trans (A.mono F.size));clear A hby F;have ag:=hid (aa.base (C:=U+1) bP);clear aa;go_simp
  repeat (first | go_big_quiet_step (fail) | quiet_step (fail))
  refine wpQuiet_nil ?_;intro wz W;replace D:=hid (D.trans (W.mono D.size));have K:=hid (ag.mono W);have bD:=hid (ac.below D ac.lt);have bS:=hid (aQ.out _ D);clear W af ag;simp only [wpList];obtain ⟨X,hX⟩:=gx (sortL (odsOf s.order) (rowsL js es R))
  have av:Hid (∀q:Int,resultL js es (odsOf s.order) q R=limL q X):=λ q=> by rw [<-hX];rfl
  have bf:Hid (X.length<=31):=by have h:=RFit.len (bt.out 0);rw [hX] at h;have:=ah.out;show _<=_;omega
  clear hX;rw [av.out] at K;have e0:limL 0 X=X:=by unfold limL;rw [if_neg (by omega)]
  rw [e0] at K;clear e0;obtain ⟨wa,wc,rfl⟩:=K.1.shape;obtain ⟨M,az⟩:=gx X.length
  have bH:=hid az;have au:=K.1.cap;rw [az] at bf K au ⊢;clear az;have bT:=bf.out;go_wp2;go_loopw [10] (λ z wr=> ∃n:Nat,1<=n/\n<=8/\z=qi n/\Hid (∃q:Int,VarIs wr U (cs.set 20 (qi q)).toArray)/\Hid (Below U L wr)/\Hid (RowsNew wr (U+1) X (qs wa M wc))) (λ z _=> 8 - (intOf z).toNat)
  case atStart=> exact ⟨1,by omega,by omega,rfl,⟨0,bD⟩,bS,K⟩
  case round=>
   obtain ⟨n,h1,h2,rfl,HV,Hm,HX⟩:=hrel
   rename World=> wl
   by_cases hc1:(n:Int)<=(M:Int)+1
   . by_cases hc2:(n:Int) < 8
     . obtain ⟨q,hq⟩:=HV.out
       have al:wl.cell? ⟨U,20,none⟩=some (qi q):=(hq.cell 20).trans (by rw [getElem?_toArray,List.getElem?_set_self (by have:=O.out;omega)]);have ak:=hq.free 20;have aN:=hid (aM.out wl _ n (V.out q) (λ q'=> by rw [List.set_set]) hq);have bA:Hid (Below U L (wl.setCell ⟨U,20,none⟩ (qi n))):=Hm.setCell lr _;have bg:=hid (HX.setOld (g:=U) (i:=20) (v:=qi n) (lt_succ_self U));clear hq HV HX Hm;go_upto_region 12 with (fail)
       generalize World.setCell wl ⟨U,20,none⟩ (qi (n:Int))=wl1 at *;clear al ak;have aP:Hid (∀wy,Below wl1.heap.size wl1 wy->Below U L wy):=λ wy h=> bA.trans (h.mono (by have:=bA.size;have:=aT.out;omega));refine wp_region_segs [([0,1,4,5,6,7,8,9],2),([],3),([],10)] [11] [] (by kernel_rfl) (by kernel_rfl) ?_;simp only [q2c,wpSegs];have af:=hid (aN.drew).cell;have D:Hid (Below (wl1).heap.size (wl1) (wl1).drew):=zi.drew
       repeat (first | go_big_quiet_step (fail) | quiet_step (fail))
       refine quiet_load_rowW rfl 46 _ rfl _ rfl _ af Tryz.underlying46 rfl (by rw [(V.out n)];kernel_rfl) ?_;go_simp
       repeat (first | go_big_quiet_step (fail) | quiet_step (fail))
       refine wpQuiet_nil ?_;refine ⟨rfl,λ wy hby=> ?_⟩;go_simp;simp only [uponV];have F:=hid (D.trans (hby.mono D.size));refine (bv.out _ (am.out _ (aP.out _ F))).mono ?_;rintro e w5 ⟨bx,g,k,rfl,T,o,A⟩;refine ⟨_,rfl,A,?_⟩;replace D:=hid (F.trans (A.mono F.size));clear A hby F;have ai:=hid T;have aR:=hid o.at
       have aS:=hid (own_lt o);clear T o;go_simp
       repeat (first | go_big_quiet_step (fail) | quiet_step (fail))
       refine wpQuiet_nil ?_;refine ⟨rfl,λ wy hby=> ?_⟩;go_simp;simp only [uponV];have F:=hid (D.trans (hby.mono D.size));refine (an.out n bx g k _ (aP.out _ F) ((hby.block bx ai.lt).trans ai) (aR.mono hby) (lt_of_lt_of_le aS hby.size)).mono ?_;rintro e w6 ⟨rv,rfl,aa,A⟩;refine ⟨_,rfl,A,?_⟩;replace D:=hid (F.trans (A.mono F.size));clear A hby F;have ag:Hid (RowsAt w6 (X.take (min n M)) rv):=by
        have:=aa.1.at
        rw [av.out,limL_take n M X bH.out h1] at this;exact this
       clear aa;go_simp
       repeat (first | go_big_quiet_step (fail) | quiet_step (fail))
       refine wpQuiet_nil ?_;refine ⟨rfl,λ wy hby=> ?_⟩;go_simp;simp only [uponV];have F:=hid (D.trans (hby.mono D.size));refine (same_calls (X.take (min n M)) (X.take (min n M)) rv _ _ (ag.mono hby) (by rw [show (if M < n then (M:Int) else (n:Int)).toNat=min n M from by split <;> omega];exact ((bg.mono F).first (min n M) (Nat.min_le_right _ _)).1.at)).mono ?_;rintro e w8 ⟨rfl,A⟩;refine ⟨_,rfl,A,?_⟩;replace D:=hid (F.trans (A.mono F.size));clear A hby F;go_simp
       repeat (first | go_big_quiet_step (fail) | quiet_step (fail))
       refine wpQuiet_nil ?_;intro wz W;replace D:=hid (D.trans (W.mono D.size));have bG:=hid (bg.mono D);have bc:=hid (aN.below D aN.lt);have bw:=hid (aP.out _ D);clear W af ag;simp only [wpList];go_wp2;go_roundw
       case rel=> exact ⟨n+1,by omega,by omega,by go_num,⟨_,bc⟩,bw,bG⟩
       case measure=> simp [intOf];omega
     . go_wp2
       go_ret;exact ⟨rfl,am.out _ Hm⟩
   . go_wp2
     go_ret;exact ⟨rfl,am.out _ Hm⟩
end
end
end Go.Proofs.YtcomoomndgbckaaGreat
