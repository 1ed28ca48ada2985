/- Part 35 of the proof. -/
import Derived.Test.YtcomoomndgbckaaGreatY32
import Derived.Test.YtcomoomndgbckaaGreatY33
set_option maxHeartbeats 16000000
set_option maxRecDepth 100000
open Go Go.RowKit
open Go.Lib (hid)
open List (getElem_mem nil_append cons_append take_succ_eq_append_getElem map_append take_length take_append_drop all_eq_true)
open Nat (zero_le lt_of_lt_of_le)
namespace Go.Proofs.YtcomoomndgbckaaGreat
noncomputable section
section
open Go.Sort
theorem lawGroups_calls (s:Stt) (v:StV) (w:World) (h:SttAt w s v) (S:List Tb) (sa:Option Addr) (sc:Nat) (hsc:SchAt w S (qs sa S.length sc)) (hz:InZ S s) (R:List Rw) (ra:Option Addr) (rn rc:Nat) (hr:RowsAt w R (qs ra rn rc)) (_hcap:rn<=rc) (_hc9:rc<=9223372036854775807) (hrl:∀r∈R,r.length < 1099511627776):Calls Tryz.prog 4 #[qs sa S.length sc,.agg (s.cells v).toArray,qs ra rn rc] w (IsP true w):=by
 obtain ⟨a1,n1,k1,a2,n2,k2,a3,n3,k3,a4,n4,k4,a5,n5,k5,a6,n6,k6,a7,n7,k7,a8,n8,k8,a9,n9,k9,a10,J,D,a11,I,C,rfl,h1,m1,h2,m2,h3,m3,h4,m4,h5,m5,h6,m6,h7,m7,h8,m8,h9,m9,be,bY,bc,bX⟩:=h.shapes;have bt:=hid h1;have bs:=hid h2;have br:=hid h3;have bq:=hid h4;have bp:=hid h5;have bo:=hid h6;have bn:=hid h7;have bm:=hid h8;have bl:=hid h9;have ap:=hid be;have ao:=hid bc;clear h1 h2 h3 h4 h5 h6 h7 h8 h9 be bc;have HD:Hid (SttAt w s ⟨qs a1 s.create.cols.length k1,qs a2 s.create.keys.length k2,qs a3 s.create.fks.length k3,qs a4 s.create.checks.length k4,qs a5 s.values.length k5,qs a6 s.sets.length k6,qs a7 s.items.length k7,qs a8 s.src.length k8,qs a9 s.cond.args.length k9,qs a10 s.group.length D,qs a11 s.order.length C⟩):=by show SttAt _ _ _;rw [bt.out,bs.out,br.out,bq.out,bp.out,bo.out,bn.out,bm.out,bl.out,ap.out,ao.out];exact h
 clear h;simp only [Stt.cells,Ex.cells,cons_append,nil_append];obtain ⟨W,hl⟩:=gx s.limit
 have HL:=hid hl;obtain ⟨kd,aJ⟩:=gx s.kind
 obtain ⟨tb,aH⟩:=gx s.table
 obtain ⟨wo,aD⟩:=gx s.cond.op
 obtain ⟨wt,aC⟩:=gx s.cond.table
 obtain ⟨wn,aE⟩:=gx s.cond.name
 obtain ⟨wi,aG⟩:=gx s.cond.index
 obtain ⟨wk,aF⟩:=gx s.cond.v.kind
 obtain ⟨wv,aB⟩:=gx s.cond.v.int
 obtain ⟨wx,aA⟩:=gx s.cond.v.text
 obtain ⟨nm,aI⟩:=gx s.name
 rw [aJ,aH,aD,aC,aE,aG,aF,aB,aA,aI,hl];have HK:=hid aJ;have bK:=hid aH;have bO:=hid aI;have HC:=hid (And.intro aD (And.intro aC (And.intro aE (And.intro aG (And.intro aF (And.intro aB aA))))));clear aJ aH aD aC aE aG aF aB aA aI hl;have V0:=hid (VarIs.new w (q1a kd tb a1 n1 k1 a2 n2 k2 a3 n3 k3 a4 n4 k4 a5 n5 k5 a6 n6 k6 a7 n7 k7 a8 n8 k8 wo wt wn wi wk wv wx a9 n9 k9 a10 J D a11 I C W nm) 40);have aL:Hid (Below w.heap.size w (w.alloc (.cells (q1a kd tb a1 n1 k1 a2 n2 k2 a3 n3 k3 a4 n4 k4 a5 n5 k5 a6 n6 k6 a7 n7 k7 a8 n8 k8 wo wt wn wi wk wv wx a9 n9 k9 a10 J D a11 I C W nm) 40))):=zi.alloc lr _;have bJ:Hid (Below ((w.alloc (.cells (q1a kd tb a1 n1 k1 a2 n2 k2 a3 n3 k3 a4 n4 k4 a5 n5 k5 a6 n6 k6 a7 n7 k7 a8 n8 k8 wo wt wn wi wk wv wx a9 n9 k9 a10 J D a11 I C W nm) 40))).heap.size (w.alloc (.cells (q1a kd tb a1 n1 k1 a2 n2 k2 a3 n3 k3 a4 n4 k4 a5 n5 k5 a6 n6 k6 a7 n7 k7 a8 n8 k8 wo wt wn wi wk wv wx a9 n9 k9 a10 J D a11 I C W nm) 40)) (w.alloc (.cells (q1a kd tb a1 n1 k1 a2 n2 k2 a3 n3 k3 a4 n4 k4 a5 n5 k5 a6 n6 k6 a7 n7 k7 a8 n8 k8 wo wt wn wi wk wv wx a9 n9 k9 a10 J D a11 I C W nm) 40))):=zi;have bz:Hid (SttAt w s ⟨qs a1 n1 k1,qs a2 n2 k2,qs a3 n3 k3,qs a4 n4 k4,qs a5 n5 k5,qs a6 n6 k6,qs a7 n7 k7,qs a8 n8 k8,qs a9 n9 k9,qs a10 J D,qs a11 I C⟩):=by have:=HD.mono zi;rw [bt.out,bs.out,br.out,bq.out,bp.out,bo.out,bn.out,bm.out,bl.out,ap.out,ao.out] at this;exact this
 obtain ⟨ns,aZ⟩:=gx S.length
 have aP:Hid (∀w',Below w.heap.size w w'->SttAt w' s ⟨qs a1 n1 k1,qs a2 n2 k2,qs a3 n3 k3,qs a4 n4 k4,qs a5 n5 k5,qs a6 n6 k6,qs a7 n7 k7,qs a8 n8 k8,qs a9 n9 k9,qs a10 J D,qs a11 I C⟩->Calls Tryz.prog 9 #[qs sa S.length sc,.agg (q1a kd tb a1 n1 k1 a2 n2 k2 a3 n3 k3 a4 n4 k4 a5 n5 k5 a6 n6 k6 a7 n7 k7 a8 n8 k8 wo wt wn wi wk wv wx a9 n9 k9 a10 J D a11 I C W nm),qs ra rn rc] w' (BndQ s ⟨qs a1 n1 k1,qs a2 n2 k2,qs a3 n3 k3,qs a4 n4 k4,qs a5 n5 k5,qs a6 n6 k6,qs a7 n7 k7,qs a8 n8 k8,qs a9 n9 k9,qs a10 J D,qs a11 I C⟩ R w')):=λ w' A h=> by have:=bound_calls s ⟨qs a1 n1 k1,qs a2 n2 k2,qs a3 n3 k3,qs a4 n4 k4,qs a5 n5 k5,qs a6 n6 k6,qs a7 n7 k7,qs a8 n8 k8,qs a9 n9 k9,qs a10 J D,qs a11 I C⟩ w' h S sa sc (hsc.mono TbE.mono A) hz R _ (hr.mono A);simp only [Stt.cells,Ex.cells,cons_append,nil_append,HK.out,bK.out,bO.out,HL.out,HC.1,HC.2.1,HC.2.2.1,HC.2.2.2.1,HC.2.2.2.2.1,HC.2.2.2.2.2.1,HC.2.2.2.2.2.2] at this;exact this
 have bk:Hid (s.items.length<=1100000/\s.group.length<=1100000):=⟨hz.items.1,hz.group.1⟩
 have HR:=hid hr;have bN:=hid hrl;have HN:Hid (R.length=rn):=by obtain ⟨_,_,_,e,h,-⟩:=hr.shape;exact ((Value.slice.inj e).2.1.trans h).symm
 rw [aZ] at aP ⊢;unfold IsP;clear aZ hsc hz hr hrl;go_enter Tryz.func4,Tryz.ntmps4;go_wp2_with fail;refine (awake_calls _).mono ?_;rintro e w1 ⟨rfl,A⟩;have ae:=hid (aL.trans (A.mono aL.size));have bf:=hid (V0.below A V0.lt);clear A V0 aL bJ;go_wp2_with (refine wpList_load_stmt rfl _ rfl _ rfl bf.out.cell (by rfl) ?_);refine (aP.out _ ae (bz.mono ae)).mono ?_;rintro e w2 ⟨bd,q,rfl,hq,A⟩;have HQ:=hid hq;have bg:=hid (ae.trans (A.mono ae.size));have bF:=hid ae.size;clear hq A bf aP;obtain ⟨cs,ad⟩:∃cs:List Value,bd.arr=cs.toArray:=⟨bd.arr.toList,by simp⟩
 have V:Hid (cs.length=26):=by show _=_;have h:bd.arr.size=26:=rfl;rw [ad] at h;simpa using h
 have bj:Hid (cs.all (·.oneCell')=true):=by show _=_;rw [all_eq_true];intro v hv;exact arr_one bd v (by rw [ad];exact hv)
 rw [ad];have bA:=hid ad;clear ad;go_wp2_with (refine wpList_store_row rfl _ _ _ rfl _ rfl rfl (VarIs.new _ _ _) (by rw [V.out];rfl) (by rw [V.out];kernel_rfl) bj ?_);intro w4 VB A4;have bB:=hid (((zi.alloc lr _).trans (A4.below (by simp) (λ k hk=> by show ¬ k=_;omega)):Below w2.heap.size w2 w4));have M:=hid (bg.trans (bB.mono bg.size));clear A4;cases q with
 | false=>
  go_wp2;go_ret;exact ⟨rfl,M⟩
 | true=>
  obtain ⟨ak,hF,⟨cols,bC,gs,ag,al,ay,hR⟩,aY,aj⟩:=HQ.out (by simp);have bD:bC.length=s.items.length:=by have:=congrArg List.length ag.agg;simpa using this
  obtain ⟨es,js,ba,am⟩:=bound_fit (w:=w4) ag ((al.mono bB (Y:=λ j=> j < w.heap.size) λ j _ h=> lt_of_lt_of_le h bF).here) (by rw [<-aY];exact bz.order.mono OrE.mono M) hF hR ay ⟨by have:=bk.1;omega,by have:=bk.2;have:=ag.len;omega⟩;have ca:=hid ba;have bx:=hid am;have bW:=hid aj;have cb:=hid ay;have L:=hid ak;have b8:=hid (hF.2.2.2.2);have b9:=hid λ r hr=> (hR r hr).1;clear ba am aj ag al ay hR aY hF bD HQ ak;have aa:=hid (bx.out R (λ _ h=> h) L);go_upto_region 6 with (fail)
  refine wp_region_segs [([0,1,4,5],2),([],3),([],6)] [7,8] [] (by kernel_rfl) (by kernel_rfl) ?_;simp only [q2c,wpSegs];have aK:=hid (VB.drew).cell;have H:Hid (Below (w4).heap.size (w4) (w4).drew):=zi.drew
  repeat (first | go_big_quiet_step (fail) | quiet_step (fail))
  refine quiet_load_rowW rfl 46 _ rfl _ rfl _ aK Tryz.underlying46 rfl (by rw [V.out];kernel_rfl) ?_;go_simp
  repeat (first | go_big_quiet_step (fail) | quiet_step (fail))
  refine quiet_load_rowW rfl 46 _ rfl _ rfl _ aK Tryz.underlying46 rfl (by rw [V.out];kernel_rfl) ?_;go_simp
  repeat (first | go_big_quiet_step (fail) | quiet_step (fail))
  refine wpQuiet_nil ?_;refine ⟨rfl,λ wy hby=> ?_⟩;go_simp;simp only [uponV];have K:=hid (H.trans (hby.mono H.size));refine (copied2_calls R (qs ra rn rc) _ (HR.mono (M.trans (K.mono M.size))) bN (by have:=L.out;omega)).mono ?_;rintro e w5 ⟨g,k,rfl,ai,A⟩;refine ⟨_,rfl,A,?_⟩;replace H:=hid (K.trans (A.mono K.size));clear A hby K;have bi:=hid ai.at
  clear ai;go_simp
  repeat (first | go_big_quiet_step (fail) | quiet_step (fail))
  refine wpQuiet_nil ?_;refine ⟨rfl,λ wy hby=> ?_⟩;go_simp;simp only [uponV];have K:=hid (H.trans (hby.mono H.size));have aN:=hid λ (wyy:World) (h1:Below w4.heap.size w4 wyy) (h2:RowsAt wyy R (qs (some ⟨g,0,none⟩) k k))=> groups_calls bd es R cols.length _ wyy h2 (aa.1.he.mono h1) aa.1.hm aa.1.hf (by have:=aa.1.b0;omega) (by have:=L.out;omega) aa.1.b3;simp only [bA.out] at aN;refine (aN.out _ K (bi.mono hby)).mono ?_;rintro e w6 ⟨gv,rfl,ac,A⟩;refine ⟨_,rfl,A,?_⟩;replace H:=hid (K.trans (A.mono K.size));clear A hby K;have aO:=hid ac;clear ac;obtain ⟨b7,bZ,b4,rfl,F,-⟩:=aO.out;have aq:=hid F;clear F;go_simp
  repeat (first | go_big_quiet_step (fail) | quiet_step (fail))
  refine wpQuiet_nil ?_;refine ⟨rfl,λ wy hby=> ?_⟩;go_simp;simp only [uponV];have K:=hid (H.trans (hby.mono H.size));have aM:=hid λ (wyy:World) (h1:Below w4.heap.size w4 wyy)=> rgroups_fit aa.1 h1 (HR.mono (M.trans (h1.mono M.size)));simp only [bA.out] at aM;refine (aM.out _ K).mono ?_;rintro e w7 ⟨rv,rfl,ac,⟨b6,bE,b1,rfl⟩,A⟩;refine ⟨_,rfl,A,?_⟩;replace H:=hid (K.trans (A.mono K.size));have au:=hid (aO.mono (hby.trans (A.mono hby.size)));clear A hby K;have bv:=hid ac;clear ac;go_simp
  repeat (first | go_big_quiet_step (fail) | quiet_step (fail))
  refine wpQuiet_nil ?_;intro wz T;replace H:=hid (H.trans (T.mono H.size));have bw:=hid (au.mono T);have ar:=hid (bv.mono T);have Hf:=hid (M.trans (H.mono M.size));clear T aK aN aM aO au bv bi H;have U:bE=(groupsL es R).length:=by obtain ⟨_,_,_,e,h,-⟩:=ar.out;exact (Value.slice.inj e).2.1.trans h
  obtain ⟨gl,ax⟩:=gx ((groupsL es R).length)
  have an:=hid (groupsL_sum es R);have bV:gl<=31:=by have h1:=(groupsL_parts es R).1;have:=L.out;omega
  have F:=aq.out;rw [ax] at F U;replace F:=F.symm;replace U:=U.symm;subst F U;have bu:=hid ax;have bP:=hid λ G hG=> ((groupsL_parts es R).2 G hG).1;generalize groupsL es R=GS at *;clear ax aq;go_wp2;go_loopw [11,38] (λ t z wr=> ∃k:Nat,k<=gl/\z=qi k/\t=qi (((GS.take k).map List.length).sum:Nat)/\Hid (Below wz.heap.size wz wr)) (λ _ z _=> gl - (intOf z).toNat)
  case atStart=> exact ⟨0,zero_le _,rfl,rfl,zi⟩
  case round=>
   obtain ⟨k,hk,rfl,rfl,Hm⟩:=hrel
   rename World=> wl
   by_cases hlt:k < gl
   . have ab:k < GS.length:=by rw [bu.out];exact hlt
     obtain ⟨_,_,_,e1,-,aX⟩:=bw.out;obtain ⟨_,_,_,e2,-,aW⟩:=ar.out;obtain ⟨b,o,x,aU,az,O,aw⟩:=aX k ab;obtain ⟨b',o',x',aT,bb,af,av⟩:=aW k ab;have a1:=(Value.slice.inj e1).1.trans aU;have a2:=(Value.slice.inj e2).1.trans aT;subst a1 a2;replace O:=(Hm.cell (p:=⟨b,o+k,none⟩) az).trans O;replace af:=(Hm.cell (p:=⟨b',o'+k,none⟩) bb).trans af;have bI:=hid (aw.mono Hm);have bH:=hid (av.mono Hm);obtain ⟨xa,xn,xc,rfl,aS,-⟩:=aw.shape;obtain ⟨ya,yn,yc,rfl,-,-⟩:=av.shape;have bh:=hid aS;have bR:=hid O;have bS:=hid (lt_of_lt_of_le az Hm.size);have HT:Hid (((GS.take (k+1)).map List.length).sum=((GS.take k).map List.length).sum+GS[k].length):=by show _=_;rw [take_succ_eq_append_getElem ab,map_append,List.sum_append];simp
     have bQ:=hid (bP.out _ (getElem_mem ab));have bM:Hid (((GS.take (k+1)).map List.length).sum<=R.length):=by
      show _<=_;rw [<-an.out]
      conv=> rhs;rw [<-take_append_drop (k+1) GS,map_append,List.sum_append]
      omega
     obtain ⟨sm,aV⟩:=gx (((GS.take k).map List.length).sum)
     rw [aV] at HT ⊢;clear aV;have bL:=hid (same_calls GS[k] GS[k] (qs xa xn xc) (qs ya yn yc));generalize GS[k]=G at *;have k0:(0:Int)<=(k:Int):=by omega
     have k1:(k:Int) < (gl:Int):=by omega
     clear aX aW e1 e2 aw av az bb ab aU aT aS;go_upto_region 13 with (fail)
     refine wp_region_segs [([0,1,2,3,4,5,6,7],8)] [9] [] (by kernel_rfl) (by kernel_rfl) ?_;simp only [q2c,wpSegs];have aR:=cell_regrown (w:=wl.drew) O;have aQ:=cell_regrown (w:=wl.drew) af;clear O af;have H:Hid (Below (wl).heap.size (wl) (wl).drew):=zi.drew
     repeat (first | go_big_quiet_step (fail) | quiet_step (fail))
     refine wpQuiet_nil ?_;refine ⟨rfl,λ wy hby=> ?_⟩;go_simp;simp only [uponV];have K:=hid (H.trans (hby.mono H.size));refine (bL.out _ (bI.mono K) (bH.mono K)).mono ?_;rintro e w8 ⟨rfl,A⟩;refine ⟨_,rfl,A,?_⟩;replace H:=hid (K.trans (A.mono K.size));clear A hby K;go_simp
     repeat (first | go_big_quiet_step (fail) | quiet_step (fail))
     refine wpQuiet_nil ?_;intro wz T;replace H:=hid (H.trans (T.mono H.size));clear T aR aQ;have bG:=hid (Hm.trans (H.mono Hm.size));have O:=(H.cell (p:=⟨b,o+k,none⟩) bS).trans bR;have bT:xn<=30:=by have:=bh.out;have:=bQ.out;have:=L.out;omega
     have bU:sm<=30:=by have:=bM.out;have:=HT.out;have:=L.out;omega
     go_wp2;clear O;go_roundw
     case rel=> exact ⟨k+1,by omega,by go_num,by rw [HT.out,<-bh.out];go_num,bG⟩
     case measure=> simp [intOf];omega
   . obtain rfl:gl=k:=by omega
     have ah:((GS.take gl).map List.length).sum=rn:=by rw [<-bu.out,take_length,an.out,HN.out]
     rw [ah];have Hz:=hid (Hf.trans (Hm.mono Hf.size));clear ah;go_wp2;go_ret;exact ⟨by simp,Hz⟩
end
end
end Go.Proofs.YtcomoomndgbckaaGreat
