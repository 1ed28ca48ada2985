/- Part 32 of the proof. -/
import Derived.Test.YtcomoomndgbckaaGreatY31
set_option maxHeartbeats 16000000
set_option maxRecDepth 100000
open Go Go.RowKit
open Go.Lib (hid)
open List (getElem?_toArray getElem_mem length_take length_map take_succ_eq_append_getElem getElem?_eq_getElem map_append take_of_length_le all_eq_true)
open Nat (zero_le le_trans lt_of_lt_of_le zero_add)
namespace Go.Proofs.YtcomoomndgbckaaGreat
noncomputable section
section
open Go.Sort
theorem rsort_fit {bd:Bd} {es:List Xp} {its:List It} {os:List Od} {L:List Rw} {m:Nat} {w w':World} {s:Value} (h:RFit bd es its os L m w) (hb:Below w.heap.size w w') (hs:RowsAt w' (rowsL its es L) s):
 Calls Tryz.prog 31 #[s,qs bd.order.a bd.order.n bd.order.c] w' λ e w''=> ∃u,e=.returned u/\RowsOwn w'' w'.heap.size (sortL os (rowsL its es L)) u/\Below w'.heap.size w' w'':=by
 have h1:=(partsL_parts h).1;have:=h.b2;refine rsort_calls os _ (if its.length=0 then m else its.length) s _ w' hs (h.ho.mono hb) (λ r hr=> ?_) h.hof ?_
 . unfold rowsL at hr
   split at hr
   . rename_i h0;rw [if_pos h0];exact h.hm r hr
   . rename_i h0;rw [if_neg h0];obtain ⟨G,_,rfl⟩:=List.mem_map.1 hr;simp
 . unfold rowsL
   split
   . omega
   . rw [length_map];omega
theorem rgroups_fit {bd:Bd} {es:List Xp} {its:List It} {os:List Od} {L:List Rw} {m:Nat} {w w':World} {s:Value} (h:RFit bd es its os L m w) (hb:Below w.heap.size w w') (hs:RowsAt w' L s):Calls Tryz.prog 16 #[.agg bd.arr,s] w' (GroupsR es L w'):=
 rGroups_calls bd es L m s w' hs (h.he.mono hb) h.hm h.hf h.b0 (by have:=h.b2;omega)
theorem rrow_fit {bd:Bd} {es:List Xp} {its:List It} {os:List Od} {L:List Rw} {m:Nat} {w w':World} {s:Value} {sc:Array Value} (h:RFit bd es its os L m w) (hrv:∀i∈its,i.k≠1->RvOk w i L) (h8:sc[8]? =some (qs bd.items.a bd.items.n bd.items.c)) (hb:Below w.heap.size w w') (i:Nat) (hi:i < (partsL its es L).length) (hs:RowsAt w' (partsL its es L)[i] s):
 Calls Tryz.prog 30 #[.agg sc,s] w' (RowP (its.map λ j=> resV j (partsL its es L)[i]) w'):=by
 obtain ⟨A,o,q⟩:=(partsL_parts h).2 _ (getElem_mem hi);have:=h.b2;exact rRow_calls sc its _ _ _ _ s w' h8 (h.hi.mono hb) hs q (λ i hi h1 R hR w2 s2 hb2 hv=> hrv i hi h1 R (o R hR) w2 s2 (hb.trans (hb2.mono hb.size)) hv) (λ i hi R hR=> h.tx i hi R (o R hR)) h.b5 (by omega)
theorem rResult_calls (bd:Bd) (es:List Xp) (its:List It) (os:List Od) (L:List Rw) (m:Nat) (lim:Int) (a:Option Addr) (n c:Nat) (w:World) (hlim:bd.limit=lim) (hfit:RFit bd es its os L m w) (hrv:∀i∈its,i.k≠1->RvOk w i L) (hs:RowsAt w L (qs a n c)) (hcap:n<=c) (hc9:c<=9223372036854775807):
 Calls Tryz.prog 13 #[.agg bd.arr,qs a n c] w (ResP es its os lim L w):=by
 have HN:Hid (L.length=n):=by obtain ⟨_,_,_,e,h,-⟩:=hs.shape;exact ((Value.slice.inj e).2.1.trans h).symm
 have T:=hid hfit;have HS:=hid hs;have bx:=hid hfit.hi;have aT:Hid (bd.items.n=its.length):=by obtain ⟨_,_,_,e,h,-⟩:=hfit.hi.shape;exact (Value.slice.inj e).2.1.trans h
 have bw:Hid (bd.group.n=es.length):=by obtain ⟨_,_,_,e,h,-⟩:=hfit.he.shape;exact (Value.slice.inj e).2.1.trans h
 obtain ⟨cs,ak⟩:∃cs:List Value,bd.arr=cs.toArray:=⟨bd.arr.toList,by simp⟩
 obtain ⟨sc,ap⟩:=gx (cs.take 22)
 have aG:Hid (cs.length=26):=by show _=_;have h:bd.arr.size=26:=rfl;rw [ak] at h;simpa using h
 have V:Hid (sc.length=22):=by show _=_;rw [<-ap,length_take,aG.out];rfl
 have ad:∀j,j < 22->sc.toArray[j]? =bd.arr[j]? :=λ j hj=> by rw [ak,<-ap];simp only [getElem?_toArray];rw [List.getElem?_take,if_pos hj]
 have HA:Hid (sc.toArray[8]? =some (qs bd.items.a bd.items.n bd.items.c)/\sc.toArray[18]? =some (qs bd.group.a bd.group.n bd.group.c)/\sc.toArray[19]? =some (qs bd.order.a bd.order.n bd.order.c)/\sc.toArray[20]? =some (qi lim)):=⟨(ad 8 (by decide)).trans rfl,(ad 18 (by decide)).trans rfl,(ad 19 (by decide)).trans rfl,(ad 20 (by decide)).trans (by rw [<-hlim];rfl)⟩
 have bm:Hid (sc.all (·.oneCell')=true):=by show _=_;rw [all_eq_true];intro v hv;refine arr_one bd v ?_;rw [ak];rw [<-ap] at hv;exact List.mem_of_mem_take hv
 obtain ⟨F,hF⟩:∃F:List Rw->Rw,(λ G=> its.map λ i=> resV i G)=F:=⟨_,rfl⟩
 have bp:=hid hF;have ah:=hid λ (i:Nat) (hi:i < (partsL its es L).length) (w':World) (s:Value) (C:Below w.heap.size w w') (h:RowsAt w' (partsL its es L)[i] s)=> rrow_fit hfit hrv HA.1 C i hi h;have bj:∀G,(its.map λ i=> resV i G)=F G:=λ G=> by rw [<-hF]
 simp only [bj] at ah;have V0:=hid (VarIs.new w cs.toArray 46);have aP:Hid (Below w.heap.size w (w.alloc (.cells cs.toArray 46))):=zi.alloc lr _;have bc:∀j v,sc[j]? =some v->cs[j]? =some v:=λ j v h=> by
  rw [<-ap] at h;rw [List.getElem?_take] at h;split at h
  . exact h
  . cases h
 have bt:=hid bc;have bz:=hid ak;obtain ⟨i0,ii,ba,aZ,aY⟩:=info_parts Tryz.info60';rw [ak];generalize bd.items.a=ia at *;generalize bd.items.n=inn at *;generalize bd.items.c=ic at *;generalize bd.group.a=ga at *;generalize bd.group.n=gn at *;generalize bd.group.c=gc at *;have bu:=hid aT;have bD:n < 1000000000:=by have:=T.b2;have:=HN.out;omega
 obtain ⟨oa,on,oc,aL⟩:∃a n c,qs bd.order.a bd.order.n bd.order.c=qs a n c:=⟨_,_,_,rfl⟩
 have aV:=hid aL;rw [aL] at HA;clear hlim hfit hrv hs ap ad hF bj bc aL ak;go_enter Tryz.func13,Tryz.ntmps13;go_upto_region 1 with (fail)
 generalize w.alloc (.cells cs.toArray 46)=W0 at *;go_wp2_with (first | (refine wpList_load_mid rfl 40 _ rfl _ 0 rfl sc _ (λ j v hv=> by rw [zero_add,V0.out.cell j];simpa using bt.out j v hv) Tryz.underlying40 rfl (by rw [V.out];kernel_rfl) ?_) | (refine wpList_store_row rfl _ _ _ rfl _ rfl rfl (VarIs.new _ _ _) (by rw [V.out];rfl) (by rw [V.out];kernel_rfl) bm ?_));intro w1 ae A1;have aN:=hid (((zi.alloc lr _).trans (A1.below (by simp) (λ k hk=> by show ¬ k=_;omega)):Below W0.heap.size W0 w1));have bl:=hid (V0.below aN V0.lt);have az:=hid (aP.trans (aN.mono aP.size));clear V0 A1 aN aP;by_cases hin:inn=0
 . have bs:Hid (rowsL its es L=L):=by
    show _=_;unfold rowsL;rw [if_pos (by have:=aT.out;omega)]
   have aC:Hid (RowsAt w1 (rowsL its es L) (qs a n c)):=by show RowsAt _ _ _;rw [bs.out];exact HS.mono az
   have J:=az;have z0:((inn:Int)==0)=true:=by rw [hin];rfl
   have bA:=hid hin;clear hin;have al:=ae.cell;have c8:=(al 8).trans HA.1;clear al;go_upto_region 15 with (fail)
   clear c8;have A:=ae.cell;have av:=(A 19).trans HA.2.2.1;clear A;have M:=hid (rsort_fit T J aC);rw [aV.out] at M;go_wp2_with fail;refine M.mono ?_;rintro e w3 ⟨u,rfl,hu,I⟩;clear av;have A:=(ae.below I ae.lt).cell;have bk:=(A 20).trans HA.2.2.2;clear A;obtain ⟨ua,uc,rfl⟩:=hu.shape;have ar:=hu.cap;have D:=hid (show RowsAt w3 (sortL os (rowsL its es L)) (qs ua (sortL os (rowsL its es L)).length uc)/\Below w.heap.size w w3 from ⟨hu.at,J.trans (I.mono J.size)⟩);have O:Hid (resultL its es os lim L=limL lim (sortL os (rowsL its es L))):=rfl;generalize sortL os (rowsL its es L)=X at *;obtain ⟨un,H⟩:=gx X.length
   rw [H] at D ar ⊢;have af:=hid H;have bb:un<=9223372036854775807:=by obtain ⟨_,_,_,h1,-,h2⟩:=D.1.shape;injection h1 with _ h1 _;unfold maxLen at h2;omega
   clear hu I M H;by_cases h1:0 < lim
   . obtain ⟨q,rfl⟩:∃q:Nat,lim=q:=⟨lim.toNat,by omega⟩
     by_cases h2:(q:Int) < (un:Int)
     . have HF:=hid (show RowsAt w3 (resultL its es os q L) (qs ua q uc) from by
        rw [O.out];unfold limL;rw [if_pos ⟨h1,by rw [af.out];exact h2⟩];exact D.1.take q (by omega))
       go_wp2;go_ret;exact ⟨_,rfl,HF,D.2⟩
     . have HF:=hid (show RowsAt w3 (resultL its es os q L) (qs ua un uc) from by
        rw [O.out];unfold limL;rw [if_neg (λ h=> h2 (by rw [af.out] at h;exact h.2))];exact D.1)
       go_wp2;go_ret;exact ⟨_,rfl,HF,D.2⟩
   . have HF:=hid (show RowsAt w3 (resultL its es os lim L) (qs ua un uc) from by
      rw [O.out];unfold limL;rw [if_neg (λ h=> h1 h.1)];exact D.1)
     go_wp2;go_ret;exact ⟨_,rfl,HF,D.2⟩
 have z0:((inn:Int)==0)=false:=by rw [beq_eq_false_iff_ne];omega
 have bn:Hid (its.length≠0):=by have:=aT.out;show _≠_;omega
 clear hin;have al:=ae.cell;have c8:=(al 8).trans HA.1;clear al;have aU:=hid (rGrouped_calls sc.toArray its es ia ga inn ic gn gc w1 HA.1 HA.2.1 (bx.mono az) bw (by have:=T.b5;have:=bu.out;omega));unfold IsP at aU;go_wp2_with (refine wpList_load_mid rfl 40 _ rfl _ 0 rfl sc _ (λ j v hv=> by rw [zero_add,ae.out.cell j];simpa using hv) Tryz.underlying40 rfl (by rw [V.out];kernel_rfl) ?_);refine aU.mono ?_;rintro e w2 ⟨rfl,C⟩;have br:=hid (bl.below C bl.lt);have aM:=hid (ae.below C ae.lt);have ay:=hid (az.trans (C.mono az.size));clear C c8 aU;obtain ⟨q,hq⟩:=gx (aggd its es)
 have HQ:=hid hq;rw [hq];clear hq;cases q with
 | true=>
  have ac:Hid (partsL its es L=groupsL es L):=by show _=_;unfold partsL;rw [if_pos HQ.out]
  have aW:=hid (rgroups_fit T ay (HS.mono ay));rw [bz.out] at aW;have bH:=aG.out;go_wp2_with (refine wpList_load_bound rfl _ rfl _ rfl br.out.cell aG.out ?_);refine aW.mono ?_;rintro e wq ⟨gv,rfl,aK,⟨bG,aa,bF,rfl⟩,C⟩;have bv:=hid aK;have aw:=hid (aM.below C aM.lt);have ax:=hid (ay.trans (C.mono ay.size));have bf:(groupsL es L).length=aa:=by obtain ⟨_,_,_,e,h,-⟩:=aK;exact h.symm.trans (Value.slice.inj e).2.1.symm
  have bE:aa < 1000000000:=by have h1:=(groupsL_parts es L).1;have:=T.b2;omega
  have bo:=hid bf;have aE:Hid (rowsL its es L=(groupsL es L).map F):=by show _=_;unfold rowsL;rw [if_neg bn.out,ac.out,<-bp.out]
  have aF:=hid λ (i:Nat) (hi:i < (groupsL es L).length) (w':World) (s:Value) (C:Below w.heap.size w w') (h:RowsAt w' (groupsL es L)[i] s)=> ah.out i (by rw [ac.out];exact hi) w' s C (by simp only [ac.out];exact h);simp only [ac.out] at aF;clear aK C bf aW ah;go_wp2;go_loopw [6,8] (λ v z wr=> ∃k:Nat,k<=aa/\z=qi k/\Hid (Bl 60 1 RwE wq.heap.size (λ _=> False) wr (((groupsL es L).take k).map F) v)/\Hid (Below wq.heap.size wq wr)) (λ _ z _=> aa - (intOf z).toNat)
  case atStart=> exact ⟨0,zero_le _,rfl,Bl.nil _ _ _ _ _ _,zi⟩
  case round=>
   obtain ⟨k,hk,rfl,HB,Hm⟩:=hrel
   rename World=> U
   have ab:=hid (aw.below Hm aw.lt);have Hw:=hid (ax.trans (Hm.mono ax.size));by_cases hlt:k < aa
   . have aj:k < (groupsL es L).length:=by rw [bo.out];exact hlt
     obtain ⟨ag,ng,cg,e,-,be⟩:=bv.out;obtain ⟨b,o,x,bi,bh,hc,hx⟩:=be k aj;obtain ⟨e1,e2,e3⟩:=Value.slice.inj e;subst bi;subst e1 e2 e3;obtain ⟨xa,xn,xc,rfl,-,-⟩:=hx.shape;replace hc:=(Hm.cell (p:=⟨b,o+k,none⟩) bh).trans hc;have aR:=hid (hx.mono Hm);have aD:=hid λ (w':World) (C:Below U.heap.size U w')=> aF.out k aj w' _ (Hw.trans (C.mono Hw.size)) (aR.mono C);clear hx be bh;have HT:Hid (((groupsL es L).take (k+1)).map F=((groupsL es L).take k).map F++[F (groupsL es L)[k]]):=by show _=_;rw [take_succ_eq_append_getElem aj,map_append];rfl
     have aS:Hid ((((groupsL es L).take k).map F).length=k):=by show _=_;rw [length_map,length_take];omega
     generalize F (groupsL es L)[k]=Y at *;have k0:(0:Int)<=(k:Int):=by omega
     have k1:(k:Int) < (aa:Int):=by omega
     go_upto_region 14 with (fail)
     refine wp_region_segs [([0,1,2,3,4,5],6),([],7)] [] [8,9] (by kernel_rfl) (by kernel_rfl) ?_;simp only [q2c,wpSegs];have bB:=cell_regrown (w:=U.drew) hc;clear hc;have aB:=hid (ab.drew).cell;have K:Hid (Below (U).heap.size (U) (U).drew):=zi.drew
     repeat (first | go_big_quiet_step (fail) | quiet_step (fail))
     refine quiet_load_row rfl 40 _ rfl _ rfl _ aB Tryz.underlying40 rfl (by rw [V.out];kernel_rfl) ?_;go_simp
     repeat (first | go_big_quiet_step (fail) | quiet_step (fail))
     refine wpQuiet_nil ?_;refine ⟨rfl,λ wy hby=> ?_⟩;go_simp;simp only [uponV];have Hy:=hid (K.trans (hby.mono K.size));have ao:=Hy.size;refine (aD.out _ Hy).mono ?_;rintro e w4 ⟨yv,rfl,an,⟨ya,yn,yc,rfl⟩,C⟩;refine ⟨_,rfl,C,?_⟩;replace K:=hid (Hy.trans (C.mono Hy.size));clear C hby Hy;have ai:=hid (an.sub (Y:=λ i=> i < U.heap.size) λ i _ h=> lt_of_lt_of_le h ao);clear an ao;go_simp
     repeat (first | go_big_quiet_step (fail) | quiet_step (fail))
     refine wpQuiet_nil ?_;refine ⟨rfl,λ wy hby=> ?_⟩;go_simp;have Hy:=hid (K.trans (hby.mono K.size));refine uponV_box λ wv HV Hbv=> ⟨Hbv,?_⟩
     replace K:=hid (Hy.trans (Hbv.mono Hy.size));replace ai:=hid (ai.mono (hby.trans (Hbv.mono hby.size)) (Y:=λ i=> i < U.heap.size) λ _ _ h=> h);clear hby Hy;go_simp
     repeat (first | go_big_quiet_step (fail) | quiet_step (fail))
     refine wpQuiet_nil ?_;intro wz W;replace K:=hid (K.trans (W.mono K.size));replace HV:=hid (HV.below W HV.lt);have aI:=hid (HB.below K);have aA:=hid (Hm.trans (K.mono Hm.size));have aQ:=hid (ai.mono W (Y:=λ i=> i < U.heap.size) λ _ _ h=> h);have aX:=hid λ i h=> (HB.ge i h).2;clear W aB aD HB;go_wp2_with (at_builtin;go_loud (refine wpList_pushG (E:=RwE) rfl _ _ 41 rfl i0 _ 24 Tryz.underlying41 ii ba aZ aY rfl (by decide) (by decide) rfl aI.out Y [qs ya yn yc] _ rfl HV.out.cell rfl one_sl ?hE ?hl aA.out.size (λ i h=> h.elim) ?_))
     case hE=> first | (exact (aQ.sub λ i _ h=> aX.out i h).imp λ w h=> ⟨_,rfl,h⟩) | (exact (aQ.sub λ i _ h=> h.elim False.elim (aX.out i)).imp λ w h=> ⟨_,rfl,h⟩)
     case hl=> first | (rw [aS.out];omega) | (have:=aS.out;simp at this ⊢;omega)
     intro v' w9 aH au _ _;have aO:=hid (aA.trans au);clear au aI;go_wp2;go_roundw
     case rel=> exact ⟨k+1,by omega,by go_num,by rw [HT.out,List.map_take];first | exact aH | (rw [List.map_map];exact aH),aO⟩
     case measure=> simp [intOf];omega
   . obtain rfl:aa=k:=by omega
     have aq:(((groupsL es L).take aa).map F).length<=2000000000000:=by rw [length_map,length_take];omega
     have aC:Hid (RowsAt U (rowsL its es L) u6):=by have h:=rows_of (HB.at aq);rw [take_of_length_le (by rw [bo.out];omega),<-aE.out] at h;exact h
     obtain ⟨za,zc,hz⟩:=HB.shape;obtain ⟨zn,am⟩:=gx ((((groupsL es L).take aa).map F).length)
     rw [am] at hz;subst hz;clear aq am HB;have J:=Hw;have A:=ab.cell;have av:=(A 19).trans HA.2.2.1;clear A;have M:=hid (rsort_fit T J aC);rw [aV.out] at M;go_wp2_with fail;refine M.mono ?_;rintro e w3 ⟨u,rfl,hu,I⟩;clear av;have A:=(ab.below I ab.lt).cell;have bk:=(A 20).trans HA.2.2.2;clear A;obtain ⟨ua,uc,rfl⟩:=hu.shape;have ar:=hu.cap;have D:=hid (show RowsAt w3 (sortL os (rowsL its es L)) (qs ua (sortL os (rowsL its es L)).length uc)/\Below w.heap.size w w3 from ⟨hu.at,J.trans (I.mono J.size)⟩);have O:Hid (resultL its es os lim L=limL lim (sortL os (rowsL its es L))):=rfl;generalize sortL os (rowsL its es L)=X at *;obtain ⟨un,H⟩:=gx X.length
     rw [H] at D ar ⊢;have af:=hid H;have bb:un<=9223372036854775807:=by obtain ⟨_,_,_,h1,-,h2⟩:=D.1.shape;injection h1 with _ h1 _;unfold maxLen at h2;omega
     clear hu I M H;by_cases h1:0 < lim
     . obtain ⟨q,rfl⟩:∃q:Nat,lim=q:=⟨lim.toNat,by omega⟩
       by_cases h2:(q:Int) < (un:Int)
       . have HF:=hid (show RowsAt w3 (resultL its es os q L) (qs ua q uc) from by
          rw [O.out];unfold limL;rw [if_pos ⟨h1,by rw [af.out];exact h2⟩];exact D.1.take q (by omega))
         go_wp2;go_ret;exact ⟨_,rfl,HF,D.2⟩
       . have HF:=hid (show RowsAt w3 (resultL its es os q L) (qs ua un uc) from by
          rw [O.out];unfold limL;rw [if_neg (λ h=> h2 (by rw [af.out] at h;exact h.2))];exact D.1)
         go_wp2;go_ret;exact ⟨_,rfl,HF,D.2⟩
     . have HF:=hid (show RowsAt w3 (resultL its es os lim L) (qs ua un uc) from by
        rw [O.out];unfold limL;rw [if_neg (λ h=> h1 h.1)];exact D.1)
       go_wp2;go_ret;exact ⟨_,rfl,HF,D.2⟩
 | false=>
  have ac:Hid (partsL its es L=L.map λ r=> [r]):=by show _=_;unfold partsL;rw [if_neg (by rw [HQ.out];simp)]
  have aw:=aM;have ax:=ay;have aE:Hid (rowsL its es L=(L.map λ r=> [r]).map F):=by show _=_;unfold rowsL;rw [if_neg bn.out,ac.out,<-bp.out]
  have aF:=hid λ (i:Nat) (hi:i < (L.map λ r=> [r]).length) (w':World) (s:Value) (C:Below w.heap.size w w') (h:RowsAt w' (L.map λ r=> [r])[i] s)=> ah.out i (by rw [ac.out];exact hi) w' s C (by simp only [ac.out];exact h);simp only [ac.out] at aF;clear ah;go_wp2;go_loopw [6,9] (λ v z wr=> ∃k:Nat,k<=n/\z=qi k/\Hid (Bl 60 1 RwE w2.heap.size (λ _=> False) wr (((L.map λ r=> [r]).take k).map F) v)/\Hid (Below w2.heap.size w2 wr)) (λ _ z _=> n - (intOf z).toNat)
  case atStart=> exact ⟨0,zero_le _,rfl,Bl.nil _ _ _ _ _ _,zi⟩
  case round=>
   obtain ⟨k,hk,rfl,HB,Hm⟩:=hrel
   rename World=> U
   have ab:=hid (aw.below Hm aw.lt);have Hw:=hid (ax.trans (Hm.mono ax.size));by_cases hlt:k < n
   . have aj:k < (L.map λ r=> [r]).length:=by rw [length_map,HN.out];exact hlt
     have aJ:k < L.length:=by rw [HN.out];exact hlt
     obtain ⟨b,o,rfl⟩:=HS.has k hlt;obtain ⟨x,bg,hx⟩:=HS.cell k aJ;obtain ⟨xa,xn,xc,rfl,-,-⟩:=hx.shape;have aR:Hid (RowsAt w [L[k]] (qs (some ⟨b,o+k,none⟩) 1 (c - k))):=by
      refine .lie [L[k]] [qs xa xn xc] b (o+k) 1 (c - k) rfl (HS.lt aJ) (by decide) (λ i y hi=> ?_) (.cons hx .nil);have bq:i=0:=by have:=(List.getElem?_eq_some_iff.1 hi).1;simp at this;exact this
      subst bq;simp at hi;subst hi;exact bg
     have aD:=hid λ (w':World) (C:Below U.heap.size U w')=> aF.out k aj w' (qs (some ⟨b,o+k,none⟩) 1 (c - k)) (Hw.trans (C.mono Hw.size)) (by rw [List.getElem_map];exact aR.mono (Hw.trans (C.mono Hw.size)));have bC:(k:Int)+1<=(c:Int):=by omega
     clear bg hx;have HT:Hid (((L.map λ r=> [r]).take (k+1)).map F=((L.map λ r=> [r]).take k).map F++[F (L.map λ r=> [r])[k]]):=by show _=_;rw [take_succ_eq_append_getElem aj,map_append];rfl
     have aS:Hid ((((L.map λ r=> [r]).take k).map F).length=k):=by show _=_;rw [length_map,length_take];omega
     generalize F (L.map λ r=> [r])[k]=Y at *;have k0:(0:Int)<=(k:Int):=by omega
     have k1:(k:Int) < (n:Int):=by omega
     go_upto_region 6 with (fail)
     refine wp_region_segs [([0,1,2,3,4,5,6],7),([],8)] [] [9,10] (by kernel_rfl) (by kernel_rfl) ?_;simp only [q2c,wpSegs];have aB:=hid (ab.drew).cell;have K:Hid (Below (U).heap.size (U) (U).drew):=zi.drew
     repeat (first | go_big_quiet_step (fail) | quiet_step (fail))
     refine quiet_load_row rfl 40 _ rfl _ rfl _ aB Tryz.underlying40 rfl (by rw [V.out];kernel_rfl) ?_;go_simp
     repeat (first | go_big_quiet_step (fail) | quiet_step (fail))
     refine wpQuiet_nil ?_;refine ⟨rfl,λ wy hby=> ?_⟩;go_simp;simp only [uponV];have Hy:=hid (K.trans (hby.mono K.size));have ao:=Hy.size;refine (aD.out _ Hy).mono ?_;rintro e w4 ⟨yv,rfl,an,⟨ya,yn,yc,rfl⟩,C⟩;refine ⟨_,rfl,C,?_⟩;replace K:=hid (Hy.trans (C.mono Hy.size));clear C hby Hy;have ai:=hid (an.sub (Y:=λ i=> i < U.heap.size) λ i _ h=> lt_of_lt_of_le h ao);clear an ao;go_simp
     repeat (first | go_big_quiet_step (fail) | quiet_step (fail))
     refine wpQuiet_nil ?_;refine ⟨rfl,λ wy hby=> ?_⟩;go_simp;have Hy:=hid (K.trans (hby.mono K.size));refine uponV_box λ wv HV Hbv=> ⟨Hbv,?_⟩
     replace K:=hid (Hy.trans (Hbv.mono Hy.size));replace ai:=hid (ai.mono (hby.trans (Hbv.mono hby.size)) (Y:=λ i=> i < U.heap.size) λ _ _ h=> h);clear hby Hy;go_simp
     repeat (first | go_big_quiet_step (fail) | quiet_step (fail))
     refine wpQuiet_nil ?_;intro wz W;replace K:=hid (K.trans (W.mono K.size));replace HV:=hid (HV.below W HV.lt);have aI:=hid (HB.below K);have aA:=hid (Hm.trans (K.mono Hm.size));have aQ:=hid (ai.mono W (Y:=λ i=> i < U.heap.size) λ _ _ h=> h);have aX:=hid λ i h=> (HB.ge i h).2;clear W aB aD HB;go_wp2_with (at_builtin;go_loud (refine wpList_pushG (E:=RwE) rfl _ _ 41 rfl i0 _ 24 Tryz.underlying41 ii ba aZ aY rfl (by decide) (by decide) rfl aI.out Y [qs ya yn yc] _ rfl HV.out.cell rfl one_sl ?hE ?hl aA.out.size (λ i h=> h.elim) ?_))
     case hE=> first | (exact (aQ.sub λ i _ h=> aX.out i h).imp λ w h=> ⟨_,rfl,h⟩) | (exact (aQ.sub λ i _ h=> h.elim False.elim (aX.out i)).imp λ w h=> ⟨_,rfl,h⟩)
     case hl=> rw [aS.out];omega
     intro v' w9 aH au _ _;have aO:=hid (aA.trans au);clear au aI;go_wp2;go_roundw
     case rel=> exact ⟨k+1,by omega,by go_num,by rw [HT.out,List.map_take];first | exact aH | (rw [List.map_map];exact aH),aO⟩
     case measure=> simp [intOf];omega
   . obtain rfl:n=k:=by omega
     have aq:(((L.map λ r=> [r]).take n).map F).length<=2000000000000:=by rw [length_map,length_take];omega
     have aC:Hid (RowsAt U (rowsL its es L) u6):=by have h:=rows_of (HB.at aq);rw [take_of_length_le (by rw [length_map,HN.out];omega),<-aE.out] at h;exact h
     obtain ⟨za,zc,hz⟩:=HB.shape;obtain ⟨zn,am⟩:=gx ((((L.map λ r=> [r]).take n).map F).length)
     rw [am] at hz;subst hz;clear aq am HB;have J:=Hw;have A:=ab.cell;have av:=(A 19).trans HA.2.2.1;clear A;have M:=hid (rsort_fit T J aC);rw [aV.out] at M;go_wp2_with fail;refine M.mono ?_;rintro e w3 ⟨u,rfl,hu,I⟩;clear av;have A:=(ab.below I ab.lt).cell;have bk:=(A 20).trans HA.2.2.2;clear A;obtain ⟨ua,uc,rfl⟩:=hu.shape;have ar:=hu.cap;have D:=hid (show RowsAt w3 (sortL os (rowsL its es L)) (qs ua (sortL os (rowsL its es L)).length uc)/\Below w.heap.size w w3 from ⟨hu.at,J.trans (I.mono J.size)⟩);have O:Hid (resultL its es os lim L=limL lim (sortL os (rowsL its es L))):=rfl;generalize sortL os (rowsL its es L)=X at *;obtain ⟨un,H⟩:=gx X.length
     rw [H] at D ar ⊢;have af:=hid H;have bb:un<=9223372036854775807:=by obtain ⟨_,_,_,h1,-,h2⟩:=D.1.shape;injection h1 with _ h1 _;unfold maxLen at h2;omega
     clear hu I M H;by_cases h1:0 < lim
     . obtain ⟨q,rfl⟩:∃q:Nat,lim=q:=⟨lim.toNat,by omega⟩
       by_cases h2:(q:Int) < (un:Int)
       . have HF:=hid (show RowsAt w3 (resultL its es os q L) (qs ua q uc) from by
          rw [O.out];unfold limL;rw [if_pos ⟨h1,by rw [af.out];exact h2⟩];exact D.1.take q (by omega))
         go_wp2;go_ret;exact ⟨_,rfl,HF,D.2⟩
       . have HF:=hid (show RowsAt w3 (resultL its es os q L) (qs ua un uc) from by
          rw [O.out];unfold limL;rw [if_neg (λ h=> h2 (by rw [af.out] at h;exact h.2))];exact D.1)
         go_wp2;go_ret;exact ⟨_,rfl,HF,D.2⟩
     . have HF:=hid (show RowsAt w3 (resultL its es os lim L) (qs ua un uc) from by
        rw [O.out];unfold limL;rw [if_neg (λ h=> h1 h.1)];exact D.1)
       go_wp2;go_ret;exact ⟨_,rfl,HF,D.2⟩
end
theorem awake_calls (w:World):Calls Tryz.prog 8 #[] w λ e w'=> e=.returned (.bool true)/\Below w.heap.size w w':=by
 have A:=hid (λ n w'=> number_calls n w');go_enter Tryz.func8,Tryz.ntmps8;go_wp2_with fail;(with_reducible refine (A.out _ _).mono ?_);rintro e wa ⟨rfl,ha⟩;go_wp2_with fail;(with_reducible refine (A.out _ _).mono ?_);rintro e wb ⟨rfl,K⟩;go_wp2_with fail;(with_reducible refine (A.out _ _).mono ?_);rintro e w1 ⟨rfl,bC⟩;have ag:Below w.heap.size w w1:=(ha.trans (K.mono ha.size)).trans (bC.mono (le_trans ha.size K.size));clear ha K bC;go_upto_region 2 with (fail)
 generalize hW1:w1.alloc _=W1 at *;have br:ValsAt W1 vs4 (qs (some ⟨w1.heap.size,0,none⟩) 4 4):=by rw [<-hW1];refine .lie vs4 _ 0 4 4 rfl (by simp) (by decide) (λ i hi j hj=> ?_) (by decide);rcases (by simp [vs4] at hi;omega:i=0\/i=1\/i=2\/i=3) with rfl | rfl | rfl | rfl <;> rcases (by omega:j=0\/j=1\/j=2) with rfl | rfl | rfl <;> simp [vs4,intV,nilV,Vl.cells]
 have ba:Below w.heap.size w W1:=by rw [<-hW1];exact ag.alloc ag.size _
 have b6:w1.heap.size < W1.heap.size:=by rw [<-hW1];simp
 generalize w1.heap.size=b1 at *;clear ag hW1;go_upto_region 3 with (fail)
 iterate 22 go_step
 generalize hW4:((W1.alloc _).alloc _).alloc _=W4 at *;obtain ⟨b2,aj⟩:=gx W1.heap.size
 have aB:W4.heap.size=b2+3:=by rw [<-hW4,<-aj];simp
 have ak:Below W1.heap.size W1 W4:=by rw [<-hW4];exact ((zi.alloc lr _).alloc (by simp) _).alloc (by simp;omega) _
 have al:∀j,W4.cell? ⟨b2,j,none⟩=(#[qi 2,qt ⟨#[]⟩,qt strA,qi 0,qi 0,qi 0,qt ⟨#[]⟩,q0]:Array Value)[j]? :=by
  intro j;have h1:=heap_alloc_new W1 (.cells #[qi 2,qt ⟨#[]⟩,qt strA,qi 0,qi 0,qi 0,qt ⟨#[]⟩,q0] 37);have h2:W4.heap[b2]? =some (.cells #[qi 2,qt ⟨#[]⟩,qt strA,qi 0,qi 0,qi 0,qt ⟨#[]⟩,q0] 37 (0,0)):=by rw [<-hW4,<-aj,heap_alloc_old _ _ (by simp;omega),heap_alloc_old _ _ (by simp),<-h1];rfl
  exact cell_of_row _ _ _ _ _ _ h2
 have bz:ItemsAt W4 its2 (qs (some ⟨b2+1,0,none⟩) 2 2):=by
  have h2:W4.heap[b2+1]? =some (.cells #[qi 1,qi 0,qt ⟨#[]⟩,qt ⟨#[]⟩,qi 0,qi 0,qi 0,qt ⟨#[]⟩,q0,qi 3,qi 2,qt ⟨#[]⟩,qt strA,qi 0,qi 0,qi 0,qt ⟨#[]⟩,q0] 66 (0,0)):=by rw [<-hW4,<-aj,heap_alloc_old _ _ (by simp)];rw [show W1.heap.size+1=(W1.alloc (.cells #[qi 2,qt ⟨#[]⟩,qt strA,qi 0,qi 0,qi 0,qt ⟨#[]⟩,q0] 37)).heap.size by simp];exact heap_alloc_new _ _
  refine .lie its2 (b2+1) 0 2 2 rfl (by omega) (by decide) λ i hi j hj=> ?_;rw [cell_of_row _ _ _ _ _ _ h2];rcases (by simp [its2] at hi;omega:i=0\/i=1) with rfl | rfl <;> rcases (by omega:j=0\/j=1\/j=2\/j=3\/j=4\/j=5\/j=6\/j=7\/j=8) with rfl | rfl | rfl | rfl | rfl | rfl | rfl | rfl | rfl <;> rfl
 rw [aj];have bq:=br.mono ak;have aH:=ba.trans (ak.mono ba.size);have ao:=hid aB;have bZ:=hid al;have bP:=hid bz;have bI:=hid bq;have V:=hid aH;clear hW4 ak al bz bq aH br ba b6 aj aB;refine wpList_value (w':=W4) (v:=.agg (bdA (b2+1) (b2+1+1) ⟨none,0,0⟩).arr) rfl (by kernel_rfl) ?_;obtain ⟨b5,J⟩:=gx W4.heap.size
 have az:Hid (∀(Z:Array Value),Z.size=26->overA Z 0 (bdA (b2+1) (b2+1+1) ⟨none,0,0⟩).arr.toList=(bdA (b2+1) (b2+1+1) ⟨none,0,0⟩).arr->((W4.alloc (.cells Z 46)).setCells W4.heap.size 0 (bdA (b2+1) (b2+1+1) ⟨none,0,0⟩).arr.toList).heap[W4.heap.size]? =some (.cells (bdA (b2+1) (b2+1+1) ⟨none,0,0⟩).arr 46 (0,0))/\Below W4.heap.size W4 ((W4.alloc (.cells Z 46)).setCells W4.heap.size 0 (bdA (b2+1) (b2+1+1) ⟨none,0,0⟩).arr.toList)/\(W4.alloc (.cells Z 46)).there W4.heap.size 0 26):=
  hid λ Z hZ h=> ⟨by rw [heap_setCellsA _ _ _ _ _ _ (heap_alloc_new W4 (.cells Z 46)),h],below_cellsR lr _ 0 _ (zi.alloc lr _),λ j hj=> by
   have K:=heap_alloc_new W4 (.cells Z 46);refine ⟨?_,?_⟩
   . rw [zero_add,cell_of_row _ _ _ _ _ _ K,Array.getElem?_eq_getElem (by omega)]
     rfl
   . rw [zero_add];exact frozen_of_row _ _ _ _ _ K⟩
 have an:(bdA (b2+1) (b2+1+1) ⟨none,0,0⟩).arr.size=26:=by kernel_rfl
 have HO:=hid (arr_one (bdA (b2+1) (b2+1+1) ⟨none,0,0⟩));generalize hA5:(bdA (b2+1) (b2+1+1) ⟨none,0,0⟩).arr=A5 at *
 iterate 4 go_step
 refine wp_store_mid 46 (.tmp 3) (.tmp 19) rfl b5 0 A5 rfl rfl ?ht ?hi ?h1 ?_
 case ht=>
  rw [<-J,an];refine (az.out _ ?_ ?_).2.2
  . kernel_rfl
  . rw [<-hA5];kernel_rfl
 case hi=> rw [an];exact Tryz.size46
 case h1=> exact Array.all_eq_true_iff_forall_mem.2 (λ v hv=> HO.out v (by simpa using hv))
 rw [<-J];generalize hW5:(W4.alloc _).setCells _ 0 _=W5 at *;have q1:W5.heap[W4.heap.size]? =some (.cells A5 46 (0,0)):=by
  rw [<-hW5];refine (az.out _ ?_ ?_).1
  . kernel_rfl
  . rw [<-hA5];kernel_rfl
 have q2:Below W4.heap.size W4 W5:=by
  rw [<-hW5];refine (az.out _ ?_ ?_).2.1
  . kernel_rfl
  . rw [<-hA5];kernel_rfl
 clear hW5;have ah:b2 < W4.heap.size:=by have:=ao.out;omega
 have al:∀j,W5.cell? ⟨b2,j,none⟩=_:=λ j=> (q2.cell (p:=⟨b2,j,none⟩) ah).trans (bZ.out j);have bp:=bI.mono q2;have aG:=V.trans (q2.mono V.size);have ae:=bP.mono q2;have aY:=result_nil _ _ _ _ _ 0 W5 rfl (fit1 (b2+1) (b2+1+1) W5 ae);rw [hA5] at aY;have bT:=hid aY;rw [J] at q1 ⊢;have ax:b5 < W5.heap.size:=(Array.getElem?_eq_some_iff.1 q1).1;have ai:b2 < b5:=by rw [<-J];exact ah
 have aM:=hid (show b5=b2+3 by rw [<-J];exact ao);have aA:w.heap.size<=b5:=by rw [<-J];exact V.size
 have aU:=hid al;have bd:=hid q1;have bH:=hid bp;have aq:=hid aG;have aK:=hid ae;clear al bp aG ae aY q1 q2 az bI V bP bZ ao J ah an;go_wp2_with (refine wpList_load_row rfl 46 (.tmp 3) rfl b5 rfl 46 A5 (0,0) _ bd.out Tryz.underlying46 rfl (by rw [<-hA5];exact Tryz.size46) ?_);go_wp2_with fail;(with_reducible refine bT.out.mono ?_);rintro e W6 ⟨v6,rfl,av,I⟩;rw [awake1] at av;obtain ⟨cd,ca,cb,rfl,-⟩:=av.shape;have C:∀j,W6.cell? ⟨b2,j,none⟩=_:=λ j=> (I.cell (p:=⟨b2,j,none⟩) (Nat.lt_trans ai ax)).trans (aU.out j);have aw:=(I.block b5 ax).trans bd;have bw:b5 < W6.heap.size:=lt_of_lt_of_le ax I.size;have bv:b2 < W6.heap.size:=Nat.lt_trans ai bw;have bb:W6.cell? ⟨b5,18,none⟩=some (q0):=by rw [cell_of_row _ _ _ _ _ _ aw,<-hA5];rfl
 have bE:W6.frozen? ⟨b5,18,none⟩=false:=frozen_of_row _ _ _ _ _ aw;have x0:=C 0;have x1:=C 1;have x2:=C 2;have x3:=C 3;have x4:=C 4;have x5:=C 5;have x6:=C 6;have x7:=C 7;simp only [q2a] at x0 x1 x2 x3 x4 x5 x6 x7;have b9:=hid C;have bO:=hid aw;have bG:=hid (bH.mono I);have aL:=hid (aq.trans (I.mono aq.size));have aJ:=hid (aK.mono I);have bM:=hid av;clear C aw av I bT aU bd bH aq aK ax;go_upto_region 6 with (fail)
 have bB:=aM.out;obtain ⟨F,aZ⟩:=gx W6.heap.size
 have bD:A5.setIfInBounds 18 (qs (some ⟨F,0,none⟩) 1 1)=(bdA (b2+1) (b2+1+1) ⟨some ⟨F,0,none⟩,1,1⟩).arr:=by rw [<-hA5];kernel_rfl
 have O:=heap_setCell_same W6 b5 18 A5 46 (qs (some ⟨F,0,none⟩) 1 1) bO;rw [bD] at O;have bA:Below b5 W6 (W6.setCell ⟨b5,18,none⟩ (qs (some ⟨F,0,none⟩) 1 1)):=(Below.refl b5 W6).setCell (p:=⟨b5,18,none⟩) lr _;have ad:(W6.setCell ⟨b5,18,none⟩ (qs (some ⟨F,0,none⟩) 1 1)).heap.size=F:=by rw [size_setC,aZ]
 have bo:=bG.setNil (u:=qs (some ⟨F,0,none⟩) 1 1) bb;have bt:=bM.setNil (u:=qs (some ⟨F,0,none⟩) 1 1) bb (by simp);have af:=aL.setCell (p:=⟨b5,18,none⟩) aA (qs (some ⟨F,0,none⟩) 1 1);have aD:ItemsAt (W6.setCell ⟨b5,18,none⟩ (qs (some ⟨F,0,none⟩) 1 1)) its2 (qs (some ⟨b2+1,0,none⟩) 2 2):=by refine .lie its2 (b2+1) 0 2 2 rfl (by omega) (by decide) λ i hi j hj=> ?_;obtain ⟨b,o,e,_,hc⟩:=aJ.at i hi;injection e with e;injection e with e1 e2;subst e1 e2;exact (bA.cell (p:=⟨b2+1,0+i * 9+j,none⟩) (show b2+1 < b5 by omega)).trans (hc j hj)
 rw [aZ];generalize W6.setCell ⟨b5,18,none⟩ (qs (some ⟨F,0,none⟩) 1 1)=W8 at *;have aa:Below W8.heap.size W8 (W8.alloc (.cells #[qi 2,qt ⟨#[]⟩,qt strA,qi 0,qi 0,qi 0,qt ⟨#[]⟩,q0] 37)):=zi.alloc lr _;have bk:XpsAt (W8.alloc (.cells #[qi 2,qt ⟨#[]⟩,qt strA,qi 0,qi 0,qi 0,qt ⟨#[]⟩,q0] 37)) [exA] (qs (some ⟨F,0,none⟩) 1 1):=by
  refine .lie [exA] F 0 1 1 rfl (by simp [ad]) (by decide) λ i hi j hj=> ?_;have K:=heap_alloc_new W8 (.cells #[qi 2,qt ⟨#[]⟩,qt strA,qi 0,qi 0,qi 0,qt ⟨#[]⟩,q0] 37);rw [ad] at K;rw [cell_of_row _ _ _ _ _ _ K];obtain rfl:i=0:=by simp at hi;omega
  rcases (by omega:j=0\/j=1\/j=2\/j=3\/j=4\/j=5\/j=6\/j=7) with rfl | rfl | rfl | rfl | rfl | rfl | rfl | rfl <;> rfl
 have bu:=(aa.block b5 (Array.getElem?_eq_some_iff.1 O).1).trans O;have aF:=af.trans (aa.mono af.size);have aC:=aD.mono aa;have bn:=bo.mono aa;have bs:=bt.mono aa;generalize W8.alloc (.cells #[qi 2,qt ⟨#[]⟩,qt strA,qi 0,qi 0,qi 0,qt ⟨#[]⟩,q0] 37)=W9 at *;have aE:=fit2 (b2+1) (b2+1+1) F W9 aC bk;have aN:=hid (λ (w':World) (K:Below W9.heap.size W9 w') (bx:Nat) (u:Value) (hbx:Boxed w' bx 41 u) (hu:RowsAt w' L3 u)=> (result_any _ _ _ _ L3 1 0 bx u w' rfl (aE.mono K) hbx hu (by decide)).mono (R':=λ e w''=> ∃v,e=.returned v/\RowsAt w'' [[intV 1,nilV],[intV 2,intV 4]] v/\Below w'.heap.size w' w'') (λ e w'' h=> by obtain ⟨v,e1,h1,h2⟩:=h;rw [awake2] at h1;exact ⟨v,e1,h1,h2⟩));have am:(bdA (b2+1) (b2+1+1) ⟨some ⟨F,0,none⟩,1,1⟩).arr.size=26:=by kernel_rfl
 generalize (bdA (b2+1) (b2+1+1) ⟨some ⟨F,0,none⟩,1,1⟩).arr=A7 at *;have bN:=hid bu;have bF:=hid bn;have bL:=hid bs;have ap:=hid aF;clear O bA bo bt af aD aa bk bu aF aC bn bs aE bD bO bG bM aL aJ b9 bb bE x0 x1 x2 x3 x4 x5 x6 x7 aZ ad bw bv ai bB aA hA5 HO;generalize Value.agg A5=ag5;clear aM;refine rA6 A7 am b5 [[intV 1,nilV],[intV 2,intV 4]] rfl rfl bN (λ w' K bx u h1 h2=> aN.out w' K bx u h1 h2) _ (by kernel_rfl) ?_;intro u W T U;obtain ⟨cg,ce,cf,aX,-⟩:=T.shape;rw [aX] at T;have aI:=hid T;have bJ:=hid (bF.mono U);have bc:=hid (bL.mono U);have ar:=hid (ap.trans (U.mono ap.size));have au:=hid (λ (k:Int) (w':World) (K:Below W.heap.size W w')=> aggregate_calls k vs4 _ w' (bJ.mono K) (by decide));have be:=hid (λ (L M:List Rw) (s t:Value) (w':World) (hs:RowsAt w' L s) (ht:RowsAt w' M t)=> same_calls L M s t w' hs ht);have bK:=hid aX;clear T U bL bF ap bN aN aX am;simp only [putK,List.map,List.foldl,Act.put,List.setIfInBounds_toArray,List.set_cons_succ,List.set_cons_zero];rw [bK.out];generalize u 26=u26;generalize u 27=u27;generalize u 28=u28;generalize u 29=u29;generalize u 30=u30;generalize u 31=u31;generalize u 32=u32;generalize u 33=u33;generalize u 34=u34;generalize u 35=u35;clear bK u;have hC:Below W.heap.size W W:=zi;have bj:=hid hC;clear hC;go_wp2_with fail;(with_reducible refine (au.out 1 W bj.out).mono ?_);rintro e p1 ⟨rfl,q⟩;have bY:=hid (bj.trans (q.mono bj.size));clear q;rw [show (aggV 1 vs4).val=.agg #[qi 1,qi 4,qt ⟨#[]⟩] from by kernel_rfl];go_wp2_with fail;(with_reducible refine (A.out 4 p1).mono ?_);rintro e p2 ⟨rfl,q⟩;have bi:=hid (bY.trans (q.mono bY.size));clear q;go_wp2_with fail;(with_reducible refine (au.out 2 p2 bi.out).mono ?_);rintro e p3 ⟨rfl,q⟩;have bX:=hid (bi.trans (q.mono bi.size));clear q;rw [show (aggV 2 vs4).val=.agg #[qi 1,qi 3,qt ⟨#[]⟩] from by kernel_rfl];go_wp2_with fail;(with_reducible refine (A.out 3 p3).mono ?_);rintro e p4 ⟨rfl,q⟩;have bh:=hid (bX.trans (q.mono bX.size));clear q;go_wp2_with fail;(with_reducible refine (au.out 3 p4 bh.out).mono ?_);rintro e p5 ⟨rfl,q⟩;have bW:=hid (bh.trans (q.mono bh.size));clear q;rw [show (aggV 3 vs4).val=.agg #[qi 1,qi 11,qt ⟨#[]⟩] from by kernel_rfl];go_wp2_with fail;(with_reducible refine (A.out 11 p5).mono ?_);rintro e p6 ⟨rfl,q⟩;have bg:=hid (bW.trans (q.mono bW.size));clear q;go_wp2_with fail;(with_reducible refine (au.out 4 p6 bg.out).mono ?_);rintro e p7 ⟨rfl,q⟩;have bV:=hid (bg.trans (q.mono bg.size));clear q;rw [show (aggV 4 vs4).val=.agg #[qi 1,qi 3,qt ⟨#[]⟩] from by kernel_rfl];go_wp2_with fail;(with_reducible refine (A.out 3 p7).mono ?_);rintro e p8 ⟨rfl,q⟩;have bf:=hid (bV.trans (q.mono bV.size));clear q;go_wp2_with fail;(with_reducible refine (au.out 5 p8 bf.out).mono ?_);rintro e p9 ⟨rfl,q⟩;have bU:=hid (bf.trans (q.mono bf.size));clear q;rw [show (aggV 5 vs4).val=.agg #[qi 1,qi 5,qt ⟨#[]⟩] from by kernel_rfl];go_wp2_with fail;(with_reducible refine (A.out 5 p9).mono ?_);rintro e p10 ⟨rfl,q⟩;have aT:=hid (bU.trans (q.mono bU.size));clear q;go_wp2_with fail;(with_reducible refine (A.out 0 p10).mono ?_);rintro e H ⟨rfl,q⟩;have aS:=hid (aT.trans (q.mono aT.size));clear q;have ac:ValsAt (H.alloc (.cells #[qi 1,qi 0,qt ⟨#[]⟩,qi 0,qi 0,qt ⟨#[]⟩] 35)) [intV 0,nilV] (qs (some ⟨H.heap.size,0,none⟩) 2 2):=two_vals H (intV 0) nilV 35 (by decide) (by decide);have aW:=one_row 60 ac;simp only [World.size_alloc] at aW;have ab:Below H.heap.size H ((H.alloc (.cells #[qi 1,qi 0,qt ⟨#[]⟩,qi 0,qi 0,qt ⟨#[]⟩] 35)).alloc (.cells #[qs (some ⟨H.heap.size,0,none⟩) 2 2] 60)):=(zi.alloc lr _).alloc (by simp) _;have HX:=hid aW;have HY:=hid (aS.trans (ab.mono aS.size));clear ac aW ab;go_wp2_with fail;(with_reducible refine (be.out _ _ _ _ _ (bc.out.mono HY.out) HX.out).mono ?_);rintro e s1 ⟨rfl,q⟩;have aR:=hid (HY.trans (q.mono HY.size));clear q;rw [show decide ([[intV 0,nilV]]=[[intV 0,nilV]])=true from by simp];go_wp2_with fail;(with_reducible refine (A.out 1 s1).mono ?_);rintro e G ⟨rfl,q⟩;have aQ:=hid (aR.trans (q.mono aR.size));clear q;have ac:ValsAt (G.alloc (.cells #[qi 1,qi 1,qt ⟨#[]⟩,qi 0,qi 0,qt ⟨#[]⟩] 35)) [intV 1,nilV] (qs (some ⟨G.heap.size,0,none⟩) 2 2):=two_vals G (intV 1) nilV 35 (by decide) (by decide);have ab:Below G.heap.size G (G.alloc (.cells #[qi 1,qi 1,qt ⟨#[]⟩,qi 0,qi 0,qt ⟨#[]⟩] 35)):=zi.alloc lr _;have b8:=hid ac;have bQ:=hid (aQ.trans (ab.mono aQ.size));clear ac ab;go_wp2_with fail;(with_reducible refine (A.out 2 _).mono ?_);rintro e b4 ⟨rfl,q⟩;have aP:=hid ((bQ.trans (q.mono bQ.size)));have b7:=hid (b8.mono q);clear q;go_wp2_with fail;(with_reducible refine (A.out 4 b4).mono ?_);rintro e D ⟨rfl,q⟩;have aO:=hid (aP.trans (q.mono aP.size));have bS:=hid (b7.mono q);clear q;have bm:ValsAt (D.alloc (.cells #[qi 1,qi 2,qt ⟨#[]⟩,qi 1,qi 4,qt ⟨#[]⟩] 35)) [intV 2,intV 4] (qs (some ⟨D.heap.size,0,none⟩) 2 2):=two_vals D (intV 2) (intV 4) 35 (by decide) (by decide);have aV:=two_rows 60 (bS.mono ((Below.refl _ D).alloc lr (.cells #[qi 1,qi 2,qt ⟨#[]⟩,qi 1,qi 4,qt ⟨#[]⟩] 35))) bm;simp only [World.size_alloc] at aV;have bl:Below D.heap.size D ((D.alloc (.cells #[qi 1,qi 2,qt ⟨#[]⟩,qi 1,qi 4,qt ⟨#[]⟩] 35)).alloc (.cells #[qs (some ⟨G.heap.size,0,none⟩) 2 2,qs (some ⟨D.heap.size,0,none⟩) 2 2] 60)):=(zi.alloc lr _).alloc (by simp) _;have bR:=hid aV;have ay:=hid (aO.trans (bl.mono aO.size));clear bm aV bl bS;go_wp2_with fail;(with_reducible refine (be.out _ _ _ _ _ (aI.out.mono ay.out) bR.out).mono ?_);rintro e s2 ⟨rfl,q⟩;have HF:=hid (ar.trans ((ay.trans (q.mono ay.size)).mono ar.size));clear q bR ay be aI;rw [show decide ([[intV 1,nilV],[intV 2,intV 4]]=[[intV 1,nilV],[intV 2,intV 4]])=true from by simp];go_wp2;go_ret;exact ⟨rfl,HF⟩
end
end Go.Proofs.YtcomoomndgbckaaGreat
