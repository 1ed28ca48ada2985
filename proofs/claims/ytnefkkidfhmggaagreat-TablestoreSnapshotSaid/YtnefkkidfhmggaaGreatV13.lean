/- Part 13 of the proof: Gy -/
import Derived.Test.YtnefkkidfhmggaaGreatV12
import Derived.Shelf.Abstract
import Derived.Shelf.RegionOpen
import Derived.Deep.CutBlock
import Derived.Sort.CutIn
set_option maxHeartbeats 16000000
set_option maxRecDepth 100000
namespace Go.Proofs.YtnefkkidfhmggaaGreat
open Go Go.RowKit
noncomputable section
section
open Go.Shelf
attribute [local go_sem] Oper.semAt_some
theorem snapshot_calls (u:Nat) (hu:u < 256) (ka fa:Option Addr) (kn kc fn fc:Nat) (K F:List Int) (l:List Opr) (v:Value) (l2:List Opr) (v2:Value) (W:World) (hk:IntsX [] W K (.slice ka kn kc)) (hf:IntsX [] W F (.slice fa fn fc)) (hl:OpsX W l v) (ho:OpsOk l) (hl2:OpsX W l2 v2) (ho2:OpsOk l2):
 Calls Tryz.prog 7 #[.agg #[.int .u8 u, .slice ka kn kc, .slice fa fn fc],v,v2] W λ e w'=> e=.returned (.bool true)/\Below W.heap.size W w':=by
 obtain ⟨ma,mc,rfl⟩:=hl2.sl.shape;obtain ⟨pa,pc,rfl⟩:=hl.sl.shape;have hS:=(((St.start (w:=W) (L:=[]) (fp:=[]) rfl).newblk 24 #[.int .u8 u, .slice ka kn kc, .slice fa fn fc]).newblk 25 #[.slice ma l2.length mc]).newblk 4 #[.bool false];simp only [World.size_alloc] at hS;have H0:=Lib.hid hS;have HK:=Lib.hid hk;have HF:=Lib.hid hf;have HL:=Lib.hid hl;have HO:=Lib.hid ho;have HL2:=Lib.hid hl2;have HO2:=Lib.hid ho2;obtain ⟨n1,hn1⟩:∃n1,l.length=n1:=⟨_,rfl⟩
 obtain ⟨n2,hn2⟩:∃n2,l2.length=n2:=⟨_,rfl⟩
 have HN1:=Lib.hid hn1;have HN2:=Lib.hid hn2;rw [hn1] at HL ⊢;rw [hn2] at HL2 H0 ⊢;clear hk hf hl ho hl2 ho2 hS hn1 hn2;refine calls_of_wp_m Tryz.func7 rfl ?_;simp only [Tryz.ntmps7,List.size_toArray,List.length_cons,List.length_nil,Nat.reduceAdd,Nat.reduceSub,Array.replicate_succ,Array.replicate_zero,List.push_toArray,List.append_toArray,List.nil_append,List.cons_append];go_wp2_with fail;generalize hW:((W.alloc _).alloc _).alloc _=w1 at *;obtain ⟨b3,hb3⟩:∃b3,W.heap.size=b3:=⟨_,rfl⟩
 rw [hb3] at H0 ⊢;have HB:=Lib.hid hb3;obtain ⟨b5,hb5⟩:∃b5,b3+1=b5:=⟨_,rfl⟩
 rw [hb5] at H0 ⊢;obtain ⟨b6,hb6⟩:∃b6,b5+1=b6:=⟨_,rfl⟩
 rw [hb6] at H0 ⊢;clear hW hb3 hb5 hb6;(with_reducible refine (awake_calls w1).mono ?_);rintro e w2 ⟨rfl,hb⟩;replace H0:=Lib.hid (H0.out.mono hb);clear hb;obtain ⟨q0,q1,q2,r0,r1,r2,ql⟩:=cells3 H0.out 2 rfl;go_wp2_with fail;have HQ:=Lib.hid (fair_calls u ka fa kn kc fn fc l (.slice pa n1 pc) 40 w2 (by have:=SlX.len HK.out;omega) (by have:=SlX.len HF.out;omega) (HL.out.mono (st_below H0.out)));obtain ⟨q,hq⟩:∃q,fairB kn fn l 40=q:=⟨_,rfl⟩
 rw [hq] at HQ;(with_reducible refine HQ.out.mono ?_);rintro e w3 ⟨rfl,hb⟩;replace H0:=Lib.hid (H0.out.mono hb);clear hb HQ q0 q1 q2 r0 r1 r2 ql;cases q with
 | false=>
  have HT:=Lib.hid (H0.out.setB 0 (by simp) (.bool true));obtain ⟨_,hb⟩:=H0.out.has 0 rfl;have c0:=(blk_get hb).1 0;have f0:=(blk_get hb).2.1 0;have cl:=(blk_get hb).2.2;simp only [List.getElem?_toArray,List.getElem?_cons_zero] at c0;clear hb hq;have hc6:=(blk_get (HT.out.has 0 rfl).choose_spec).1 0;have HE:=Lib.hid (st_below HT.out);simp only [List.setIfInBounds_toArray,List.set_cons_zero,List.getElem?_toArray,List.getElem?_cons_zero] at hc6;clear HT H0;go_wp2;refine bodyPostM_ret (v:=.bool true) (by simp [results,Tryz.results7,go_sem,hc6]) rfl ?_;exact ⟨rfl,HE.out⟩
 | true=>
  have HFQ:=Lib.hid hq;clear hq;obtain ⟨q0,q1,q2,r0,r1,r2,ql⟩:=cells3 H0.out 2 rfl;obtain ⟨_,hb⟩:=H0.out.has 1 rfl;have p0:=(blk_get hb).1 0;have pl:=(blk_get hb).2.2;simp only [List.getElem?_toArray,List.getElem?_cons_zero] at p0;clear hb;go_wp2_with fail;have HQ:=Lib.hid (fair_calls u ka fa kn kc fn fc l2 (.slice ma n2 mc) 6 w3 (by have:=SlX.len HK.out;omega) (by have:=SlX.len HF.out;omega) (HL2.out.mono (st_below H0.out)));obtain ⟨q,hq⟩:∃q,fairB kn fn l2 6=q:=⟨_,rfl⟩
  rw [hq] at HQ;(with_reducible refine HQ.out.mono ?_);rintro e w4 ⟨rfl,hb⟩;replace H0:=Lib.hid (H0.out.mono hb);clear hb HQ q0 q1 q2 r0 r1 r2 ql p0 pl;cases q with
  | false=>
   have HT:=Lib.hid (H0.out.setB 0 (by simp) (.bool true));obtain ⟨_,hb⟩:=H0.out.has 0 rfl;have c0:=(blk_get hb).1 0;have f0:=(blk_get hb).2.1 0;have cl:=(blk_get hb).2.2;simp only [List.getElem?_toArray,List.getElem?_cons_zero] at c0;clear hb hq HFQ;have hc6:=(blk_get (HT.out.has 0 rfl).choose_spec).1 0;have HE:=Lib.hid (st_below HT.out);simp only [List.setIfInBounds_toArray,List.set_cons_zero,List.getElem?_toArray,List.getElem?_cons_zero] at hc6;clear HT H0;go_wp2;refine bodyPostM_ret (v:=.bool true) (by simp [results,Tryz.results7,go_sem,hc6]) rfl ?_;exact ⟨rfl,HE.out⟩
  | true=>
   have HGQ:=Lib.hid hq;clear hq;have HOP:=Lib.hid (HO.out.play HFQ.out);have HOP2:=Lib.hid (HO2.out.play HGQ.out);have HSZ:Hid (K.length<=6/\F.length<=6/\l.length<=40/\l2.length<=6):=by have h1:=SlX.len HK.out;have h2:=SlX.len HF.out;have h3:=fair_ok HFQ.out;have h4:=fair_ok HGQ.out;show _/\_;omega
   have HR:Hid (∀{Q:World->Prop} (R:List Asn),(∀w',Below W.heap.size W w'->Q w')->Rd W [] R Q):=λ R h L w hs=> h w (st_below hs);have HPL:Hid (∀w R,St W [] R w->Calls Tryz.prog 11 #[.agg #[.int .u8 u, .slice ka kn kc, .slice fa fn fc], .slice pa n1 pc] w λ e w'=> PlPostD l W [] R (colsN u) e w'):=λ w R h=> playD_calls u hu ka fa kn kc fn fc K F HSZ.out.1 HSZ.out.2.1 l (.slice pa n1 pc) W w [] R (HR.out _ λ w' hb=> HK.out.mono hb) (HR.out _ λ w' hb=> HF.out.mono hb) (HR.out _ λ w' hb=> HL.out.mono hb) (by have:=HSZ.out.2.2.1;omega) HOP.out h;obtain ⟨n,hn⟩:∃n,colsN u=n:=⟨_,rfl⟩
   have HN:=Lib.hid (show colsN u<=1000000/\0 < colsN u by unfold colsN;omega);rw [hn] at HPL HN;have HP:=Lib.hid (HPL.out w4 _ H0.out);obtain ⟨q0,q1,q2,r0,r1,r2,ql⟩:=cells3 H0.out 2 rfl;clear H0 hn;go_wp2_with fail;(with_reducible refine HP.out.mono ?_);rintro e w5 ⟨S,I,next,lv,m,rfl,hml,hasc,hof,hpd,h5⟩;clear HP q0 q1 q2 r0 r1 r2 ql;obtain ⟨la,lc,rfl⟩:∃a c,lv=.slice a m.length c:=by obtain ⟨_,hr⟩:=h5.has 1 rfl;exact (riA_sl hr).shape
   unfold rsV ptrV;have h6:=(h5.newblk 34 #[.pointer (some ⟨S,0,none⟩)]).newblk 37 #[.int .i64 n, .slice la m.length lc, .int .i64 next];simp only [World.size_alloc] at h6;have H6:=Lib.hid h6;obtain ⟨mn,hmn⟩:∃mn,m.length=mn:=⟨_,rfl⟩
   have HMN:=Lib.hid hmn;have HPD:=Lib.hid hpd;have HOF:=Lib.hid (And.intro hasc hof);have HM40:Hid (mn<=40):=by have:=HSZ.out.2.2.1;show mn<=40;omega
   rw [hmn] at H6 ⊢;clear hml hasc hof hpd h5 h6 hmn;go_upto_region 8 with (fail)
   generalize hW:(w5.alloc _).alloc _=w6 at *;obtain ⟨b7,hb7⟩:∃b7,w5.heap.size=b7:=⟨_,rfl⟩
   rw [hb7] at H6 ⊢;obtain ⟨b8,hb8⟩:∃b8,b7+1=b8:=⟨_,rfl⟩
   have HNE:=Lib.hid (show b8≠b7/\b7≠b8 by omega);rw [hb8] at H6 ⊢;clear hW hb7 hb8;refine rSn8 (w0:=W) (fp0:=[]) b7 S n I (riL m) next (blkA b8 37 #[.int .i64 n, .slice la mn lc, .int .i64 next]::riA (.slice la mn lc) m::[blkA b6 4 #[.bool false],blkA b5 25 #[.slice ma n2 mc],blkA b3 24 #[.int .u8 u, .slice ka kn kc, .slice fa fn fc]]) HN.out.1 HN.out.2 rfl (by kernel_rfl) rfl rfl rfl ?_ ?_
   · exact St_re (L:=[_,_,_,_,_,_,_,_,_,_,_,_]) (St.emp.2 (St.emp.2 (St.emp.2 (St.emp.2 (St.emp.2 H6.out))))) [6,7,0,1,2,3,4,5,8,9,10,11] [] (by kernel_rfl)
   intro u44 u46 u48 u49 u53 w7 ⟨b46,e46⟩ ⟨b48,e48⟩ h7;obtain ⟨g1,lb1,rfl⟩:=St.iter_form (St_re (L:=[_,_,_,_,_,_,_,_,_,_,_,_]) h7 [2,0,1,3,4,5,6,7,8,9,10,11] [] (by kernel_rfl));obtain ⟨g2,lb2,rfl⟩:=St.iter_form (St_re (L:=[_,_,_,_,_,_,_,_,_,_,_,_]) h7 [5,0,1,3,4,2,6,7,8,9,10,11] [] (by kernel_rfl));obtain ⟨g3,lb3,rfl⟩:=St.iter_form (St_re (L:=[_,_,_,_,_,_,_,_,_,_,_,_]) h7 [6,0,1,3,4,5,2,7,8,9,10,11] [] (by kernel_rfl));have H7:=Lib.hid (St_re (L:=[_,_,_,_,_,_,_,_,_,_,_,_]) h7 [3,4,5,6,2,1,0,7,8,9,10,11] [] (by kernel_rfl)).drop.drop.drop.drop;subst e46 e48;clear h7 H6;simp only [putL,List.foldl,Act.put,List.setIfInBounds_toArray,List.set_cons_succ,List.set_cons_zero];have hnn:∀gf lb w,(binOp .eql 44 (.func (.func gf) #[] lb) .nilFunc).run Tryz.prog w=.ok (.bool false) w:=λ gf lb w=> run_eql_func_nil Tryz.underlying44 w;have HTK:=Lib.hid (taken_it HN.out.1 (by rw [riL_len,HMN.out];have:=HM40.out;omega) 1 W w7 [] _ H7.out);go_wp2_with fail;(with_reducible refine HTK.out.mono ?_);rintro e w8 ⟨ut,rfl,h8⟩;obtain ⟨ta,tc,rfl⟩:=h8.res_len;rw [takeL_one,riL_len,HMN.out];have H8:=Lib.hid (St_re (L:=[_,_,_,_,_,_,_,_,_]) h8 [0,1,2,3,4,5,6,7,8] [] (by kernel_rfl)).drop.drop;clear HTK H7 h8 hnn;go_upto_region 12 with (fail)
   have hrl:=sto_len2 H8.out;have HRL:Hid (∀x∈m,x.r.length=n):=λ x hx=> hrl (x.id,x.r) (List.mem_map.2 ⟨x,hx,rfl⟩);clear hrl;refine rSn12 (w0:=W) (fp0:=[]) b8 n mn lc la next m [storeA S n I (riL m) next,blkA b7 34 #[.pointer (some ⟨S,0,none⟩)],riA (.slice la mn lc) m,blkA b6 4 #[.bool false],blkA b5 25 #[.slice ma n2 mc],blkA b3 24 #[.int .u8 u, .slice ka kn kc, .slice fa fn fc]] HN.out.2 (by rw [HMN.out];have:=HM40.out;omega) (by rw [HMN.out];have:=HM40.out;omega) HRL.out (λ x hx=> by rw [HRL.out x hx];exact HN.out.2) (by unfold riL AscI;rw [List.pairwise_map];exact HOF.out.1) (λ L w h=> list_rix HL.out HOF.out.2 h (by simp)) rfl (by kernel_rfl) rfl rfl rfl ?_ ?_
   · exact St_re (L:=[_,_,_,_,_,_,_,_,_,_,_,_,_]) (St.emp.2 (St.emp.2 (St.emp.2 (St.emp.2 (St.emp.2 (St.emp.2 H8.out)))))) [8,0,1,2,3,4,5,6,7,9,10,11,12] [] (by kernel_rfl)
   intro u14 u69 u71 u72 u76 u77 w9 ⟨b69,e69⟩ ⟨b71,e71⟩ ⟨a72,n72,c72,e72⟩ ⟨a76,n76,c76,e76⟩ e77 ⟨b14,e14⟩ h9;subst e69 e71 e77;have h10:St W [] (atA 53 u14 #[.slice la mn lc, .slice (sa u72) (sn u72) (sc u72), .slice (sa u76) (sn u76) (sc u76)]::[riA u72 (rlkR n [0] [v1V] m),riA u76 (rngR 0 m),blkA b8 37 #[.int .i64 n, .slice la mn lc, .int .i64 next],storeA S n I (riL m) next,blkA b7 34 #[.pointer (some ⟨S,0,none⟩)],riA (.slice la mn lc) m,blkA b6 4 #[.bool false],blkA b5 25 #[.slice ma n2 mc],blkA b3 24 #[.int .u8 u, .slice ka kn kc, .slice fa fn fc]]) w9:=(St_re (L:=[_,_,_,_,_,_,_,_,_,_,_,_,_]) h9 [1,2,5,6,3,4,0,7,8,9,10,11,12] [] (by kernel_rfl)).drop.drop.drop;obtain ⟨b,eb,h11⟩:=St.at_open h10;have hbb:b=b14:=by rw [e14] at eb;simpa using eb.symm
   subst hbb;subst e14 e72 e76;have H9:Hid (St W [] [blkA b 53 #[.slice la mn lc, .slice a72 n72 c72, .slice a76 n76 c76],riA (.slice a72 n72 c72) (rlkR n [0] [v1V] m),riA (.slice a76 n76 c76) (rngR 0 m),blkA b8 37 #[.int .i64 n, .slice la mn lc, .int .i64 next],storeA S n I (riL m) next,blkA b7 34 #[.pointer (some ⟨S,0,none⟩)],riA (.slice la mn lc) m,blkA b6 4 #[.bool false],blkA b5 25 #[.slice ma n2 mc],blkA b3 24 #[.int .u8 u, .slice ka kn kc, .slice fa fn fc]] w9):=h11;clear eb h9 h10 h11 H8;simp only [putL,List.foldl,Act.put,List.setIfInBounds_toArray,List.set_cons_succ,List.set_cons_zero];obtain ⟨q0,q1,q2,r0,r1,r2,ql⟩:=cells3 H9.out 3 rfl;obtain ⟨tn,htn⟩:∃tn,min 1 mn=tn:=⟨_,rfl⟩
   have hmin:(if (mn:Int) < 1 then (mn:Int) else 1)=(tn:Int):=by rw [<-htn];split <;> omega
   rw [htn];clear htn;go_upto_region 16 with (fail)
   clear hmin;clear q0 q1 q2 r0 r1 r2 ql;have hst:St W [] (blkA b7 34 #[.pointer (some ⟨S,0,none⟩)]::blkA b8 37 #[.int .i64 n, .slice la mn lc, .int .i64 next]::blkA b6 4 #[.bool false]::blkA b5 25 #[.slice ma n2 mc]::blkA b3 24 #[.int .u8 u, .slice ka kn kc, .slice fa fn fc]::([blkA b 53 #[.slice la mn lc, .slice a72 n72 c72, .slice a76 n76 c76],riA (.slice a72 n72 c72) (rlkR n [0] [v1V] m),riA (.slice a76 n76 c76) (rngR 0 m),riA (.slice la mn lc) m]++([]:List Nat).map defA)) w9:=(St_re (L:=[_,_,_,_,_,_,_,_,_,_]) H9.out [4,5,3,7,8,9,0,1,2,6] [] (by kernel_rfl)).drop;have HST:=Lib.hid hst;clear hst H9;obtain ⟨A,hA⟩:∃A,[blkA b 53 #[.slice la mn lc, .slice a72 n72 c72, .slice a76 n76 c76],riA (.slice a72 n72 c72) (rlkR n [0] [v1V] m),riA (.slice a76 n76 c76) (rngR 0 m),riA (.slice la mn lc) m]=A:=⟨_,rfl⟩
   rw [hA] at HST;have HA:=Lib.hid hA;clear hA;refine wp_loopI (SnI (.slice pa n1 pc) (.func (.func g3) #[] lb3) (.func (.func g2) #[] lb2) (.func (.func g1) #[] lb1) (.slice ma n2 mc) (.int .u8 u) (.slice ka kn kc) (.slice fa fn fc) b3 b5 b6 b7 b8 b W A) ?round 3 _ _ ?start
   case start=> exact SnI.of 0 [] rfl rfl HST.out
   case round=>
    clear HST;rintro g a wr ⟨k,Ds,uu,x7,y1,y2,y3,hgk,rfl,Hs⟩ KK hK;have HKK:=Lib.hid hK;have Hgk:=Lib.hid hgk;clear hK;by_cases hk:k < 3
    · have hki:(k:Int) < 3:=by omega
      obtain ⟨X,hX⟩:∃X,A++Ds.map defA=X:=⟨_,rfl⟩
      have HX:=Lib.hid hX;rw [hX] at Hs;have HP:=Lib.hid (HPL.out wr _ Hs.out);obtain ⟨q0,q1,q2,r0,r1,r2,ql⟩:=cells3 Hs.out 4 rfl;clear Hs hgk hX;go_upto_region 17 with (fail)
      go_cut [15,16] from 91 to 92 (λ z15 z16 wx=> z15=.int .i64 k/\wx=wr)
      case first=>
       obtain rfl | rfl | rfl:k=0\/k=1\/k=2:=by omega
       · have h3:=λ x0 x1 x2 w=> (run_idx3 x0 x1 x2 w).1
         go_wp2_with fail;go_meet;exact ⟨rfl,rfl⟩
       · have h3:=λ x0 x1 x2 w=> (run_idx3 x0 x1 x2 w).2.1
         go_wp2_with fail;go_meet;exact ⟨rfl,rfl⟩
       · have h3:=λ x0 x1 x2 w=> (run_idx3 x0 x1 x2 w).2.2
         go_wp2_with fail;go_meet;exact ⟨rfl,rfl⟩
      obtain ⟨rfl,rfl⟩:=hcut;go_wp2_with fail;(with_reducible refine HP.out.mono ?_);rintro e w10 ⟨S',I',next',lv',m',rfl,hml, -, -,hpd,h5⟩;obtain ⟨e1,e2⟩:=Prod.mk.inj (hpd.trans HPD.out.symm);rw [e1] at h5;rw [e2] at h5 ⊢;have e3:m'.length=mn:=by rw [<-riL_len,e1,riL_len,HMN.out]
      obtain ⟨la',lc',rfl⟩:∃a c,lv'=.slice a m'.length c:=by obtain ⟨_,hr⟩:=h5.has 1 rfl;exact (riA_sl hr).shape
      rw [e3] at h5 ⊢;clear HP hpd hml e1 e2 e3 q0 q1 q2 r0 r1 r2 ql;unfold rsV ptrV;have h6:St W [] (blkA b7 34 #[x7]::blkA b8 37 #[y1,y2,y3]::storeA S' n I' (riL m) next::blkA b6 4 #[.bool false]::blkA b5 25 #[.slice ma n2 mc]::blkA b3 24 #[.int .u8 u, .slice ka kn kc, .slice fa fn fc]::X) w10:=(St_re (L:=[_,_,_,_,_,_,_]) h5 [1,2,3,0,4,5,6] [] (by kernel_rfl)).drop;have H5:=Lib.hid h6;clear h6;clear h5;obtain ⟨_,hb7⟩:=H5.out.has 0 rfl;have p0:=(blk_get hb7).1 0;have p1:=(blk_get hb7).2.1 0;have pl:=(blk_get hb7).2.2;simp only [List.getElem?_toArray,List.getElem?_cons_zero] at p0;obtain ⟨q0,q1,q2,r0,r1,r2,ql⟩:=cells3 H5.out 1 rfl;have H6:=Lib.hid (setB3 ((H5.out.setB 0 (by simp) (.pointer (some ⟨S',0,none⟩))).perm (List.Perm.swap _ _ _)) (.int .i64 n) (.slice la' mn lc') (.int .i64 next));simp only [List.setIfInBounds_toArray,List.set_cons_zero] at H6;clear hb7 H5;have hne1:=HNE.out.1;have hne2:=HNE.out.2;go_upto_region 19 with (fail)
      clear hne1 hne2;generalize hW:World.setCell (World.setCell (World.setCell (World.setCell _ _ _) _ _) _ _) _ _=w11 at *;clear hW p0 p1 pl q0 q1 q2 r0 r1 r2 ql;have H7:=Lib.hid (H6.out.perm (List.Perm.swap _ _ _));clear H6;obtain ⟨_,hb7⟩:=H7.out.has 0 rfl;have p0:=(blk_get hb7).1 0;have pl:=(blk_get hb7).2.2;simp only [List.getElem?_toArray,List.getElem?_cons_zero] at p0;clear hb7;go_upto_block 2 with fail;go_cut [16] from 103 to 117 (λ z wx=> ∃gf lb,z=.func (.func gf) #[] lb/\Hid (St W [] (iterA (.func (.func gf) #[] lb) S' n I' (qI n k)::blkA b7 34 #[.pointer (some ⟨S',0,none⟩)]::blkA b8 37 #[.int .i64 n, .slice la' mn lc', .int .i64 next]::storeA S' n I' (riL m) next::blkA b6 4 #[.bool false]::blkA b5 25 #[.slice ma n2 mc]::blkA b3 24 #[.int .u8 u, .slice ka kn kc, .slice fa fn fc]::X) wx))
      case first=>
       obtain rfl | rfl | rfl:k=0\/k=1\/k=2:=by omega
       · have HIT:Hid (Calls Tryz.prog 17 #[.pointer (some ⟨S',0,none⟩), .int .i64 0, .agg #[.int .i64 0, .int .i64 0, .string ⟨#[]⟩], .agg #[.int .i64 0, .int .i64 0, .string ⟨#[]⟩]] w11 _):=Range_it S' n I' HN.out.1 0 HN.out.2 nlV nlV (by kernel_rfl) (by unfold I64 nlV;decide) W w11 [] _ H7.out
         go_wp2_with fail;(with_reducible refine HIT.out.mono ?_);rintro e w12 ⟨v,rfl,h⟩;obtain ⟨gf,lb,rfl⟩:=St.iter_form h;have HE:=Lib.hid h;clear HIT h H7;go_wp2_with fail;go_meet;exact ⟨gf,lb,rfl,HE.out⟩
       · go_upto_region 26 with (fail)
         refine rSn26 (w0:=W) (fp0:=[]) b7 S' n I' (riL m) next (blkA b8 37 #[.int .i64 n, .slice la' mn lc', .int .i64 next]::blkA b6 4 #[.bool false]::blkA b5 25 #[.slice ma n2 mc]::blkA b3 24 #[.int .u8 u, .slice ka kn kc, .slice fa fn fc]::X) HN.out.1 rfl (by kernel_rfl) rfl rfl rfl ?_ ?_
         · exact St_re (L:=[_,_,_,_,_,_,_,_,_]) (St.emp.2 (St.emp.2 (St.emp.2 H7.out))) [3,5,0,1,2,4,6,7,8] [] (by kernel_rfl)
         intro u114 u116 u117 w12 ⟨b114,e114⟩ ⟨b116,e116⟩ h;obtain ⟨gf,lb,rfl⟩:=St.iter_form (St_re (L:=[_,_,_,_,_,_,_,_,_]) h [4,0,1,2,3,5,6,7,8] [] (by kernel_rfl));have h2:St W [] (iterA (.func (.func gf) #[] lb) S' n I' (lookL n [0] [v1V])::blkA b7 34 #[.pointer (some ⟨S',0,none⟩)]::blkA b8 37 #[.int .i64 n, .slice la' mn lc', .int .i64 next]::storeA S' n I' (riL m) next::blkA b6 4 #[.bool false]::blkA b5 25 #[.slice ma n2 mc]::blkA b3 24 #[.int .u8 u, .slice ka kn kc, .slice fa fn fc]::X) w12:=(St_re (L:=[_,_,_,_,_,_,_,_,_]) h [2,3,4,0,5,1,6,7,8] [] (by kernel_rfl)).drop.drop;have HE:=Lib.hid h2;subst e114 e116;clear h h2 H7;simp only [putL,List.foldl,Act.put,List.setIfInBounds_toArray,List.set_cons_succ,List.set_cons_zero];go_wp2_with fail;go_meet;exact ⟨gf,lb,rfl,HE.out⟩
       · have HIT:Hid (Calls Tryz.prog 16 #[.pointer (some ⟨S',0,none⟩)] w11 _):=All_it S' n I' HN.out.1 W w11 [] _ H7.out
         go_wp2_with fail;(with_reducible refine HIT.out.mono ?_);rintro e w12 ⟨v,rfl,h⟩;obtain ⟨gf,lb,rfl⟩:=St.iter_form h;have HE:=Lib.hid h;clear HIT h H7;go_wp2_with fail;go_meet;exact ⟨gf,lb,rfl,HE.out⟩
      obtain ⟨gf,lb,rfl,Hc⟩:=hcut;clear H7 p0 pl;have hnn:∀w,(binOp .eql 44 (.func (.func gf) #[] lb) .nilFunc).run Tryz.prog w=.ok (.bool false) w:=λ w=> run_eql_func_nil Tryz.underlying44 w;have H8:=Lib.hid ((Hc.out.newblk 35 #[.slice none 0 0]).nilR 56 2);clear Hc;go_wp2_with fail;clear hnn;generalize hW:wc.alloc _=w13 at *;obtain ⟨b17,hb17⟩:∃b17,wc.heap.size=b17:=⟨_,rfl⟩
      rw [hb17] at H8 ⊢;clear hW hb17;have h0:St W [] (iterA (.func (.func gf) #[] lb) S' n I' (qI n k)::storeA S' n I' (riL m) next::(blkA b17 35 #[.slice none 0 0]::rowA 56 2 (.slice none 0 0) 0 []::blkA b7 34 #[.pointer (some ⟨S',0,none⟩)]::blkA b8 37 #[.int .i64 n, .slice la' mn lc', .int .i64 next]::blkA b6 4 #[.bool false]::blkA b5 25 #[.slice ma n2 mc]::blkA b3 24 #[.int .u8 u, .slice ka kn kc, .slice fa fn fc]::X)) w13:=St_re (L:=[_,_,_,_,_,_,_,_,_]) H8.out [2,5,1,0,3,4,6,7,8] [] (by kernel_rfl);obtain ⟨X0,hI,h1⟩:=St.iter.1 h0;obtain ⟨s,hok,h2⟩:=(h1.perm List.perm_middle).openS;obtain ⟨gf',lb',e0,heg,hq⟩:=hI;injection e0 with e1 _ e2;injection e1 with e1;subst e1 e2;obtain ⟨its,hits,hmem,hlen,hseq⟩:=hq s (riL m) next hok (by rw [riL_len,HMN.out];have:=HM40.out;omega)
      have HSL:=h2.slOf;have HITS:=Lib.hid hits;have HLEN:Hid (its.length<=40):=by show _<=_;rw [riL_len,HMN.out] at hlen;have:=HM40.out;omega
      have HLM:Hid (its.length<=mn):=by show _<=_;rw [riL_len,HMN.out] at hlen;exact hlen
      have HROW:Hid (∀x∈its,x.r.length < 1099511627776):=λ x hx=> by
       obtain ⟨e,he,rfl⟩:=hmem x hx;have hm:(e.id,e.r)∈riL m:=by rw [<-hok.rows];exact List.mem_map.2 ⟨_,he,rfl⟩
       have:e.r.length=n:=(hok.row _ hm).2.2.1;have:=HN.out.1;show e.r.length < _;omega
      have HTV:Hid (∀x∈its,∃e∈s.es,x=toRi e/\(toRi e).v=encV e.va):=λ x hx=> by obtain ⟨e,he,rfl⟩:=hmem x hx;exact ⟨e,he,rfl,toRi_v (HSL e he)⟩
      have HOK:=Lib.hid hok;have HSEQ:=Lib.hid (hseq 2);obtain ⟨R1,hR1⟩:∃R1,blkA b7 34 #[.pointer (some ⟨S',0,none⟩)]::blkA b8 37 #[.int .i64 n, .slice la' mn lc', .int .i64 next]::blkA b6 4 #[.bool false]::blkA b5 25 #[.slice ma n2 mc]::blkA b3 24 #[.int .u8 u, .slice ka kn kc, .slice fa fn fc]::X=R1:=⟨_,rfl⟩
      rw [hR1] at h2;have H3:Hid (St W [] ((X0++stoL S' s)++(blkA b17 35 #[.slice none 0 0]::rowA 56 2 (.slice none 0 0) 0 []::R1)) w13):=h2.perm (by classical refine List.perm_iff_count.2 λ a=> ?_;simp only [List.count_append,List.count_cons];omega);have HR1:=Lib.hid hR1;clear H8 h0 h1 h2 hok hq hits hmem hlen hseq HSL hR1;refine wp_rangeFunc_g (n:=3) rfl heg HSEQ.out (snJ b17 S' n I' s.es R1) (λ _ _=> [pureA False]) _ H3.out ?h0 ?hqr ?round ?done ?stop
      case h0=>
       intro Own W1 hW1;have h4:St W [] (stoL S' s++(X0++(blkA b17 35 #[.slice none 0 0]::rowA 56 2 (.slice none 0 0) 0 []::(R1++Own)))) W1:=hW1.perm (by classical refine List.perm_iff_count.2 λ a=> ?_;simp only [List.count_append,List.count_cons];omega);have h5:=St.keep_of HOK.out (by rw [riL_len,HMN.out];exact HM40.out) h4;have h6:=St.dropAll (A:=X0) (h5.perm List.perm_middle.symm);show St W [] (tkA b17 []::(keepA S' n I' s.es 40::(R1++Own))) W1;refine St.tk.2 ⟨.slice none 0 0,[],rfl,h6.perm ?_⟩;unfold itsL riA
       classical refine List.perm_iff_count.2 λ a=> ?_;simp only [List.map_nil,List.cons_append,List.nil_append,List.count_append,List.count_cons,riV,List.flatMap_nil,List.length_nil];omega
      case hqr=>
       intro pre Own W1 hW1 x hx;obtain ⟨e,he,rfl,ev⟩:=HTV.out x hx;rw [ev];exact keep_rd HOK.out (St.perm hW1 (List.Perm.swap _ _ _)) e he
      case stop=>
       intro Dn c pre x rest W1 hxs hW1;exact absurd (St.pure.1 (hW1.perm (List.Perm.swap _ _ _))).1 (by simp)
      case round=>
       intro l0 pre x rest args Own W1 hxs hsz hs;obtain ⟨xa,xc,rfl,hs'⟩:=itG_out (show St W [] (itG x args::(snJ b17 S' n I' s.es R1 pre++Own)) W1 from hs);have HRL2:=Lib.hid (HROW.out x (by rw [hxs];simp));have Hpl:Hid (pre.length+1<=mn):=by have h1:=congrArg List.length hxs;rw [List.length_append,List.length_cons] at h1;have:=HLM.out;show _<=_;omega
       have HS1:=Lib.hid (itG_in hs');clear hs hs' hsz hxs H3
       gi_wp2
       refine ⟨HS1.out,λ Own2 W2 hs2=> ?_⟩;clear HS1;obtain ⟨ya,yc,hargs,h1⟩:=itG_out (show St W [] (itG x #[.int .i64 x.id, .slice xa x.r.length xc]::(snJ b17 S' n I' s.es R1 pre++Own2)) W2 from hs2);have e1:Value.slice xa x.r.length xc=.slice ya x.r.length yc:=by simpa using hargs
       obtain ⟨rfl, -,rfl⟩:=Value.slice.inj e1;obtain ⟨v0,out,ho,h3⟩:=St.tk.1 (h1.perm (List.Perm.swap _ _ _));have hol:out.length=pre.length:=by rw [<-riL_len,ho,riL_len]
       have HO3:=Lib.hid ho;have h4:St W [] ([blkA b17 35 #[v0],rowA 29 3 (.slice xa x.r.length xc) x.r.length (flat x.r),emp,emp,rowA 56 2 v0 out.length (riV out)]++(out.map rowP++(keepA S' n I' s.es (40+6 * pre.length)::(R1++Own2)))) W2:=by
        have h5:=St.emp.2 (St.emp.2 h3);refine h5.perm ?_;unfold itsL riA
        classical refine List.perm_iff_count.2 λ a=> ?_;simp only [List.cons_append,List.nil_append,List.append_eq,List.count_append,List.count_cons];omega
       have H4:=Lib.hid h4;have Hol:=Lib.hid hol;clear hs2 hargs e1 h1 h3 h4 ho hol;refine wpIn_block (wpIn_seq ?_);refine rSn33 (w0:=W) (fp0:=[]) b17 v0 x.id xa x.r.length xc out.length (flat x.r) (riV out) _ (by rw [length_flat]) (one_flat _) HRL2.out (by have:=Hol.out;have:=Hpl.out;have:=HM40.out;omega) rfl (by kernel_rfl) rfl rfl rfl rfl rfl H4.out ?_ ?_
       · intro a w h;exact h
       intro u125 u127 u128 u129 u130 W3 ⟨da,dn,dc,d1⟩ hu128 ⟨db,hu129⟩ ⟨ea,en,ec,e1⟩ h5;subst d1 e1 hu128 hu129;obtain ⟨_,hr1⟩:=h5.has 2 rfl;obtain ⟨_,_,e2, -⟩:=row_shape hr1;obtain ⟨-,rfl, -⟩:=Value.slice.inj e2;obtain ⟨_,hr2⟩:=h5.has 4 rfl;obtain ⟨_,_,e3, -⟩:=row_shape hr2;obtain ⟨-,rfl, -⟩:=Value.slice.inj e3;have ho2:riL (out++[⟨x.id,da,x.r.length,dc,x.r⟩])=riL (pre++[x]):=by rw [riL_append,riL_append,HO3.out];rfl
       have h6:St W [] (tkA b17 (pre++[x])::(keepA S' n I' s.es (40+6 * pre.length)::(R1++Own2))) W3:=by
        refine St.tk.2 ⟨.slice ea (out.length+1) ec,out++[⟨x.id,da,x.r.length,dc,x.r⟩],ho2,?_⟩;refine St.dropAll (A:=[rowA 29 3 (.slice xa x.r.length xc) x.r.length (flat x.r),boxsA 56 (.slice (some ⟨db,0,none⟩) 1 1) #[.int .i64 x.id, .slice da x.r.length dc]]) (h5.perm ?_);unfold itsL riA;rw [riV_append,riV_one,List.length_append]
        classical refine List.perm_iff_count.2 λ a=> ?_;simp only [List.map_append,List.map_cons,List.map_nil,rowP,Ri.v,List.length_singleton,List.cons_append,List.nil_append,List.count_append,List.count_cons,List.count_nil,sa,sn,sc];omega
       obtain ⟨_,hb5⟩:=h5.has 0 rfl;have d0:=(blk_get hb5).1 0;have dl:=(blk_get hb5).2.2;simp only [List.getElem?_toArray,List.getElem?_cons_zero] at d0;have h7:St W [] (keepA S' n I' s.es (40+6 * pre.length)::tkA b17 (pre++[x])::blkA b7 34 #[.pointer (some ⟨S',0,none⟩)]::blkA b8 37 #[.int .i64 n, .slice la' mn lc', .int .i64 next]::blkA b6 4 #[.bool false]::blkA b5 25 #[.slice ma n2 mc]::blkA b3 24 #[.int .u8 u, .slice ka kn kc, .slice fa fn fc]::(X++Own2)) W3:=by rw [<-HR1.out] at h6;exact h6.perm (List.Perm.swap _ _ _)
       obtain ⟨f0,f1,f2,g0,g1',g2',fl⟩:=cells3 h7 3 rfl;obtain ⟨_,hb6⟩:=h7.has 5 rfl;have p0:=(blk_get hb6).1 0;have pl:=(blk_get hb6).2.2;simp only [List.getElem?_toArray,List.getElem?_cons_zero] at p0;have H7:=Lib.hid h7;have hl:(pre++[x]).length=pre.length+1:=by simp
       have Hl:=Lib.hid hl;obtain ⟨nx,hnx⟩:∃nx,pre++[x]=nx:=⟨_,rfl⟩
       rw [hnx] at H7 Hl ⊢;obtain ⟨TT,hTT⟩:∃TT,X++Own2=TT:=⟨_,rfl⟩
       rw [hTT] at H7;have HTT:=Lib.hid hTT;obtain ⟨om,hom⟩:∃om,out.length+1=om:=⟨_,rfl⟩
       rw [hom] at d0 ⊢;have hgt:¬ (mn:Int) < (om:Int):=by have:=Hpl.out;have:=Hol.out;omega
       obtain ⟨N0,hN0⟩:∃N0,40+6 * pre.length=N0:=⟨_,rfl⟩
       rw [hN0] at H7;have HN0:Hid (N0+6=40+6 * nx.length/\N0<=1000):=by show _/\_;have:=Hl.out;have:=Hpl.out;have:=HM40.out;omega
       clear H4 h5 h6 h7 hr1 hr2 e2 e3 hb5 hb6 ho2 hl hnx HO3 hTT hom hN0 Hol Hpl Hl;simp only [putL,List.foldl,Act.put,List.setIfInBounds_toArray,List.set_cons_succ,List.set_cons_zero]
       gi_upto_region 36 with (fail)
       clear hgt d0 dl f0 f1 f2 g0 g1' g2' fl
       gi_wp2_with fail
       clear p0 pl
       gi_loopw [139] (λ z wr=> ∃j:Nat,z=.int .i64 j/\j<=n2/\Hid (St W [] (keepA S' n I' s.es (N0+j)::tkA b17 nx::blkA b7 34 #[.pointer (some ⟨S',0,none⟩)]::blkA b8 37 #[.int .i64 n, .slice la' mn lc', .int .i64 next]::blkA b6 4 #[.bool false]::blkA b5 25 #[.slice ma n2 mc]::blkA b3 24 #[.int .u8 u, .slice ka kn kc, .slice fa fn fc]::TT) wr)) (λ z _=> n2 - (intOf z).toNat)
       case atStart=> exact ⟨0,rfl,Nat.zero_le _,H7⟩
       case round=>
        clear H7;obtain ⟨j,rfl,hj0,Hj⟩:=hrel
        rename_i wr
        by_cases hjn:j < n2
        · have hji:(j:Int) < n2:=by omega
          have hlw:=HL2.out.mono (st_below Hj.out);have hjl:j < l2.length:=by rw [HN2.out];exact hjn
          rw [<-HN2.out] at hlw;obtain ⟨b',o,c',e1,p0,p1,p2⟩:=op_cells hlw.sl j hjl;obtain ⟨rfl, -,rfl⟩:=Value.slice.inj e1;have hpl:=World.block_lt_of_cell? wr _ p0;have hop:=HOP2.out _ (List.getElem_mem hjl);have HROW2:Hid (∀L w,St W [] L w->ValsAt w l2[j].r l2[j].v):=λ L w h=> (HL2.out.mono (st_below h)).row _ (List.getElem_mem hjl);generalize l2[j]=y at *;clear hjl hlw e1;obtain ⟨kd,id,ya,yn,yc,yr⟩:=y;unfold Opr.v at p2 HROW2;simp only at p0 p1 p2 HROW2 hop;have HOPJ:=Lib.hid hop;have Hjn:=Lib.hid (And.intro hjn hj0);have hj6:j<=6:=by have:=HSZ.out.2.2.2;have:=HN2.out;omega
          have HS2:=Lib.hid (Hj.out.newblk 58 #[.int .u8 kd, .int .i64 id, .slice ya yn yc]);clear hop hjn hj0 Hj;have hyn:yn=yr.length:=by obtain ⟨_,_,_,e2,hn2, -⟩:=(HROW2.out _ _ HS2.out).shape;obtain ⟨-,rfl, -⟩:=Value.slice.inj e2;exact hn2
          subst hyn
          gi_upto_region 39 with (fail)
          clear p0 p1 p2 hpl;generalize hW:wr.alloc _=w15 at *;obtain ⟨ob,hob⟩:∃ob,wr.heap.size=ob:=⟨_,rfl⟩
          rw [hob] at HS2 ⊢;clear hW hob;have h8:St W [] ([blkA b7 34 #[.pointer (some ⟨S',0,none⟩)],blkA ob 58 #[.int .u8 kd, .int .i64 id, .slice ya yr.length yc],emp,keepA S' n I' s.es (N0+j)]++(tkA b17 nx::blkA b8 37 #[.int .i64 n, .slice la' mn lc', .int .i64 next]::blkA b6 4 #[.bool false]::blkA b5 25 #[.slice (some ⟨b',o,none⟩) n2 mc]::blkA b3 24 #[.int .u8 u, .slice ka kn kc, .slice fa fn fc]::TT)) w15:=St_re (L:=[_,_,_,_,_,_,_,_,_]) (St.emp.2 HS2.out) [4,1,0,2,3,5,6,7,8] [] (by kernel_rfl);obtain ⟨RR,hRR⟩:∃RR,(tkA b17 nx::blkA b8 37 #[.int .i64 n, .slice la' mn lc', .int .i64 next]::blkA b6 4 #[.bool false]::blkA b5 25 #[.slice (some ⟨b',o,none⟩) n2 mc]::blkA b3 24 #[.int .u8 u, .slice ka kn kc, .slice fa fn fc]::TT)=RR:=⟨_,rfl⟩
          rw [hRR] at h8;obtain ⟨q0,q1,q2,r0,r1,r2,ql⟩:=cells3 h8 1 rfl;obtain ⟨_,hb7⟩:=h8.has 0 rfl;have p0:=(blk_get hb7).1 0;have pl:=(blk_get hb7).2.2;simp only [List.getElem?_toArray,List.getElem?_cons_zero] at p0;have H8:=Lib.hid h8;have HEND:Hid (∀v w,St W [] ([blkA b7 34 #[.pointer (some ⟨S',0,none⟩)],blkA ob 58 #[.int .u8 kd, .int .i64 id, .slice ya yr.length yc],v,keepA S' n I' s.es (N0+j+1)]++RR) w->St W [] (keepA S' n I' s.es (N0+(j+1))::tkA b17 nx::blkA b7 34 #[.pointer (some ⟨S',0,none⟩)]::blkA b8 37 #[.int .i64 n, .slice la' mn lc', .int .i64 next]::blkA b6 4 #[.bool false]::blkA b5 25 #[.slice (some ⟨b',o,none⟩) n2 mc]::blkA b3 24 #[.int .u8 u, .slice ka kn kc, .slice fa fn fc]::TT) w):=λ v w h=> by rw [<-hRR] at h;exact (St_re (L:=[_,_,_,_,_,_,_,_,_]) h [1,2,3,4,0,5,6,7,8] [] (by kernel_rfl)).drop.drop
          have HNJ:Hid (N0+j < 1099511627775):=by show _ < _;have:=HN0.out.2;have:=Hjn.out.1;have:=HSZ.out.2.2.2;have:=HN2.out;omega
          clear hb7 h8 hRR HS2;by_cases e4:kd % 2=0
          · have e5:(kd:Int) % 2=0:=by omega
            clear e4
            gi_upto_region 40 with (fail)
            clear e5 q0 q1 q2 r0 r1 r2 ql p0 pl;refine rSn40 (w0:=W) (fp0:=[]) b7 ob S' n yr.length yc (N0+j) kd id ya I' s.es (flat yr) RR (λ L w h=> (HROW2.out _ w h).1.src (P:=Tryz.prog) (tx:=27) (e':=29) (by kernel_rfl) (by decide) (one_flat _)) (by have:=HOPJ.out.2.2.1;omega) (λ v w h=> ?_) rfl (by kernel_rfl) rfl rfl rfl rfl H8.out ?_ ?_
            · refine (keep_put HN.out.1 HNJ.out id yr v HOPJ.out.2.1 HOPJ.out.2.2.2 W w [] ([blkA b7 34 #[.pointer (some ⟨S',0,none⟩)],blkA ob 58 #[.int .u8 kd, .int .i64 id, .slice ya yr.length yc],rowA 29 3 v yr.length (flat yr)]++RR) (Rd.of_piece 2 rfl λ w f h=> ⟨SlX.of_row (X:=[]) h (length_flat yr) (by simp),(HROW2.out _ _ H8.out).2⟩) (St_re (L:=[_,_,_,_]) h [3,0,1,2] [] (by kernel_rfl))).mono ?_
              rintro e w' ⟨e1,h2⟩;exact ⟨e1,St_re (L:=[_,_,_,_]) h2 [1,2,3,0] [] (by kernel_rfl)⟩
            · intro a w h;exact h
            intro u150 u153 u154 w16 _ h2;have HE:=Lib.hid (HEND.out _ _ h2);clear h2 H8 HEND;simp only [putL,List.foldl,Act.put,List.setIfInBounds_toArray,List.set_cons_succ,List.set_cons_zero]
            gi_wp2
            go_roundw
            case rel=> exact ⟨j+1,by go_num,by have:=Hjn.out.1;omega,HE.out⟩
            case measure=> simp [intOf];have:=Hjn.out.1;omega
          · have e5:(kd:Int) % 2=1:=by omega
            clear e4;have HDL:=Lib.hid (keep_del HN.out.1 HNJ.out id HOPJ.out.2.1 W w15 [] _ (St_re (L:=[_,_,_,_]) H8.out [3,0,1,2] [] (by kernel_rfl)));unfold ptrV at HDL
            gi_wp2_with fail
            clear e5 q0 q1 q2 r0 r1 r2 ql p0 pl;refine ⟨trivial,(CallsIn.inRound l0 (callsIn_wide.2 HDL.out)).mono ?_⟩;rintro e w16 ⟨⟨uu9,rfl⟩,h2⟩;have HE:=Lib.hid (HEND.out _ _ (St_re (L:=[_,_,_,_]) h2 [1,2,3,0] [] (by kernel_rfl)));clear h2 H8 HEND HDL
            gi_wp2
            go_roundw
            case rel=> exact ⟨j+1,by go_num,by have:=Hjn.out.1;omega,HE.out⟩
            case measure=> simp [intOf];have:=Hjn.out.1;omega
        · have hji:¬ (j:Int) < n2:=by omega
          have hj:j=n2:=by omega
          have HZ:Hid (St W [] (tkA b17 nx::keepA S' n I' s.es (40+6 * nx.length)::(R1++Own2)) wr):=by rw [<-HR1.out];rw [<-HTT.out] at Hj;exact (Hj.out.keep_mono (by have:=HN0.out.1;have:=HSZ.out.2.2.2;have:=HN2.out;omega)).perm (List.Perm.swap _ _ _)
          clear Hj hj0 hj
          gi_wp2
          exact HZ.out
      case done=>
       intro Dn W1 hW1;have h4:St W [] (tkA b17 its::(R1++[defA Dn])) W1:=by
        have h5:St W [] (keepA S' n I' s.es (40+6 * its.length)::(tkA b17 its::(R1++[defA Dn]))) W1:=hW1.perm (by
         unfold snJ
         classical refine List.perm_iff_count.2 λ a=> ?_;simp only [List.count_append,List.count_cons,List.count_nil];omega)
        exact h5.drop
       obtain ⟨v0,out,ho,h5⟩:=St.tk.1 h4;rw [<-HR1.out,<-HX.out,<-HA.out] at h5;have hw:∃zv m2,(#[.slice la mn lc, .slice a72 n72 c72, .slice a76 n76 c76]:Array Value)[2 - k]? =some zv/\riL m2=qI n k (riL m)/\(∀x∈m2,Of l x)/\riA zv m2∈[riA (.slice a72 n72 c72) (rlkR n [0] [v1V] m),riA (.slice a76 n76 c76) (rngR 0 m),riA (.slice la mn lc) m]:=by
        obtain rfl | rfl | rfl:k=0\/k=1\/k=2:=by omega
        · exact ⟨_,rngR 0 m,rfl,riL_rngR 0 m,λ x hx=> HOF.out.2 x (rngR_mem x hx),by simp⟩
        · exact ⟨_,rlkR n [0] [v1V] m,rfl,rlk_eq n [0] [v1V] m,λ x hx=> HOF.out.2 x (rlkR_mem2 hx),by simp⟩
        · exact ⟨_,m,rfl,rfl,HOF.out.2,by simp⟩
       obtain ⟨zv,m2,hz,hm2,hof2,hin⟩:=hw;have htx:∀x∈out,∀y∈x.r,y.text.size<=maxLen:=λ x hx y hy=> by
        have h6:(x.id,x.r)∈riL out:=List.mem_map.2 ⟨x,hx,rfl⟩;rw [ho] at h6;obtain ⟨z,hzm,hze⟩:=List.mem_map.1 h6;obtain ⟨e,he,rfl, -⟩:=HTV.out z hzm;have hm:(e.id,e.r)∈riL m:=by rw [<-HOK.out.rows];exact List.mem_map.2 ⟨_,he,rfl⟩
        have e1:e.r=x.r:=(Prod.mk.inj hze).2;have:=((HOK.out.row _ hm).2.2.s y (by show y∈e.r;rw [e1];exact hy)).2;unfold maxLen;omega
       obtain ⟨REST,hRE⟩:∃REST,itsL v0 out++(blkA b7 34 #[.pointer (some ⟨S',0,none⟩)]::blkA b8 37 #[.int .i64 n, .slice la' mn lc', .int .i64 next]::blkA b6 4 #[.bool false]::blkA b5 25 #[.slice ma n2 mc]::blkA b3 24 #[.int .u8 u, .slice ka kn kc, .slice fa fn fc]::([riA (.slice a72 n72 c72) (rlkR n [0] [v1V] m),riA (.slice a76 n76 c76) (rngR 0 m),riA (.slice la mn lc) m]++(Ds.map defA++[defA Dn])))=REST:=⟨_,rfl⟩
       have h7:St W [] ([blkA b17 35 #[v0],blkA b 53 #[.slice la mn lc, .slice a72 n72 c72, .slice a76 n76 c76]]++REST) W1:=by
        rw [<-hRE];refine h5.perm ?_
        classical refine List.perm_iff_count.2 λ a=> ?_;simp only [List.cons_append,List.nil_append,List.count_append,List.count_cons,List.count_nil];omega
       have H7:=Lib.hid h7;have HSAME:Hid (∀w,St W [] ([blkA b17 35 #[v0],blkA b 53 #[.slice la mn lc, .slice a72 n72 c72, .slice a76 n76 c76]]++REST) w->Calls Tryz.prog 13 #[v0,zv] w λ e w'=> e=.returned (.bool true)/\Below w.heap.size w w'):=λ w hw=> by rw [<-hRE] at hw;have i1:RiX w out v0:=its_rix (hw.perm (List.perm_append_comm_assoc _ _ _)) htx;have i2:RiX w m2 zv:=list_rix HL.out hof2 hw (List.mem_append_right _ (List.mem_append_right _ (List.mem_append_right [_,_,_,_,_] (List.mem_append_left _ hin))));have h8:=RSameI_calls out m2 v0 zv w i1 i2;rw [show decide (riL out=riL m2)=true by rw [ho,HITS.out,hm2];simp] at h8;exact h8
       have HRE:=Lib.hid hRE;have HZ:=Lib.hid hz;clear hW1 h4 h5 h7 hm2 hof2 hin htx hRE ho hz;dsimp only;go_upto_region 43 with (fail)
       refine rSn43 (w0:=W) (fp0:=[]) b17 b k v0 _ _ _ zv REST (by omega) HZ.out HSAME.out rfl (by kernel_rfl) rfl rfl rfl rfl rfl H7.out ?_;intro w14 h14;have H8:Hid (St W [] (blkA b7 34 #[.pointer (some ⟨S',0,none⟩)]::blkA b8 37 #[.int .i64 n, .slice la' mn lc', .int .i64 next]::blkA b6 4 #[.bool false]::blkA b5 25 #[.slice ma n2 mc]::blkA b3 24 #[.int .u8 u, .slice ka kn kc, .slice fa fn fc]::(A++(Dn::Ds).map defA)) w14):=by
        rw [<-HRE.out] at h14;rw [<-HA.out];refine St.dropAll (A:=blkA b17 35 #[v0]::itsL v0 out) (h14.perm ?_)
        classical refine List.perm_iff_count.2 λ a=> ?_;simp only [List.map_cons,List.cons_append,List.nil_append,List.count_append,List.count_cons,List.count_nil];omega
       clear h14 H7 HSAME HZ;simp only [putL,List.foldl,Act.put,List.setIfInBounds_toArray,List.set_cons_succ,List.set_cons_zero];go_wp2_with fail;exact HKK.out (g - 1) _ _ (by have:=Hgk.out;omega) (SnI.of (k+1) (Dn::Ds) (by have:=Hgk.out;omega) rfl H8.out)
    · obtain rfl:k=3:=by omega
      have h6:St W [] (blkA b6 4 #[.bool false]::(Ds.map defA++(blkA b7 34 #[x7]::blkA b8 37 #[y1,y2,y3]::blkA b5 25 #[.slice ma n2 mc]::blkA b3 24 #[.int .u8 u, .slice ka kn kc, .slice fa fn fc]::A))) wr:=Hs.out.perm (by classical refine List.perm_iff_count.2 λ a=> ?_;simp only [List.count_append,List.count_cons];omega);have HT:=Lib.hid ((h6.setB 0 (by simp) (.bool true)).perm List.perm_middle.symm);obtain ⟨_,hb⟩:=h6.has 0 rfl;have c0:=(blk_get hb).1 0;have f0:=(blk_get hb).2.1 0;have cl:=(blk_get hb).2.2;simp only [List.getElem?_toArray,List.getElem?_cons_zero] at c0;simp only [List.setIfInBounds_toArray,List.set_cons_zero] at HT;clear hb h6 Hs hgk hk;go_wp2;refine bodyPostM_marks HT.out rfl λ w' hw'=> ?_;have c6:=(blk_get (hw'.has 0 rfl).choose_spec).1 0;simp only [List.getElem?_toArray,List.getElem?_cons_zero] at c6;exact ⟨.bool true,by simp [results,Tryz.results7,go_sem,c6],rfl,st_below hw'⟩
end
end
end Go.Proofs.YtnefkkidfhmggaaGreat
