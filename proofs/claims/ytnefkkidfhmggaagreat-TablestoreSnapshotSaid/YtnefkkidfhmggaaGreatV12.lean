/- Part 12 of the proof: Gk, Gl, Gm, Gn, Gp, Rk, Gr, Gs, Gu, Gv, Gw, Gx -/
import Derived.Test.YtnefkkidfhmggaaGreatV11
import Derived.Test.YtnefkkidfhmggaaGreatV10
import Derived.Test.YtnefkkidfhmggaaGreatV08
import Derived.Deep.QuietTactic
import Derived.BigQuiet
import Derived.Test.YtnefkkidfhmggaaGreatV01
import Derived.BigFrameIn
set_option maxHeartbeats 16000000
set_option maxRecDepth 100000
namespace Go.Proofs.YtnefkkidfhmggaaGreat
open Go Go.RowKit
noncomputable section
theorem range21_calls (c:Nat) (x y:Ri) (b5:Nat) (w:World) (hx:ValsAt w x.r x.v) (hy:ValsAt w y.r y.v) (e5:w.cell? ⟨b5,0,none⟩=some (.int .i64 c)) (hcx:c < x.r.length) (hcy:c < y.r.length):
 Calls Tryz.prog 61 #[.agg #[.int .i64 x.id, .slice x.a x.n x.c], .agg #[.int .i64 y.id, .slice y.a y.n y.c], .pointer (some ⟨b5,0,none⟩)] w λ e w'=> e=.returned (.int .i64 (cmpV (x.r[c]'hcx) (y.r[c]'hcy)))/\Below w.heap.size w w':=by
 obtain ⟨xi,xa,xn,xc,xr⟩:=x;obtain ⟨yi,ya,yn,yc,yr⟩:=y;unfold Ri.v at hx hy;simp only at hx hy hcx hcy ⊢;obtain ⟨a1,n1,c1,e1,hn1,hm1⟩:=hx.shape;obtain ⟨rfl,rfl,rfl⟩:=Value.slice.inj e1;obtain ⟨a2,n2,c2,e2,hn2,hm2⟩:=hy.shape;obtain ⟨rfl,rfl,rfl⟩:=Value.slice.inj e2;unfold maxLen at hm1 hm2;obtain ⟨b,o,rfl⟩:=hx.has c (by omega);obtain ⟨d,p,rfl⟩:=hy.has c (by omega);obtain ⟨p0,p1,p2⟩:=hx.cell c hcx;obtain ⟨q0,q1,q2⟩:=hy.cell c hcy;have hcn:(c:Int) < xn:=by omega
 have hcn2:(c:Int) < yn:=by omega
 have HC:=Lib.hid (λ w'=> cmpV_calls (xr[c]'hcx) (yr[c]'hcy) w');generalize xr[c]'hcx=x at *;generalize yr[c]'hcy=y at *;generalize cmpV x y=z at *;obtain ⟨xk,xj,xt⟩:=x;obtain ⟨yk,yj,yt⟩:=y;simp only at p0 p1 p2 q0 q1 q2 HC;clear hx hy hn1 hn2 e1 e2 hcx hcy;have HB:=Lib.hid (((Below.refl _ w).alloc (Nat.le_refl _) (.cells #[.int .i64 xi, .slice (some ⟨b,o,none⟩) xn xc] 114)).alloc (by rw [World.size_alloc];exact Nat.le_succ _) (.cells #[.int .i64 yi, .slice (some ⟨d,p,none⟩) yn yc] 114));have hS:=((St.start (w:=w) (L:=[]) (fp:=[]) rfl).newblk 114 #[.int .i64 xi, .slice (some ⟨b,o,none⟩) xn xc]).newblk 114 #[.int .i64 yi, .slice (some ⟨d,p,none⟩) yn yc];simp only [World.size_alloc] at hS;go_enter Tryz.func61,Tryz.ntmps61;go_upto_region 1 with (fail)
 generalize hW:(w.alloc _).alloc _=W at *;have hpl:=World.block_lt_of_cell? w _ p0;have hql:=World.block_lt_of_cell? w _ q0;have hel:=World.block_lt_of_cell? w _ e5;replace p0:=(HB.out.cell (p:=⟨b,o+c * 3,none⟩) hpl).trans p0;replace p1:=(HB.out.cell (p:=⟨b,o+c * 3+1,none⟩) hpl).trans p1;replace p2:=(HB.out.cell (p:=⟨b,o+c * 3+2,none⟩) hpl).trans p2;replace q0:=(HB.out.cell (p:=⟨d,p+c * 3,none⟩) hql).trans q0;replace q1:=(HB.out.cell (p:=⟨d,p+c * 3+1,none⟩) hql).trans q1;replace q2:=(HB.out.cell (p:=⟨d,p+c * 3+2,none⟩) hql).trans q2;replace e5:=(HB.out.cell (p:=⟨b5,_,none⟩) hel).trans e5;obtain ⟨_,hb1⟩:=hS.has 0 rfl;obtain ⟨_,hb0⟩:=hS.has 1 rfl;obtain ⟨k0, -,kl⟩:=blk_get hb0;obtain ⟨m0, -,ml⟩:=blk_get hb1;have k1:=k0 1;have m1:=m0 1;simp only [List.getElem?_toArray,List.getElem?_cons_zero,List.getElem?_cons_succ] at k1 m1;clear hS hW hpl hql hel hb0 hb1 k0 m0;obtain ⟨B,hB⟩:∃B,w.heap.size=B:=⟨_,rfl⟩
 rw [hB] at k1 kl m1 ml ⊢;obtain ⟨B1,hB1⟩:∃B1,B+1=B1:=⟨_,rfl⟩
 rw [hB1] at m1 ml ⊢;clear hB1 hB;have hpl:=World.block_lt_of_cell? W _ p0;have hql:=World.block_lt_of_cell? W _ q0;have hel:=World.block_lt_of_cell? W _ e5;go_region_held3 (λ w'=> Below W.heap.size W w'/\∀b o,b < W.heap.size->w'.cell? ⟨b,o,none⟩=W.cell? ⟨b,o,none⟩)
  (first | assumption | exact S_of (Below.drew (Below.refl _ _)) | exact S_step (by assumption) (by assumption))
  (first | ((with_reducible refine (HC.out _).mono ?_);rintro e w1 ⟨rfl,hb1⟩))
 all_goals
  rename_i hH
  have Hb:=Lib.hid (HB.out.trans (hH.1.mono HB.out.size));clear hH;go_wp2;go_ret;exact ⟨rfl,Hb.out⟩
def cmpC (c:Nat) (r s:Rw):Int:=cmpV (colV r c) (colV s c)
theorem cmpC_ord (c:Nat):Ord3 (cc (cmpC c)):=by
 refine ⟨λ x y=> ?_,λ x y z h1 h2=> ?_⟩
 · have:=cmpV_swap (colV x.r c) (colV y.r c)
   unfold cc cmpC;omega
 · unfold cc cmpC at *
   by_cases e1:cmpV (colV x.r c) (colV y.r c)=0
   · rw [cmpV_zero.1 e1];exact h2
   · by_cases e2:cmpV (colV y.r c) (colV z.r c)=0
     · rw [<-cmpV_zero.1 e2];exact h1
     · have:=cmpV_trans (a:=colV x.r c) (b:=colV y.r c) (c:=colV z.r c) (by omega) (by omega)
       omega
theorem stable_uniq {α:Type} {c:α->α->Int} (hc:Ord3 c):∀{l m:List α},AscC c l->AscC c m->StEq c l m->l=m
 | [],m,_,_,h=> by have:=(h.perm hc).length_eq;exact (List.length_eq_zero_iff.1 this.symm).symm
 | x::l,[],_,_,h=> by have:=(h.perm hc).length_eq;simp at this
 | x::l,y::m,h1,h2,h=> by
  obtain ⟨a1,a2⟩:=List.pairwise_cons.1 h1;obtain ⟨b1,b2⟩:=List.pairwise_cons.1 h2;have hxy:c x y<=0:=by
   rcases List.mem_cons.1 (h.mem hc (List.mem_cons_self ..):y∈x::l) with e | e
   · rw [e,hc.self];exact Int.le_refl _
   · exact a1 y e
  have hyx:c y x<=0:=by
   rcases List.mem_cons.1 (h.symm.mem hc (List.mem_cons_self ..):x∈y::m) with e | e
   · rw [e,hc.self];exact Int.le_refl _
   · exact b1 x e
  have e0:c y x=0:=by have:=hc.anti x y;have:=hc.anti y x;omega
  have e1:=h x;rw [List.filter_cons_of_pos (by simp [hc.self]),List.filter_cons_of_pos (by simp [e0])] at e1;obtain ⟨rfl, -⟩:=List.cons.inj e1;congr 1;refine stable_uniq hc a2 b2 λ z=> ?_;have e2:=h z;by_cases hz:(c x z==0)=true
  · rw [List.filter_cons,List.filter_cons,if_pos hz,if_pos hz] at e2
    exact (List.cons.inj e2).2
  · rwa [List.filter_cons,List.filter_cons,if_neg hz,if_neg hz] at e2
def sortR (c:Nat) (its:List Ri):List Ri:=its.mergeSort λ x y=> decide (cc (cmpC c) x y<=0)
theorem sortR_ok (c:Nat) (its:List Ri):AscC (cc (cmpC c)) (sortR c its)/\StEq (cc (cmpC c)) its (sortR c its):=by
 have ho:=cmpC_ord c;have ht:∀x y z:Ri,decide (cc (cmpC c) x y<=0)=true->decide (cc (cmpC c) y z<=0)=true->decide (cc (cmpC c) x z<=0)=true:=λ x y z h1 h2=> by simp only [decide_eq_true_eq] at *;exact ho.trans x y z h1 h2
 have hq:∀x y:Ri,(decide (cc (cmpC c) x y<=0) || decide (cc (cmpC c) y x<=0))=true:=λ x y=> by have:=ho.anti x y;have:=ho.anti y x;simp only [Bool.or_eq_true,decide_eq_true_eq];omega
 refine ⟨(List.pairwise_mergeSort ht hq its).imp λ h=> of_decide_eq_true h,λ z=> ?_⟩;have h1:(its.filter λ x=> cc (cmpC c) x z==0).Pairwise λ a b=> decide (cc (cmpC c) a b<=0)=true:=by refine List.pairwise_iff_forall_sublist.2 λ {a b} hs=> ?_;have ha:=(List.mem_filter.1 (hs.subset (List.mem_cons_self ..))).2;have hb:=(List.mem_filter.1 (hs.subset (List.mem_cons_of_mem _ (List.mem_cons_self ..)))).2;simp only [beq_iff_eq] at ha hb;have:=ho.eq_cases hb ha;simp only [decide_eq_true_eq];omega
 have h2:=(List.sublist_mergeSort ht hq h1 List.filter_sublist).filter λ x=> cc (cmpC c) x z==0;rw [List.filter_filter] at h2;simp only [Bool.and_self] at h2;refine h2.eq_of_length ?_;rw [<-List.countP_eq_length_filter,<-List.countP_eq_length_filter];exact ((List.mergeSort_perm its _).countP_eq _).symm
theorem sortR_eq {c:Nat} {its Z:List Ri} (h1:AscC (cc (cmpC c)) Z) (h2:StEq (cc (cmpC c)) its Z):Z=sortR c its:=
 stable_uniq (cmpC_ord c) h1 (sortR_ok c its).1 (h2.symm.trans (sortR_ok c its).2)
theorem insertion_nil (F:Value) (w:World):Calls Tryz.prog 112 #[.slice none 0 0, .int .i64 0, .int .i64 0,F] w λ e w'=> e=.returned (.tuple #[])/\w=w':=by
 go_enter Tryz.func112,Tryz.ntmps112;go_wp2;go_loopw [8] (λ z8 wr=> z8=.int .i64 1/\w=wr) (λ _ _=> 0)
 case atStart=> exact ⟨by go_num,rfl⟩
 case round=>
  obtain ⟨rfl,rfl⟩:=hrel;go_wp2;go_end0;exact ⟨rfl,rfl⟩
theorem stable_nil (F:Value) (w:World):Calls Tryz.prog 92 #[.slice none 0 0, .int .i64 0,F] w λ e w'=> e=.returned (.tuple #[])/\w=w':=by
 have HI:=Lib.hid (insertion_nil F w);go_enter Tryz.func92,Tryz.ntmps92;go_wp2;go_loopw [7,8] (λ z7 z8 wr=> z7=.int .i64 0/\z8=.int .i64 20/\w=wr) (λ _ _ _=> 0)
 case atStart=> exact ⟨rfl,rfl,rfl⟩
 case round=>
  obtain ⟨rfl,rfl,rfl⟩:=hrel;go_wp2_with fail;(with_reducible refine HI.out.mono ?_);rintro e w1 ⟨rfl,rfl⟩;clear HI;go_wp2;go_loopw [6] (λ z6 wr=> z6=.int .i64 20/\w=wr) (λ _ _=> 0)
  case atStart=> exact ⟨rfl,rfl⟩
  case round=>
   obtain ⟨rfl,rfl⟩:=hrel;go_wp2;go_end0;exact ⟨rfl,rfl⟩
theorem sort_nil (F:Value) (w:World):Calls Tryz.prog 60 #[.slice none 0 0,F] w λ e w'=> e=.returned (.tuple #[])/\w=w':=by
 have HI:=Lib.hid (stable_nil F w);go_enter Tryz.func60,Tryz.ntmps60;go_wp2_with fail;(with_reducible refine HI.out.mono ?_);rintro e w1 ⟨rfl,rfl⟩;clear HI;go_wp2;go_end0;exact ⟨rfl,rfl⟩
theorem sort_st (c b5:Nat) (its:List Ri) (v:Value) (hlen:its.length<=1099511627776) (w0 w:World) (fp0:List Nat) (R:List Asn) (hr:Rd w0 fp0 R λ w=> w.cell? ⟨b5,0,none⟩=some (.int .i64 c)/\∀x∈its,ValsAt w x.r x.v) (hc:∀x∈its,c < x.r.length) (hS:St w0 fp0 (rowA 114 2 v its.length (riV its)::R) w):
 Calls Tryz.prog 60 #[v, .func (.func 61) #[] #[.pointer (some ⟨b5,0,none⟩)]] w λ e w'=> e=.returned (.tuple #[])/\St w0 fp0 (rowA 114 2 v its.length (riV (sortR c its))::R) w':=by
 obtain ⟨f,hp,hk⟩:=hS.get 0 rfl;have hp0:=hp;obtain ⟨ho,hf⟩:=hp;rcases ho.2 with ⟨rfl,h0⟩ | ⟨g,cap,cur,rfl,hb,hg,hn,hcm,hcs,ht⟩
 · have e:=List.length_eq_zero_iff.1 h0
   subst e;refine (sort_nil _ w).mono ?_;rintro e w' ⟨rfl,rfl⟩;refine ⟨rfl,?_⟩;rw [<-sortR_eq (c:=c) (its:=[]) (Z:=[]) List.Pairwise.nil (StEq.refl _)];exact hS
 · have hf':f=[g]:=by rw [hf];rfl
   subst hf';have hA:Arr w 0 g its.length cap its w:=⟨ho,⟨rfl,rfl,rfl,Nat.le_refl _,λ _ _ _=> rfl⟩⟩
   have hC:CmpOk 61 #[.pointer (some ⟨b5,0,none⟩)] (cmpC c) its w g:=by
    refine ⟨enters_own Tryz.func61 (by kernel_rfl) rfl,λ x hx y hy w' hg'=> ?_,cmpC_ord c⟩;have h1:St w0 fp0 (emp::R) w':=hk emp w' [] rfl ⟨hg'.os,hg'.tape,hg'.output,hg'.size,λ k hk hn=> hg'.block k hk (λ e=> hn (by cases e;simp)),λ _ h=> nomatch h⟩;obtain ⟨h5,hv⟩:=hr.at (M:=[emp]) h1;have e1:=hc x hx;have e2:=hc y hy;have:=range21_calls c x y b5 w' (hv x hx) (hv y hy) h5 e1 e2
    rwa [show cmpV (x.r[c]'e1) (y.r[c]'e2)=cmpC c x.r y.r from by unfold cmpC;rw [colV_at (by omega) (by simpa using e1),colV_at (by omega) (by simpa using e2)];rfl] at this
   refine (sortStable_calls 61 _ (cmpC c) w 0 g its.length cap its w hC hA hlen).mono ?_;rintro e w' ⟨rfl,Z,h1,h2,h3⟩;rw [List.nil_append,List.append_nil] at h3;refine ⟨rfl,?_⟩;rw [<-sortR_eq h1 h2];exact hk _ w' [g] ⟨h3.own,rfl⟩ ⟨h3.gr.os,h3.gr.tape,h3.gr.output,h3.gr.size,λ k hk hn=> h3.gr.block k hk (λ e=> hn (by cases e;simp)),λ k hk=> .inl hk⟩
theorem sortR_lt {c:Nat} {its:List Ri} (ha:its.Pairwise λ a b=> a.id < b.id):(riL (sortR c its)).Pairwise (rngLt c)/\∀x,x∈sortR c its↔x∈its:=by
 obtain ⟨h1,h2⟩:=sortR_ok c its;generalize sortR c its=Z at *;refine ⟨?_,λ x=> ⟨λ h=> h2.mem (cmpC_ord c) h,λ h=> h2.symm.mem (cmpC_ord c) h⟩⟩;unfold riL;rw [List.pairwise_map,List.pairwise_iff_getElem];intro i j hi hj hij;have h3:=(List.pairwise_iff_getElem.1 h1) i j hi hj hij;by_cases h4:cc (cmpC c) Z[i] Z[j] < 0
 · exact .inl h4
 · have h5:cc (cmpC c) Z[i] Z[j]=0:=by omega
   refine .inr ⟨cmpV_zero.1 h5,?_⟩;have h6:=h2 Z[j];have h7:(Z.filter λ x=> cc (cmpC c) x Z[j]==0).Pairwise λ a b=> a.id < b.id:=by rw [<-h6];exact ha.sublist List.filter_sublist
   have h8:List.Sublist [Z[i],Z[j]] Z:=by
    have e:Z=Z.take (i+1)++Z.drop (i+1):=(List.take_append_drop _ _).symm;have m1:List.Sublist [Z[i]] (Z.take (i+1)):=List.singleton_sublist.2 (List.mem_take_iff_getElem.2 ⟨i,by omega,rfl⟩);have m2:List.Sublist [Z[j]] (Z.drop (i+1)):=List.singleton_sublist.2 (List.mem_drop_iff_getElem.2 ⟨j - (i+1),by omega,by congr 1;omega⟩);have:=m1.append m2
    rwa [<-e] at this
   have h9:=h8.filter λ x=> cc (cmpC c) x Z[j]==0;rw [List.filter_cons_of_pos (by simpa using h5),List.filter_cons_of_pos (by simp [(cmpC_ord c).self])] at h9;have h10:=h7.sublist h9;simpa using (List.pairwise_cons.1 h10).1 Z[j]
theorem range2s_calls {S cols:Nat} {I:List (List Int)} {L:LL} {next:Int} {s:Sto} (hok:s.Ok cols I L next) (b4 b5 b6 b7 b9 c:Nat) (low high:Vl) (hc:c < cols) (hlen:L.length+1 < 1099511627776) (hx:findIx s.ixs [(c:Int)]=none)
 (w0 w:World) (fp0:List Nat) (R:List Asn) (hS:St w0 fp0 (rgL b4 b9 b5 b6 b7 S++(stoL S s++(rgX b5 b6 b7 c low high++R))) w):
 Calls Tryz.prog 56 #[.pointer (some ⟨b4,0,none⟩), .pointer (some ⟨b5,0,none⟩), .pointer (some ⟨b6,0,none⟩), .pointer (some ⟨b9,0,none⟩)] w λ e w'=> ∃v,e=.returned v/\
  St w0 fp0 (rowA 114 2 v (sortR c (somL (rgP c low high) s.es)).length (riV (sortR c (somL (rgP c low high) s.es)))::(rgL b4 b9 b5 b6 b7 S++(stoL S s++(rgX b5 b6 b7 c low high++R)))) w':=by
 obtain ⟨_,hb4⟩:=hS.has 0 rfl;have d4:=(blk_get hb4).1 0;have d4l:=(blk_get hb4).2.2;obtain ⟨_,hb9⟩:=hS.has 1 rfl;have d9:=(blk_get hb9).1 0;have d9l:=(blk_get hb9).2.2;obtain ⟨_,hbS⟩:=hS.has 2 rfl;have e0:=(blk_get hbS).1 0;have e3:=(blk_get hbS).1 3;obtain ⟨_,hri⟩:=hS.has 4 rfl;have hix:=row_sl hri (ixV_len s.ixs);have hXS:St w0 fp0 (rgX b5 b6 b7 c low high++(rgL b4 b9 b5 b6 b7 S++(stoL S s++R))) w:=hS.perm (by classical refine List.perm_iff_count.2 λ a=> ?_;simp only [List.count_append];omega);obtain ⟨_,hb5⟩:=hXS.has 0 rfl;have d5:=(blk_get hb5).1 0;have d5l:=(blk_get hb5).2.2;simp only [List.getElem?_toArray,List.getElem?_cons_zero,List.getElem?_cons_succ] at d4 d9 d5 e0 e3;have hixs:∀x∈s.ixs,IntsX [] w x.cs x.cv:=by
  intro x hx;obtain ⟨f,hf⟩:=hS.hasM (A:=ixA x) (List.mem_append_right _ (List.mem_append_left _ (by unfold stoL;exact .tail _ (.tail _ (.tail _ (List.mem_append_right _ (List.mem_map.2 ⟨x,hx,rfl⟩)))))));obtain ⟨f1,f2,h1, -⟩:=(show Star w [slA 3 x.cv (x.cs.map intC),objA true 16 x.kh x.km x.kb] f from hf)
  exact intsX_of h1
 have HH:=Lib.hid (has_calls S s.cols c w e0);have hcd:decide (0<=(c:Int)/\(c:Int) < (s.cols:Int))=true:=by rw [hok.ecols];simp;omega
 rw [hcd] at HH;have HB0:Hid (Below w.heap.size w (w.alloc (.cells #[.int .i64 c] 3))):=(Below.refl _ _).alloc (Nat.le_refl _) _;have HF:=Lib.hid (sfind_calls S s.ixs s.iv [(c:Int)] (.slice (some ⟨w.heap.size,0,none⟩) 1 1) (w.alloc (.cells #[.int .i64 c] 3)) ((HB0.out.cell (p:=⟨S,3,none⟩) (World.block_lt_of_cell? w _ e3)).trans e3) (hix.mono HB0.out) (λ y hy=> (hixs y hy).mono HB0.out) (SlX.of_blk (X:=[]) (heap_alloc_new w _) (by simp) (by show 1<=maxLen;unfold maxLen;omega) rfl));rw [hx] at HF;have hesl:s.es.length=L.length:=by rw [<-hok.rows,reL,List.length_map]
 have HIT:Hid (∀x∈somL (rgP c low high) s.es,c < x.r.length):=λ x hx=> by
  obtain ⟨e,he, -,rfl⟩:=somL_row hx;have hm:(e.id,e.r)∈L:=by rw [<-hok.rows];exact List.mem_map.2 ⟨_,he,rfl⟩
  have:e.r.length=cols:=(hok.row _ hm).2.2.1;show c < e.r.length;omega
 have HRD:Hid (Rd w0 fp0 (rgL b4 b9 b5 b6 b7 S++(stoL S s++(rgX b5 b6 b7 c low high++R))) λ w=> w.cell? ⟨b5,0,none⟩=some (.int .i64 c)/\∀x∈somL (rgP c low high) s.es,ValsAt w x.r x.v):=λ M w h=> by have h1:St w0 fp0 (stoL S s++(rgX b5 b6 b7 c low high++(M++(rgL b4 b9 b5 b6 b7 S++R)))) w:=h.perm (by classical refine List.perm_iff_count.2 λ a=> ?_;simp only [List.count_append];omega);obtain ⟨_,h5⟩:=(h1.perm perm2).has 0 rfl;refine ⟨(blk_get h5).1 0,λ x hx=> ?_⟩;obtain ⟨e,he, -,rfl⟩:=somL_row hx;obtain ⟨f,hf⟩:=h1.star_of;rw [toRi_v (h1.slOf e he)];exact re_at hok hf he
 have HSL:Hid ((somL (rgP c low high) s.es).length<=1099511627776):=by show _<=_;have:=somL_len (rgP c low high) s.es;omega
 have HSO:Hid (∀W,St w0 fp0 (rgL b4 b9 b5 b6 b7 S++(stoL S s++(rgX b5 b6 b7 c low high++R))) W->Calls Tryz.prog 48 #[ptrV S,rgF b5 b6 b7] W λ e w'=> ∃v,e=.returned v/\St w0 fp0 (rowA 114 2 v (somL (rgP c low high) s.es).length (riV (somL (rgP c low high) s.es))::(rgL b4 b9 b5 b6 b7 S++(stoL S s++(rgX b5 b6 b7 c low high++R)))) w'):=λ W h=> by
  have h1:St w0 fp0 (stoL S s++(rgX b5 b6 b7 c low high++(rgL b4 b9 b5 b6 b7 S++R))) W:=h.perm (by classical refine List.perm_iff_count.2 λ a=> ?_;simp only [List.count_append];omega);refine (some_calls 55 _ (rgP c low high) S s (rgX b5 b6 b7 c low high) (enters_own Tryz.func55 (by kernel_rfl) rfl) (by omega) (rg_isc hok b5 b6 b7 c low high hc) w0 W fp0 _ h1).mono ?_;rintro e w' ⟨v,rfl,h2⟩;refine ⟨v,rfl,h2.perm ?_⟩
  classical refine List.perm_iff_count.2 λ a=> ?_;simp only [List.count_append,List.count_cons];omega
 have HS:=Lib.hid hS;generalize somL (rgP c low high) s.es=its at *;obtain ⟨A,hA⟩:∃A,rgL b4 b9 b5 b6 b7 S++(stoL S s++(rgX b5 b6 b7 c low high++R))=A:=⟨_,rfl⟩
 rw [hA] at HS HRD HSO ⊢;clear hS hok hx hlen hb4 hb9 hbS hri hix hXS hb5 hixs hcd e0 e3 hc hesl hA;unfold ptrV at d4 HF HH HSO;unfold rgF at d9 HSO;unfold findV at HF;go_enter Tryz.func56,Tryz.ntmps56;go_wp2_with fail;(with_reducible refine HH.out.mono ?_);rintro e w1 ⟨rfl,rfl⟩;clear HH;go_wp2_with fail;(with_reducible refine HF.out.mono ?_);rintro e w2 ⟨rfl,hb1⟩;have hb2:=HB0.out.trans (hb1.mono HB0.out.size);have HS2:=Lib.hid (HS.out.mono hb2);have c9:=(hb2.cell (p:=⟨b9,0,none⟩) d9l).trans d9;have l9:=World.block_lt_of_cell? w2 _ c9;have c4:=(hb2.cell (p:=⟨b4,0,none⟩) d4l).trans d4;have l4:=World.block_lt_of_cell? w2 _ c4;clear HF hb1 hb2 HS d4 d4l d9 d9l d5 d5l HB0;rw [show (none:Option Ix).isSome=false from rfl];go_upto_region 4 with (fail)
 have HS3:=Lib.hid ((HS2.out.newblk 97 #[.slice none 0 0, .pointer none]).drop);have hb3:Below w2.heap.size w2 (w2.alloc (.cells #[.slice none 0 0, .pointer none] 97)):=(Below.refl _ _).alloc (Nat.le_refl _) _;replace c9:=(hb3.cell (p:=⟨b9,0,none⟩) l9).trans c9;replace c4:=(hb3.cell (p:=⟨b4,0,none⟩) l4).trans c4;generalize hW3:w2.alloc _=W3 at *;clear hb3 hW3 HS2 l4 l9;have l9:=World.block_lt_of_cell? W3 _ c9;have l4:=World.block_lt_of_cell? W3 _ c4;have HO:=Lib.hid (HSO.out W3 HS3.out);clear HSO HS3;go_wp2_with fail;(with_reducible refine HO.out.mono ?_);rintro e W4 ⟨v,rfl,h4⟩;have HT:=Lib.hid (sort_st c b5 its v HSL.out w0 W4 fp0 A HRD.out HIT.out h4);obtain ⟨va,vc,rfl⟩:∃a c,v=.slice a its.length c:=by obtain ⟨_,hr⟩:=h4.has 0 rfl;obtain ⟨a,c,e, -⟩:=row_shape hr;exact ⟨a,c,e⟩
 clear HO h4 HRD HIT;generalize its.length=n at *;clear c9 c4 l9 l4;go_wp2_with fail;(with_reducible refine HT.out.mono ?_);rintro e W5 ⟨rfl,h5⟩;have hl:(sortR c its).length=n:=by obtain ⟨_,hr⟩:=h5.has 0 rfl;have:=hr.1.1;rw [riV_len] at this;omega
 have H5:Hid (St w0 fp0 (rowA 114 2 (.slice va n vc) (sortR c its).length (riV (sortR c its))::A) W5):=by show St _ _ _ _;rw [hl];exact h5
 clear h5 HT hl;go_wp2;go_ret;exact ⟨_,rfl,H5.out⟩
theorem rgs_seq {S cols:Nat} {I:List (List Int)} {L:LL} {next:Int} {s:Sto} (hok:s.Ok cols I L next) (hcm:cols<=1000000) (b4 b5 b6 b7 b9 cb c:Nat) (low high:Vl) (hc:c < cols) (hlen:L.length+1 < 1099511627776) (hx:findIx s.ixs [(c:Int)]=none) (n:Nat):
 SeqG n Tryz.prog 84 #[.pointer (some ⟨cb,0,none⟩)] 2 itG (λ W=> ∀x∈sortR c (somL (rgP c low high) s.es),ValsAt W x.r x.v) (sortR c (somL (rgP c low high) s.es)) (blkA cb 109 #[rgCol b4 b5 b6 b9]::(rgL b4 b9 b5 b6 b7 S++(stoL S s++rgX b5 b6 b7 c low high))):=
 have hes:s.es.length=L.length:=by rw [<-hok.rows,reL,List.length_map]
 each1_seq 56 _ cb _ _ (enters_own Tryz.func56 (by kernel_rfl) rfl) (by
  rw [sortR,List.length_mergeSort];exact Nat.lt_of_le_of_lt (somL_len _ _) (by omega)) (λ y hy=> by
  obtain ⟨e,he, -,rfl⟩:=somL_row (List.mem_mergeSort.1 hy);have hm:(e.id,e.r)∈L:=by rw [<-hok.rows];exact List.mem_map.2 ⟨_,he,rfl⟩
  have:e.r.length=cols:=(hok.row _ hm).2.2.1;show e.r.length < _;omega) (λ w0 fp0 R w hs=> by
  have h1:St w0 fp0 (rgL b4 b9 b5 b6 b7 S++(stoL S s++(rgX b5 b6 b7 c low high++(blkA cb 109 #[rgCol b4 b5 b6 b9]::R)))) w:=hs.perm (by
   show List.Perm (blkA cb 109 #[rgCol b4 b5 b6 b9]::_) _
   classical refine List.perm_iff_count.2 λ a=> ?_;simp only [List.count_append,List.count_cons];omega)
  refine (range2s_calls hok b4 b5 b6 b7 b9 c low high hc hlen hx w0 w fp0 _ h1).mono ?_;rintro e w' ⟨v,rfl,h2⟩;refine ⟨v,rfl,h2.perm ?_⟩;show List.Perm _ (_::blkA cb 109 #[rgCol b4 b5 b6 b9]::_)
  classical refine List.perm_iff_count.2 λ a=> ?_;simp only [List.count_append,List.count_cons];omega) n
theorem rngs_eq {cols:Nat} {I:List (List Int)} {L:LL} {next:Int} {s:Sto} (hok:s.Ok cols I L next) {c:Nat} {low high:Vl}:riL (sortR c (somL (rgP c low high) s.es))=rngL c low high L:=by
 obtain ⟨r1,r2⟩:=rngL_ok (c:=c) (low:=low) (high:=high) hok.asc;have ha:(somL (rgP c low high) s.es).Pairwise λ a b=> a.id < b.id:=by have h1:=reL_asc (es:=s.es) (by rw [hok.rows];exact hok.asc);unfold somL;rw [List.pairwise_map];exact (h1.sublist List.filter_sublist).imp λ h=> h
 obtain ⟨s1,s2⟩:=sortR_lt (c:=c) ha;refine sorted_ext (rngLt_irrefl c) (rngLt_asymm c) s1 r1 λ y=> ?_;rw [r2];have h3:=riL_som (rgP c low high) (λ x=> rgV (colV x.2 c) low high) (λ _=> rfl) s.es;rw [hok.rows] at h3;constructor
 · intro h
   obtain ⟨x,hx,rfl⟩:=List.mem_map.1 h;have h4:(x.id,x.r)∈riL (somL (rgP c low high) s.es):=List.mem_map.2 ⟨x,(s2 x).1 hx,rfl⟩;rw [h3,List.mem_filter] at h4;exact h4
 · intro h
   have h4:y∈riL (somL (rgP c low high) s.es):=by rw [h3,List.mem_filter];exact h
   obtain ⟨x,hx,rfl⟩:=List.mem_map.1 h4;exact List.mem_map.2 ⟨x,(s2 x).2 hx,rfl⟩
theorem Range_it (S cols:Nat) (I:List (List Int)) (hcm:cols<=1000000) (c:Nat) (hc:c < cols) (low high:Vl) (hlv:okV low=true) (hli:I64 low.int) (w0 w:World) (fp0:List Nat) (R:List Asn) (hS:St w0 fp0 R w):
 Calls Tryz.prog 17 #[ptrV S, .int .i64 c,low.val,high.val] w λ e w'=> ∃v,e=.returned v/\St w0 fp0 (iterA v S cols I (rngL c low high)::R) w':=by
 by_cases hI:[(c:Int)]∈I
 · exact Range_it1 S cols I hcm c hc hI low high hlv hli w0 w fp0 R hS
 · refine (Range_store S c low high w0 w fp0 R hS).mono ?_
   rintro e w' ⟨cb,b4,b5,b6,b7,b9,rfl,h⟩;have h1:St w0 fp0 ((blkA cb 109 #[rgCol b4 b5 b6 b9]::(rgL b4 b9 b5 b6 b7 S++rgX b5 b6 b7 c low high))++R) w':=h.perm (by classical refine List.perm_iff_count.2 λ a=> ?_;simp only [List.cons_append,List.count_append,List.count_cons];omega);refine ⟨_,rfl,St.iter.2 ⟨_,⟨84,_,rfl,enters_own Tryz.func84 (by kernel_rfl) rfl,λ s L next hok hl=> ?_⟩,h1⟩⟩;have hx:findIx s.ixs [(c:Int)]=none:=by refine List.find?_eq_none.2 λ x hx h=> hI ?_;rw [<-hok.eixs,<-of_decide_eq_true h];exact List.mem_map.2 ⟨x,hx,rfl⟩
   have hes:s.es.length=L.length:=by rw [<-hok.rows,reL,List.length_map]
   refine ⟨_,rngs_eq hok (c:=c) (low:=low) (high:=high),λ y hy=> ?_,?_,λ n=> (rgs_seq (S:=S) hok hcm b4 b5 b6 b7 b9 cb c low high hc hl hx n).perm ?_⟩
   · obtain ⟨e,he, -,rfl⟩:=somL_row (List.mem_mergeSort.1 hy)
     exact ⟨e,he,rfl⟩
   · rw [sortR,List.length_mergeSort,<-hes]
     exact somL_len _ _
   · classical
     refine List.perm_iff_count.2 λ a=> ?_;simp only [List.cons_append,List.count_append,List.count_cons];omega
def txN:ByteArray:=⟨#[]⟩
def okC (cols:Nat) (r:Rw) (c:Int) (v:Vl):Bool:=decide (0<=c) && (decide (c < cols) && (!decide (v.kind=0) && decide (cmpV (colV r c) v=0)))
def rlB (cols:Nat) (cs:List Int) (vals:Rw) (r:Rw):Bool:=(cs.zip vals).all λ p=> okC cols r p.1 p.2
def rlkR (cols:Nat) (cs:List Int) (vals:Rw) (m:List Ri):List Ri:=if cs.length=vals.length/\cs.length≠0 then m.filter λ x=> rlB cols cs vals x.r else []
theorem rlB_eq (cols:Nat) (r:Rw):∀(cs:List Int) (vals:Rw),cs.length=vals.length->rlB cols cs vals r=(!(cs.any λ c=> !decide (0<=c/\c < (cols:Int))) && (!(vals.any λ v=> v.kind==0) && decide (cs.map (colV r)=vals)))
 | [],[],_=> by simp [rlB]
 | c::cs,v::vals,h=> by
  have ih:=rlB_eq cols r cs vals (by simpa using h);unfold rlB at ih ⊢;rw [List.zip_cons_cons,List.all_cons,ih,List.any_cons,List.any_cons,List.map_cons];rw [Bool.eq_iff_iff];simp only [okC,Bool.and_eq_true,Bool.not_eq_true',Bool.or_eq_false_iff,Bool.not_eq_false',decide_eq_true_eq,decide_eq_false_iff_not,beq_eq_false_iff_ne,ne_eq,List.cons.injEq,cmpV_zero];constructor
  · rintro ⟨⟨h1,h2,h3,h4⟩,h5,h6,h7⟩
    exact ⟨⟨⟨h1,h2⟩,h5⟩,⟨h3,h6⟩,h4,h7⟩
  · rintro ⟨⟨⟨h1,h2⟩,h5⟩,⟨h3,h6⟩,h4,h7⟩
    exact ⟨⟨h1,h2,h3,h4⟩,h5,h6,h7⟩
theorem rlk_eq (cols:Nat) (cs:List Int) (vals:Rw) (m:List Ri):riL (rlkR cols cs vals m)=lookL cols cs vals (riL m):=by
 unfold rlkR lookL noneB;by_cases h:cs.length=vals.length/\cs.length≠0
 · rw [if_pos h,decide_eq_false h.2,decide_eq_true h.1]
   simp only [Bool.not_true,Bool.false_or,Bool.or_eq_true];have e:riL (m.filter λ x=> rlB cols cs vals x.r)=(riL m).filter λ x=> rlB cols cs vals x.2:=by unfold riL;rw [List.filter_map];rfl
   rw [e];split
   · rename_i h2
     refine List.filter_eq_nil_iff.2 λ x _=> ?_;rw [rlB_eq cols x.2 cs vals h.1];rcases h2 with h2 | h2 <;> rw [h2] <;> simp
   · rename_i h2
     refine List.filter_congr λ x _=> ?_;rw [rlB_eq cols x.2 cs vals h.1];simp only [not_or,Bool.not_eq_true] at h2;rw [h2.1,h2.2];rfl
 · rw [if_neg h]
   have h2:(decide (cs.length=0) || (!decide (cs.length=vals.length) || (cs.any (λ c=> !decide (0<=c/\c < (cols:Int))) || vals.any (λ v=> v.kind==0))))=true:=by
    by_cases h0:cs.length=0
    · simp [h0]
    · have:¬ cs.length=vals.length:=λ e=> h ⟨e,h0⟩
      simp [this]
   rw [if_pos h2];rfl
theorem zip_step {cs:List Int} {vals:Rw} {k:Nat} (h1:k < cs.length) (h2:k < vals.length) (p:Int×Vl->Bool):((cs.zip vals).take (k+1)).all p=(((cs.zip vals).take k).all p && p (cs[k],vals[k])):=by
 have hz:k < (cs.zip vals).length:=by rw [List.length_zip];omega
 rw [List.take_add_one,List.getElem?_eq_getElem hz,List.all_append];simp
theorem filt_snoc {α:Type} (p:α->Bool) (l:List α) (i:Nat) (hi:i < l.length):(l.take (i+1)).filter p=if p l[i] then (l.take i).filter p++[l[i]] else (l.take i).filter p:=by
 rw [List.take_add_one,List.getElem?_eq_getElem hi,List.filter_append];cases h:p l[i] <;> simp [h]
theorem RLookup_calls (cols:Nat) (lv:Value) (next:Int) (m:List Ri) (cs:List Int) (vals:Rw) (cv vv:Value) (hlen:m.length < 1099511627775) (hrl:∀x∈m,x.r.length=cols) (w0 w:World) (fp0:List Nat) (R:List Asn)
 (hm:Rd w0 fp0 R λ w=> RiX w m lv) (hc:Rd w0 fp0 R λ w=> IntsX [] w cs cv) (hv:Rd w0 fp0 R λ w=> ValsAt w vals vv) (hS:St w0 fp0 R w):
 Calls Tryz.prog 12 #[rsV cols lv next,cv,vv] w λ e w'=> ∃v,e=.returned v/\St w0 fp0 (riA v (rlkR cols cs vals m)::R) w':=by
 obtain ⟨ca,cn,cc,rfl,hcn,hcm⟩:=(hc.here hS).shape;obtain ⟨va,vn,vc,rfl,hvn,hvm⟩:=(hv.here hS).shape;obtain ⟨la,lc,rfl⟩:=(hm.here hS).sl.shape;unfold maxLen at hcm hvm;have HM:=Lib.hid hm;have HC:=Lib.hid hc;have HV:=Lib.hid hv;have HRL:=Lib.hid hrl;have H0:=Lib.hid ((hS.newblk 37 #[.int .i64 cols, .slice la m.length lc, .int .i64 next]).nilR 56 2);obtain ⟨n,hn⟩:∃n,m.length=n:=⟨_,rfl⟩
 rw [hn] at H0 hlen ⊢;have HN:=Lib.hid hn;clear hm hc hv hS hrl hn;unfold rsV;by_cases hq:cn=vn
 · by_cases h0:cn=0
   · have e:rlkR cols cs vals m=[]:=by unfold rlkR;rw [if_neg (λ h=> h.2 (by omega))]
     rw [e];subst hq;have z1:decide ((cn:Int)=0)=true:=by simp [h0]
     subst h0;clear e hcn hvn;go_enter Tryz.func12,Tryz.ntmps12;go_wp2;go_ret;exact ⟨_,rfl,(H0.out.perm (List.Perm.swap _ _ _)).drop⟩
   · have e:rlkR cols cs vals m=m.filter λ x=> rlB cols cs vals x.r:=by unfold rlkR;rw [if_pos ⟨by omega,by omega⟩]
     rw [e];clear e;subst hq;have z2:decide ((cn:Int)=0)=false:=by simp;omega
     have z2':((cn:Int)==0)=false:=by simp;omega
     have HCN:=Lib.hid (And.intro hcn hvn);have hcp:0 < cn:=by omega
     clear hcn hvn h0;go_enter Tryz.func12,Tryz.ntmps12;go_upto_region 5 with (fail)
     obtain ⟨b3,hb3⟩:∃b3,w.heap.size=b3:=⟨_,rfl⟩
     rw [hb3] at H0 ⊢;generalize hW:w.alloc _=W1 at *;clear hW hb3;go_loopg [7,8] n (λ g z7 z8 wr=> ∃i:Nat,z8=.int .i64 i/\g+i=n/\Hid (St w0 fp0 (riA z7 ((m.take i).filter λ x=> rlB cols cs vals x.r)::blkA b3 37 #[.int .i64 cols, .slice la n lc, .int .i64 next]::R) wr))
     case atStart=> exact ⟨0,rfl,rfl,H0⟩
     case round=>
      clear H0;obtain ⟨i,rfl,hgi,Hi⟩:=hrel;have Hgi:=Lib.hid hgi;obtain ⟨c0,c1,c2,f0,f1,f2,cl⟩:=cells3 Hi.out 1 rfl;by_cases hin:i < n
      · have hii : (i:Int) < n:=by omega
        have hil:i < m.length:=by rw [HN.out];exact hin
        clear hgi;have hmw:=HM.out.at (M:=[_,_]) Hi.out;obtain ⟨bb,oo,kk,e1,p0,p1⟩:=ri_cells hmw.sl i hil;have HFS:=Lib.hid (filt_snoc (λ x:Ri=> rlB cols cs vals x.r) m i hil);have HXR:Hid (∀w',Below wr.heap.size wr w'->ValsAt w' m[i].r m[i].v):=λ w' hb=> (hmw.row _ (List.getElem_mem hil)).mono hb;have HXL:=Lib.hid (HRL.out _ (List.getElem_mem hil));have pl:=World.block_lt_of_cell? _ _ p0;obtain ⟨rfl, -, -⟩:=Value.slice.inj e1;clear hmw e1;obtain ⟨gk0,rfl⟩:∃x,x=gk:=⟨_,rfl⟩
        obtain ⟨wr0,rfl⟩:∃x,x=wr:=⟨_,rfl⟩
        have HCX:=Lib.hid (HC.out.at (M:=[_,_]) Hi.out);have HVX:=Lib.hid (HV.out.at (M:=[_,_]) Hi.out);generalize m[i]=x at *;clear hil;obtain ⟨xid,xa,xn,xc,xr⟩:=x;unfold Ri.v at p1 HXR;simp only at p0 p1 HXR HXL HFS;go_upto_region 9 with (fail)
        go_loopg [9,10] cn (λ g z9 z10 wr=> ∃(k:Nat) (t:Bool),z9=.bool t/\z10=.int .i64 k/\g+k=cn/\Hid (((cs.zip vals).take k).all (λ p=> okC cols xr p.1 p.2)=t)/\Hid (Below wr0.heap.size wr0 wr))
        case atStart=> exact ⟨0,true,rfl,rfl,rfl,rfl,Below.refl _ _⟩
        case round=>
         obtain ⟨k,t,rfl,rfl,hgk,Ht,Hb⟩:=hrel;have Hgk:=Lib.hid hgk;obtain ⟨d0,d1,d2, -, -, -,dl⟩:=cells3 (Hi.out.mono Hb.out) 1 rfl;by_cases hkn:k < cn
         · have hki:(k:Int) < cn:=by omega
           clear hgk c0 c1 c2 f0 f1 f2 cl;have hkc:k < cs.length:=by rw [<-HCN.out.1];exact hkn
           have hkv:k < vals.length:=by rw [<-HCN.out.2];exact hkn
           have HZ:=Lib.hid (zip_step hkc hkv (λ p=> okC cols xr p.1 p.2));have hc2:=HCX.out.mono Hb.out;have hv2:=HVX.out.mono Hb.out;obtain ⟨cb,co,rfl⟩:=hc2.has k hkn;obtain ⟨vb,vo,rfl⟩:=hv2.has k hkn;have i0:=hc2.cell k hkc;obtain ⟨j0,j1,j2⟩:=hv2.cell k hkv;have il:=World.block_lt_of_cell? _ _ i0;have jl:=World.block_lt_of_cell? _ _ j0;have HTV:Hid (vals[k].text.size<=maxLen):=HVX.out.2 _ (List.getElem_mem hkv);have q0:=(Hb.out.cell (p:=⟨bb,oo+i * 2,none⟩) pl).trans p0;have q1:=(Hb.out.cell (p:=⟨bb,oo+i * 2+1,none⟩) pl).trans p1;have ql:=World.block_lt_of_cell? _ _ q0;clear hc2 hv2;generalize cs[k]=c at *;generalize vals[k]=v at *;obtain ⟨yk,yi,yt⟩:=v;simp only at j0 j1 j2 HTV;go_upto_region 12 with (fail)
           cases t with
           | false=>
            go_quiet (fail);go_wp2;go_roundg (gk - 1)
            case rel=> exact ⟨k+1,false,rfl,by go_num,by have:=Hgk.out;omega,(by show _=_;rw [HZ.out,Ht.out];rfl),Hb.out.trans ((below_drewN _ _).mono Hb.out.size)⟩
            case measure=> have:=Hgk.out;omega
           | true=>
            by_cases g1:0<=c
            · by_cases g2:c < (cols:Int)
              · by_cases g3:yk=0
                · have z3:decide (yk=0)=true:=by simp [g3]
                  have G:=Lib.hid (And.intro g1 (And.intro g2 g3));subst g3;go_quiet (fail);go_wp2;go_roundg (gk - 1)
                  case rel=> exact ⟨k+1,false,rfl,by go_num,by have:=Hgk.out;omega,(by show _=_;rw [HZ.out,Ht.out];simp [okC]),Hb.out.trans ((below_drewN _ _).mono Hb.out.size)⟩
                  case measure=> have:=Hgk.out;omega
                · obtain ⟨c',rfl⟩:=Int.eq_ofNat_of_zero_le g1
                  have g4:c' < cols:=by omega
                  have g5:c' < xr.length:=by rw [HXL.out];exact g4
                  have hxw:=HXR.out _ Hb.out;have hxn:xn=xr.length:=by obtain ⟨_,_,_,e,h, -⟩:=hxw.shape;obtain ⟨-,rfl, -⟩:=Value.slice.inj e;exact h
                  obtain ⟨rb,ro,rfl⟩:=hxw.has c' (by omega);obtain ⟨s0,s1,s2⟩:=hxw.cell c' g5;have sl:=World.block_lt_of_cell? _ _ s0;have hcv:colV xr (c':Int)=xr[c']:=by simp [colV,List.getD,g5]
                  have htx:xr[c'].text.size<=maxLen:=hxw.2 _ (List.getElem_mem g5);have HG:=Lib.hid (And.intro hcv (And.intro g4 g3));have g6:(c':Int) < (xn:Int):=by omega
                  have z3:(yk !=0)=true:=by simpa using g3
                  have HRC:Hid (∀w',Calls Tryz.prog 35 #[.agg #[.int .i64 xr[c'].kind, .int .i64 xr[c'].int, .string xr[c'].text], .agg #[.int .i64 yk, .int .i64 yi, .string yt]] w' λ e w''=> e=.returned (.int .i64 (cmpV xr[c'] ⟨yk,yi,yt⟩))/\Below w'.heap.size w' w''):=λ w'=> rcmp_calls xr[c'] ⟨yk,yi,yt⟩ w' htx;clear hxw hxn htx hcv;generalize xr[c']=y at *;clear g5;obtain ⟨zk,zi,zt⟩:=y;obtain ⟨cm,hcm⟩:∃cm,cmpV ⟨zk,zi,zt⟩ ⟨yk,yi,yt⟩=cm:=⟨_,rfl⟩
                  have HCM:=Lib.hid hcm;simp only at s0 s1 s2 HRC;rw [hcm] at HRC;clear hcm;obtain ⟨wk,rfl⟩:∃x,x=wr:=⟨_,rfl⟩
                  go_region_held3 (λ w'=> Below wk.heap.size wk w'/\∀b o,b < wk.heap.size->w'.cell? ⟨b,o,none⟩=wk.cell? ⟨b,o,none⟩)
                   (first | assumption | exact S_of (Below.drew (Below.refl _ _)) | exact S_step (by assumption) (by assumption))
                   (first | (go_at_call 35;(with_reducible refine (HRC.out _).mono ?_);rintro e w1 ⟨rfl,hb1⟩))
                  all_goals
                   rename_i hH
                   have Hb1:=Lib.hid (Hb.out.trans (hH.1.mono Hb.out.size));clear hH;go_wp2;go_roundg (gk - 1)
                   case rel=>
                    refine ⟨k+1,_,rfl,by go_num,by have:=Hgk.out;omega,?_,Hb1⟩;show _=_;rw [HZ.out,Ht.out];obtain ⟨h1,h2,h3⟩:=HG.out;rw [Bool.true_and,okC,h1,HCM.out,decide_eq_true (Int.natCast_nonneg c'),decide_eq_true (by omega:(c':Int) < (cols:Int)),decide_eq_false h3];rfl
                   case measure=> have:=Hgk.out;omega
              · have z2:decide (c < (cols:Int))=false:=by simp;omega
                have G:=Lib.hid g2;clear g2;go_quiet (fail);go_wp2;go_roundg (gk - 1)
                case rel=> exact ⟨k+1,false,rfl,by go_num,by have:=Hgk.out;omega,(by show _=_;rw [HZ.out,Ht.out];simp [okC];intro _ h;exact absurd h (Int.not_lt.2 G.out)),Hb.out.trans ((below_drewN _ _).mono Hb.out.size)⟩
                case measure=> have:=Hgk.out;omega
            · have z1:decide (0<=c)=false:=by simp;omega
              have G:=Lib.hid g1;clear g1;go_quiet (fail);go_wp2;go_roundg (gk - 1)
              case rel=> exact ⟨k+1,false,rfl,by go_num,by have:=Hgk.out;omega,(by show _=_;rw [HZ.out,Ht.out];simp [okC];intro h;exact absurd h (Int.not_le.2 G.out)),Hb.out.trans ((below_drewN _ _).mono Hb.out.size)⟩
              case measure=> have:=Hgk.out;omega
         · have hki:¬ (k:Int) < cn:=by omega
           have HT2:Hid (rlB cols cs vals xr=t):=by show _=_;rw [<-Ht.out,List.take_of_length_le (by rw [List.length_zip];have:=HCN.out;omega)];rfl
           rw [HT2.out] at HFS;clear hgk Hgk HT2 Ht d0 d1 d2 dl;have Hj:=Lib.hid (Hi.out.mono Hb.out);obtain ⟨c0,c1,c2,f0,f1,f2,cl⟩:=cells3 Hj.out 1 rfl;cases t with
           | false=>
            have Hk:Hid (St w0 fp0 (riA u7 ((m.take (i+1)).filter λ x=> rlB cols cs vals x.r)::blkA b3 37 #[.int .i64 cols, .slice (some ⟨bb,oo,none⟩) n lc, .int .i64 next]::R) wr):=by have e:=HFS.out;rw [if_neg (by simp)] at e;rw [e];exact Hj.out
            go_wp2;go_roundg (gk0 - 1)
            case rel=> exact ⟨i+1,by go_num,by have:=Hgi.out;omega,Hk⟩
            case measure=> have:=Hgi.out;omega
           | true=>
            have q0:=(Hb.out.cell (p:=⟨bb,oo+i * 2,none⟩) pl).trans p0;have q1:=(Hb.out.cell (p:=⟨bb,oo+i * 2+1,none⟩) pl).trans p1;have ql:=World.block_lt_of_cell? _ _ q0;have hlen2:((m.take i).filter λ x=> rlB cols cs vals x.r).length+1 < 1099511627776:=by have h1:=List.length_filter_le (λ x:Ri=> rlB cols cs vals x.r) (m.take i);rw [List.length_take] at h1;omega
            have HLL:=Lib.hid hlen2;clear hlen2
            go_wp2_with (first
             | (at_builtin;refine wpList_appR rfl _ _ _ _ rfl rfl rfl appRI (Hj.out.mono ((Below.refl _ _).alloc (Nat.le_refl _) _)) (src_litk (e':=56) (by kernel_rfl) _ 2 _ 1 _ _ _ #[.int .i64 xid, .slice xa xn xc] (heap_alloc_new _ _) rfl (by simp;exact ⟨rfl,rfl⟩)) HLL.out ?_;intro v3 w3 h3))
            go_roundg (gk0 - 1)
            case rel=>
             refine ⟨i+1,by go_num,by have:=Hgi.out;omega,?_⟩;have e:=HFS.out;rw [if_pos trivial] at e;rw [e];have h4:=h3.out;exact riA_snoc (⟨xid,xa,xn,xc,xr⟩:Ri) h4
            case measure=> have:=Hgi.out;omega
      · have hii:¬ (i:Int) < n:=by omega
        have Hz:Hid (St w0 fp0 (riA u7 (m.filter λ x=> rlB cols cs vals x.r)::R) wr):=by have e:m.take i=m:=List.take_of_length_le (by rw [HN.out];omega);have h1:=Hi.out;rw [e] at h1;exact (h1.perm (List.Perm.swap _ _ _)).drop
        clear hgi;go_wp2;go_ret;exact ⟨_,rfl,Hz.out⟩
 · have e:rlkR cols cs vals m=[]:=by unfold rlkR;rw [if_neg (λ h=> hq (by omega))]
   rw [e];have z1:decide ((cn:Int)=(vn:Int))=false:=by simp;omega
   have z1':((cn:Int)==(vn:Int))=false:=by simp;omega
   clear e hcn hvn;go_enter Tryz.func12,Tryz.ntmps12;go_wp2;go_ret;exact ⟨_,rfl,(H0.out.perm (List.Perm.swap _ _ _)).drop⟩
def nlV:Vl:=⟨0,0,txN⟩
def ltC (c:Nat) (x y:Ri):Bool:=decide (cmpV (colV x.r c) (colV y.r c) < 0)
def insR (c:Nat) (x:Ri) (out:List Ri):List Ri:=(out.filter λ y=> !ltC c x y)++x::out.filter λ y=> ltC c x y
def rngR (c:Nat) (l:List Ri):List Ri:=(l.filter λ x=> rgV (colV x.r c) nlV nlV).foldl (λ o x=> insR c x o) []
theorem riL_insR (c:Nat) (x:Ri) (out:List Ri):riL (insR c x out)=insK c (x.id,x.r) (riL out):=by
 unfold insR insK riL;rw [List.map_append,List.map_cons,List.filter_map,List.filter_map];rfl
theorem riL_rngR (c:Nat) (l:List Ri):riL (rngR c l)=rngL c nlV nlV (riL l):=by
 unfold rngR rngL;have e:(riL l).filter (λ x=> rgV (colV x.2 c) nlV nlV)=riL (l.filter λ x=> rgV (colV x.r c) nlV nlV):=by unfold riL;rw [List.filter_map];rfl
 rw [e];generalize l.filter (λ x=> rgV (colV x.r c) nlV nlV)=m;have key:∀(m out:List Ri),riL (m.foldl (λ o x=> insR c x o) out)=(riL m).foldl (λ o x=> insK c x o) (riL out):=by
  intro m
  induction m with
  | nil=> intro out;rfl
  | cons x m ih=> intro out;rw [List.foldl_cons,ih,riL_insR];rfl
 exact key m []
theorem rngR_snoc (c:Nat) (l:List Ri) (k:Nat) (hk:k < l.length):rngR c (l.take (k+1))=if rgV (colV l[k].r c) nlV nlV then insR c l[k] (rngR c (l.take k)) else rngR c (l.take k):=by
 unfold rngR;rw [List.take_add_one,List.getElem?_eq_getElem hk,List.filter_append,List.foldl_append];by_cases h:rgV (colV l[k].r c) nlV nlV=true
 · rw [if_pos h];simp [h]
 · rw [if_neg h];simp [h]
theorem rngR_mem {c:Nat} {l:List Ri}:∀x∈rngR c l,x∈l:=by
 unfold rngR;have key:∀(m out:List Ri),∀x∈m.foldl (λ o x=> insR c x o) out,x∈m\/x∈out:=by
  intro m
  induction m with
  | nil=> intro out x hx;exact .inr hx
  | cons y m ih=>
   intro out x hx;rcases ih _ x hx with h | h
   · exact .inl (List.mem_cons_of_mem _ h)
   · unfold insR at h
     rcases List.mem_append.1 h with h | h
     · exact .inr (List.mem_filter.1 h).1
     · rcases List.mem_cons.1 h with rfl | h
       · exact .inl (List.mem_cons_self ..)
       · exact .inr (List.mem_filter.1 h).1
 intro x hx;rcases key _ _ x hx with h | h
 · exact (List.mem_filter.1 h).1
 · cases h
theorem rngR_sorted {c:Nat} {l:List Ri} (h:AscI (riL l)):(rngR c l).Pairwise λ a b=> cmpV (colV a.r c) (colV b.r c)<=0:=by
 have h1:=(rngL_ok (c:=c) (low:=nlV) (high:=nlV) h).1;rw [<-riL_rngR] at h1;unfold riL at h1;rw [List.pairwise_map] at h1;refine h1.imp λ {a b} h=> ?_;rcases h with h | ⟨h, -⟩
 · have h2:cmpV (colV a.r c) (colV b.r c) < 0:=h
   omega
 · have h2:colV a.r c=colV b.r c:=h
   rw [h2,cmpV_self];exact Int.le_refl _
theorem insR_at {c:Nat} {x:Ri} {out:List Ri} (hs:out.Pairwise λ a b=> cmpV (colV a.r c) (colV b.r c)<=0) (j:Nat) (hj:j<=out.length) (hd:∀y∈out.drop j,cmpV (colV x.r c) (colV y.r c) < 0) (hl:j=0\/∃y,out[j - 1]? =some y/\¬ cmpV (colV x.r c) (colV y.r c) < 0):insR c x out=out.take j++x::out.drop j:=by
 have ht:∀y∈out.take j,ltC c x y=false:=by
  intro y hy;rcases hl with rfl | ⟨z,hz,hn⟩
  · simp at hy
  · obtain ⟨i,hi,rfl⟩:=List.mem_take_iff_getElem.1 hy
    obtain ⟨hz1,rfl⟩:=List.getElem?_eq_some_iff.1 hz;refine decide_eq_false λ h=> hn ?_;by_cases e:i=j - 1
    · subst e;exact h
    · have h1:=(List.pairwise_iff_getElem.1 hs) i (j - 1) (by omega) hz1 (by omega)
      by_cases e0:cmpV (colV out[i].r c) (colV out[j - 1].r c)=0
      · rw [<-cmpV_zero.1 e0];exact h
      · exact cmpV_trans h (by omega)
 have hd':∀y∈out.drop j,ltC c x y=true:=λ y hy=> decide_eq_true (hd y hy);have e1:out.filter (λ y=> !ltC c x y)=out.take j:=by
  conv=> lhs;rw [<-List.take_append_drop j out]
  rw [List.filter_append,List.filter_eq_self.2 (λ y hy=> by rw [ht y hy];rfl),List.filter_eq_nil_iff.2 (λ y hy=> by rw [hd' y hy];simp),List.append_nil]
 have e2:out.filter (λ y=> ltC c x y)=out.drop j:=by
  conv=> lhs;rw [<-List.take_append_drop j out]
  rw [List.filter_append,List.filter_eq_nil_iff.2 (λ y hy=> by rw [ht y hy];simp),List.filter_eq_self.2 hd',List.nil_append]
 unfold insR;rw [e1,e2]
theorem row_take {w:World} {t:TypeId} {size n k:Nat} {a:Option Addr} {c:Nat} {xs:List Value} {f:List Nat} (h:(rowA t size (.slice a n c) n xs).p w f) (hk:k<=n):(rowA t size (.slice a k c) k (xs.take (k * size))).p w f:=by
 obtain ⟨h1,h2⟩:=h;refine ⟨⟨?_,?_⟩,by rw [h2];cases a <;> rfl⟩
 · rw [List.length_take,h1.1]
   exact Nat.min_eq_left (Nat.mul_le_mul_right _ hk)
 · rcases h1.2 with ⟨e,e0⟩ | ⟨g,cap,cur,e,hb,hg,hn,hc,hs,ht⟩
   · injection e with e1 e2 e3
     subst e1 e3;obtain rfl:k=0:=by omega
     exact .inl ⟨rfl,rfl⟩
   · injection e with e1 e2 e3
     subst e1 e3;refine .inr ⟨g,c,cur,rfl,hb,hg,by omega,hc,hs,?_⟩;rw [<-ht,List.take_take,Nat.min_eq_left (Nat.mul_le_mul_right _ hk)]
def fromV (a:Option Addr) (n c k size:Nat):Value:=match a with
 | none=> .slice none 0 0
 | some p=> if c=k then .slice (some p) 0 0 else .slice (some ⟨p.block,k * size,none⟩) (n - k) (c - k)
theorem run_fromV {P:Program} {w:World} {t e:TypeId} {a:Option Addr} {n c k s:Nat} (hu:P.underlying t=some (.slice e)) (hz:(sizeOf e).run P w=.ok s w) (ha:∀p,a=some p->∃g,p=⟨g,0,none⟩) (h0:a=none->c=0) (h1:k<=n) (h2:n<=c):(Instr.sliceAt t (.slice a n c) (some (.int .i64 k)) none none).run P w=.ok (fromV a n c k s) w:=by
 cases a with
 | none=>
  obtain rfl:=h0 rfl;obtain rfl:n=0:=by omega
  obtain rfl:k=0:=by omega
  simp [fromV,Instr.sliceAt,Instr.slice,Instr.sliceBounds,run_underlying hu,hz,run_sliceBound,Addr.add]
 | some p=>
  obtain ⟨g,rfl⟩:=ha p rfl;by_cases h3:c=k
  · subst h3
    obtain rfl:n=c:=by omega
    simp [fromV,Instr.sliceAt,Instr.slice,Instr.sliceBounds,run_underlying hu,hz,run_sliceBound,Addr.add]
  · simp [fromV,Instr.sliceAt,Instr.slice,Instr.sliceBounds,run_underlying hu,hz,run_sliceBound,h1,h3,Addr.add]
    exact λ h=> h.symm
theorem run_uptoV {P:Program} {w:World} {t e:TypeId} {a:Option Addr} {n c k s:Nat} (hu:P.underlying t=some (.slice e)) (hz:(sizeOf e).run P w=.ok s w) (ha:∀p,a=some p->∃g,p=⟨g,0,none⟩) (h0:a=none->c=0) (h2:k<=c):(Instr.sliceAt t (.slice a n c) none (some (.int .i64 k)) none).run P w=.ok (.slice a k c) w:=by
 cases a with
 | none=>
  obtain rfl:=h0 rfl;obtain rfl:k=0:=by omega
  simp [Instr.sliceAt,Instr.slice,Instr.sliceBounds,run_underlying hu,hz,run_sliceBound,Addr.add]
 | some p=>
  obtain ⟨g,rfl⟩:=ha p rfl;simp [Instr.sliceAt,Instr.slice,Instr.sliceBounds,run_underlying hu,hz,run_sliceBound,h2,Addr.add]
theorem slx_from {w:World} {t:TypeId} {size n k c:Nat} {a:Option Addr} {xs:List Value} {f:List Nat} (h:(rowA t size (.slice a n c) n xs).p w f) (hk:k<=n):SlX [] w size (n - k) (xs.drop (k * size)) (fromV a n c k size):=by
 obtain ⟨h1,h2,a',c',e,h3⟩:=SlX.of_row (X:=[]) h (by have:=h.1.1;omega) (by simp);obtain ⟨rfl, -,rfl⟩:=Value.slice.inj e;have hl:(xs.drop (k * size)).length=(n - k) * size:=by rw [List.length_drop,h2,Nat.sub_mul]
 have hsh:=row_shape h;refine ⟨by omega,hl,?_⟩;cases a with
 | none=>
  have hn0:n * size=0:=by
   rcases Nat.eq_zero_or_pos (n * size) with h4 | h4
   · exact h4
   · obtain ⟨_,_,_,_,_,h5⟩:=hsh
     obtain ⟨g,e5,_⟩:=h5 0 h4;obtain ⟨e6, -, -⟩:=Value.slice.inj ‹_›;rw [<-e6] at e5;cases e5
  rcases h.1.2 with ⟨e,e0⟩ | ⟨g,cap,cur,e,_⟩
  · subst e0
    obtain rfl:k=0:=by omega
    exact ⟨none,0,rfl,λ j hj=> by rw [hl] at hj;simp at hj⟩
  · exact nomatch e
 | some p=>
  rw [show fromV (some p) n c k size=if c=k then .slice (some p) 0 0 else .slice (some ⟨p.block,k * size,none⟩) (n - k) (c - k) from rfl];by_cases h4:c=k
  · rw [if_pos h4]
    have h5:n<=c:=by obtain ⟨_,_,e,h5, -⟩:=hsh;obtain ⟨-, -,rfl⟩:=Value.slice.inj e;exact h5
    exact ⟨some p,0,by congr 1;omega,λ j hj=> by rw [hl,show n - k=0 by omega] at hj;simp at hj⟩
  · rw [if_neg h4]
    refine ⟨some ⟨p.block,k * size,none⟩,c - k,rfl,λ j hj=> ?_⟩;rw [List.length_drop] at hj;obtain ⟨b,o,e5,h6,h7⟩:=h3 (k * size+j) (by omega);obtain rfl:=Option.some.inj e5;rcases h.1.2 with ⟨e,_⟩ | ⟨g,cap,cur,e,_⟩
    · exact nomatch e
    · obtain ⟨e6, -, -⟩:=Value.slice.inj e
      obtain ⟨rfl,rfl⟩:b=g/\o=0:=by have:=Option.some.inj e6;injection this with q1 q2;exact ⟨q1,q2⟩
      refine ⟨b,k * size,rfl,by simp,?_⟩;rw [Nat.zero_add] at h7;rw [h7,List.getElem_drop]
theorem Rg.Ob.fromR (G:Rg) (i:Nat) (a:Option Addr) (n c k s:Nat) (ha:∀p,a=some p->∃g,p=⟨g,0,none⟩) (h0:a=none->c=0) (h1:k<=n) (h2:n<=c) {t e:TypeId} {x y:Operand} (hop:(opAt G.ops i).op=.slice t x (some y) none none:=by rfl) (hu:G.P.underlying t=some (.slice e):=by rfl) (hz:∀w,(sizeOf e).run G.P w=.ok s w:=by intro _;exact kr (by kernel_rfl)) (hx:∀A,G.env i A x=.slice a n c:=by intro _;exact kr (by kernel_rfl)) (hy:∀a,G.env i a y=.int .i64 k:=by intro _;exact kr (by kernel_rfl)) (hv:∀g,G.valD i g=fromV a n c k s:=by intro _;exact kr (by kernel_rfl))
 (hq:(G.quiet i G.pcs.length && G.okV i)=true:=by exact kr (by kernel_rfl)) (hw:∀a,wantE G.ops (opAt G.ops i) (G.env i a)=some true:=by intro _;exact kr (by kernel_rfl)):G.Ob i:=Rg.Ob.read G i hq hw λ L A w _ _=> by
 simp only [execOp,hop,hx,hy,Option.map_some,Option.map_none,Sem.run_bind,run_fromV hu (hz w) ha h0 h1 h2,Result.andThen_ok,Sem.run_pure,hv]
theorem Rg.Ob.uptoR (G:Rg) (i:Nat) (a:Option Addr) (n c k s:Nat) (ha:∀p,a=some p->∃g,p=⟨g,0,none⟩) (h0:a=none->c=0) (h2:k<=c) {t e:TypeId} {x y:Operand} (hop:(opAt G.ops i).op=.slice t x none (some y) none:=by rfl) (hu:G.P.underlying t=some (.slice e):=by rfl) (hz:∀w,(sizeOf e).run G.P w=.ok s w:=by intro _;exact kr (by kernel_rfl)) (hx:∀A,G.env i A x=.slice a n c:=by intro _;exact kr (by kernel_rfl)) (hy:∀a,G.env i a y=.int .i64 k:=by intro _;exact kr (by kernel_rfl)) (hv:∀g,G.valD i g=.slice a k c:=by intro _;exact kr (by kernel_rfl))
 (hq:(G.quiet i G.pcs.length && G.okV i)=true:=by exact kr (by kernel_rfl)) (hw:∀a,wantE G.ops (opAt G.ops i) (G.env i a)=some true:=by intro _;exact kr (by kernel_rfl)):G.Ob i:=Rg.Ob.read G i hq hw λ L A w _ _=> by
 simp only [execOp,hop,hx,hy,Option.map_some,Option.map_none,Sem.run_bind,run_uptoV hu (hz w) ha h0 h2,Result.andThen_ok,Sem.run_pure,hv]
theorem row_ad {w:World} {t:TypeId} {size n c:Nat} {a:Option Addr} {xs:List Value} {f:List Nat} (h:(rowA t size (.slice a n c) n xs).p w f):(∀p,a=some p->∃g,p=⟨g,0,none⟩)/\(a=none->c=0)/\n<=c:=by
 rcases h.1.2 with ⟨e,e0⟩ | ⟨g,cap,cur,e,hb,hg,hn, -⟩
 · injection e with e1 e2 e3
   subst e1 e2 e3;exact ⟨λ p h=> (nomatch h),λ _=> rfl,Nat.le_refl _⟩
 · injection e with e1 e2 e3
   subst e1 e3;exact ⟨λ p h=> ⟨g,(Option.some.inj h).symm⟩,λ h=> (nomatch h),hn⟩
def rgxq (P:Program) (F:Func) (id nt:Nat) (ks:List Nat) (inp:List (Nat×Value)) (inq:List (Nat×Value×Nat)) (vals:List Vf) (pcs:List Pc) (w0:World) (fp0:List Nat) (R:List Asn):Rg:=⟨P,opsR F id,nt,ks,inp,inq,vals,pcs,w0,fp0,R⟩
def gRr12 (oa:Option Addr) (m oc j:Nat) (V:List Value):=rgx Tryz.prog Tryz.f19 12 101 [83,84,85,86,87,13] [(9, .slice oa m oc),(12, .int .i64 j)] (Vq 1 84 [Kv (.slice oa m oc),Kv (.int .i64 j),Kv (fromV oa m oc j 2),Vf.slice]++Vq 5 13 [Fv [87] λ g=> .slice (sa (g 87)) (sn (g 87)) (sc (g 87))]) [.all (rowA 56 2 (.slice oa m oc) m V), .gen [0,4] [83,87] λ L g=> match L 4 with | true=> rowA 56 2 (g 87) (m - j) (V.drop (j * 2)) | false=> match L 0 with | true=> rowA 56 2 (g 83) 0 [] | false=> emp]
theorem rRr12 (oa:Option Addr) (m oc j:Nat) (V:List Value) (w0:World) (fp0:List Nat) (R:List Asn) (ha:∀p,oa=some p->∃g,p=⟨g,0,none⟩) (h0:oa=none->oc=0) (hj:j<=m) (hm:m<=oc) (hx1:∀u∈V,u.oneCell'=true) (hl:m < 1000000) {w:World} {c:Code} {a:Act} {Q:Exit->Act->World->Prop} (c1:isReg c=true) (c2:cops c=opsR Tryz.f19 12) (c3:a.tmps.size=101) (_c4:a.defers=a.defers) (i9:a.eval (.tmp 9)=.slice oa m oc) (i12:a.eval (.tmp 12)=.int .i64 j)
 (hS:St w0 fp0 ([rowA 56 2 (.slice oa m oc) m V,emp]++R) w)
 (hQ:∀(u13 u83 u87:Value) (w1:World),(∃a n c,u87=.slice a n c)->u13=.slice (sa (u87)) (sn (u87)) (sc (u87))->St w0 fp0 ([rowA 56 2 (.slice oa m oc) m V,rowA 56 2 (u87) (m - j) (V.drop (j * 2))]++R) w1->Q .normal (putL a [(83,u83),(84, .slice oa m oc),(85, .int .i64 j),(86,fromV oa m oc j 2),(87,u87),(13,u13)]) w1):c.wp Tryz.prog Q a w:=by
 have ok:(gRr12 oa m oc j V w0 fp0 R).Ok 6:=Rg.ok _ 6 [0,3,4] ⟨.run1 _ 0 1 (λ _=> emp) (λ _ v=> rowA 56 2 v 0 []) (λ L a w fp _ hp=> ⟨.slice (some ⟨w.heap.size,0,none⟩) 0 0,w.alloc (.cells #[] 56),[w.heap.size],kr (by kernel_rfl),rfl,row_empty (size:=2) ⟨heap_alloc_new w _,rfl⟩,trNew hp _⟩), .fromR _ 3 oa m oc j 2 ha h0 hj hm, .appG _ 4 (λ g=> [rowA 56 2 (.slice oa m oc) m V,rowA 56 2 (g 83) 0 []]) (λ g v=> [rowA 56 2 (.slice oa m oc) m V,rowA 56 2 (v) (m - j) (V.drop (j * 2))]) (λ ty g w h=> (by obtain ⟨_,hM⟩:=h.has 0 rfl;obtain ⟨v,w2,e1,h2⟩:=St.appSrc appRI ty (St_re (L:=[_,_]) h [1,0] [] (by kernel_rfl)) ((slx_from hM hj).src (tx:=35) (e':=56) (by kernel_rfl) (by decide) (λ u hu=> hx1 u (List.mem_of_mem_drop hu))) (by omega);rw [Nat.zero_add,List.nil_append] at h2;obtain ⟨_,hr⟩:=h2.has 0 rfl;obtain ⟨a,c,rfl, -⟩:=row_shape hr;exact ⟨_,w2,e1,kr (by kernel_rfl),St_re (L:=[_,_]) h2 [1,0] [] (by kernel_rfl)⟩)),trivial⟩;refine wp_regD ok (by kernel_rfl) ⟨c1,c2⟩ ⟨c3,λ p hp=> ?_⟩ hS λ A1 w1 N1 H1=> ?_
 · simp only [gRr12,rgx,List.map_nil,List.append_nil,List.mem_cons,List.not_mem_nil,or_false] at hp
   rcases hp with rfl | rfl
   · exact i9
   · exact i12
 exact N1.fin [83,87,13] (hQ (slots A1 13) (slots A1 83) (slots A1 87) w1 ⟨_,_,_,(N1.val 3 rfl)⟩ (N1.val 4 rfl) H1) (by kernel_rfl)
def gRr13 (b4 cols lb lo n lc i m oc j xn xc:Nat) (next id:Int) (oa xa:Option Addr) (V:List Value) (rv:Value):=rgxq Tryz.prog Tryz.f19 13 101 [88,89,90,91,92,93,94,95,96,97,98,99,9] [(12, .int .i64 j),(4,pV b4 0),(10, .int .i64 i),(13,rv)] [(9, .slice oa m oc,12)] (Vq 0 88 [Kv (.slice oa m oc),Kv (.int .i64 j),Kv (.slice oa j oc),Kp b4 1,Kv (.slice (some ⟨lb,lo,none⟩) n lc),Kv (.int .i64 i),Kp lb (lo+i * 2),Kv (.agg #[.int .i64 id, .slice xa xn xc]),Vf.box,Vf.slice,Kv rv,Vf.slice]++Vq 12 9 [Fv [99] λ g=> .slice (sa (g 99)) (sn (g 99)) (sc (g 99))]) [Bk b4 (37) [.int .i64 cols, .slice (some ⟨lb,lo,none⟩) n lc, .int .i64 next], .gen [9,11] [97,99] λ L g=> match L 11 with | true=> rowA 56 2 (g 99) (m+1) (V.take (j * 2)++[.int .i64 id, .slice xa xn xc]++V.drop (j * 2)) | false=> match L 9 with | true=> rowA 56 2 (g 97) (j+1) (V.take (j * 2)++[.int .i64 id, .slice xa xn xc]) | false=> rowA 56 2 (.slice oa m oc) m V, .new 8 [96] λ g=> boxsA 56 (g 96) #[.int .i64 id, .slice xa xn xc], .all (rowA 56 2 (rv) (m - j) (V.drop (j * 2)))]
theorem rRr13 (b4 cols lb lo n lc i m oc j xn xc:Nat) (next id:Int) (oa xa:Option Addr) (V:List Value) (rv:Value) (w0:World) (fp0:List Nat) (R:List Asn) (ha:∀p,oa=some p->∃g,p=⟨g,0,none⟩) (h0:oa=none->oc=0) (hj:j<=m) (hm:m<=oc) (hi:i < n) (hx1:∀u∈V,u.oneCell'=true) (hl:m < 1000000) (hld:∀L w,St w0 fp0 (L++R) w->∀k u,([.int .i64 id, .slice xa xn xc]:List Value)[k]? =some u->w.cell? ⟨lb,lo+i * 2+k,none⟩=some u) {w:World} {c:Code} {a:Act} {Q:Exit->Act->World->Prop} (c1:isReg c=true) (c2:cops c=opsR Tryz.f19 13) (c3:a.tmps.size=101) (_c4:a.defers=a.defers) (i12:a.eval (.tmp 12)=.int .i64 j) (i4:a.eval (.tmp 4)=.pointer (some ⟨b4,0,none⟩)) (i10:a.eval (.tmp 10)=.int .i64 i) (i13:a.eval (.tmp 13)=rv) (i9:a.eval (.tmp 9)=.slice oa m oc)
 (hS:St w0 fp0 ([blkA b4 (37) #[.int .i64 cols, .slice (some ⟨lb,lo,none⟩) n lc, .int .i64 next],rowA 56 2 (.slice oa m oc) m V,emp,rowA 56 2 (rv) (m - j) (V.drop (j * 2))]++R) w)
 (hQ:∀(u9 u96 u97 u99:Value) (w1:World),(∃b,u96=.slice (some ⟨b,0,none⟩) 1 1)->(∃a n c,u97=.slice a n c)->(∃a n c,u99=.slice a n c)->u9=.slice (sa (u99)) (sn (u99)) (sc (u99))->St w0 fp0 ([blkA b4 (37) #[.int .i64 cols, .slice (some ⟨lb,lo,none⟩) n lc, .int .i64 next],rowA 56 2 (u99) (m+1) (V.take (j * 2)++[.int .i64 id, .slice xa xn xc]++V.drop (j * 2)),boxsA 56 (u96) #[.int .i64 id, .slice xa xn xc],rowA 56 2 (rv) (m - j) (V.drop (j * 2))]++R) w1->Q .normal (putL a [(88, .slice oa m oc),(89, .int .i64 j),(90, .slice oa j oc),(91, .pointer (some ⟨b4,1,none⟩)),(92, .slice (some ⟨lb,lo,none⟩) n lc),(93, .int .i64 i),(94, .pointer (some ⟨lb,lo+i * 2,none⟩)),(95, .agg #[.int .i64 id, .slice xa xn xc]),(96,u96),(97,u97),(98,rv),(99,u99),(9,u9)]) w1):c.wp Tryz.prog Q a w:=by
 have ok:(gRr13 b4 cols lb lo n lc i m oc j xn xc next id oa xa V rv w0 fp0 R).Ok 13:=Rg.ok _ 13 [2,4,6,7,8,9,11] ⟨.uptoR _ 2 oa m oc j 2 ha h0 (by omega), .load _ 4 0 1, .indexO _ 6 lb lo n lc i 2 hi, .loadR _ 7 [.int .i64 id, .slice xa xn xc] hld, .boxs _ 8 2, .appG _ 9 (λ g=> [blkA b4 37 #[.int .i64 cols, .slice (some ⟨lb,lo,none⟩) n lc, .int .i64 next],rowA 56 2 (.slice oa m oc) m V,boxsA 56 (g 96) #[.int .i64 id, .slice xa xn xc],rowA 56 2 (rv) (m - j) (V.drop (j * 2))]) (λ g v=> [blkA b4 37 #[.int .i64 cols, .slice (some ⟨lb,lo,none⟩) n lc, .int .i64 next],rowA 56 2 (v) (j+1) (V.take (j * 2)++[.int .i64 id, .slice xa xn xc]),boxsA 56 (g 96) #[.int .i64 id, .slice xa xn xc],rowA 56 2 (rv) (m - j) (V.drop (j * 2))]) (λ ty g w h=> (by obtain ⟨f,hf,hk⟩:=h.get 1 rfl;have h1:=hk _ w f (row_take hf hj) (Tr.refl _ _);obtain ⟨_,hb⟩:=h1.has 2 rfl;obtain ⟨v,w2,e1,h2⟩:=St.appSrc appRI ty (St_re (L:=[_,_,_,_]) h1 [1,0,2,3] [] (by kernel_rfl)) (boxs_src (tx:=35) (e':=56) (by kernel_rfl) hb rfl (by simp;exact ⟨rfl,rfl⟩)) (by omega);obtain ⟨_,hr⟩:=h2.has 0 rfl;obtain ⟨a,c,rfl, -⟩:=row_shape hr;exact ⟨_,w2,e1,kr (by kernel_rfl),St_re (L:=[_,_,_,_]) h2 [1,0,2,3] [] (by kernel_rfl)⟩)), .appG _ 11 (vs:=λ g=> .slice (sa (g 97)) (sn (g 97)) (sc (g 97))) (λ g=> [blkA b4 37 #[.int .i64 cols, .slice (some ⟨lb,lo,none⟩) n lc, .int .i64 next],rowA 56 2 (g 97) (j+1) (V.take (j * 2)++[.int .i64 id, .slice xa xn xc]),boxsA 56 (g 96) #[.int .i64 id, .slice xa xn xc],rowA 56 2 (rv) (m - j) (V.drop (j * 2))]) (λ g v=> [blkA b4 37 #[.int .i64 cols, .slice (some ⟨lb,lo,none⟩) n lc, .int .i64 next],rowA 56 2 (v) (m+1) (V.take (j * 2)++[.int .i64 id, .slice xa xn xc]++V.drop (j * 2)),boxsA 56 (g 96) #[.int .i64 id, .slice xa xn xc],rowA 56 2 (rv) (m - j) (V.drop (j * 2))]) (λ ty g w h=> (by obtain ⟨_,h9⟩:=h.has 1 rfl;obtain ⟨a9,c9,e9, -⟩:=row_shape h9;have e8:Value.slice (sa (g 97)) (sn (g 97)) (sc (g 97))=g 97:=(by rw [e9];rfl);obtain ⟨_,hb⟩:=h.has 3 rfl;obtain ⟨v,w2,e1,h2⟩:=St.appSrc appRI ty (St_re (L:=[_,_,_,_]) h [1,0,2,3] [] (by kernel_rfl)) ((SlX.of_row (X:=[]) hb (by have:=hb.1.1;omega) (by simp)).src (tx:=35) (e':=56) (by kernel_rfl) (by decide) (λ u hu=> hx1 u (List.mem_of_mem_drop hu))) (by omega);rw [show j+1+(m - j)=m+1 by omega] at h2;obtain ⟨_,hr⟩:=h2.has 0 rfl;obtain ⟨a,c,rfl, -⟩:=row_shape hr;exact ⟨_,w2,(by rw [e8];exact e1),kr (by kernel_rfl),St_re (L:=[_,_,_,_]) h2 [1,0,2,3] [] (by kernel_rfl)⟩)),trivial⟩;refine wp_regD ok (by kernel_rfl) ⟨c1,c2⟩ ⟨c3,λ p hp=> ?_⟩ hS λ A1 w1 N1 H1=> ?_
 · simp only [gRr13,rgxq,List.map_cons,List.map_nil,List.cons_append,List.nil_append,List.mem_cons,List.not_mem_nil,or_false] at hp
   rcases hp with rfl | rfl | rfl | rfl | rfl
   · exact i12
   · exact i4
   · exact i10
   · exact i13
   · exact i9
 exact N1.fin [96,97,99,9] (hQ (slots A1 9) (slots A1 96) (slots A1 97) (slots A1 99) w1 ⟨_,(N1.val 8 rfl)⟩ ⟨_,_,_,(N1.val 9 rfl)⟩ ⟨_,_,_,(N1.val 11 rfl)⟩ (N1.val 12 rfl) H1) (by kernel_rfl)
theorem riV_take (l:List Ri):∀k,(riV l).take (k * 2)=riV (l.take k):=by
 induction l with
 | nil=> intro k;simp [riV]
 | cons x l ih=>
  intro k;cases k with
  | zero=> simp [riV]
  | succ k=>
   have e:(k+1) * 2=k * 2+1+1:=by omega
   rw [e,List.take_succ_cons];show List.take _ (.int .i64 x.id::x.v::riV l)=.int .i64 x.id::x.v::riV (l.take k);rw [List.take_succ_cons,List.take_succ_cons,ih]
theorem riV_drop (l:List Ri):∀k,(riV l).drop (k * 2)=riV (l.drop k):=by
 induction l with
 | nil=> intro k;simp [riV]
 | cons x l ih=>
  intro k;cases k with
  | zero=> simp
  | succ k=>
   have e:(k+1) * 2=k * 2+1+1:=by omega
   rw [e,List.drop_succ_cons];show List.drop _ (.int .i64 x.id::x.v::riV l)=riV (l.drop k);rw [List.drop_succ_cons,List.drop_succ_cons,ih]
theorem riV_oc (l:List Ri):∀u∈riV l,u.oneCell'=true:=λ u hu=> by
 obtain ⟨x, -,h⟩:=List.mem_flatMap.1 hu;simp only [List.mem_cons,List.not_mem_nil,or_false] at h;rcases h with rfl | rfl <;> rfl
theorem RRange_calls (cols c:Nat) (lv:Value) (next:Int) (l:List Ri) (hc:c < cols) (hasc:AscI (riL l)) (hrow:∀x∈l,c < x.r.length) (hlen:l.length < 1000000) (w0 w:World) (fp0:List Nat) (R:List Asn) (hx:Rd w0 fp0 R λ w=> RiX w l lv) (hS:St w0 fp0 R w):
 Calls Tryz.prog 19 #[rsV cols lv next, .int .i64 c,nlV.val,nlV.val] w λ e w'=> ∃v,e=.returned v/\St w0 fp0 (riA v (rngR c l)::R) w':=by
 obtain ⟨la,lc,rfl⟩:=(hx.here hS).sl.shape;have h1:=((hS.newblk 37 #[.int .i64 cols, .slice la l.length lc, .int .i64 next]).newblk 29 #[.int .i64 0, .int .i64 0, .string txN]).newblk 29 #[.int .i64 0, .int .i64 0, .string txN];simp only [World.size_alloc] at h1;have H0:=Lib.hid (St.nilR 56 2 h1);have HX:=Lib.hid hx;have HAS:=Lib.hid hasc;have HRW:=Lib.hid hrow;obtain ⟨n,hn⟩:∃n,l.length=n:=⟨_,rfl⟩
 have HN:=Lib.hid hn;rw [hn] at H0 HX hlen ⊢;have hd1:decide ((c:Int) < 0)=false:=by simp
 have hd2:decide (cols<=c)=false:=by simp;omega
 clear h1 hS hx hasc hrow hn hc;unfold rsV nlV Vl.val;go_enter Tryz.func19,Tryz.ntmps19;go_upto_region 5 with (fail)
 generalize hW:((w.alloc _).alloc _).alloc _=w1 at *;obtain ⟨b4,hb4⟩:∃b4,w.heap.size=b4:=⟨_,rfl⟩
 rw [hb4] at H0 ⊢;obtain ⟨b6,hb6⟩:∃b6,b4+1=b6:=⟨_,rfl⟩
 rw [hb6] at H0 ⊢;obtain ⟨b7,hb7⟩:∃b7,b6+1=b7:=⟨_,rfl⟩
 rw [hb7] at H0 ⊢;clear hW hb4 hb6 hb7;have HI:Hid (St w0 fp0 (riA (.slice none 0 0) (rngR c (l.take 0))::blkA b7 29 #[.int .i64 0, .int .i64 0, .string txN]::blkA b6 29 #[.int .i64 0, .int .i64 0, .string txN]::blkA b4 37 #[.int .i64 cols, .slice la n lc, .int .i64 next]::R) w1):=H0.out;clear H0;clear hd1 hd2;go_loopg [9,10,11,12,13] n (λ g z9 z10 z11 z12 z13 wr=> ∃k:Nat,z10=.int .i64 k/\g+k=n/\Hid (St w0 fp0 (riA z9 (rngR c (l.take k))::blkA b7 29 #[.int .i64 0, .int .i64 0, .string txN]::blkA b6 29 #[.int .i64 0, .int .i64 0, .string txN]::blkA b4 37 #[.int .i64 cols, .slice la n lc, .int .i64 next]::R) wr))
 case atStart=> exact ⟨0,rfl,rfl,HI⟩
 case round=>
  clear HI;obtain ⟨k,rfl,hgk,Hs⟩:=hrel;obtain ⟨q0,q1,q2,r0,r1,r2,ql⟩:=cells3 Hs.out 3 rfl;have Hgk:=Lib.hid hgk;by_cases hk:k < n
  · have hkn:(k:Int) < n:=by omega
    have hkl:k < l.length:=by rw [HN.out];exact hk
    have hxr:=HX.out.at (M:=[_,_,_,_]) Hs.out;obtain ⟨lb,lo,lc',e1,p0,p1⟩:=ri_cells (by rw [HN.out];have:=hxr.sl;rw [HN.out] at this;exact this) k hkl;rw [HN.out] at e1;obtain ⟨rfl, -,rfl⟩:=Value.slice.inj e1;have hsn:=rngR_snoc c l k hkl;have hrk:=HRW.out _ (List.getElem_mem hkl);have hval:=hxr.row _ (List.getElem_mem hkl);have hsort:=rngR_sorted (c:=c) (l:=l.take k) (by have h2:riL (l.take k)=(riL l).take k:=List.map_take;rw [h2];exact HAS.out.sublist (List.take_sublist _ _));have hmem:∀y∈rngR c (l.take k),y∈l:=λ y hy=> List.mem_of_mem_take (rngR_mem y hy);have hml:(rngR c (l.take k)).length<=n:=by
     have h2:∀(m out:List Ri),(m.foldl (λ o x=> insR c x o) out).length=m.length+out.length:=by
      intro m
      induction m with
      | nil=> intro out;simp
      | cons x m ih=>
       intro out;rw [List.foldl_cons,ih,insR,List.length_append,List.length_cons,List.length_cons];have:=List.length_eq_countP_add_countP (λ y=> ltC c x y) (l:=out);rw [List.countP_eq_length_filter,List.countP_eq_length_filter] at this;have e:out.filter (λ a=> decide ¬ ltC c x a=true)=out.filter λ y=> !ltC c x y:=List.filter_congr λ a _=> by cases ltC c x a <;> rfl
       rw [e] at this;omega
     have h3:=h2 ((l.take k).filter λ x=> rgV (colV x.r c) nlV nlV) [];have h4:=List.length_filter_le (λ x:Ri=> rgV (colV x.r c) nlV nlV) (l.take k);rw [List.length_take] at h4;simp only [rngR];simp at h3;omega
    obtain ⟨M,hM⟩:∃M,rngR c (l.take k)=M:=⟨_,rfl⟩
    rw [hM] at hsn hsort hmem hml Hs;have HSORT:=Lib.hid hsort;have HMEM:=Lib.hid hmem;obtain ⟨x,hxe⟩:∃x,l[k]=x:=⟨_,rfl⟩
    rw [hxe] at p0 p1 hsn hrk hval;have HSN:=Lib.hid hsn;obtain ⟨xid,xa,xn,xc,xr⟩:=x;unfold Ri.v at p1 hval;simp only at p0 p1 hrk hval;obtain ⟨a1,n1,c1,e2,hn1,hm1⟩:=hval.shape;obtain ⟨rfl,rfl,rfl⟩:=Value.slice.inj e2;obtain ⟨rb,ro,rfl⟩:=hval.has c (by omega);obtain ⟨s0,s1,s2⟩:=hval.cell c hrk;have hcx:(c:Int) < xn:=by omega
    have hcol:colV xr c=xr[c]'hrk:=by rw [colV_at (by omega) (by simpa using hrk)];rfl
    have htx:=hval.2 _ (List.getElem_mem hrk);have HCOL:=Lib.hid hcol;generalize xr[c]'hrk=y at *;obtain ⟨yk,yj,yt⟩:=y;simp only at s0 s1 s2 htx;have hpl:=World.block_lt_of_cell? wr _ p0;have hrl:=World.block_lt_of_cell? wr _ s0;have H1:=Lib.hid (Hs.out.newblk 29 #[.int .i64 yk, .int .i64 yj, .string yt]);have hlx:Hid (∀L w,St w0 fp0 (L++R) w->∀j u,([.int .i64 xid, .slice (some ⟨rb,ro,none⟩) xn xc]:List Value)[j]? =some u->w.cell? ⟨lb,lo+k * 2+j,none⟩=some u):=λ L w h j u hj=> by
     have h2:=HX.out.at (M:=L) h;obtain ⟨lb',lo',lc',e1,p0',p1'⟩:=ri_cells (by rw [HN.out];have:=h2.sl;rw [HN.out] at this;exact this) k hkl;obtain ⟨e3, -, -⟩:=Value.slice.inj e1;obtain ⟨rfl,rfl⟩:lb=lb'/\lo=lo':=by have:=Option.some.inj e3;injection this with q1 q2;exact ⟨q1,q2⟩
     rw [hxe] at p0' p1'
     match j,hj with
     | 0,hj=> rw [<-Option.some.inj hj];exact p0'
     | 1,hj=> rw [<-Option.some.inj hj];exact p1'
     | j+2,hj=> simp at hj
    clear hgk e1 e2 hxr hsn hsort hmem hcol hval hn1 hrk hxe hM hkl;go_upto_region 8 with (fail)
    generalize hW:wr.alloc _=W1 at *;obtain ⟨b11,hb11⟩:∃b11,wr.heap.size=b11:=⟨_,rfl⟩
    rw [hb11] at H1 ⊢;clear hW hb11 p0 p1 s0 s1 s2 q0 q1 q2 r0 r1 r2 ql hpl hrl Hs;obtain ⟨_,hr⟩:=H1.out.has 1 rfl;obtain ⟨oa,oc,rfl⟩:=(riA_sl hr).shape;have HAD:=Lib.hid (row_ad hr);clear hr;obtain ⟨m,hm⟩:∃m,M.length=m:=⟨_,rfl⟩
    have HM:=Lib.hid hm;have H2:Hid (St w0 fp0 (blkA b11 29 #[.int .i64 yk, .int .i64 yj, .string yt]::rowA 56 2 (.slice oa m oc) m (riV M)::blkA b7 29 #[.int .i64 0, .int .i64 0, .string txN]::blkA b6 29 #[.int .i64 0, .int .i64 0, .string txN]::blkA b4 37 #[.int .i64 cols, .slice (some ⟨lb,lo,none⟩) n lc, .int .i64 next]::R) W1):=by have:=H1.out;unfold riA at this;rw [hm] at this;exact this
    rw [hm] at hml HAD ⊢;clear H1 hm;obtain ⟨x0,x1,x2,x3,x4,x5,xl⟩:=cells3 H2.out 0 rfl;obtain ⟨y0,y1,y2,y3,y4,y5,yl⟩:=cells3 H2.out 2 rfl;obtain ⟨z0,z1,z2,z3,z4,z5,zl⟩:=cells3 H2.out 3 rfl;by_cases hyk:yk=0
    · have t0:(yk==0)=true:=by simp [hyk]
      have HE:Hid (St w0 fp0 (riA (.slice oa m oc) (rngR c (l.take (k+1)))::blkA b7 29 #[.int .i64 0, .int .i64 0, .string txN]::blkA b6 29 #[.int .i64 0, .int .i64 0, .string txN]::blkA b4 37 #[.int .i64 cols, .slice (some ⟨lb,lo,none⟩) n lc, .int .i64 next]::R) W1):=by
       have hq:rgV (colV xr c) nlV nlV=false:=by rw [HCOL.out];simp [rgV,hyk]
       have e:=HSN.out;simp only [hq,Bool.false_eq_true,if_false] at e;rw [e];unfold riA;rw [HM.out];exact H2.out.drop
      clear H2 hyk;go_wp2;go_roundg (gk - 1)
      case rel=> exact ⟨k+1,by go_num,by have:=Hgk.out;omega,HE⟩
      case measure=> have:=Hgk.out;omega
    · have t0:(yk==0)=false:=by simp [hyk]
      have HK0:=Lib.hid hyk;clear hyk;go_upto_region 10 with (fail)
      clear x0 x1 x2 x3 x4 x5 xl y0 y1 y2 y3 y4 y5 yl z0 z1 z2 z3 z4 z5 zl;go_loopw [12] (λ z wr=> ∃j:Nat,j<=m/\z=.int .i64 j/\Hid (∀y∈M.drop j,cmpV ⟨yk,yj,yt⟩ (colV y.r c) < 0)/\Hid (St w0 fp0 (blkA b11 29 #[.int .i64 yk, .int .i64 yj, .string yt]::rowA 56 2 (.slice oa m oc) m (riV M)::blkA b7 29 #[.int .i64 0, .int .i64 0, .string txN]::blkA b6 29 #[.int .i64 0, .int .i64 0, .string txN]::blkA b4 37 #[.int .i64 cols, .slice (some ⟨lb,lo,none⟩) n lc, .int .i64 next]::R) wr)) (λ z _=> (intOf z).toNat)
      case atStart=> exact ⟨m,Nat.le_refl _,rfl,Lib.hid (by rw [List.drop_of_length_le (by rw [HM.out];exact Nat.le_refl _)];simp),H2⟩
      case round=>
       clear H2;obtain ⟨j,hjm,rfl,Hd,Hj⟩:=hrel;obtain ⟨x0,x1,x2,x3,x4,x5,xl⟩:=cells3 Hj.out 0 rfl;go_upto_region 10 with (fail)
       go_cut [80] from 65 to 80 (λ z wx=> ∃q:Bool,z=.bool q/\Hid ((q=true->∃y,0 < j/\M[j - 1]? =some y/\cmpV ⟨yk,yj,yt⟩ (colV y.r c) < 0)/\(q=false->j=0\/∃y,M[j - 1]? =some y/\¬ cmpV ⟨yk,yj,yt⟩ (colV y.r c) < 0))/\Hid (Below wr.heap.size wr wx))
       case first=>
        by_cases hj0:0 < j
        · obtain ⟨j',hj'⟩:∃j',j'+1=j:=⟨j - 1,by omega⟩
          have hjl:j' < M.length:=by rw [HM.out];omega
          obtain ⟨_,hr⟩:=Hj.out.has 1 rfl;have hsl:SlX [] wr 2 M.length (riV M) (.slice oa m oc):=by
           have:=row_sl hr (by rw [riV_len,HM.out])
           rwa [<-HM.out] at this ⊢
          obtain ⟨gb,go,gc',e1,u0,u1⟩:=ri_cells hsl j' hjl;rw [HM.out] at e1;obtain ⟨rfl, -,rfl⟩:=Value.slice.inj e1;have hyv:=(HX.out.at (M:=[_,_,_,_,_]) Hj.out).row _ (HMEM.out _ (List.getElem_mem hjl));have hyr:=HRW.out _ (HMEM.out _ (List.getElem_mem hjl));have hget:M[j - 1]? =some M[j']:=by rw [show j - 1=j' by omega];exact List.getElem?_eq_getElem hjl
          have HGET:=Lib.hid hget;generalize M[j']=e at *;obtain ⟨eid,ea,en,ec,er⟩:=e;unfold Ri.v at u1 hyv;simp only at u0 u1 hyv hyr;obtain ⟨a1,n1,c1,e2,hn1,hm1'⟩:=hyv.shape;obtain ⟨rfl,rfl,rfl⟩:=Value.slice.inj e2;obtain ⟨db,dO,rfl⟩:=hyv.has c (by omega);obtain ⟨s0,s1,s2⟩:=hyv.cell c hyr;have hcx2:(c:Int) < en:=by omega
          have HC2:Hid (colV er c=er[c]'hyr):=by show _=_;rw [colV_at (by omega) (by simpa using hyr)];rfl
          generalize er[c]'hyr=t at *;obtain ⟨tk,tj,tt⟩:=t;simp only at s0 s1 s2;have HK:=Lib.hid (λ w'=> rcmp_calls ⟨yk,yj,yt⟩ ⟨tk,tj,tt⟩ w' htx);simp only at HK;have HQ:Hid (∀q:Bool,q=decide (cmpV ⟨yk,yj,yt⟩ ⟨tk,tj,tt⟩ < 0)->(q=true->∃y,0 < j/\M[j - 1]? =some y/\cmpV ⟨yk,yj,yt⟩ (colV y.r c) < 0)/\(q=false->j=0\/∃y,M[j - 1]? =some y/\¬ cmpV ⟨yk,yj,yt⟩ (colV y.r c) < 0)):=λ q hq=> ⟨λ h=> ⟨_,by omega,HGET.out,by rw [show colV (Ri.r _) c=_ from HC2.out];rw [hq] at h;exact of_decide_eq_true h⟩,λ h=> .inr ⟨_,HGET.out,by rw [show colV (Ri.r _) c=_ from HC2.out];rw [hq] at h;exact of_decide_eq_false h⟩⟩
          generalize cmpV ⟨yk,yj,yt⟩ ⟨tk,tj,tt⟩=z at *;have i1:(0:Int) < j:=by omega
          have i3:(0:Int)<=(j':Int):=by omega
          have i4:IntKind.i64.wrap ((j:Int) - 1)=j':=by rw [show (j:Int) - 1=j' by omega];exact IntWalk.i64_in _ (by omega)
          have i5:(j':Int) < m:=by omega
          have hul:=World.block_lt_of_cell? wr _ u0;have hsl2:=World.block_lt_of_cell? wr _ s0;clear hr hsl e1 e2 hyv hn1 hm1' hget hjl hj' hyr;go_region_held3 (λ w'=> Below wr.heap.size wr w'/\∀b o,b < wr.heap.size->w'.cell? ⟨b,o,none⟩=wr.cell? ⟨b,o,none⟩)
           (first | assumption | exact S_of (Below.drew (Below.refl _ _)) | exact S_step (by assumption) (by assumption))
           (first | ((with_reducible refine (HK.out _).mono ?_);rintro e w1 ⟨rfl,hb1⟩))
          all_goals
           rename_i hH
           have Hb:=Lib.hid hH.1;clear hH;go_step;go_step;go_meet;exact ⟨_,rfl,Lib.hid (HQ.out _ rfl),Hb⟩
        · obtain rfl:j=0:=by omega
          go_quiet (fail);go_step;go_step;go_meet;exact ⟨false,rfl,Lib.hid ⟨λ h=> (by cases h),λ _=> .inl rfl⟩,Lib.hid (below_drewN _ _)⟩
       obtain ⟨q,rfl,Hq,Hb⟩:=hcut;have Hj2:=Lib.hid (Hj.out.mono Hb.out);clear Hb Hj x0 x1 x2 x3 x4 x5 xl;cases q with
       | true=>
        have hj0:0 < j:=by obtain ⟨y,h, -⟩:=Hq.out.1 rfl;exact h
        obtain ⟨j',rfl⟩:∃j',j=j'+1:=⟨j - 1,by omega⟩
        have Hd2:Hid (∀y∈M.drop j',cmpV ⟨yk,yj,yt⟩ (colV y.r c) < 0):=by
         obtain ⟨y, -,h1,h2⟩:=Hq.out.1 rfl;obtain ⟨h3,h4⟩:=List.getElem?_eq_some_iff.1 h1;intro z hz;rw [List.drop_eq_getElem_cons (show j' < M.length from h3)] at hz;rcases List.mem_cons.1 hz with rfl | hz
         · rw [show M[j']=y from h4];exact h2
         · exact Hd.out z hz
        clear Hq Hd hj0;go_wp2;go_roundw
        case rel=> exact ⟨j',by omega,by go_num,Hd2,Hj2⟩
        case measure=> simp [intOf]
       | false=>
        have hins:=insR_at (c:=c) (x:=⟨xid,some ⟨rb,ro,none⟩,xn,xc,xr⟩) HSORT.out j (by rw [HM.out];exact hjm) (λ y hy=> by rw [show colV (Ri.r _) c=_ from HCOL.out];exact Hd.out y hy) ((Hq.out.2 rfl).imp_right λ ⟨y,h1,h2⟩=> ⟨y,h1,by rw [show colV (Ri.r _) c=_ from HCOL.out];exact h2⟩);have HNEW:Hid (rngR c (l.take (k+1))=M.take j++⟨xid,some ⟨rb,ro,none⟩,xn,xc,xr⟩::M.drop j):=by
         have hq:rgV (colV xr c) nlV nlV=true:=by rw [HCOL.out];simp [rgV,nlV,HK0.out]
         have e:=HSN.out;simp only [hq,if_true] at e;show _=_;rw [e,hins]
        clear hins Hq Hd;go_upto_region 12 with (fail)
        refine rRr12 (w0:=w0) (fp0:=fp0) oa m oc j (riV M) (blkA b11 29 #[.int .i64 yk, .int .i64 yj, .string yt]::blkA b7 29 #[.int .i64 0, .int .i64 0, .string txN]::blkA b6 29 #[.int .i64 0, .int .i64 0, .string txN]::blkA b4 37 #[.int .i64 cols, .slice (some ⟨lb,lo,none⟩) n lc, .int .i64 next]::R) HAD.out.1 HAD.out.2.1 hjm HAD.out.2.2 (riV_oc M) (by omega) rfl (by kernel_rfl) rfl rfl rfl rfl ?_ ?_
        · exact (St.emp.2 ((Hj2.out.perm (List.Perm.swap _ _ _)))).perm (List.Perm.swap _ _ _)
        intro u13 u83 u87 wa ⟨ua,un,uc,e87⟩ e13 ha;have e13b:u13=u87:=by rw [e13,e87];rfl
        subst e13b;clear e13;have Ha:=Lib.hid ha;subst e87;clear ha Hj2;simp only [putL,List.foldl,Act.put,List.setIfInBounds_toArray,List.set_cons_succ,List.set_cons_zero];go_upto_region 13 with (fail)
        refine rRr13 (w0:=w0) (fp0:=fp0) (R:=blkA b11 29 #[.int .i64 yk, .int .i64 yj, .string yt]::blkA b7 29 #[.int .i64 0, .int .i64 0, .string txN]::blkA b6 29 #[.int .i64 0, .int .i64 0, .string txN]::R) b4 cols lb lo n lc k m oc j xn xc next xid oa (some ⟨rb,ro,none⟩) (riV M) (.slice ua un uc) HAD.out.1 HAD.out.2.1 hjm HAD.out.2.2 hk (riV_oc M) (by omega) (λ L w h=> hlx.out (L++[_,_,_]) w (by rw [List.append_assoc];exact h)) rfl (by kernel_rfl) rfl rfl rfl rfl rfl rfl rfl ?_ ?_
        · exact (St_re (L:=[_,_,_,_,_,_,_]) (St.emp.2 Ha.out) [6,1,0,2,3,4,5] [] (by kernel_rfl))
        intro u9 u96 u97 u99 wb ⟨b96,e96⟩ ⟨a97,n97,c97,e97⟩ ⟨a99,n99,c99,e99⟩ e9 hb;have hf:St w0 fp0 (rowA 56 2 u99 (m+1) ((riV M).take (j * 2)++[.int .i64 xid, .slice (some ⟨rb,ro,none⟩) xn xc]++(riV M).drop (j * 2))::blkA b7 29 #[.int .i64 0, .int .i64 0, .string txN]::blkA b6 29 #[.int .i64 0, .int .i64 0, .string txN]::blkA b4 37 #[.int .i64 cols, .slice (some ⟨lb,lo,none⟩) n lc, .int .i64 next]::R) wb:=(St_re (L:=[_,_,_,_,_,_,_]) hb [2,3,4,1,5,6,0] [] (by kernel_rfl)).drop.drop.drop;have e9b:u9=u99:=by rw [e9,e99];rfl
        subst e9b;subst e96 e97 e99;have HF:Hid (St w0 fp0 (riA (.slice a99 n99 c99) (rngR c (l.take (k+1)))::blkA b7 29 #[.int .i64 0, .int .i64 0, .string txN]::blkA b6 29 #[.int .i64 0, .int .i64 0, .string txN]::blkA b4 37 #[.int .i64 cols, .slice (some ⟨lb,lo,none⟩) n lc, .int .i64 next]::R) wb):=by rw [riV_take,riV_drop] at hf;show St _ _ _ _;rw [HNEW.out];unfold riA;rw [riV_append,show (M.take j++(⟨xid,some ⟨rb,ro,none⟩,xn,xc,xr⟩:Ri)::M.drop j).length=m+1 by rw [List.length_append,List.length_cons,List.length_take,List.length_drop,HM.out,Nat.min_eq_left hjm];omega];rw [List.append_assoc] at hf;exact hf
        clear hb hf e9 Ha HNEW;simp only [putL,List.foldl,Act.put,List.setIfInBounds_toArray,List.set_cons_succ,List.set_cons_zero];go_wp2;go_roundg (gk - 1)
        case rel=> exact ⟨k+1,by go_num,by have:=Hgk.out;omega,HF⟩
        case measure=> have:=Hgk.out;omega
  · obtain rfl:k=n:=by omega
    obtain ⟨oa,oc,rfl⟩:∃a c',u9=.slice a (rngR c (l.take k)).length c':=by obtain ⟨_,hr⟩:=Hs.out.has 0 rfl;exact (riA_sl hr).shape
    have HF:Hid (St w0 fp0 (riA (.slice oa (rngR c (l.take k)).length oc) (rngR c l)::R) wr):=by have h:=Hs.out;have e:l.take k=l:=List.take_of_length_le (by rw [HN.out];exact Nat.le_refl _);have h2:=(St_re (L:=[_,_,_,_]) h [1,2,3,0] [] (by kernel_rfl)).drop.drop.drop;rw [e] at h2 ⊢;exact h2
    generalize (rngR c (l.take k)).length=m at *;clear Hs hgk hk;go_wp2;go_ret;exact ⟨_,rfl,HF.out⟩
def keepA (S cols:Nat) (I:List (List Int)) (es0:List Re) (N:Nat):Asn:=exA λ q:(LL×Int)×Sto×List Asn=> starA (pureA (q.2.1.Ok cols I q.1.1 q.1.2/\q.1.1.length<=N/\∀x∈es0,x∈q.2.1.es\/reA x∈q.2.2)::(stoL S q.2.1++q.2.2))
theorem St.keep {w0 w:World} {fp0:List Nat} {R:List Asn} {S cols:Nat} {I:List (List Int)} {es0:List Re} {N:Nat}:St w0 fp0 (keepA S cols I es0 N::R) w↔∃L next s M,s.Ok cols I L next/\L.length<=N/\(∀x∈es0,x∈s.es\/reA x∈M)/\St w0 fp0 (stoL S s++(M++R)) w:=by
 constructor
 · intro h
   obtain ⟨⟨⟨L,next⟩,s,M⟩,h1⟩:=St.exE h;obtain ⟨⟨h2,h3,h4⟩,h5⟩:=St.pure.1 (St.star.1 h1);exact ⟨L,next,s,M,h2,h3,h4,by rw [show stoL S s++(M++R)=(stoL S s++M)++R from (List.append_assoc _ _ _).symm];exact h5⟩
 · rintro ⟨L,next,s,M,h1,h2,h3,h4⟩
   exact St.exI ((L,next),s,M) (St.star.2 (St.pure.2 ⟨⟨h1,h2,h3⟩,by show St w0 fp0 ((stoL S s++M)++R) w;rw [List.append_assoc];exact h4⟩))
theorem St.keep_of {w0 w:World} {fp0:List Nat} {R:List Asn} {S cols:Nat} {I:List (List Int)} {L:LL} {next:Int} {s:Sto} {N:Nat} (hok:s.Ok cols I L next) (hl:L.length<=N) (h:St w0 fp0 (stoL S s++R) w):St w0 fp0 (keepA S cols I s.es N::R) w:=
 St.keep.2 ⟨L,next,s,[],hok,hl,λ _ hx=> .inl hx,h⟩
theorem keep_rd {w0 w:World} {fp0:List Nat} {R:List Asn} {S cols:Nat} {I:List (List Int)} {L0:LL} {next0:Int} {s0:Sto} {N:Nat} (hok0:s0.Ok cols I L0 next0) (h:St w0 fp0 (keepA S cols I s0.es N::R) w):∀e∈s0.es,ValsAt w e.r (encV e.va):=by
 obtain ⟨L,next,s,M,hok, -,hk,hs⟩:=St.keep.1 h;intro e he;rcases hk e he with h1 | h1
 · obtain ⟨f,hf⟩:=hs.star_of
   exact re_at hok hf h1
 · obtain ⟨f,hf⟩:=hs.hasM (A:=reA e) (List.mem_append_right _ (List.mem_append_left _ h1))
   have hm:(e.id,e.r)∈L0:=by rw [<-hok0.rows];exact List.mem_map.2 ⟨_,he,rfl⟩
   exact ⟨row_sl hf (length_flat _),λ v hv=> by have:=((hok0.row _ hm).2.2.s v hv).2;unfold maxLen;omega⟩
theorem keep_put {S cols:Nat} {I:List (List Int)} {es0:List Re} {N:Nat} (hc:cols<=1000000) (hN:N < 1099511627775) (id:Int) (r:Rw) (v:Value) (hid:I64 id) (hri:∀v∈r,I64 v.int) (w0 w:World) (fp0:List Nat) (R:List Asn) (hv:Rd w0 fp0 R λ w=> ValsAt w r v) (hS:St w0 fp0 (keepA S cols I es0 N::R) w):
 Calls Tryz.prog 20 #[ptrV S, .int .i64 id,v] w λ e w'=> (∃u,e=.returned u)/\St w0 fp0 (keepA S cols I es0 (N+1)::R) w':=by
 obtain ⟨L,next,s,M,hok,hl,hk,hs⟩:=St.keep.1 hS;refine (SPutS_calls S cols I L next id r v hid hri hc (by omega) w0 w fp0 (M++R) (hv.app M) s hok hs).mono ?_;rintro e w' ⟨rfl,s',M',h1,h2,h3⟩;refine ⟨⟨_,rfl⟩,St.keep.2 ⟨_,_,s',M'++M,h1,?_,λ x hx=> ?_,by rw [List.append_assoc];exact h3⟩⟩
 · unfold putLL
   split
   · have:=putL_len id r L
     omega
   · omega
 · rcases hk x hx with h | h
   · exact (h2 x h).imp (λ h=> h) (λ h=> List.mem_append_left _ h)
   · exact .inr (List.mem_append_right _ h)
theorem keep_del {S cols:Nat} {I:List (List Int)} {es0:List Re} {N:Nat} (hc:cols<=1000000) (hN:N < 1099511627775) (id:Int) (hid:I64 id) (w0 w:World) (fp0:List Nat) (R:List Asn) (hS:St w0 fp0 (keepA S cols I es0 N::R) w):
 Calls Tryz.prog 21 #[ptrV S, .int .i64 id] w λ e w'=> (∃u,e=.returned u)/\St w0 fp0 (keepA S cols I es0 (N+1)::R) w':=by
 obtain ⟨L,next,s,M,hok,hl,hk,hs⟩:=St.keep.1 hS;refine (SDeleteS_calls S cols I L next id hid hc (by omega) w0 w fp0 (M++R) s hok hs).mono ?_;rintro e w' ⟨v,rfl,s',h1,h2,h3⟩;refine ⟨⟨_,rfl⟩,St.keep.2 ⟨_,_,s',_::M,h1,?_,λ x hx=> ?_,h3.perm List.perm_middle.symm⟩⟩
 · have:=delL_len id L
   omega
 · rcases hk x hx with h | h
   · exact (h2 x h).imp (λ h=> h) (λ h=> by rw [h];exact List.mem_cons_self ..)
   · exact .inr (List.mem_cons_of_mem _ h)
theorem Rg.Ob.callX (G:Rg) (i k1 k2:Nat) (PL:Asn->Asn->(Nat->Value)->List Asn) (PN:Asn->Asn->(Nat->Value)->Value->List Asn) {f:Nat} {args:(Nat->Value)->Array Value}
 (hc:∀X Y g w,St G.w0 G.fp0 (PL X Y g++G.R) w->Calls G.P f (args g) w λ e w'=> ∃v,e=.returned v/\G.shp i g v=v/\St G.w0 G.fp0 (PN X Y g v++G.R) w')
 (hr:∀a w,(execOp (G.env i a) (opAt G.ops i)).run G.P w=.ok (.enter f (args (slots a))) w:=by intro _ _;exact kr (by kernel_rfl)) (hL:∀L g,(G.pcs.map λ p=> p.at (lk (closOf G.ops) i L) g)=PL ((G.pcs.map λ p=> p.at (lk (closOf G.ops) i L) g).getD k1 emp) ((G.pcs.map λ p=> p.at (lk (closOf G.ops) i L) g).getD k2 emp) g:=by intro _ _;exact kr (by kernel_rfl))
 (hN:∀L g v,(G.pcs.map λ p=> p.at (ln (closOf G.ops) i L) (sput g (dstOf G.ops i) v))=PN ((G.pcs.map λ p=> p.at (lk (closOf G.ops) i L) g).getD k1 emp) ((G.pcs.map λ p=> p.at (lk (closOf G.ops) i L) g).getD k2 emp) g v:=by intro _ _ _;exact kr (by kernel_rfl))
 (hw:∀a,wantE G.ops (opAt G.ops i) (G.env i a)=some true:=by intro _;exact kr (by kernel_rfl)):G.Ob i:=by
 intro o ho L a w hsz he hS;have hd:o.dst=dstOf G.ops i:=by rw [dstOf,ho];rfl
 have hw':=hw a;have h':=hr a w;rw [opAt_eq ho] at hw' h';rw [hw',h',hd];unfold stP at hS;rw [hL] at hS;refine Calls.mono (hc _ _ (slots a) w hS) λ e w' h=> ?_;obtain ⟨v,rfl,h1,h2⟩:=h;refine ⟨_,rfl,G.shp_of h1,?_⟩;unfold stP;rw [hN];exact h2
theorem run_indexArr {P:Program} {w:World} {t e:TypeId} {b o n m s:Nat} (hu:P.underlying t=some (.array n e)) (hz:(sizeOf e).run P w=.ok s w) (hm:m < n):(Instr.indexAt t (.pointer (some ⟨b,o,none⟩)) (.int .i64 m)).run P w=.ok (.pointer (some ⟨b,o+m * s,none⟩)) w:=by
 have h1:(0:Int)<=(m:Int)/\(m:Int) < (n:Int):=by omega
 simp [Instr.indexAt,asIntOf,Instr.sureAddr,run_underlying hu,hz,h1,hm,Addr.add]
theorem Rg.Ob.indexA (G:Rg) (i b o n m s:Nat) (hm:m < n) {t e:TypeId} {x y:Operand} (hop:(opAt G.ops i).op=.indexAddr t x y:=by rfl) (hu:G.P.underlying t=some (.array n e):=by rfl) (hz:∀w,(sizeOf e).run G.P w=.ok s w:=by intro _;exact kr (by kernel_rfl)) (hx:∀a,G.env i a x=.pointer (some ⟨b,o,none⟩):=by intro _;exact kr (by kernel_rfl)) (hy:∀a,G.env i a y=.int .i64 m:=by intro _;exact kr (by kernel_rfl)) (hv:∀g,G.valD i g=.pointer (some ⟨b,o+m * s,none⟩):=by intro _;exact kr (by kernel_rfl))
 (hq:(G.quiet i G.pcs.length && G.okV i)=true:=by exact kr (by kernel_rfl)) (hw:∀a,wantE G.ops (opAt G.ops i) (G.env i a)=some true:=by intro _;exact kr (by kernel_rfl)):G.Ob i:=Rg.Ob.read G i hq hw λ L a w _ _=> by
 simp only [execOp,hop,hx,hy,Sem.run_bind,run_indexArr hu (hz w) hm,Result.andThen_ok,Sem.run_pure,hv]
theorem exec_loadA {P:Program} {o:Oper} {env:Operand->Value} {w:World} {ty:TypeId} {x:Operand} {b off:Nat} {u:Value} (hop:o.op=.load ty x) (ha:(isAgg ty).run P w=.ok false w) (hx:env x=.pointer (some ⟨b,off,none⟩)) (hc:w.cell? ⟨b,off,none⟩=some u):(execOp env o).run P w=.ok (.value u) w:=by
 simp only [execOp,hop,hx,Sem.run_bind,run_load1 ha hc,Result.andThen_ok,Sem.run_pure]
def v1V:Vl:=⟨1,1,⟨#[]⟩⟩
theorem v1_s:RowS [v1V]:=λ v hv=> by
 rw [List.mem_singleton.1 hv];exact ⟨by unfold I64 v1V;decide,by decide⟩
theorem box_ints {w:World} {f:List Nat} {v:Value} (h:(boxA 3 v (.int .i64 0)).p w f):IntsX [] w [0] (.slice (some ⟨pb v,0,none⟩) 1 1):=by
 obtain ⟨vb,rfl,h1, -⟩:=h;exact SlX.of_blk (X:=[]) h1 (by simp) (by show 1<=maxLen;unfold maxLen;omega) rfl
theorem box_vals {w:World} {f:List Nat} {v:Value} (h:(boxsA 29 v #[.int .i64 1, .int .i64 1, .string ⟨#[]⟩]).p w f):ValsAt w [v1V] (.slice (some ⟨pb v,0,none⟩) 1 1):=by
 obtain ⟨vb,rfl,h1, -⟩:=h;exact ⟨SlX.of_blk (X:=[]) (n:=1) (size:=3) h1 (by simp) (by unfold maxLen;omega) rfl,λ y hy=> by rw [List.mem_singleton.1 hy];exact Nat.zero_le _⟩
theorem new_all {S cols:Nat} {I:List (List Int)} (hc:cols<=1000000) (w:World):Calls Tryz.prog 16 #[ptrV S] w λ e w2=> ∃v f,e=.returned v/\(iterA v S cols I λ L=> L).p w2 f/\Below w.heap.size w w2/\∀k∈f,w.heap.size<=k:=
 (All_it S cols I hc w w [] [] (St.start (L:=[]) (fp:=[]) rfl)).mono λ _ _ ⟨v,h1,h2⟩=> let ⟨f,a,b,c⟩:=piece_of h2;⟨v,f,h1,a,b,c⟩
theorem new_rng {S cols:Nat} {I:List (List Int)} (hc:cols<=1000000) (h0:0 < cols) (w:World):Calls Tryz.prog 17 #[ptrV S, .int .i64 ((0:Nat):Int),nlV.val,nlV.val] w λ e w2=> ∃v f,e=.returned v/\(iterA v S cols I (rngL ((0:Nat):Int) nlV nlV)).p w2 f/\Below w.heap.size w w2/\∀k∈f,w.heap.size<=k:=
 (Range_it S cols I hc 0 h0 nlV nlV (by kernel_rfl) (by unfold I64 nlV;decide) w w [] [] (St.start (L:=[]) (fp:=[]) rfl)).mono λ _ _ ⟨v,h1,h2⟩=> let ⟨f,a,b,c⟩:=piece_of h2;⟨v,f,h1,a,b,c⟩
theorem box_look {S cols:Nat} {I:List (List Int)} {L:LL} {next:Int} {x y:Value} (hc:cols<=1000000) (w0 w:World) (fp0:List Nat) (R:List Asn) (h:St w0 fp0 (boxA 3 x (.int .i64 0)::boxsA 29 y #[.int .i64 1, .int .i64 1, .string ⟨#[]⟩]::storeA S cols I L next::R) w):
 Calls Tryz.prog 15 #[ptrV S, .slice (some ⟨pb x,0,none⟩) 1 1, .slice (some ⟨pb y,0,none⟩) 1 1] w λ e w'=> ∃v,e=.returned v/\St w0 fp0 (iterA v S cols I (lookL cols [0] [v1V])::boxA 3 x (.int .i64 0)::boxsA 29 y #[.int .i64 1, .int .i64 1, .string ⟨#[]⟩]::storeA S cols I L next::R) w':=by
 refine (Lookup_it S cols I L next hc _ _ (by decide) (by decide) v1_s w0 w fp0 (boxA 3 x (.int .i64 0)::boxsA 29 y #[.int .i64 1, .int .i64 1, .string ⟨#[]⟩]::R) (Rd.of_piece 0 rfl λ _ _ h=> box_ints h) (Rd.of_piece 1 rfl λ _ _ h=> box_vals h) (St_re (L:=[_,_,_]) h [2,0,1] [] (by kernel_rfl))).mono ?_;rintro e w' ⟨v,rfl,h2⟩;exact ⟨v,rfl,St_re (L:=[_,_,_,_]) h2 [0,2,3,1] [] (by kernel_rfl)⟩
def gSn8 (b7 S cols:Nat) (I:List (List Int)) (L:LL) (next:Int):=rgx Tryz.prog Tryz.f7 8 168 [43,44,45,46,47,48,49,50,51,52,53,10,11,12] [(7,pV b7 0)] (Vq 0 43 [Kp S 0]++Vq 2 45 [Kp S 0,Vf.box,Kv (.agg #[.int .i64 1, .int .i64 1, .string ⟨#[]⟩]),Vf.box]++Vq 7 50 [Kp S 0,Kv (.agg #[.int .i64 0, .int .i64 0, .string ⟨#[]⟩]),Kv (.agg #[.int .i64 0, .int .i64 0, .string ⟨#[]⟩])]++Vq 11 10 [Fv [44] λ g=> g 44,Fv [49] λ g=> g 49,Fv [53] λ g=> g 53]) [Bk b7 (34) [pV S 0], .all (storeA S cols I L next), .new 1 [44] λ g=> iterA (g 44) S cols I (λ L=> L), .new 3 [46] λ g=> boxA 3 (g 46) (.int .i64 0), .new 5 [48] λ g=> boxsA 29 (g 48) #[.int .i64 1, .int .i64 1, .string ⟨#[]⟩], .new 6 [49] λ g=> iterA (g 49) S cols I (lookL cols [0] [v1V]), .new 10 [53] λ g=> iterA (g 53) S cols I (rngL ((0:Nat):Int) nlV nlV)]
theorem rSn8 (b7 S cols:Nat) (I:List (List Int)) (L:LL) (next:Int) (w0:World) (fp0:List Nat) (R:List Asn) (hc:cols<=1000000) (h0:0 < cols) {w:World} {c:Code} {a:Act} {Q:Exit->Act->World->Prop} (c1:isReg c=true) (c2:cops c=opsR Tryz.f7 8) (c3:a.tmps.size=168) (_c4:a.defers=a.defers) (i7:a.eval (.tmp 7)=.pointer (some ⟨b7,0,none⟩))
 (hS:St w0 fp0 ([blkA b7 (34) #[.pointer (some ⟨S,0,none⟩)],storeA S cols I L next,emp,emp,emp,emp,emp]++R) w)
 (hQ:∀(u44 u46 u48 u49 u53:Value) (w1:World),(∃b,u46=.slice (some ⟨b,0,none⟩) 1 1)->(∃b,u48=.slice (some ⟨b,0,none⟩) 1 1)->St w0 fp0 ([blkA b7 (34) #[.pointer (some ⟨S,0,none⟩)],storeA S cols I L next,iterA (u44) S cols I (λ L=> L),boxA 3 (u46) (.int .i64 0),boxsA 29 (u48) #[.int .i64 1, .int .i64 1, .string ⟨#[]⟩],iterA (u49) S cols I (lookL cols [0] [v1V]),iterA (u53) S cols I (rngL ((0:Nat):Int) nlV nlV)]++R) w1->Q .normal (putL a [(43, .pointer (some ⟨S,0,none⟩)),(44,u44),(45, .pointer (some ⟨S,0,none⟩)),(46,u46),(47, .agg #[.int .i64 1, .int .i64 1, .string ⟨#[]⟩]),(48,u48),(49,u49),(50, .pointer (some ⟨S,0,none⟩)),(51, .agg #[.int .i64 0, .int .i64 0, .string ⟨#[]⟩]),(52, .agg #[.int .i64 0, .int .i64 0, .string ⟨#[]⟩]),(53,u53),(10,u44),(11,u49),(12,u53)]) w1):c.wp Tryz.prog Q a w:=by
 have ok:(gSn8 b7 S cols I L next w0 fp0 R).Ok 14:=Rg.ok _ 14 [0,1,2,3,4,5,6,7,10] ⟨.load _ 0 0 0, .callNew2 _ 1 2 (f:=16) (args:=λ g=> #[ptrV S]) (λ _ v=> iterA (v) S cols I (λ L=> L)) (λ L a w hS=> (new_all hc w).mono λ e w2 ⟨v,f,h1,h2,h3,h4⟩=> ⟨v,f,h1,rfl,h2,h3,h4⟩), .load _ 2 0 0, .box _ 3 3 rfl, .askR _ 4 (λ L w _=> number39_calls 1 w), .boxs _ 5 4, .callX _ 6 2 6 (f:=15) (args:=λ g=> #[ptrV S, .slice (some ⟨pb (g 46),0,none⟩) 1 1, .slice (some ⟨pb (g 48),0,none⟩) 1 1]) (λ X Y g=> [blkA b7 34 #[.pointer (some ⟨S,0,none⟩)],storeA S cols I L next,X,boxA 3 (g 46) (.int .i64 0),boxsA 29 (g 48) #[.int .i64 1, .int .i64 1, .string ⟨#[]⟩],emp,Y]) (λ X Y g v=> [blkA b7 34 #[.pointer (some ⟨S,0,none⟩)],storeA S cols I L next,X,boxA 3 (g 46) (.int .i64 0),boxsA 29 (g 48) #[.int .i64 1, .int .i64 1, .string ⟨#[]⟩],iterA (v) S cols I (lookL cols [0] [v1V]),Y]) (λ X Y g w h=> (box_look hc w0 w fp0 _ (St_re (L:=[_,_,_,_,_,_,_]) h [3,4,1,0,2,6,5] [] (by kernel_rfl))).mono λ e w2 ⟨v,h1,h2⟩=> ⟨v,h1,rfl,(St_re (L:=[_,_,_,_,_,_,_,_]) h2 [7,4,3,5,1,2,0,6] [] (by kernel_rfl)).drop⟩), .load _ 7 0 0, .callNew2 _ 10 6 (f:=17) (args:=λ g=> #[ptrV S, .int .i64 ((0:Nat):Int),nlV.val,nlV.val]) (λ _ v=> iterA (v) S cols I (rngL ((0:Nat):Int) nlV nlV)) (λ L a w hS=> (new_rng hc h0 w).mono λ e w2 ⟨v,f,h1,h2,h3,h4⟩=> ⟨v,f,h1,rfl,h2,h3,h4⟩),trivial⟩;refine wp_regD ok (by kernel_rfl) ⟨c1,c2⟩ ⟨c3,λ p hp=> ?_⟩ hS λ A1 w1 N1 H1=> ?_
 · simp only [gSn8,rgx,List.map_nil,List.append_nil,List.mem_cons,List.not_mem_nil,or_false] at hp
   subst hp
   · exact i7
 exact N1.fin [44,46,48,49,53] (hQ (slots A1 44) (slots A1 46) (slots A1 48) (slots A1 49) (slots A1 53) w1 ⟨_,(N1.val 2 rfl)⟩ ⟨_,(N1.val 4 rfl)⟩ H1) (by kernel_rfl)
def gSn26 (b7 S cols:Nat) (I:List (List Int)) (L:LL) (next:Int):=rgx Tryz.prog Tryz.f7 26 168 [113,114,115,116,117,16] [(7,pV b7 0)] (Vq 0 113 [Kp S 0,Vf.box,Kv (.agg #[.int .i64 1, .int .i64 1, .string ⟨#[]⟩]),Vf.box]++Vq 5 16 [Fv [117] λ g=> g 117]) [Bk b7 (34) [pV S 0], .all (storeA S cols I L next), .new 1 [114] λ g=> boxA 3 (g 114) (.int .i64 0), .new 3 [116] λ g=> boxsA 29 (g 116) #[.int .i64 1, .int .i64 1, .string ⟨#[]⟩], .new 4 [117] λ g=> iterA (g 117) S cols I (lookL cols [0] [v1V])]
theorem rSn26 (b7 S cols:Nat) (I:List (List Int)) (L:LL) (next:Int) (w0:World) (fp0:List Nat) (R:List Asn) (hc:cols<=1000000) {w:World} {c:Code} {a:Act} {Q:Exit->Act->World->Prop} (c1:isReg c=true) (c2:cops c=opsR Tryz.f7 26) (c3:a.tmps.size=168) (_c4:a.defers=a.defers) (i7:a.eval (.tmp 7)=.pointer (some ⟨b7,0,none⟩))
 (hS:St w0 fp0 ([blkA b7 (34) #[.pointer (some ⟨S,0,none⟩)],storeA S cols I L next,emp,emp,emp]++R) w)
 (hQ:∀(u114 u116 u117:Value) (w1:World),(∃b,u114=.slice (some ⟨b,0,none⟩) 1 1)->(∃b,u116=.slice (some ⟨b,0,none⟩) 1 1)->St w0 fp0 ([blkA b7 (34) #[.pointer (some ⟨S,0,none⟩)],storeA S cols I L next,boxA 3 (u114) (.int .i64 0),boxsA 29 (u116) #[.int .i64 1, .int .i64 1, .string ⟨#[]⟩],iterA (u117) S cols I (lookL cols [0] [v1V])]++R) w1->Q .normal (putL a [(113, .pointer (some ⟨S,0,none⟩)),(114,u114),(115, .agg #[.int .i64 1, .int .i64 1, .string ⟨#[]⟩]),(116,u116),(117,u117),(16,u117)]) w1):c.wp Tryz.prog Q a w:=by
 have ok:(gSn26 b7 S cols I L next w0 fp0 R).Ok 6:=Rg.ok _ 6 [0,1,2,3,4] ⟨.load _ 0 0 0, .box _ 1 2 rfl, .askR _ 2 (λ L w _=> number39_calls 1 w), .boxs _ 3 3, .callG _ 4 (f:=15) (args:=λ g=> #[ptrV S, .slice (some ⟨pb (g 114),0,none⟩) 1 1, .slice (some ⟨pb (g 116),0,none⟩) 1 1]) (λ g=> [blkA b7 34 #[.pointer (some ⟨S,0,none⟩)],storeA S cols I L next,boxA 3 (g 114) (.int .i64 0),boxsA 29 (g 116) #[.int .i64 1, .int .i64 1, .string ⟨#[]⟩],emp]) (λ g v=> [blkA b7 34 #[.pointer (some ⟨S,0,none⟩)],storeA S cols I L next,boxA 3 (g 114) (.int .i64 0),boxsA 29 (g 116) #[.int .i64 1, .int .i64 1, .string ⟨#[]⟩],iterA (v) S cols I (lookL cols [0] [v1V])]) (λ g w h=> (box_look hc w0 w fp0 _ (St_re (L:=[_,_,_,_,_]) h [2,3,1,0,4] [] (by kernel_rfl))).mono λ e w2 ⟨v,h1,h2⟩=> ⟨v,h1,rfl,(St_re (L:=[_,_,_,_,_,_]) h2 [5,4,3,1,2,0] [] (by kernel_rfl)).drop⟩),trivial⟩;refine wp_regD ok (by kernel_rfl) ⟨c1,c2⟩ ⟨c3,λ p hp=> ?_⟩ hS λ A1 w1 N1 H1=> ?_
 · simp only [gSn26,rgx,List.map_nil,List.append_nil,List.mem_cons,List.not_mem_nil,or_false] at hp
   subst hp
   · exact i7
 exact N1.fin [114,116,117] (hQ (slots A1 114) (slots A1 116) (slots A1 117) w1 ⟨_,(N1.val 1 rfl)⟩ ⟨_,(N1.val 3 rfl)⟩ H1) (by kernel_rfl)
theorem Rd.refl {w:World} {Q:World->Prop} (h:∀w',Below w.heap.size w w'->Q w'):Rd w [] [] Q:=λ _L w' hs=> h w' (st_below hs)
theorem new_rlk {cols:Nat} {lv:Value} {next:Int} {m:List Ri} {x y:Value} (hl:m.length < 1099511627775) (hrl:∀x∈m,x.r.length=cols) (w:World) (hm:RiX w m lv) (hx:IntsX [] w [0] x) (hy:ValsAt w [v1V] y):
 Calls Tryz.prog 12 #[rsV cols lv next,x,y] w λ e w2=> ∃a n c f,e=.returned (.slice a n c)/\(riA (.slice a n c) (rlkR cols [0] [v1V] m)).p w2 f/\Below w.heap.size w w2/\∀k∈f,w.heap.size<=k:=by
 refine (RLookup_calls cols lv next m [0] [v1V] x y hl hrl w w [] [] (Rd.refl λ w' hb=> hm.mono hb) (Rd.refl λ w' hb=> hx.mono hb) (Rd.refl λ w' hb=> hy.mono hb) (St.start (L:=[]) (fp:=[]) rfl)).mono ?_;rintro e w2 ⟨v,rfl,h2⟩;obtain ⟨f,a,b,c⟩:=piece_of h2;obtain ⟨va,vc,rfl⟩:=(riA_sl a).shape;exact ⟨va,_,vc,f,rfl,a,b,c⟩
theorem new_rrg {cols:Nat} {lv:Value} {next:Int} {m:List Ri} (hc:0 < cols) (hasc:AscI (riL m)) (hrow:∀x∈m,0 < x.r.length) (hlen:m.length < 1000000) (w:World) (hm:RiX w m lv):
 Calls Tryz.prog 19 #[rsV cols lv next, .int .i64 ((0:Nat):Int),nlV.val,nlV.val] w λ e w2=> ∃a n c f,e=.returned (.slice a n c)/\(riA (.slice a n c) (rngR 0 m)).p w2 f/\Below w.heap.size w w2/\∀k∈f,w.heap.size<=k:=by
 refine (RRange_calls cols 0 lv next m hc hasc hrow hlen w w [] [] (Rd.refl λ w' hb=> hm.mono hb) (St.start (L:=[]) (fp:=[]) rfl)).mono ?_;rintro e w2 ⟨v,rfl,h2⟩;obtain ⟨f,a,b,c⟩:=piece_of h2;obtain ⟨va,vc,rfl⟩:=(riA_sl a).shape;exact ⟨va,_,vc,f,rfl,a,b,c⟩
def gSn12 (b8 cols n lc:Nat) (la:Option Addr) (next:Int) (m:List Ri):=rgx Tryz.prog Tryz.f7 12 168 [66,67,68,69,70,71,72,73,74,75,76,77,14] [(8,pV b8 0)] (Vq 0 66 [Kp b8 1,Kv (.slice la n lc),Kv (.agg #[.int .i64 cols, .slice la n lc, .int .i64 next]),Vf.box,Kv (.agg #[.int .i64 1, .int .i64 1, .string ⟨#[]⟩]),Vf.box,Vf.slice,Kv (.agg #[.int .i64 cols, .slice la n lc, .int .i64 next]),Kv (.agg #[.int .i64 0, .int .i64 0, .string ⟨#[]⟩]),Kv (.agg #[.int .i64 0, .int .i64 0, .string ⟨#[]⟩]),Vf.slice,Fv [72,76] λ g=> .agg #[.slice la n lc, .slice (sa (g 72)) (sn (g 72)) (sc (g 72)), .slice (sa (g 76)) (sn (g 76)) (sc (g 76))]]++Vq 12 14 [Vf.ptr]) [Bk b8 (37) [.int .i64 cols, .slice la n lc, .int .i64 next], .new 3 [69] λ g=> boxA 3 (g 69) (.int .i64 0), .new 5 [71] λ g=> boxsA 29 (g 71) #[.int .i64 1, .int .i64 1, .string ⟨#[]⟩], .new 6 [72] λ g=> riA (g 72) (rlkR cols [0] [v1V] m), .new 10 [76] λ g=> riA (g 76) (rngR 0 m), .gen [12,13] [14] λ L g=> match L 13 with | true=> emp | false=> match L 12 with | true=> atA 53 (g 14) #[.slice none 0 0, .slice none 0 0, .slice none 0 0] | false=> emp, .new 13 [14,72,76] λ g=> atA 53 (g 14) #[.slice la n lc, .slice (sa (g 72)) (sn (g 72)) (sc (g 72)), .slice (sa (g 76)) (sn (g 76)) (sc (g 76))]]
theorem rSn12 (b8 cols n lc:Nat) (la:Option Addr) (next:Int) (m:List Ri) (w0:World) (fp0:List Nat) (R:List Asn) (h0:0 < cols) (hl:m.length < 1099511627775) (hl2:m.length < 1000000) (hrl:∀x∈m,x.r.length=cols) (hrow:∀x∈m,0 < x.r.length) (hasc:AscI (riL m)) (hm:∀L w,St w0 fp0 (L++R) w->RiX w m (.slice la n lc)) {w:World} {c:Code} {a:Act} {Q:Exit->Act->World->Prop} (c1:isReg c=true) (c2:cops c=opsR Tryz.f7 12) (c3:a.tmps.size=168) (_c4:a.defers=a.defers) (i8:a.eval (.tmp 8)=.pointer (some ⟨b8,0,none⟩))
 (hS:St w0 fp0 ([blkA b8 (37) #[.int .i64 cols, .slice la n lc, .int .i64 next],emp,emp,emp,emp,emp,emp]++R) w)
 (hQ:∀(u14 u69 u71 u72 u76 u77:Value) (w1:World),(∃b,u69=.slice (some ⟨b,0,none⟩) 1 1)->(∃b,u71=.slice (some ⟨b,0,none⟩) 1 1)->(∃a n c,u72=.slice a n c)->(∃a n c,u76=.slice a n c)->u77=.agg #[.slice la n lc, .slice (sa (u72)) (sn (u72)) (sc (u72)), .slice (sa (u76)) (sn (u76)) (sc (u76))]->(∃b,u14=.pointer (some ⟨b,0,none⟩))->St w0 fp0 ([blkA b8 (37) #[.int .i64 cols, .slice la n lc, .int .i64 next],boxA 3 (u69) (.int .i64 0),boxsA 29 (u71) #[.int .i64 1, .int .i64 1, .string ⟨#[]⟩],riA (u72) (rlkR cols [0] [v1V] m),riA (u76) (rngR 0 m),emp,atA 53 (u14) #[.slice la n lc, .slice (sa (u72)) (sn (u72)) (sc (u72)), .slice (sa (u76)) (sn (u76)) (sc (u76))]]++R) w1->Q .normal (putL a [(66, .pointer (some ⟨b8,1,none⟩)),(67, .slice la n lc),(68, .agg #[.int .i64 cols, .slice la n lc, .int .i64 next]),(69,u69),(70, .agg #[.int .i64 1, .int .i64 1, .string ⟨#[]⟩]),(71,u71),(72,u72),(73, .agg #[.int .i64 cols, .slice la n lc, .int .i64 next]),(74, .agg #[.int .i64 0, .int .i64 0, .string ⟨#[]⟩]),(75, .agg #[.int .i64 0, .int .i64 0, .string ⟨#[]⟩]),(76,u76),(77,u77),(14,u14)]) w1):c.wp Tryz.prog Q a w:=by
 have ok:(gSn12 b8 cols n lc la next m w0 fp0 R).Ok 14:=Rg.ok _ 14 [1,2,3,4,5,6,7,10,12,13] ⟨.load _ 1 0 1, .run1 _ 2 0 (λ _=> blkA b8 37 #[.int .i64 cols, .slice la n lc, .int .i64 next]) (λ _ _=> blkA b8 37 #[.int .i64 cols, .slice la n lc, .int .i64 next]) (λ L a w fp _ hp=> (by have c0:=(blk_get hp).1 0;have c1:=(blk_get hp).1 1;have c2:=(blk_get hp).1 2;exact ⟨.agg #[.int .i64 cols, .slice la n lc, .int .i64 next],w,fp,load3 rfl (kr (by kernel_rfl)) (kr (by kernel_rfl)) (kr (by kernel_rfl)) c0 c1 c2,kr (by kernel_rfl),hp,Tr.refl _ _⟩)), .box _ 3 1 rfl, .askR _ 4 (λ L w _=> number39_calls 1 w), .boxs _ 5 2, .callNew2 _ 6 3 (f:=12) (args:=λ g=> #[rsV cols (.slice la n lc) next, .slice (some ⟨pb (g 69),0,none⟩) 1 1, .slice (some ⟨pb (g 71),0,none⟩) 1 1]) (λ _ v=> riA v (rlkR cols [0] [v1V] m)) (λ L a w hS=> (by obtain ⟨_,h3⟩:=St.has (A:=boxA 3 (slots a 69) (.int .i64 0)) hS 1 (kr (by kernel_rfl));obtain ⟨_,h4⟩:=St.has (A:=boxsA 29 (slots a 71) #[.int .i64 1, .int .i64 1, .string ⟨#[]⟩]) hS 2 (kr (by kernel_rfl));exact (new_rlk hl hrl w (hm _ w hS) (box_ints h3) (box_vals h4)).mono λ e w2 ⟨a,n,c,f,h1,h2,h3,h4⟩=> ⟨_,f,h1,kr (by kernel_rfl),h2,h3,h4⟩)), .run1 _ 7 0 (λ _=> blkA b8 37 #[.int .i64 cols, .slice la n lc, .int .i64 next]) (λ _ _=> blkA b8 37 #[.int .i64 cols, .slice la n lc, .int .i64 next]) (λ L a w fp _ hp=> (by have c0:=(blk_get hp).1 0;have c1:=(blk_get hp).1 1;have c2:=(blk_get hp).1 2;exact ⟨.agg #[.int .i64 cols, .slice la n lc, .int .i64 next],w,fp,load3 rfl (kr (by kernel_rfl)) (kr (by kernel_rfl)) (kr (by kernel_rfl)) c0 c1 c2,kr (by kernel_rfl),hp,Tr.refl _ _⟩)), .callNew2 _ 10 4 (f:=19) (args:=λ g=> #[rsV cols (.slice la n lc) next, .int .i64 ((0:Nat):Int),nlV.val,nlV.val]) (λ _ v=> riA v (rngR 0 m)) (λ L a w hS=> (new_rrg h0 hasc hrow hl2 w (hm _ w hS)).mono λ e w2 ⟨a,n,c,f,h1,h2,h3,h4⟩=> ⟨_,f,h1,kr (by kernel_rfl),h2,h3,h4⟩), .run1 _ 12 5 (λ _=> emp) (λ _ v=> atA 53 v #[.slice none 0 0, .slice none 0 0, .slice none 0 0]) (λ L a w fp _ hp=> ⟨.pointer (some ⟨w.heap.size,0,none⟩),w.alloc (.cells #[.slice none 0 0, .slice none 0 0, .slice none 0 0] 53),[w.heap.size],kr (by kernel_rfl),kr (by kernel_rfl),⟨w.heap.size,rfl,heap_alloc_new w _,rfl⟩,trNew hp _⟩), .skipG _ 13 (λ g=> [blkA b8 37 #[.int .i64 cols, .slice la n lc, .int .i64 next],boxA 3 (g 69) (.int .i64 0),boxsA 29 (g 71) #[.int .i64 1, .int .i64 1, .string ⟨#[]⟩],riA (g 72) (rlkR cols [0] [v1V] m),riA (g 76) (rngR 0 m),atA 53 (g 14) #[.slice none 0 0, .slice none 0 0, .slice none 0 0],emp]) (λ g=> [blkA b8 37 #[.int .i64 cols, .slice la n lc, .int .i64 next],boxA 3 (g 69) (.int .i64 0),boxsA 29 (g 71) #[.int .i64 1, .int .i64 1, .string ⟨#[]⟩],riA (g 72) (rlkR cols [0] [v1V] m),riA (g 76) (rngR 0 m),emp,atA 53 (g 14) #[.slice la n lc, .slice (sa (g 72)) (sn (g 72)) (sc (g 72)), .slice (sa (g 76)) (sn (g 76)) (sc (g 76))]]) (λ a w h=> (by obtain ⟨b,e,h2⟩:=St.at_open (St_re (L:=[_,_,_,_,_,_,_]) h [5,0,1,2,3,4,6] [] (by kernel_rfl));obtain ⟨_,hb,hk⟩:=h2.get 0 rfl;obtain ⟨w2,f2,h3,h4,h5⟩:=store3 (P:=Tryz.prog) (ty:=53) (v0:=.slice la n lc) (v1:=.slice (sa (slots a 72)) (sn (slots a 72)) (sc (slots a 72))) (v2:=.slice (sa (slots a 76)) (sn (slots a 76)) (sc (slots a 76))) hb (kr (by kernel_rfl)) rfl rfl rfl;exact ⟨w2,exec_store rfl (Eq.trans (b:=Value.pointer (some ⟨pb (slots a 14),0,none⟩)) (kr (by kernel_rfl)) (by rw [e];rfl)) (kr (by kernel_rfl)) h3,St_re (L:=[_,_,_,_,_,_,_]) (hk (atA 53 (slots a 14) #[.slice la n lc, .slice (sa (slots a 72)) (sn (slots a 72)) (sc (slots a 72)), .slice (sa (slots a 76)) (sn (slots a 76)) (sc (slots a 76))]) w2 f2 ⟨b,e,h4⟩ h5) [1,2,3,4,5,6,0] [] (by kernel_rfl)⟩)),trivial⟩;refine wp_regD ok (by kernel_rfl) ⟨c1,c2⟩ ⟨c3,λ p hp=> ?_⟩ hS λ A1 w1 N1 H1=> ?_
 · simp only [gSn12,rgx,List.map_nil,List.append_nil,List.mem_cons,List.not_mem_nil,or_false] at hp
   subst hp
   · exact i8
 exact N1.fin [69,71,72,76,77,14] (hQ (slots A1 14) (slots A1 69) (slots A1 71) (slots A1 72) (slots A1 76) (slots A1 77) w1 ⟨_,(N1.val 3 rfl)⟩ ⟨_,(N1.val 5 rfl)⟩ ⟨_,_,_,(N1.val 6 rfl)⟩ ⟨_,_,_,(N1.val 10 rfl)⟩ (N1.val 11 rfl) ⟨_,(N1.val 12 rfl)⟩ H1) (by kernel_rfl)
def gSn33 (b5:Nat) (lv:Value) (id:Int) (xa:Option Addr) (xn xc m:Nat) (XS V:List Value):=rgx Tryz.prog Tryz.f7 33 168 [123,124,125,126,127,128,129,130] [(17,pV b5 0),(18, .int .i64 id),(19, .slice xa xn xc)] (Vq 0 123 [Kv lv,Kv (.int .i64 id)]++Vq 3 126 [Kv (.slice xa xn xc),Vf.slice,Fv [127] λ g=> .agg #[.int .i64 id, .slice (sa (g 127)) (sn (g 127)) (sc (g 127))],Vf.box,Vf.slice]) [.blk b5 (35) [⟨lv,[(8, .s 130)]⟩], .all (rowA 29 3 (.slice xa xn xc) xn XS), .gen [2,4] [125,127] λ L g=> match L 4 with | true=> rowA 29 3 (g 127) xn XS | false=> match L 2 with | true=> rowA 29 3 (g 125) 0 [] | false=> emp, .new 6 [129,127] λ g=> boxsA 56 (g 129) #[.int .i64 id, .slice (sa (g 127)) (sn (g 127)) (sc (g 127))], .gen [7] [130,127] λ L g=> match L 7 with | true=> rowA 56 2 (g 130) (m+1) (V++[Value.int .i64 id,Value.slice (sa (g 127)) (sn (g 127)) (sc (g 127))]) | false=> rowA 56 2 lv m V]
theorem rSn33 (b5:Nat) (lv:Value) (id:Int) (xa:Option Addr) (xn xc m:Nat) (XS V:List Value) (w0:World) (fp0:List Nat) (R:List Asn) (hx:XS.length=xn * 3) (hx1:∀u∈XS,u.oneCell'=true) (hn:xn < 1099511627776) (hl:m+1 < 1099511627776) {w:World} {c:Code} {a:Act} {l0 n0:Nat} {Q:Exit->Act->World->Prop} (c1:isDrw c=true) (c2:cops c=opsR Tryz.f7 33) (c3:a.tmps.size=168) (c4:a.defers=[]) (i17:a.eval (.tmp 17)=.pointer (some ⟨b5,0,none⟩)) (i18:a.eval (.tmp 18)=.int .i64 id) (i19:a.eval (.tmp 19)=.slice xa xn xc)
 (hS:St w0 fp0 ([blkA b5 (35) #[lv],rowA 29 3 (.slice xa xn xc) xn XS,emp,emp,rowA 56 2 lv m V]++R) w)
 (hq:∀a w,¬ Q .outgrown a w) (hQ:∀(u125 u127 u128 u129 u130:Value) (w1:World),(∃a n c,u127=.slice a n c)->u128=.agg #[.int .i64 id, .slice (sa (u127)) (sn (u127)) (sc (u127))]->(∃b,u129=.slice (some ⟨b,0,none⟩) 1 1)->(∃a n c,u130=.slice a n c)->St w0 fp0 ([blkA b5 (35) #[u130],rowA 29 3 (.slice xa xn xc) xn XS,rowA 29 3 (u127) xn XS,boxsA 56 (u129) #[.int .i64 id, .slice (sa (u127)) (sn (u127)) (sc (u127))],rowA 56 2 (u130) (m+1) (V++[Value.int .i64 id,Value.slice (sa (u127)) (sn (u127)) (sc (u127))])]++R) w1->Q .normal (putL a [(123,lv),(124, .int .i64 id),(125,u125),(126, .slice xa xn xc),(127,u127),(128,u128),(129,u129),(130,u130)]) w1):c.wpIn (Fence.wide.inRound l0) n0 Tryz.prog Q a w:=by
 have ok:(gSn33 b5 lv id xa xn xc m XS V w0 fp0 R).Ok 9:=Rg.ok _ 9 [0,2,4,6,7,8] ⟨.load _ 0 0 0, .runG _ 2 (λ g=> [blkA b5 35 #[lv],rowA 29 3 (.slice xa xn xc) xn XS,emp,emp,rowA 56 2 lv m V]) (λ g v=> [blkA b5 35 #[lv],rowA 29 3 (.slice xa xn xc) xn XS,rowA 29 3 v 0 [],emp,rowA 56 2 lv m V]) (λ a w h=> ⟨.slice (some ⟨w.heap.size,0,none⟩) 0 0,w.alloc (.cells #[] 29),kr (by kernel_rfl),kr (by kernel_rfl),St.emp.1 (St_re (L:=[_,_,_,_,_,_]) h.emptyV [3,1,2,0,4,5] [] (by kernel_rfl))⟩), .appG _ 4 (λ g=> [blkA b5 35 #[lv],rowA 29 3 (.slice xa xn xc) xn XS,rowA 29 3 (g 125) 0 [],emp,rowA 56 2 lv m V]) (λ g v=> [blkA b5 35 #[lv],rowA 29 3 (.slice xa xn xc) xn XS,rowA 29 3 v xn XS,emp,rowA 56 2 lv m V]) (λ ty g w h=> (by obtain ⟨fa,hfa⟩:=h.has 1 rfl;obtain ⟨v,w2,h1,h2⟩:=St.appSrc appVS ty (St_re (L:=[_,_,_,_,_]) h [2,0,1,3,4] [] (by kernel_rfl)) ((SlX.of_row (X:=[]) hfa hx (by simp)).src (tx:=27) (e':=29) (by kernel_rfl) (by decide) hx1) (by omega);rw [Nat.zero_add,List.nil_append] at h2;obtain ⟨_,hr⟩:=h2.has 0 rfl;obtain ⟨a,c,rfl, -⟩:=row_shape hr;exact ⟨_,w2,h1,kr (by kernel_rfl),St_re (L:=[_,_,_,_,_]) h2 [1,2,0,3,4] [] (by kernel_rfl)⟩)), .boxsG _ 6 3, .appG _ 7 (λ g=> [blkA b5 35 #[lv],rowA 29 3 (.slice xa xn xc) xn XS,rowA 29 3 (g 127) xn XS,boxsA 56 (g 129) #[.int .i64 id, .slice (sa (g 127)) (sn (g 127)) (sc (g 127))],rowA 56 2 lv m V]) (λ g v=> [blkA b5 35 #[lv],rowA 29 3 (.slice xa xn xc) xn XS,rowA 29 3 (g 127) xn XS,boxsA 56 (g 129) #[.int .i64 id, .slice (sa (g 127)) (sn (g 127)) (sc (g 127))],rowA 56 2 v (m+1) (V++[Value.int .i64 id,Value.slice (sa (g 127)) (sn (g 127)) (sc (g 127))])]) (λ ty g w h=> (by obtain ⟨fb,hfb⟩:=h.has 3 rfl;obtain ⟨v,w2,h1,h2⟩:=St.appSrc appRI ty (St_re (L:=[_,_,_,_,_]) h [4,0,1,2,3] [] (by kernel_rfl)) (boxs_src (tx:=35) (e':=56) (by kernel_rfl) hfb rfl (by simp;exact ⟨rfl,rfl⟩)) hl;obtain ⟨_,hr⟩:=h2.has 0 rfl;obtain ⟨a,c,rfl, -⟩:=row_shape hr;exact ⟨_,w2,h1,kr (by kernel_rfl),St_re (L:=[_,_,_,_,_]) h2 [1,2,3,4,0] [] (by kernel_rfl)⟩)), .store _ 8 0 0,trivial⟩;refine wpIn_regT hq ok (by kernel_rfl) ⟨c1,c2⟩ ⟨c3,c4,λ p hp=> ?_⟩ hS λ A1 w1 N1 H1=> ?_
 · simp only [gSn33,rgx,List.map_nil,List.append_nil,List.mem_cons,List.not_mem_nil,or_false] at hp
   rcases hp with rfl | rfl | rfl
   · exact i17
   · exact i18
   · exact i19
 exact N1.fin [125,127,128,129,130] (hQ (slots A1 125) (slots A1 127) (slots A1 128) (slots A1 129) (slots A1 130) w1 ⟨_,_,_,(N1.val 3 rfl)⟩ (N1.val 4 rfl) ⟨_,(N1.val 5 rfl)⟩ ⟨_,_,_,(N1.val 6 rfl)⟩ H1) (by kernel_rfl)
def gSn40 (b7 b21 S cols xn xc N:Nat) (kd:Int) (id:Int) (xa:Option Addr) (I:List (List Int)) (es0:List Re) (XS:List Value):=rgx Tryz.prog Tryz.f7 40 168 [147,148,149,150,151,152,153,154] [(7,pV b7 0),(21,pV b21 0)] (Vq 0 147 [Kp S 0,Kp b21 1,Kv (.int .i64 id)]++Vq 4 151 [Kp b21 2,Kv (.slice xa xn xc),Vf.slice]) [Bk b7 (34) [pV S 0],Bk b21 (58) [.int .u8 kd, .int .i64 id, .slice xa xn xc], .gen [3,6] [150,153] λ L g=> match L 6 with | true=> rowA 29 3 (g 153) xn XS | false=> match L 3 with | true=> rowA 29 3 (g 150) 0 [] | false=> emp, .gen [7] [] λ L _g=> match L 7 with | true=> keepA S cols I es0 (N+1) | false=> keepA S cols I es0 (N)]
theorem rSn40 (b7 b21 S cols xn xc N:Nat) (kd:Int) (id:Int) (xa:Option Addr) (I:List (List Int)) (es0:List Re) (XS:List Value) (w0:World) (fp0:List Nat) (R:List Asn) (hsrc:∀L w,St w0 fp0 (L++R) w->Go.Src Tryz.prog 3 27 (.slice xa xn xc) xn XS w) (hn:xn < 1099511627776) (hput:∀v w,St w0 fp0 ([blkA b7 34 #[.pointer (some ⟨S,0,none⟩)],blkA b21 58 #[.int .u8 kd, .int .i64 id, .slice xa xn xc],rowA 29 3 (v) xn XS,keepA S cols I es0 (N)]++R) w->Calls Tryz.prog 20 #[ptrV S, .int .i64 id,v] w λ e w'=> (∃u,e=.returned u)/\St w0 fp0 ([blkA b7 34 #[.pointer (some ⟨S,0,none⟩)],blkA b21 58 #[.int .u8 kd, .int .i64 id, .slice xa xn xc],rowA 29 3 (v) xn XS,keepA S cols I es0 (N+1)]++R) w') {w:World} {c:Code} {a:Act} {l0 n0:Nat} {Q:Exit->Act->World->Prop} (c1:isDrw c=true) (c2:cops c=opsR Tryz.f7 40) (c3:a.tmps.size=168) (c4:a.defers=[]) (i7:a.eval (.tmp 7)=.pointer (some ⟨b7,0,none⟩)) (i21:a.eval (.tmp 21)=.pointer (some ⟨b21,0,none⟩))
 (hS:St w0 fp0 ([blkA b7 (34) #[.pointer (some ⟨S,0,none⟩)],blkA b21 (58) #[.int .u8 kd, .int .i64 id, .slice xa xn xc],emp,keepA S cols I es0 (N)]++R) w)
 (hq:∀a w,¬ Q .outgrown a w) (hQ:∀(u150 u153 u154:Value) (w1:World),(∃a n c,u153=.slice a n c)->St w0 fp0 ([blkA b7 (34) #[.pointer (some ⟨S,0,none⟩)],blkA b21 (58) #[.int .u8 kd, .int .i64 id, .slice xa xn xc],rowA 29 3 (u153) xn XS,keepA S cols I es0 (N+1)]++R) w1->Q .normal (putL a [(147, .pointer (some ⟨S,0,none⟩)),(148, .pointer (some ⟨b21,1,none⟩)),(149, .int .i64 id),(150,u150),(151, .pointer (some ⟨b21,2,none⟩)),(152, .slice xa xn xc),(153,u153),(154,u154)]) w1):c.wpIn (Fence.wide.inRound l0) n0 Tryz.prog Q a w:=by
 have ok:(gSn40 b7 b21 S cols xn xc N kd id xa I es0 XS w0 fp0 R).Ok 8:=Rg.ok _ 8 [0,2,3,5,6,7] ⟨.load _ 0 0 0, .load _ 2 1 1, .run1 _ 3 2 (λ _=> emp) (λ _ v=> rowA 29 3 v 0 []) (λ L a w fp _ hp=> ⟨.slice (some ⟨w.heap.size,0,none⟩) 0 0,w.alloc (.cells #[] 29),[w.heap.size],kr (by kernel_rfl),rfl,row_empty (size:=3) ⟨heap_alloc_new w _,rfl⟩,trNew hp _⟩), .load _ 5 1 2, .run1 _ 6 2 (λ g=> rowA 29 3 (g 150) 0 []) (λ _ v=> rowA 29 3 (v) xn XS) (λ L a w fp hS hp=> (by obtain ⟨v,w2,f2,h1,h2,h3⟩:=appVS (opAt (opsR Tryz.f7 40) 6).type w (slots a 150) 0 [] fp (.slice xa xn xc) xn XS hp (hsrc _ w hS) (by omega);rw [Nat.zero_add,List.nil_append] at h2;obtain ⟨va,vc,rfl, -⟩:=row_shape h2;exact ⟨_,w2,f2,exec_app rfl (kr (by kernel_rfl)) (kr (by kernel_rfl)) h1,kr (by kernel_rfl),h2,h3⟩)), .callG _ 7 (f:=20) (args:=λ g=> #[ptrV S, .int .i64 id, .slice (sa (g 153)) (sn (g 153)) (sc (g 153))]) (λ g=> [blkA b7 34 #[.pointer (some ⟨S,0,none⟩)],blkA b21 58 #[.int .u8 kd, .int .i64 id, .slice xa xn xc],rowA 29 3 (g 153) xn XS,keepA S cols I es0 (N)]) (λ g _=> [blkA b7 34 #[.pointer (some ⟨S,0,none⟩)],blkA b21 58 #[.int .u8 kd, .int .i64 id, .slice xa xn xc],rowA 29 3 (g 153) xn XS,keepA S cols I es0 (N+1)]) (λ g w h=> (by obtain ⟨_,h9⟩:=h.has 2 rfl;obtain ⟨a9,c9,e9, -⟩:=row_shape h9;have e8:Value.slice (sa (g 153)) (sn (g 153)) (sc (g 153))=g 153:=(by rw [e9];rfl);rw [e8];exact (hput (g 153) w h).mono λ e w2 ⟨⟨u,h1⟩,h2⟩=> ⟨u,h1,rfl,h2⟩)),trivial⟩;refine wpIn_regT hq ok (by kernel_rfl) ⟨c1,c2⟩ ⟨c3,c4,λ p hp=> ?_⟩ hS λ A1 w1 N1 H1=> ?_
 · simp only [gSn40,rgx,List.map_nil,List.append_nil,List.mem_cons,List.not_mem_nil,or_false] at hp
   rcases hp with rfl | rfl
   · exact i7
   · exact i21
 exact N1.fin [150,153,154] (hQ (slots A1 150) (slots A1 153) (slots A1 154) w1 ⟨_,_,_,(N1.val 5 rfl)⟩ H1) (by kernel_rfl)
def gSn43 (b17 b14 k:Nat) (gv z0 z1 z2 zv:Value):=rgx Tryz.prog Tryz.f7 43 168 [160,161,162,163,164,165,166] [(17,pV b17 0),(15, .int .i64 k),(14,pV b14 0)] (Vq 0 160 [Kv gv,Kv (.int .i64 k),Kv (.int .i64 ((2 - k:Nat):Int)),Kp b14 (0+(2 - k) * 1),Kv zv,Kv (.bool true),Kv (.bool false)]) [Bk b17 (35) [gv], .all (blkA b14 53 #[z0,z1,z2])]
theorem rSn43 (b17 b14 k:Nat) (gv z0 z1 z2 zv:Value) (w0:World) (fp0:List Nat) (R:List Asn) (hk:k<=2) (hz:(#[z0,z1,z2]:Array Value)[2 - k]? =some zv) (hsame:∀w,St w0 fp0 ([blkA b17 35 #[gv],blkA b14 53 #[z0,z1,z2]]++R) w->Calls Tryz.prog 13 #[gv,zv] w λ e w'=> e=.returned (.bool true)/\Below w.heap.size w w') {w:World} {c:Code} {a:Act} {Q:Exit->Act->World->Prop} (c1:isReg c=true) (c2:cops c=opsR Tryz.f7 43) (c3:a.tmps.size=168) (_c4:a.defers=a.defers) (i17:a.eval (.tmp 17)=.pointer (some ⟨b17,0,none⟩)) (i15:a.eval (.tmp 15)=.int .i64 k) (i14:a.eval (.tmp 14)=.pointer (some ⟨b14,0,none⟩))
 (hS:St w0 fp0 ([blkA b17 (35) #[gv],blkA b14 53 #[z0,z1,z2]]++R) w)
 (hQ:∀(w1:World),St w0 fp0 ([blkA b17 (35) #[gv],blkA b14 53 #[z0,z1,z2]]++R) w1->Q .normal (putL a [(160,gv),(161, .int .i64 k),(162, .int .i64 ((2 - k:Nat):Int)),(163, .pointer (some ⟨b14,0+(2 - k) * 1,none⟩)),(164,zv),(165, .bool true),(166, .bool false)]) w1):c.wp Tryz.prog Q a w:=by
 have ok:(gSn43 b17 b14 k gv z0 z1 z2 zv w0 fp0 R).Ok 7:=Rg.ok _ 7 [0,2,3,4,5] ⟨.load _ 0 0 0, .sub _ 2 (2) (k) ((2 - k:Nat):Int), .indexA _ 3 b14 0 3 (2 - k) 1 (by omega), .run1 _ 4 1 (λ _=> blkA b14 53 #[z0,z1,z2]) (λ _ _=> blkA b14 53 #[z0,z1,z2]) (λ L a w fp _ hp=> (by have hc:w.cell? ⟨b14,0+(2 - k) * 1,none⟩=some zv:=(by rw [show 0+(2 - k) * 1=2 - k by omega,(blk_get hp).1 (2 - k)];exact hz);exact ⟨zv,w,fp,exec_loadA rfl (kr (by kernel_rfl)) (kr (by kernel_rfl)) hc,kr (by kernel_rfl),hp,Tr.refl _ _⟩)), .callG _ 5 (f:=13) (args:=λ g=> #[gv,zv]) (λ _=> [blkA b17 35 #[gv],blkA b14 53 #[z0,z1,z2]]) (λ _ _=> [blkA b17 35 #[gv],blkA b14 53 #[z0,z1,z2]]) (λ g w h=> (hsame w h).mono λ e w2 ⟨e1,h2⟩=> ⟨_,e1,rfl,h.mono h2⟩),trivial⟩;refine wp_regD ok (by kernel_rfl) ⟨c1,c2⟩ ⟨c3,λ p hp=> ?_⟩ hS λ A1 w1 N1 H1=> ?_
 · simp only [gSn43,rgx,List.map_nil,List.append_nil,List.mem_cons,List.not_mem_nil,or_false] at hp
   rcases hp with rfl | rfl | rfl
   · exact i17
   · exact i15
   · exact i14
 exact N1.fin [] (hQ w1 H1) (by kernel_rfl)
theorem wp_loopI {P:Program} {c:Code} {Q:Exit->Act->World->Prop} (I:Nat->Act->World->Prop)
 (round:∀n a w,I n a w->∀K:Act->World->Prop,(∀m a' w',n=m+1->I m a' w'->K a' w')->c.wp P (Exit.then K Q) a w) (n:Nat) (a:Act) (w:World) (h0:I n a w):(Code.loop c).wp P Q a w:=by
 have key:∀n a w,I n a w->Code.rounds P c Q (n+1) a w:=by
  intro n
  induction n with
  | zero=>
   intro a w h;rw [rounds_succ];exact round 0 a w h _ λ m a' w' e _=> nomatch e
  | succ n ih=>
   intro a w h;rw [rounds_succ];refine round (n+1) a w h _ λ m a' w' e h'=> ?_;obtain rfl:n=m:=by omega
   exact ih a' w' h'
 exact wp_loop_rounds (n+1) (key n a w h0)
def markD (D:Nat):Deferred:={ target:=.collected D,args:=#[] }
theorem leaves_marks {fn:Func} {tmps:Array Value} {Rq:Ending->World->Prop} {w0:World} {fp0:List Nat} {L:List Asn} (h:∀w',St w0 fp0 L w'->∃v,(results fn tmps).run Tryz.prog w'=.ok v w'/\Rq (.returned v) w'):
 ∀(Ds:List Nat) (w:World),St w0 fp0 (Ds.map defA++L) w->LeavesInM Fence.wide 0 Tryz.prog fn tmps Rq (Ds.map markD) .returning w
 | [],w,hS=> h w hS
 | D::Ds,w,hS=> by obtain ⟨_,hk,_⟩:=St.has hS 0 rfl;exact ⟨by simp, .inl ⟨_,_,rfl,run_takeDeferred hk,leaves_marks h Ds _ (St.undef hS)⟩⟩
theorem bodyPostM_marks {fn:Func} {Rq:Ending->World->Prop} {a:Act} {w w0:World} {fp0:List Nat} {Ds:List Nat} {L:List Asn} (hS:St w0 fp0 (Ds.map defA++L) w) (hd:a.defers=Ds.map markD)
 (h:∀w',St w0 fp0 L w'->∃v,(results fn a.tmps).run Tryz.prog w'=.ok v w'/\Rq (.returned v) w'):bodyPostM Fence.wide 0 Tryz.prog fn Rq .ret a w:=by
 show LeavesInM _ _ _ _ _ _ a.defers .returning w;rw [hd];exact leaves_marks h Ds w hS
theorem St.iter_form {w0 w:World} {fp0:List Nat} {R:List Asn} {v:Value} {S cols:Nat} {I:List (List Int)} {q:LL->LL} (h:St w0 fp0 (iterA v S cols I q::R) w):∃gf lb,v=.func (.func gf) #[] lb:=by
 obtain ⟨X,⟨gf,lb,h1, -⟩, -⟩:=St.iter.1 h;exact ⟨gf,lb,h1⟩
theorem St.res_len {w0 w:World} {fp0:List Nat} {R:List Asn} {v:Value} {L:LL} (h:St w0 fp0 (resA v L::R) w):∃a c,v=.slice a L.length c:=by
 obtain ⟨out,rfl,h1⟩:=St.res.1 h;obtain ⟨_,hr⟩:=h1.has 0 rfl;obtain ⟨a,c,e⟩:=(riA_sl hr).shape;exact ⟨a,c,by rw [riL_len];exact e⟩
theorem takeL_one (L:LL):(takeL 1 L).length=min 1 L.length:=by
 unfold takeL;rw [if_neg (by omega),List.length_take];rfl
theorem list_rix {W w:World} {A:List Asn} {l:List Opr} {v lv:Value} {m:List Ri} (hl:OpsX W l v) (hm:∀x∈m,Of l x) (h:St W [] A w) (hA:riA lv m∈A):RiX w m lv:=by
 obtain ⟨_,hr⟩:=h.hasM hA;exact of_rix (hl.mono (st_below h)) hm (riA_sl hr)
theorem sto_len2 {w0 w:World} {fp0:List Nat} {R:List Asn} {S cols:Nat} {I:List (List Int)} {L:LL} {next:Int} (h:St w0 fp0 (storeA S cols I L next::R) w):∀x∈L,x.2.length=cols:=by
 obtain ⟨s,hok, -⟩:=h.openS;intro x hx;exact (hok.row x hx).2.2.1
def SnI (pv f0 f1 f2 o5 s0 s1 s2:Value) (b3 b5 b6 b7 b8 b:Nat) (W:World) (A:List Asn) (g:Nat) (a:Act) (w:World):Prop:=
 ∃(k:Nat) (Ds:List Nat) (u:Nat->Value) (x7 y1 y2 y3:Value),g+k=3/\a=⟨#[u 0,pv,u 2, .pointer (some ⟨b3,0,none⟩),u 4, .pointer (some ⟨b5,0,none⟩), .pointer (some ⟨b6,0,none⟩), .pointer (some ⟨b7,0,none⟩), .pointer (some ⟨b8,0,none⟩),u 9,u 10,u 11,u 12,u 13, .pointer (some ⟨b,0,none⟩),u 15,u 16,u 17,u 18,u 19,u 20,u 21,u 22,u 23,u 24,u 25,u 26,u 27,u 28,u 29,u 30,u 31,u 32,u 33,u 34,u 35,u 36,u 37,u 38,u 39,u 40,u 41,u 42,u 43,u 44,u 45,u 46,u 47,u 48,u 49,u 50,u 51,u 52,u 53,u 54,u 55,u 56,u 57,u 58,u 59,u 60,u 61,u 62,u 63,u 64,u 65,u 66,u 67,u 68,u 69,u 70,u 71,u 72,u 73,u 74,u 75,u 76,u 77,u 78,u 79,u 80,u 81,u 82,u 83,u 84,u 85,u 86,u 87, .agg #[f0,f1,f2], .int .i64 (k:Nat),u 90,u 91,u 92,u 93,u 94,u 95,u 96,u 97,u 98,u 99,u 100,u 101,u 102,u 103,u 104,u 105,u 106,u 107,u 108,u 109,u 110,u 111,u 112,u 113,u 114,u 115,u 116,u 117,u 118,u 119,u 120,u 121,u 122,u 123,u 124,u 125,u 126,u 127,u 128,u 129,u 130,u 131,u 132,u 133,u 134,u 135,u 136,u 137,u 138,u 139,u 140,u 141,u 142,u 143,u 144,u 145,u 146,u 147,u 148,u 149,u 150,u 151,u 152,u 153,u 154,u 155,u 156,u 157,u 158,u 159,u 160,u 161,u 162,u 163,u 164,u 165,u 166,u 167],Ds.map markD⟩/\Hid (St W [] (blkA b7 34 #[x7]::blkA b8 37 #[y1,y2,y3]::blkA b6 4 #[.bool false]::blkA b5 25 #[o5]::blkA b3 24 #[s0,s1,s2]::(A++Ds.map defA)) w)
theorem SnI.of {pv f0 f1 f2 o5 s0 s1 s2:Value} {b3 b5 b6 b7 b8 b:Nat} {W:World} {A:List Asn} {g:Nat} {a:Act} {w:World} (k:Nat) (Ds:List Nat) {x7 y1 y2 y3:Value} (h1:g+k=3) (h2:a=⟨#[slots a 0,pv,slots a 2, .pointer (some ⟨b3,0,none⟩),slots a 4, .pointer (some ⟨b5,0,none⟩), .pointer (some ⟨b6,0,none⟩), .pointer (some ⟨b7,0,none⟩), .pointer (some ⟨b8,0,none⟩),slots a 9,slots a 10,slots a 11,slots a 12,slots a 13, .pointer (some ⟨b,0,none⟩),slots a 15,slots a 16,slots a 17,slots a 18,slots a 19,slots a 20,slots a 21,slots a 22,slots a 23,slots a 24,slots a 25,slots a 26,slots a 27,slots a 28,slots a 29,slots a 30,slots a 31,slots a 32,slots a 33,slots a 34,slots a 35,slots a 36,slots a 37,slots a 38,slots a 39,slots a 40,slots a 41,slots a 42,slots a 43,slots a 44,slots a 45,slots a 46,slots a 47,slots a 48,slots a 49,slots a 50,slots a 51,slots a 52,slots a 53,slots a 54,slots a 55,slots a 56,slots a 57,slots a 58,slots a 59,slots a 60,slots a 61,slots a 62,slots a 63,slots a 64,slots a 65,slots a 66,slots a 67,slots a 68,slots a 69,slots a 70,slots a 71,slots a 72,slots a 73,slots a 74,slots a 75,slots a 76,slots a 77,slots a 78,slots a 79,slots a 80,slots a 81,slots a 82,slots a 83,slots a 84,slots a 85,slots a 86,slots a 87, .agg #[f0,f1,f2], .int .i64 (k:Nat),slots a 90,slots a 91,slots a 92,slots a 93,slots a 94,slots a 95,slots a 96,slots a 97,slots a 98,slots a 99,slots a 100,slots a 101,slots a 102,slots a 103,slots a 104,slots a 105,slots a 106,slots a 107,slots a 108,slots a 109,slots a 110,slots a 111,slots a 112,slots a 113,slots a 114,slots a 115,slots a 116,slots a 117,slots a 118,slots a 119,slots a 120,slots a 121,slots a 122,slots a 123,slots a 124,slots a 125,slots a 126,slots a 127,slots a 128,slots a 129,slots a 130,slots a 131,slots a 132,slots a 133,slots a 134,slots a 135,slots a 136,slots a 137,slots a 138,slots a 139,slots a 140,slots a 141,slots a 142,slots a 143,slots a 144,slots a 145,slots a 146,slots a 147,slots a 148,slots a 149,slots a 150,slots a 151,slots a 152,slots a 153,slots a 154,slots a 155,slots a 156,slots a 157,slots a 158,slots a 159,slots a 160,slots a 161,slots a 162,slots a 163,slots a 164,slots a 165,slots a 166,slots a 167],Ds.map markD⟩) (h3:St W [] (blkA b7 34 #[x7]::blkA b8 37 #[y1,y2,y3]::blkA b6 4 #[.bool false]::blkA b5 25 #[o5]::blkA b3 24 #[s0,s1,s2]::(A++Ds.map defA)) w):SnI pv f0 f1 f2 o5 s0 s1 s2 b3 b5 b6 b7 b8 b W A g a w:=⟨k,Ds,slots a,x7,y1,y2,y3,h1,h2,h3⟩
theorem run_idx3 (x0 x1 x2:Value) (w:World):(Instr.index 54 (.agg #[x0,x1,x2]) (.int .i64 0)).run Tryz.prog w=.ok x0 w/\(Instr.index 54 (.agg #[x0,x1,x2]) (.int .i64 1)).run Tryz.prog w=.ok x1 w/\(Instr.index 54 (.agg #[x0,x1,x2]) (.int .i64 2)).run Tryz.prog w=.ok x2 w:=⟨by kernel_rfl,by kernel_rfl,by kernel_rfl⟩
theorem St.keep_mono {w0 w:World} {fp0:List Nat} {R:List Asn} {S cols:Nat} {I:List (List Int)} {es0:List Re} {N M:Nat} (hm:N<=M) (h:St w0 fp0 (keepA S cols I es0 N::R) w):St w0 fp0 (keepA S cols I es0 M::R) w:=by
 obtain ⟨L,next,s,M',h1,h2,h3,h4⟩:=St.keep.1 h;exact St.keep.2 ⟨L,next,s,M',h1,by omega,h3,h4⟩
theorem rlkR_mem2 {cols:Nat} {cs:List Int} {vals:Rw} {m:List Ri} {z:Ri} (h:z∈rlkR cols cs vals m):z∈m:=by
 unfold rlkR at h;split at h
 · exact (List.mem_filter.1 h).1
 · cases h
def snJ (b17 S n:Nat) (I:List (List Int)) (es:List Re) (L:List Asn) (pre:List Ri):List Asn:=tkA b17 pre::keepA S n I es (40+6 * pre.length)::L
def qI (n k:Nat):LL->LL:=if k=0 then rngL ((0:Nat):Int) nlV nlV else if k=1 then lookL n [0] [v1V] else λ L=> L
end
end Go.Proofs.YtnefkkidfhmggaaGreat
