/- Part 29 of the proof. -/
import Derived.Test.YtcomoomndgbckaaGreatY28
set_option maxHeartbeats 16000000
set_option maxRecDepth 100000
open Go Go.RowKit
open Go.Lib (hid)
open List (getElem?_cons_zero getElem?_cons_succ getElem_mem nil_append length_take mem_cons mem_singleton cons_append mem_append length_map take_succ_eq_append_getElem map_append take_length not_mem_nil)
open Nat (zero_le le_succ lt_succ_self le_trans add_zero)
namespace Go.Proofs.YtcomoomndgbckaaGreat
noncomputable section
section
open Go.Sort
def CondP (w:World) (e:Ending) (w':World):Prop:=∃(E':Ex) (s:Value) (f:Int),e=.returned (.tuple #[.agg (E'.cells s).toArray,qi f])/\(∃a n c,s=qs a n c)/\Below w.heap.size w w'
theorem cCond_calls (l:List Srs) (la:Option Addr) (lc:Nat) (L:List Int) (hf:∀x∈l,(0<=x.first/\x.first<=1000000000)/\x.table.cols.length<=1000000000) (hL:SrcT l L) (op:Int) (tb nm:ByteArray) (ix:Int) (v:Vl) (args:List Ex) (hfm:op=0\/Fm (.mk op tb nm ix v args)) (hex:ExS (.mk op tb nm ix v args)) (hbk:Ex.bulk (.mk op tb nm ix v args)<=1100000) (a:Option Addr) (n c:Nat) (w:World) (hsx:LsAt 7 SxE w l (qs la l.length lc)) (hs:ArgsAt w args (qs a n c)):
 Calls Tryz.prog 87 #[.agg #[qi op,qt tb,qt nm,qi ix,qi v.kind,qi v.int,qt v.text,qs a n c],qs la l.length lc] w (CondP w):=by
 have ad:=hid hfm;have aa:=hid hex;have ae:=hid hbk;have ab:=hid hsx;have HS:=hid hs;have V1:=hid (VarIs.new1 w (.cells #[qi op,qt tb,qt nm,qi ix,qi v.kind,qi v.int,qt v.text,qs a n c] 37) q0f 37);have A:Hid (Below w.heap.size w ((w.alloc (.cells #[qi op,qt tb,qt nm,qi ix,qi v.kind,qi v.int,qt v.text,qs a n c] 37)).alloc (.cells q0f 37))):=(zi.alloc lr _).alloc (by simp) _;clear hfm hex hbk hsx hs;go_enter Tryz.func87,Tryz.ntmps87;by_cases h0:op=0
 . subst h0
   go_wp2_with (refine wpList_store_row rfl _ _ _ rfl _ rfl rfl V1.out rfl (by kernel_rfl) rfl ?_);intro W F o;have D:=hid (A.trans (o.below A.size λ k hk=> by show ¬ k=_;omega));clear o;go_wp2;refine bodyPost_ret (v:=.tuple #[.agg q0f,qi 0]) ?_ rfl ?_
   . exact results_cell_tmp rfl _ _ rfl F Tryz.underlying37 rfl (by kernel_rfl)
   . exact ⟨.mk 0 ⟨#[]⟩ ⟨#[]⟩ 0 ⟨0,0,⟨#[]⟩⟩ [],q0,0,rfl,⟨none,0,0,rfl⟩,D⟩
 have z0:(op==0)=false:=by simp [h0]
 go_wp2_with fail;refine (cExpr_calls l la lc L hf hL _ (.mk op tb nm ix v args) lr (ad.resolve_left h0) aa ae a n c _ (ab.mono SxE.mono A) (HS.mono A)).mono ?_;rintro e w3 ⟨I,s',t,f,rfl,⟨a',n',c',rfl⟩,-,hb⟩;have H3:=hid hb;have ac:Hid (w.heap.size+2<=w3.heap.size):=by have:=hb.size;simp at this;exact this
 clear hb;simp only [Ex.cells,cons_append,nil_append];go_wp2_with (refine wpList_store_row rfl _ _ _ rfl _ rfl rfl (VarIs.new _ _ _) rfl (by kernel_rfl) rfl ?_);intro T C A4;have V:=hid (((zi.alloc lr _).trans (A4.below (by simp) (λ k hk=> by show ¬ k=_;omega)):Below w3.heap.size w3 T));have H4:=hid (H3.trans (V.mono H3.size));have G:=hid (V1.below H4 V1.lt);have q:=hid (A.trans (H4.mono A.size));clear A4 V H3 H4;by_cases hf0:f=0
 . subst hf0
   have y8:=C.a8;have y9:=C.a9;go_wp2_with fail;refine (cFits_calls t 3 _).mono ?_;rintro e w5 ⟨rfl,rfl⟩;by_cases ht:(t==0 || t==3)=true
   . rw [ht]
     clear y8 y9;have y0:=C.a0;have y1:=C.a1;have y2:=C.a2;have y3:=C.a3;have y4:=C.a4;have y5:=C.a5;have y6:=C.a6;have y7:=C.a7;go_wp2_with (refine wpList_store_row rfl _ _ _ rfl _ rfl rfl G.out rfl (by kernel_rfl) rfl ?_);intro W F o;have D:=hid (q.trans (o.below q.size λ k hk=> by show ¬ k=_;omega));clear o;go_wp2;refine bodyPost_ret (v:=.tuple #[.agg #[qi I.op,qt I.table,qt I.name,qi I.index,qi I.v.kind,qi I.v.int,qt I.v.text,qs a' n' c'],qi 0]) ?_ rfl ?_
     . exact results_cell_tmp rfl _ _ rfl F Tryz.underlying37 rfl (by kernel_rfl)
     . exact ⟨I,qs a' n' c',0,rfl,⟨a',n',c',rfl⟩,D⟩
   . rw [Bool.not_eq_true] at ht
     rw [ht];go_wp2_with (refine wpList_store_row rfl _ _ _ rfl _ rfl rfl G.out rfl (by kernel_rfl) rfl ?_);intro W F o;have D:=hid (q.trans (o.below q.size λ k hk=> by show ¬ k=_;omega));clear o;go_wp2;refine bodyPost_ret (v:=.tuple #[.agg q0f,qi 6]) ?_ rfl ?_
     . exact results_cell_tmp rfl _ _ rfl F Tryz.underlying37 rfl (by kernel_rfl)
     . exact ⟨.mk 0 ⟨#[]⟩ ⟨#[]⟩ 0 ⟨0,0,⟨#[]⟩⟩ [],q0,6,rfl,⟨none,0,0,rfl⟩,D⟩
 . have zf:(f !=0)=true:=by simp [hf0]
   have y9:=C.a9;go_upto_region 5 with (fail)
   clear y9;go_cut [5] from 17 to 19 (λ z wy=> z=qi f/\Hid (VarIs wy (w.heap.size+1) q0f)/\Hid (Agr (λ k=> k=(w.heap.size+1)) T wy))
   case first=>
    have H:Hid (¬ w3.heap.size=(w.heap.size+1)):=by (have:=G.lt;have:=ac.out;show ¬ _=_;omega)
    refine wp_region_any (by kernel_rfl) ?_;change wpAny _ _ _ _ _ _ _ (World.drew _);have A0:Hid (Agr (λ k=> k=(w.heap.size+1)) T T.drew):=agr_drew _;have VZ:=hid G.drew;have J:=hid C.drew;generalize World.drew T=wc0 at *;refine wpAny_take (i:=0) (v:=?_) rfl (by kernel_rfl) (by kernel_rfl) (by kernel_rfl) (λ _ _ _ h=> h) (Or.inl ⟨by rfl,?_⟩) ?_
    rotate_left
    . intro w;go_simp;with_reducible rfl
    refine wpAny_take (i:=1) (v:=?_) rfl (by kernel_rfl) (by kernel_rfl) (by kernel_rfl) (λ _ _ _ h=> h) (Or.inl ⟨by rfl,?_⟩) ?_
    rotate_left
    . intro w;go_simp;with_reducible rfl
    refine wpAny_ready (rs:=[2,3]) (by kernel_rfl) (by simp) ?_;refine AllReady.consL rfl (λ K hK=> ?_) ?_
    . simp only [q2b]
      have O:=J.cell 9;simp only [q2a] at O;go_wp2;clear O
      try simp only [normQ]
      refine hK _ _ ?_;clear hK K;refine wpAny_ready (rs:=[3]) (by kernel_rfl) (by simp) ?_;refine AllReady.consL rfl (λ K hK=> ?_) ?_
      . simp only [q2b]
        go_wp2_with (refine wpList_store_row rfl _ _ _ rfl _ rfl rfl VZ.out rfl (by kernel_rfl) rfl ?_);intro W F o;have U:=hid (J.agr o (by have:=H.out;exact this));have M:=hid (A0.trans o λ _ _ h=> h);clear o
        try simp only [wpList,normQ]
        refine hK _ _ ?_;clear hK K;refine wpAny_ready (rs:=[4]) (by kernel_rfl) (by simp) ?_;refine AllReady.consL rfl (λ K hK=> ?_) ?_
        . simp only [q2b]
          go_wp2
          try simp only [normQ]
          refine hK _ _ ?_;clear hK K;refine wpAny_done (by kernel_rfl) ?_ _;go_wp2;go_meet;exact ⟨rfl,F,M⟩
        exact AllReady.nil
      exact AllReady.nil
    refine AllReady.consL rfl (λ K hK=> ?_) ?_
    . simp only [q2b]
      go_wp2_with (refine wpList_store_row rfl _ _ _ rfl _ rfl rfl VZ.out rfl (by kernel_rfl) rfl ?_);intro W F o;have U:=hid (J.agr o (by have:=H.out;exact this));have M:=hid (A0.trans o λ _ _ h=> h);clear o
      try simp only [wpList,normQ]
      refine hK _ _ ?_;clear hK K;refine wpAny_ready (rs:=[2]) (by kernel_rfl) (by simp) ?_;refine AllReady.consL rfl (λ K hK=> ?_) ?_
      . simp only [q2b]
        have O:=U.cell 9;simp only [q2a] at O;go_wp2;clear O
        try simp only [normQ]
        refine hK _ _ ?_;clear hK K;refine wpAny_ready (rs:=[4]) (by kernel_rfl) (by simp) ?_;refine AllReady.consL rfl (λ K hK=> ?_) ?_
        . simp only [q2b]
          go_wp2
          try simp only [normQ]
          refine hK _ _ ?_;clear hK K;refine wpAny_done (by kernel_rfl) ?_ _;go_wp2;go_meet;exact ⟨rfl,F,M⟩
        exact AllReady.nil
      exact AllReady.nil
    exact AllReady.nil
   obtain ⟨rfl,VZ,AZ⟩:=hcut;go_wp2;refine bodyPost_ret (v:=.tuple #[.agg q0f,qi f]) ?_ rfl ?_
   . exact results_cell_tmp rfl _ _ rfl VZ Tryz.underlying37 rfl (by kernel_rfl)
   . exact ⟨.mk 0 ⟨#[]⟩ ⟨#[]⟩ 0 ⟨0,0,⟨#[]⟩⟩ [],q0,f,rfl,⟨none,0,0,rfl⟩,(q.trans (AZ.below q.size λ k hk=> by show ¬ k=_;omega))⟩
end
section
open Go.Sort
def IsP (q:Bool) (w:World) (e:Ending) (w':World):Prop:=e=.returned (.bool q)/\Below w.heap.size w w'
theorem rGrouped_calls (cs:Array Value) (its:List It) (es:List Xp) (ia ga:Option Addr) (inn ic gn gc:Nat) (w:World) (h8:cs[8]? =some (qs ia inn ic)) (h18:cs[18]? =some (qs ga gn gc)) (hi:ItemsAt w its (qs ia inn ic)) (hg:gn=es.length) (hl:its.length < 1000000000):Calls Tryz.prog 29 #[.agg cs] w (IsP (aggd its es) w):=by
 have K:its.length=inn:=by obtain ⟨_,_,_,e,h,-⟩:=hi.shape;exact ((Value.slice.inj e).2.1.trans h).symm
 have U:=hid K;have HI:=hid hi;have HG:=hid hg;have V:inn < 1000000000:=by omega
 have q:(w.alloc (.cells cs 40)).heap[w.heap.size]? =some (.cells cs 40 (0,0)):=heap_alloc_new w _;have C:Hid (Below w.heap.size w (w.alloc (.cells cs 40))):=zi.alloc lr _;have I:Hid ((w.alloc (.cells cs 40)).cell? ⟨w.heap.size,8,none⟩=some (qs ia inn ic)):=(cell_of_row _ _ _ _ _ _ q).trans h8;have ab:Hid ((w.alloc (.cells cs 40)).heap.size=w.heap.size+1):=by show _=_;simp
 have F:Hid ((w.alloc (.cells cs 40)).cell? ⟨w.heap.size,18,none⟩=some (qs ga gn gc)):=(cell_of_row _ _ _ _ _ _ q).trans h18;unfold IsP;clear q h8 h18 hi K hg hl;go_enter Tryz.func29,Tryz.ntmps29;go_upto_region 1 with (fail)
 generalize w.alloc (.cells cs 40)=W0 at *;go_wp2;go_loopw [3] (λ z wr=> ∃k:Nat,k<=inn/\z=qi k/\Hid (∀i∈its.take k,i.k=0)/\W0=wr) (λ z _=> inn - (intOf z).toNat)
 case atStart=> exact ⟨0,zero_le _,rfl,(λ i h=> by simp at h),rfl⟩
 case round=>
  obtain ⟨k,hk,rfl,M,rfl⟩:=hrel;have c8:=I.out;by_cases hlt:k < inn
  . have A:k < its.length:=by rw [U.out];exact hlt
    obtain ⟨b,o,rfl,G,L⟩:=(HI.mono C).at k A;have T:=hid (λ (h:its[k].k=0)=> show ∀i∈its.take (k+1),i.k=0 from λ i h1=> by
     rw [take_succ_eq_append_getElem A] at h1;rcases mem_append.1 h1 with h1 | h1
     . exact M.out i h1
     . rw [mem_singleton.1 h1];exact h)
    have O:=hid (λ (h:its[k].k≠0)=> show (its.any λ i=> i.k !=0)=true from List.any_eq_true.2 ⟨its[k],getElem_mem A,by simpa using h⟩);have H:=L 0 (by omega);simp only [It.cells,getElem?_cons_zero,add_zero] at H;generalize its[k]=it at *;obtain ⟨J,D⟩:=gx it.k
    rw [D] at H T O;have k0:(0:Int)<=(k:Int):=by omega
    have k1:(k:Int) < (inn:Int):=by omega
    clear L A G D;by_cases h0:J=0
    . subst h0
      go_wp2;clear H c8;go_roundw
      case rel=> exact ⟨k+1,by omega,by go_num,T.out (by simp),(by first | rfl | trivial)⟩
      case measure=> simp [intOf];omega
    . have z0:(J !=0)=true:=by simpa using h0
      have HA:Hid (aggd its es=true):=by show _=_;unfold aggd;rw [O.out h0,Bool.or_true]
      go_wp2;go_ret;exact ⟨by rw [HA.out];rfl,C⟩
  . obtain rfl:inn=k:=by omega
    have HZ:Hid (aggd its es=decide (0 < (gn:Int))):=by
     show _=_;have h:(its.any λ i=> i.k !=0)=false:=by rw [<-Bool.not_eq_true,List.any_eq_true];rintro ⟨i,h1,W⟩;have:=M.out i (by rw [<-U.out,take_length];exact h1);simp [this] at W
     unfold aggd;rw [h,Bool.or_false,<-HG.out,Bool.eq_iff_iff];simp;omega
    have aa:=F.out;go_wp2;go_ret;exact ⟨by rw [HZ.out];first | rfl | simp,C⟩
def RvOk (w:World) (it:It) (G:List Rw):Prop:=∀R∈G,∀w' s,Below w.heap.size w w'->ValsAt w' R s->Calls Tryz.prog 59 #[it.e.val,s] w' (ValEnd (it.f R) w')
def vs (k:Int) (f:Rw->Vl) (G:List Rw):Rw:=if k=1 then G.map (λ _=> nilV) else G.map f
theorem rRow_calls (cs:Array Value) (its:List It) (G:List Rw) (ia:Option Addr) (inn ic:Nat) (s:Value) (w:World) (h8:cs[8]? =some (qs ia inn ic)) (hi:ItemsAt w its (qs ia inn ic)) (hs:RowsAt w G s) (hk:∀i∈its,i.k=0->0 < G.length) (hev:∀i∈its,i.k≠1->RvOk w i G) (htx:∀i∈its,∀R∈G,(i.f R).text.size<=maxLen) (hl:its.length < 1000000000) (hlg:G.length < 1000000000):
 Calls Tryz.prog 30 #[.agg cs,s] w (RowP (its.map λ i=> resV i G) w):=by
 obtain ⟨a,ng,c,rfl,az,-⟩:=hs.shape;have hn:its.length=inn:=by obtain ⟨_,_,_,e,h,-⟩:=hi.shape;exact ((Value.slice.inj e).2.1.trans h).symm
 have HN:=hid hn;have HI:=hid hi;have HS:=hid hs;have HK:=hid hk;have HE:=hid hev;have HX:=hid htx;have ad:Hid (G.length=ng):=az.symm;have br:inn < 1000000000:=by omega
 have bs:ng < 1000000000:=by omega
 obtain ⟨i0,ii,aq,ap,ao⟩:=info_parts Tryz.info35';have al:(w.alloc (.cells cs 40)).heap[w.heap.size]? =some (.cells cs 40 (0,0)):=heap_alloc_new w _;have bf:Hid (Below w.heap.size w (w.alloc (.cells cs 40))):=zi.alloc lr _;have bo:Hid ((w.alloc (.cells cs 40)).cell? ⟨w.heap.size,8,none⟩=some (qs ia inn ic)):=(cell_of_row _ _ _ _ _ _ al).trans h8;have aZ:Hid ((w.alloc (.cells cs 40)).heap.size=w.heap.size+1):=by show _=_;simp
 clear al h8 hi hn hs hk hev htx hl hlg az;go_enter Tryz.func30,Tryz.ntmps30;go_upto_region 1 with (fail)
 generalize w.alloc (.cells cs 40)=W0 at *;go_wp2;go_loopw [5,6] (λ v z wr=> ∃k:Nat,k<=inn/\z=qi k/\Hid (Bl 35 3 VlE (w.heap.size+1) (λ j=> j < w.heap.size+1) wr ((its.take k).map λ i=> resV i G) v)/\Hid (Below (w.heap.size+1) W0 wr)) (λ _ z _=> inn - (intOf z).toNat)
 case atStart=> exact ⟨0,zero_le _,rfl,Bl.nil _ _ _ _ _ _,zi⟩
 case round=>
  obtain ⟨k,hk,rfl,HB,Hb⟩:=hrel
  rename World=> wl
  have Hw:=hid (bf.trans (Hb.mono (le_succ _)));have aL:Hid (w.heap.size+1<=wl.heap.size):=by have:=Hb.size;have:=aZ.out;show _<=_;omega
  have c8:=(Hb.cell (p:=⟨w.heap.size,8,none⟩) (lt_succ_self _)).trans bo;by_cases hlt:k < inn
  . have M:k < its.length:=by rw [HN.out];exact hlt
    obtain ⟨b,o,rfl,aW,hc⟩:=(HI.mono Hw).at k M;have bm:=hid (HK.out _ (getElem_mem M));have aK:=hid (HE.out _ (getElem_mem M));have aG:=hid (HX.out _ (getElem_mem M));have HT:Hid ((its.take (k+1)).map (λ i=> resV i G)=(its.take k).map (λ i=> resV i G)++[resV its[k] G]):=by show _=_;rw [take_succ_eq_append_getElem M,map_append];rfl
    have aJ:Hid (((its.take k).map λ i=> resV i G).length=k):=by show _=_;rw [length_map,length_take];omega
    generalize its[k]=it at *;obtain ⟨A,⟨op,tab,nm,idx,⟨lk,li,lt⟩,⟨aa,an,ac⟩⟩,f⟩:=it;have d0:=hc 0 (by omega);have d1:=hc 1 (by omega);have d2:=hc 2 (by omega);have d3:=hc 3 (by omega);have d4:=hc 4 (by omega);have d5:=hc 5 (by omega);have d6:=hc 6 (by omega);have d7:=hc 7 (by omega);have d8:=hc 8 (by omega);simp only [It.cells,Xp.cells,getElem?_cons_zero,getElem?_cons_succ,add_zero] at d0 d1 d2 d3 d4 d5 d6 d7 d8;have k0:(0:Int)<=(k:Int):=by omega
    have k1:(k:Int) < (inn:Int):=by omega
    clear hc M;go_wp2_with (refine wpList_store_row rfl _ _ _ rfl _ rfl rfl (VarIs.new _ _ _) rfl (by kernel_rfl) rfl ?_);intro F U A7;have L:=hid (((zi.alloc lr _).trans (A7.below (by simp) (λ k hk=> by show ¬ k=_;omega)):Below wl.heap.size wl F));have V:=hid (Hw.trans (L.mono Hw.size));have ai:Hid (w.heap.size+1<=F.heap.size):=le_trans aL L.size;have aE:=hid (Hb.trans (L.mono aL));clear A7 d0 d1 d2 d3 d4 d5 d6 d7 d8 c8 aW;by_cases h0:A=0
    . have hG:0 < G.length:=bm.out h0
      obtain ⟨bg,og,rfl⟩:=HS.has 0 (by have:=ad.out;omega);obtain ⟨ax,nx,cx,C,-⟩:=HS.row 0 hG;obtain ⟨ar,hx,-⟩:=C.out _ V;have aj:=hid hx;have K:=hid λ (w':World) (J:Below F.heap.size F w')=> aK.out (by show ¬ A=1;omega) G[0] (getElem_mem hG) w' (qs ax nx cx) (V.trans (J.mono V.size)) (aj.mono J);have ab:=hid (aG.out G[0] (getElem_mem hG));have av:Hid (resV ⟨A,⟨op,tab,nm,idx,⟨lk,li,lt⟩,⟨aa,an,ac⟩⟩,f⟩ G=f G[0]):=by
       show _=_;unfold resV;rw [if_pos h0];cases G with
       | nil=> simp at hG
       | cons x l=> rfl
      have n0:(0:Int) < (ng:Int):=by have:=ad.out;omega
      have z0:(A==0)=true:=by simp [h0]
      rw [add_zero] at ar;unfold Xp.val ValEnd Vl.val at K;clear hx C;have x0:=U.a0;have x1:=U.a1;have x2:=U.a2;have x3:=U.a3;have x4:=U.a4;have x5:=U.a5;have x6:=U.a6;have x7:=U.a7;have x8:=U.a8;go_upto_region 7 with (fail)
      clear x0;refine wp_region_segs [([0,1,2,3,4,5],6),([],7)] [] [8,9] (by kernel_rfl) (by kernel_rfl) ?_;simp only [q2c,wpSegs];have aU:=cell_regrown (w:=F.drew) x1;have aT:=cell_regrown (w:=F.drew) x2;have aS:=cell_regrown (w:=F.drew) x3;have aR:=cell_regrown (w:=F.drew) x4;have aQ:=cell_regrown (w:=F.drew) x5;have aP:=cell_regrown (w:=F.drew) x6;have aO:=cell_regrown (w:=F.drew) x7;have aN:=cell_regrown (w:=F.drew) x8;have bq:=cell_regrown (w:=F.drew) ar;clear x1 x2 x3 x4 x5 x6 x7 x8 ar;have D:Hid (Below (F).heap.size (F) (F).drew):=zi.drew
      repeat (first | go_big_quiet_step (fail) | quiet_step (fail))
      refine wpQuiet_nil ?_;refine ⟨rfl,λ wy hby=> ?_⟩;go_simp;simp only [uponV];have T:=hid (D.trans (hby.mono D.size));refine (K.out _ T).mono ?_;rintro e w8 ⟨rfl,J⟩;refine ⟨_,rfl,J,?_⟩;replace D:=hid (T.trans (J.mono T.size));clear J hby T;go_simp
      repeat (first | go_big_quiet_step (fail) | quiet_step (fail))
      refine wpQuiet_nil ?_;refine ⟨rfl,λ wy hby=> ?_⟩;go_simp;have T:=hid (D.trans (hby.mono D.size));refine uponV_box λ wv HV Hbv=> ⟨Hbv,?_⟩
      replace D:=hid (T.trans (Hbv.mono T.size));clear hby T;go_simp
      repeat (first | go_big_quiet_step (fail) | quiet_step (fail))
      refine wpQuiet_nil ?_;intro wz O;replace D:=hid (D.trans (O.mono D.size));replace HV:=hid (HV.below O HV.lt);clear O;have ak:=hid (HB.below (L.trans (D.mono L.size)));have aY:=hid (aE.trans (D.mono ai));have aV:=hid (le_trans ai D.size);clear D K;go_wp2_with (at_builtin;go_loud (refine wpList_pushG (E:=VlE) rfl _ _ 60 rfl i0 _ 32 Tryz.underlying60 ii aq ap ao rfl (by decide) (by decide) rfl ak.out (f G[0]) [_,_,_] _ rfl HV.out.cell rfl one_vl (Ind.triv λ _=> ⟨rfl,ab.out⟩) ?hl aV.out (λ j h=> h) ?_))
      case hl=> rw [aJ.out];omega
      intro v' w9 ay I _ _;have W:=hid (aY.trans I);clear I ak HV;go_wp2;go_roundw
      case rel=> exact ⟨k+1,by omega,by go_num,by rw [HT.out,av.out,List.map_take];exact ay,W⟩
      case measure=> simp [intOf];omega
    have z0:(A==0)=false:=by simp [h0]
    have x0:=U.a0;go_upto_region 8 with (fail)
    clear x0;go_wp2;go_loopw [8,9] (λ v z wr=> ∃j:Nat,j<=ng/\z=qi j/\Hid (Bl 35 3 VlE F.heap.size (λ j=> j < F.heap.size) wr (vs A f (G.take j)) v)/\Hid (Below F.heap.size F wr)) (λ _ z _=> ng - (intOf z).toNat)
    case atStart=> exact ⟨0,zero_le _,rfl,by rw [show vs A f (G.take 0)=[] by simp [vs]];exact Bl.nil _ _ _ _ _ _,zi⟩
    case round=>
     obtain ⟨j,hj,rfl,HL,Hj⟩:=hrel
     rename World=> wj
     have ah:Hid (F.heap.size<=wj.heap.size):=Hj.size;have aC:=hid (V.trans (Hj.mono V.size));have au:=hid (U.below Hj U.lt);have am:=hid (L.trans (Hj.mono L.size));by_cases hjn:j < ng
     . have ae:j < G.length:=by rw [ad.out];exact hjn
       obtain ⟨bg,og,rfl⟩:=HS.has j hjn;obtain ⟨ax,nx,cx,C,-⟩:=HS.row j ae;have HR:=hid (getElem_mem ae);have bi:Hid (vs A f (G.take (j+1))=vs A f (G.take j)++[if A=1 then nilV else f G[j]]):=by
        show _=_;rw [take_succ_eq_append_getElem ae];by_cases h1:A=1
        . simp only [vs,if_pos h1,map_append];rfl
        . simp only [vs,if_neg h1,map_append];rfl
       have bj:Hid ((vs A f (G.take j)).length=j):=by show _=_;unfold vs;split <;> (rw [length_map,length_take];omega)
       generalize G[j]=X at *;have j0:(0:Int)<=(j:Int):=by omega
       have j1:(j:Int) < (ng:Int):=by omega
       clear ae;go_wp2_with (refine wpList_store_row rfl _ _ _ rfl _ rfl rfl (VarIs.new _ _ _) rfl (by kernel_rfl) rfl ?_);intro wa VA AA;have Ha:=hid (((zi.alloc lr _).trans (AA.below (by simp) (λ k hk=> by show ¬ k=_;omega)):Below wj.heap.size wj wa));clear AA;have ag:=hid (aC.trans (Ha.mono aC.size));have H:=hid (au.below Ha au.lt);obtain ⟨af,hx,-⟩:=C.out _ ag;have aj:=hid hx;have K:=hid λ (h1:A≠1) (w':World) (J:Below wa.heap.size wa w')=> aK.out h1 X HR w' (qs ax nx cx) (ag.trans (J.mono ag.size)) (aj.mono J);have aH:=hid (aG.out X HR);unfold Xp.val ValEnd Vl.val at K;clear hx C;have x0:=H.a0;have x1:=H.a1;have x2:=H.a2;have x3:=H.a3;have x4:=H.a4;have x5:=H.a5;have x6:=H.a6;have x7:=H.a7;have x8:=H.a8;have bn:=hid af;go_upto_region 13 with (fail)
       go_cut [44] from 42 to 44 (λ z wx=> ∃q:Bool,z=.bool q/\Hid (q=true↔A≠1)/\wa=wx)
       case first=> go_wp2 <;> (go_meet;exact ⟨_,rfl,(by show _↔_;simp),rfl⟩)
       obtain ⟨q1,rfl,aI,rfl⟩:=hcut;go_step;go_cut [] from 45 to 51 (λ wy=> Hid (VarIs wy wj.heap.size #[qi (if A=1 then nilV else f X).kind,qi (if A=1 then nilV else f X).int,qt (if A=1 then nilV else f X).text])/\Hid (Below wj.heap.size wj wy))
       case first=>
        cases q1 with
        | false=>
         have h1:A=1:=Classical.byContradiction λ h=> absurd (aI.2 h) (by simp);have HY:Hid ((if A=1 then nilV else f X)=nilV):=if_pos h1;clear h1;go_wp2;go_meet;exact ⟨by show VarIs _ _ _;rw [HY.out];exact VA,Ha⟩
        | true=>
         have h1:A≠1:=aI.1 (by simp);have HY:Hid ((if A=1 then nilV else f X)=f X):=if_neg h1;have H1:=hid h1;clear h1 x0;go_upto_region 14 with (fail)
         refine wp_region_segs [([0,1,2,3,4,5],6)] [] [7] (by kernel_rfl) (by kernel_rfl) ?_;simp only [q2c,wpSegs];have aU:=cell_regrown (w:=wa.drew) x1;have aT:=cell_regrown (w:=wa.drew) x2;have aS:=cell_regrown (w:=wa.drew) x3;have aR:=cell_regrown (w:=wa.drew) x4;have aQ:=cell_regrown (w:=wa.drew) x5;have aP:=cell_regrown (w:=wa.drew) x6;have aO:=cell_regrown (w:=wa.drew) x7;have aN:=cell_regrown (w:=wa.drew) x8;have bp:=cell_regrown (w:=wa.drew) af;clear x1 x2 x3 x4 x5 x6 x7 x8 af;have D:Hid (Below (wa).heap.size (wa) (wa).drew):=zi.drew
         repeat (first | go_big_quiet_step (fail) | quiet_step (fail))
         refine wpQuiet_nil ?_;refine ⟨rfl,λ wy hby=> ?_⟩;go_simp;simp only [uponV];have T:=hid (D.trans (hby.mono D.size));refine (K.out H1 _ T).mono ?_;rintro e w8 ⟨rfl,J⟩;refine ⟨_,rfl,J,?_⟩;replace D:=hid (T.trans (J.mono T.size));clear J hby T;go_simp
         repeat (first | go_big_quiet_step (fail) | quiet_step (fail))
         refine wpQuiet_nil ?_;intro wz O;replace D:=hid (D.trans (O.mono D.size));clear O;have aX:=hid (VA.below D VA.lt);have aF:=hid (Ha.trans (D.mono Ha.size));go_wp2_with (refine wpList_store_row rfl _ _ _ rfl _ rfl rfl aX.out rfl (by kernel_rfl) rfl ?_);intro wE VE AE;go_wp2;go_meet;exact ⟨by show VarIs _ _ _;rw [HY.out];exact VE,hid (aF.trans (AE.below aF.size λ k hk=> by show ¬ k=_;omega))⟩
       clear x0 x1 x2 x3 x4 x5 x6 x7 x8 af VA Ha ag H K bn aj;obtain ⟨VA,Ha⟩:=hcut
       rename World=> wy
       have ab:Hid ((if A=1 then nilV else f X).text.size<=maxLen):=by
        show _<=_;split
        . exact zero_le _
        . exact aH
       generalize (if A=1 then nilV else f X)=y at *;have bl:=hid (HL.below Ha);have ba:=hid (le_trans ah Ha.size);have be:=hid (Hj.trans (Ha.mono ah));have y0:=VA.a0;have y1:=VA.a1;have y2:=VA.a2;go_wp2_with (at_builtin;go_loud (refine wpList_push (E:=VlE) rfl _ _ 59 rfl i0 _ 32 Tryz.underlying59 ii aq ap ao rfl (by decide) (by decide) rfl bl.out y [qi y.kind,qi y.int,qt y.text] 35 rfl rfl one_vl (Ind.triv λ _=> ⟨rfl,ab.out⟩) ?hl ba.out (λ j h=> h) ?_))
       case hl=> rw [bj.out];omega
       intro v' w9 bk I _ _;have W:=hid (be.trans I);clear I y0 y1 y2;go_wp2;go_roundw
       case rel=> exact ⟨j+1,by omega,by go_num,by rw [bi.out];exact bk,W⟩
       case measure=> simp [intOf];omega
     . obtain rfl:ng=j:=by omega
       have aM:Hid (ValsAt wj (vs A f G) u8):=by
        have hl:(vs A f (G.take ng)).length<=2000000000000:=by unfold vs;split <;> (rw [length_map,length_take];omega)
        have h:=vals_of (HL.at hl);rw [<-ad.out,take_length] at h;exact h
       obtain ⟨la,lc,hu⟩:=HL.shape;obtain ⟨ln,aA⟩:=gx ((vs A f (G.take ng)).length)
       rw [aA] at hu;subst hu;have av:Hid (resV ⟨A,⟨op,tab,nm,idx,⟨lk,li,lt⟩,⟨aa,an,ac⟩⟩,f⟩ G=aggV A (vs A f G)):=by show _=_;unfold resV vs;rw [if_neg h0]
       have bh:Hid ((vs A f G).length < 1000000000):=by show _ < _;unfold vs;have:=ad.out;split <;> (rw [length_map];omega)
       have ab:=hid (aggV_text A (vs A f G) aM.txt);have aw:=hid (rAggr_calls A (vs A f G) (qs la ln lc) wj aM bh);unfold ValEnd Vl.val at aw;generalize aggV A (vs A f G)=y at *;clear aA;have x0:=au.a0;go_wp2_with fail;refine aw.mono ?_;rintro e w8 ⟨rfl,J⟩;have H8:=hid J;clear J x0 aw;have bd:=hid (am.trans (H8.mono am.size));have ak:=hid (HB.below bd);have bb:=hid (le_trans ah H8.size);have aD:Hid (w.heap.size+1<=w8.heap.size):=by have:=ai.out;have:=bb.out;show _<=_;omega
       have bc:=hid (aE.trans (((Hj.trans (H8.mono ah))).mono ai));go_wp2_with (at_builtin;go_loud (refine wpList_push (E:=VlE) rfl _ _ 60 rfl i0 _ 32 Tryz.underlying60 ii aq ap ao rfl (by decide) (by decide) rfl ak.out y [qi y.kind,qi y.int,qt y.text] 35 rfl rfl one_vl (Ind.triv λ _=> ⟨rfl,ab.out⟩) ?hl aD.out (λ j h=> h) ?_))
       case hl=> rw [aJ.out];omega
       intro v' w9 ay I _ _;have W:=hid (bc.trans I);clear I;go_wp2;go_roundw
       case rel=> exact ⟨k+1,by omega,by go_num,by rw [HT.out,av.out,List.map_take];exact ay,W⟩
       case measure=> simp [intOf];omega
  . obtain rfl:inn=k:=by omega
    have aB:((its.take inn).map λ i=> resV i G).length<=2000000000000:=by rw [length_map,length_take];omega
    have HR:=hid (((HB.done aB).sub (Y:=λ j=> j < w.heap.size) λ j _ (h:j < w.heap.size)=> ⟨by omega,λ e=> by have:=(HB.ge j e).1;omega⟩).imp λ _ h=> vals_of h);clear aB;rw [<-HN.out,take_length] at HR;obtain ⟨va,vc,rfl⟩:=HB.shape;go_wp2;go_ret;exact ⟨_,rfl,HR,⟨_,_,_,rfl⟩,Hw⟩
end
def oA6:Array Oper:=((Tryz.f8.body).bind λ c=> opsOf c 6).getD #[]
theorem wp_of_value {P:Program} {o:Oper} {a:Act} {w w':World} {K:Act->World->Prop} {Q:Exit->Act->World->Prop} {v:Value} {d:Nat} (hd:o.dst=some d) (hr:(execOp a.eval o).run P w=.ok (.value v) w') (h:K (a.put (some d) v) w'):o.wp P a w K Q:=by
 unfold Oper.wp;rw [hr];show K (a.put o.dst v) w';rw [hd];exact h
theorem wp_of_call {P:Program} {o:Oper} {a:Act} {w:World} {K:Act->World->Prop} {Q:Exit->Act->World->Prop} {f:FuncId} {args:Array Value} {R:Ending->World->Prop} {d:Nat} (hd:o.dst=some d) (hr:(execOp a.eval o).run P w=.ok (.enter f args) w) (hR:Calls P f args w R)
 (h:∀e w',R e w'->∃v,e=.returned v/\K (a.put (some d) v) w'):o.wp P a w K Q:=by
 unfold Oper.wp;rw [hr];refine hR.mono λ e w' hr=> ?_;obtain ⟨v,rfl,q⟩:=h e w' hr;show K (a.put o.dst v) w';rw [hd];exact q
def valF (i d:Nat) (R:Rw):Ft:=⟨i,d,λ w v=> ValsAt w R v,λ _ _ _ h hb=> h.mono hb⟩
def rowF (i d:Nat) (L:List Rw):Ft:=⟨i,d,λ w v=> RowsAt w L v,λ _ _ _ h hb=> h.mono hb⟩
def allF (i d:Nat) (L:List Rw):Ft:=⟨i,d,λ w v=> ∃bx u,v=.func (.func 38) #[] #[.pointer (some ⟨bx,0,none⟩)]/\Boxed w bx 41 u/\RowsAt w L u,λ w w' v h hb=> by
 obtain ⟨bx,u,h1,h2,h3⟩:=h;exact ⟨bx,u,h1,(hb.block bx h2.lt).trans h2,h3.mono hb⟩⟩
def two:Value:=.agg #[qi 1,qi 2,qt ⟨#[]⟩]
def nul:Value:=.agg q0c
def fA6 (A:Array Value) (R2:List Rw):List Ft:=[.const 0 26 (.agg A),.const 1 27 two,valF 2 28 [intV 2],.const 3 29 nul,valF 4 30 [nilV],.const 5 31 two,valF 6 32 [intV 2],rowF 7 33 L3,allF 8 34 L3,rowF 9 35 R2,rowF 10 5 R2]
theorem one_vals (w:World) (v:Vl) (t:TypeId) (h:v.text.size<=maxLen):ValsAt (w.alloc (.cells #[qi v.kind,qi v.int,qt v.text] t)) [v] (qs (some ⟨w.heap.size,0,none⟩) 1 1):=by
 refine .lie [v] _ 0 1 1 rfl (by simp) (by decide) (λ i hi j hj=> ?_) (by simpa using h);obtain rfl:i=0:=by simp at hi;omega
 rcases (by omega:j=0\/j=1\/j=2) with rfl | rfl | rfl <;> simp [Vl.cells]
theorem two_vals (w:World) (v u:Vl) (t:TypeId) (h:v.text.size<=maxLen) (h2:u.text.size<=maxLen):ValsAt (w.alloc (.cells #[qi v.kind,qi v.int,qt v.text,qi u.kind,qi u.int,qt u.text] t)) [v,u] (qs (some ⟨w.heap.size,0,none⟩) 2 2):=by
 refine .lie [v,u] _ 0 2 2 rfl (by simp) (by decide) (λ i hi j hj=> ?_) (by simpa using ⟨h,h2⟩);rcases (by simp at hi;omega:i=0\/i=1) with rfl | rfl <;> rcases (by omega:j=0\/j=1\/j=2) with rfl | rfl | rfl <;> simp [Vl.cells]
theorem one_row {w:World} {r:Rw} {x:Value} (t:TypeId) (h:ValsAt w r x):RowsAt (w.alloc (.cells #[x] t)) [r] (qs (some ⟨w.heap.size,0,none⟩) 1 1):=by
 have o:Below w.heap.size w (w.alloc (.cells #[x] t)):=zi.alloc lr _;refine .lie [r] [x] _ 0 1 1 rfl (by simp) (by decide) (λ i y hi=> ?_) (.cons (h.mono o) .nil);have q:i < 1:=by have:=(List.getElem?_eq_some_iff.1 hi).1;simpa using this
 obtain rfl:i=0:=by omega
 simp at hi;subst hi;simp
theorem two_rows {w:World} {r q:Rw} {x y:Value} (t:TypeId) (h:ValsAt w r x) (h2:ValsAt w q y):RowsAt (w.alloc (.cells #[x,y] t)) [r,q] (qs (some ⟨w.heap.size,0,none⟩) 2 2):=by
 have o:Below w.heap.size w (w.alloc (.cells #[x,y] t)):=zi.alloc lr _;refine .lie [r,q] [x,y] _ 0 2 2 rfl (by simp) (by decide) (λ i z hi=> ?_) (.cons (h.mono o) (.cons (h2.mono o) .nil));have A:i < 2:=by have:=(List.getElem?_eq_some_iff.1 hi).1;simpa using this
 rcases (by omega:i=0\/i=1) with rfl | rfl <;> simp at hi <;> subst hi <;> simp
theorem rA6 {Q:Exit->Act->World->Prop} {a:Act} {w:World} (A:Array Value) (hA:A.size=26) (bb:Nat) (R2:List Rw) (hsz:a.tmps.size=83) (h3:a.eval (.tmp 3)=.pointer (some ⟨bb,0,none⟩))
 (hbb:w.heap[bb]? =some (.cells A 46 (0,0)))
 (HRes:∀(w':World),Below w.heap.size w w'->∀(G:Nat) (u:Value),Boxed w' G 41 u->RowsAt w' L3 u->Calls Tryz.prog 11 #[.agg A,.func (.func 38) #[] #[.pointer (some ⟨G,0,none⟩)]] w' λ e w''=> ∃v,e=.returned v/\RowsAt w'' R2 v/\Below w'.heap.size w' w'')
 (ops:Array Oper) (hops:ops=oA6) (hQ:∀(u:Nat->Value) q,RowsAt q R2 (u 5)->Below w.heap.size w q->Q .normal (putK a (([26,27,28,29,30,31,32,33,34,35,5]:List Nat).map λ d=> (d,u d))) q):(Code.region 6 ops true).wp Tryz.prog Q a w:=by
 subst hops;have aA:bb < w.heap.size:=(Array.getElem?_eq_some_iff.1 hbb).1;refine wp_region_facts (ops':=oA6) [26,27,28,29,30,31,32,33,34,35,5] (fA6 A R2) rfl (by kernel_rfl) (by kernel_rfl) (by show coverB oA6 [(0,26),(1,27),(2,28),(3,29),(4,30),(5,31),(6,32),(7,33),(8,34),(9,35),(10,5)]=true;kernel_rfl) (by show List.Nodup [0,1,2,3,4,5,6,7,8,9,10];decide) (by show List.Nodup [26,27,28,29,30,31,32,33,34,35,5];decide) ?_ ?_ ?_
 . have hs:oA6.size=11:=by kernel_rfl
   intro f hf;simp only [fA6,mem_cons,not_mem_nil,or_false] at hf;rcases hf with rfl | rfl | rfl | rfl | rfl | rfl | rfl | rfl | rfl | rfl | rfl <;> exact ⟨by simp [Ft.const,valF,rowF,allF],by rw [hsz];simp [Ft.const,valF,rowF,allF],by rw [hs];simp [Ft.const,valF,rowF,allF]⟩
 . intro f hf o a1 q ho hb ah H K F
   simp only [fA6,mem_cons,not_mem_nil,or_false] at hf;have D:∀g∈fA6 A R2,waitsB oA6 f.i g.i=true->g.p q (a1.eval (.tmp g.d)):=H;clear H;rcases hf with rfl | rfl | rfl | rfl | rfl | rfl | rfl | rfl | rfl | rfl | rfl
   . have hl:oA6[0]? =some ⟨some 26,Op.load 46 (Operand.tmp 3),_,_,_,none⟩:=rfl
     obtain rfl:=Option.some.inj (ho.symm.trans hl);have x3:=(ah 3 (by decide)).trans h3;exact wp_of_value (d:=26) rfl (exec_load_row 46 (.tmp 3) rfl bb x3 46 A (0,0) _ ((hb.block bb aA).trans hbb) Tryz.underlying46 rfl (by rw [hA];exact Tryz.size46)) (F _ _ zi rfl)
   . have hl:oA6[1]? =some ⟨some 27,Op.call ⟨Callee.value (Operand.func _),#[Operand.const (qi 2)],_⟩,_,_,_,none⟩:=rfl
     obtain rfl:=Option.some.inj (ho.symm.trans hl);refine wp_of_call (d:=27) (f:=21) (args:=#[qi 2]) rfl (by simp [go_sem,Act.eval]) (number_calls 2 q) ?_;rintro e w2 ⟨rfl,C⟩;exact ⟨_,rfl,F _ _ C rfl⟩
   . have hl:oA6[2]? =some ⟨some 28,Op.buildSlice _ 1 #[(0,Operand.tmp 27)],_,_,_,none⟩:=rfl
     obtain rfl:=Option.some.inj (ho.symm.trans hl);have aw:a1.eval (.tmp 27)=two:=D (.const 1 27 two) (by simp [fA6]) (by kernel_rfl:waitsB oA6 2 1=true);have V:=eval_spell aw;refine wp_of_value (d:=28) (v:=qs (some ⟨q.heap.size,0,none⟩) 1 1) (w':=q.alloc (.cells #[qi 1,qi 2,qt ⟨#[]⟩] 35)) rfl (by simp [go_sem,execOp,Act.eval,V,two]) (F _ _ (zi.alloc lr _) (one_vals q (intV 2) 35 (by decide)))
   . have hl:oA6[3]? =some ⟨some 29,Op.build _ #[],_,_,_,none⟩:=rfl
     obtain rfl:=Option.some.inj (ho.symm.trans hl);exact wp_of_value (d:=29) (v:=nul) (w':=q) rfl (by simp [go_sem,execOp,Act.eval,nul]) (F _ _ zi rfl)
   . have hl:oA6[4]? =some ⟨some 30,Op.buildSlice _ 1 #[(0,Operand.tmp 29)],_,_,_,none⟩:=rfl
     obtain rfl:=Option.some.inj (ho.symm.trans hl);have av:a1.eval (.tmp 29)=nul:=D (.const 3 29 nul) (by simp [fA6]) (by kernel_rfl:waitsB oA6 4 3=true);have U:=eval_spell av;refine wp_of_value (d:=30) (v:=qs (some ⟨q.heap.size,0,none⟩) 1 1) (w':=q.alloc (.cells q0c 35)) rfl (by simp [go_sem,execOp,Act.eval,U,nul]) (F _ _ (zi.alloc lr _) (one_vals q nilV 35 (by decide)))
   . have hl:oA6[5]? =some ⟨some 31,Op.call ⟨Callee.value (Operand.func _),#[Operand.const (qi 2)],_⟩,_,_,_,none⟩:=rfl
     obtain rfl:=Option.some.inj (ho.symm.trans hl);refine wp_of_call (d:=31) (f:=21) (args:=#[qi 2]) rfl (by simp [go_sem,Act.eval]) (number_calls 2 q) ?_;rintro e w2 ⟨rfl,C⟩;exact ⟨_,rfl,F _ _ C rfl⟩
   . have hl:oA6[6]? =some ⟨some 32,Op.buildSlice _ 1 #[(0,Operand.tmp 31)],_,_,_,none⟩:=rfl
     obtain rfl:=Option.some.inj (ho.symm.trans hl);have au:a1.eval (.tmp 31)=two:=D (.const 5 31 two) (by simp [fA6]) (by kernel_rfl:waitsB oA6 6 5=true);have T:=eval_spell au;refine wp_of_value (d:=32) (v:=qs (some ⟨q.heap.size,0,none⟩) 1 1) (w':=q.alloc (.cells #[qi 1,qi 2,qt ⟨#[]⟩] 35)) rfl (by simp [go_sem,execOp,Act.eval,T,two]) (F _ _ (zi.alloc lr _) (one_vals q (intV 2) 35 (by decide)))
   . have hl:oA6[7]? =some ⟨some 33,Op.buildSlice _ 3 #[(0,Operand.tmp 28),(1,Operand.tmp 30),(2,Operand.tmp 32)],_,_,_,none⟩:=rfl
     obtain rfl:=Option.some.inj (ho.symm.trans hl);have L:ValsAt q [intV 2] (a1.eval (.tmp 28)):=D (valF 2 28 [intV 2]) (by simp [fA6]) (by kernel_rfl:waitsB oA6 7 2=true);have J:ValsAt q [nilV] (a1.eval (.tmp 30)):=D (valF 4 30 [nilV]) (by simp [fA6]) (by kernel_rfl:waitsB oA6 7 4=true);have I:ValsAt q [intV 2] (a1.eval (.tmp 32)):=D (valF 6 32 [intV 2]) (by simp [fA6]) (by kernel_rfl:waitsB oA6 7 6=true);obtain ⟨aD,af⟩:=gx (a1.eval (.tmp 28))
     obtain ⟨aC,ae⟩:=gx (a1.eval (.tmp 30))
     obtain ⟨aB,ad⟩:=gx (a1.eval (.tmp 32))
     rw [af] at L;rw [ae] at J;rw [ad] at I;have ap:=eval_spell af;have ao:=eval_spell ae;have am:=eval_spell ad;obtain ⟨aa,an,ac,rfl,-⟩:=L.shape;obtain ⟨ba,bn,bc,rfl,-⟩:=J.shape;obtain ⟨ca,cn,cc,rfl,-⟩:=I.shape;have C:Below q.heap.size q (q.alloc (.cells #[qs aa an ac,qs ba bn bc,qs ca cn cc] 60)):=zi.alloc lr _;refine wp_of_value (d:=33) (v:=qs (some ⟨q.heap.size,0,none⟩) 3 3) (w':=q.alloc (.cells #[qs aa an ac,qs ba bn bc,qs ca cn cc] 60)) rfl (by simp [go_sem,execOp,Act.eval,ap,ao,am]) (F _ _ C ?_);refine .lie L3 [qs aa an ac,qs ba bn bc,qs ca cn cc] _ 0 3 3 rfl (by simp) (by decide) (λ i x hi=> ?_) (.cons (L.mono C) (.cons (J.mono C) (.cons (I.mono C) .nil)));have aE:i < 3:=by have:=(List.getElem?_eq_some_iff.1 hi).1;simpa using this
     rcases (by omega:i=0\/i=1\/i=2) with rfl | rfl | rfl <;> simp at hi <;> subst hi <;> simp
   . have hl:oA6[8]? =some ⟨some 34,Op.call ⟨Callee.value (Operand.func _),#[Operand.tmp 33],_⟩,_,_,_,none⟩:=rfl
     obtain rfl:=Option.some.inj (ho.symm.trans hl);have O:RowsAt q L3 (a1.eval (.tmp 33)):=D (rowF 7 33 L3) (by simp [fA6]) (by kernel_rfl:waitsB oA6 8 7=true);obtain ⟨ag,ab⟩:=gx (a1.eval (.tmp 33))
     rw [ab] at O;have al:=eval_spell ab;refine wp_of_call (d:=34) (f:=12) (args:=#[ag]) rfl (by simp [go_sem,Act.eval,al]) (all_calls L3 ag q O (by simp [L3]) (by decide)) ?_;rintro e w2 ⟨G,u,rfl,h1,h2,C⟩;exact ⟨_,rfl,F _ _ C ⟨G,u,rfl,h1,h2.at⟩⟩
   . have hl:oA6[9]? =some ⟨some 35,Op.call ⟨Callee.value (Operand.func _),#[Operand.tmp 26,Operand.tmp 34],_⟩,_,_,_,none⟩:=rfl
     obtain rfl:=Option.some.inj (ho.symm.trans hl);have ax:a1.eval (.tmp 26)=.agg A:=D (.const 0 26 (.agg A)) (by simp [fA6]) (by kernel_rfl:waitsB oA6 9 0=true);obtain ⟨G,u,ar,y1,y2⟩:∃G u,a1.eval (.tmp 34)=.func (.func 38) #[] #[.pointer (some ⟨G,0,none⟩)]/\Boxed q G 41 u/\RowsAt q L3 u:=D (allF 8 34 L3) (by simp [fA6]) (by kernel_rfl:waitsB oA6 9 8=true);have aq:=eval_spell ax;have ak:=eval_spell ar;refine wp_of_call (d:=35) (f:=11) (args:=#[.agg A,.func (.func 38) #[] #[.pointer (some ⟨G,0,none⟩)]]) rfl (by simp [go_sem,Act.eval,aq,ak]) (HRes q hb G u y1 y2) ?_;rintro e w2 ⟨v,rfl,h1,C⟩;exact ⟨_,rfl,F _ _ C h1⟩
   . have hl:oA6[10]? =some ⟨some 5,Op.assign (Operand.tmp 35),_,_,_,none⟩:=rfl
     obtain rfl:=Option.some.inj (ho.symm.trans hl);have M:RowsAt q R2 (a1.eval (.tmp 35)):=D (rowF 9 35 R2) (by simp [fA6]) (by kernel_rfl:waitsB oA6 10 9=true);obtain ⟨ay,W⟩:=gx (a1.eval (.tmp 35))
     rw [W] at M;have aj:=eval_spell W;exact wp_of_value (d:=5) (v:=ay) (w':=q) rfl (by simp [go_sem,execOp,Act.eval,aj]) (F _ _ zi M)
 . intro a1 q az hb ai
   rw [az.eq];exact hQ (λ d=> a1.eval (.tmp d)) q (ai (rowF 10 5 R2) (by simp [fA6])) hb
end
end Go.Proofs.YtcomoomndgbckaaGreat
