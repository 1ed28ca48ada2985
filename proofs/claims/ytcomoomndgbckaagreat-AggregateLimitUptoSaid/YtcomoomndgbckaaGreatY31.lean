/- Part 31 of the proof. -/
import Derived.Test.YtcomoomndgbckaaGreatY29
import Derived.Test.YtcomoomndgbckaaGreatY30
set_option maxHeartbeats 16000000
set_option maxRecDepth 100000
open Go Go.RowKit
open Go.Lib (hid)
open List (getElem_mem length_append nil_append length_take mem_cons mem_singleton cons_append mem_append map_append take_length mem_iff_getElem not_mem_nil take_append_getElem)
open Nat (zero_le le_trans lt_of_lt_of_le zero_add le_of_lt)
namespace Go.Proofs.YtcomoomndgbckaaGreat
noncomputable section
section
open Go.Sort
theorem Ex.eta:∀E:Ex,Ex.mk E.op E.table E.name E.index E.v E.args=E
 | .mk ..=> rfl
theorem SrsOk.fit {l:List Srs} (h:SrsOk l) (h3:l.length<=3):∀x∈l,(0<=x.first/\x.first<=1000000000)/\x.table.cols.length<=1000000000:=λ x hx=> by
 obtain ⟨i,hi,rfl⟩:=mem_iff_getElem.1 hx;have h1:=h.1 i hi;have C:=h.2 _ (getElem_mem hi);have A:SrsOk (l.take i):=⟨λ j hj=> by
  have o:j < i/\j < l.length:=by simp at hj;omega
  rw [List.getElem_take,h.1 j o.2,List.take_take];congr 4;omega,λ y hy=> h.2 y (List.mem_of_mem_take hy)⟩
 have q:=A.flat;rw [length_take] at q;omega
structure QryZ (s:Stt):Prop where
 cond:s.cond.op=0\/Fm s.cond
 cbk:s.cond.bulk<=1100000
 items:∀x∈s.items,ItF x/\x.e.bulk<=1100000
 group:∀x∈s.group,(x.op=2/\Fm x)/\x.bulk<=1100000
 len:s.items.length<=1100000/\s.group.length<=1100000
def ItQ (L:List Int) (y:Itm):Prop:=y.agg=1\/ExS y.e/\y.e.bulk<=1100000/\∃t,VT L t y.e
theorem one_itm {i o x k j:Int} {t n m:ByteArray} {a:Option Addr} {c d:Nat}:∀u∈[qi i,qi o,qt t,qt n,qi x,qi k,qi j,qt m,qs a c d],u.oneCell'=true:=by
 intro u q;simp only [mem_cons,not_mem_nil,or_false] at q;rcases q with rfl | rfl | rfl | rfl | rfl | rfl | rfl | rfl | rfl <;> rfl
theorem Tryz.info66':(Tryz.prog.info? 66).map (λ i=> (i.zero,i.size,i.bytes))=some (some (.agg #[qi 0,qi 0,qt ⟨#[]⟩,qt ⟨#[]⟩,qi 0,qi 0,qi 0,qt ⟨#[]⟩,q0]),9,112):=by kernel_rfl
theorem wpList_load_bound {ops:Array Oper} {rest:List Oper} {op:Oper} {a:Act} {w:World} {Q:Exit->Act->World->Prop} (hgd:op.guard=none) (x:Operand) (ho:op.op=.load 46 x) (b:Nat) (hx:a.eval x=.pointer (some ⟨b,0,none⟩)) {cs:List Value} (h:∀j,w.cell? ⟨b,j,none⟩=cs.toArray[j]?) (hl:cs.length=26)
 (hK:wpList Tryz.prog ops Q rest (a.put op.dst (.agg cs.toArray)) w):wpList Tryz.prog ops Q (op::rest) a w:=
 wpList_load_mid hgd 46 x ho b 0 hx cs _ (λ j v hv=> by rw [zero_add,h j];simpa using hv) Tryz.underlying46 rfl (by rw [hl];kernel_rfl) hK
theorem item_ag {its:List Itm} {n:Nat} {ag q:Bool} {x:Int} {E:Ex} (h:ag=true↔0 < n\/∃y∈its,y.agg≠0) (hq:q=true↔ag=true\/x≠0):Hid (q=true↔0 < n\/∃y∈its++[⟨x,E⟩],y.agg≠0):=by
 show _↔_;rw [hq,h];simp only [mem_append,mem_singleton];constructor
 . rintro ((h | ⟨y,h1,o⟩) | h)
   . exact .inl h
   . exact .inr ⟨y,.inl h1,o⟩
   . exact .inr ⟨_,.inr rfl,h⟩
 . rintro (h | ⟨y,h1 | rfl,o⟩)
   . exact .inl (.inl h)
   . exact .inl (.inr ⟨y,h1,o⟩)
   . exact .inr o
theorem item_q {L:List Int} {its:List Itm} {x t:Int} {E:Ex} (h:∀y∈its,ItQ L y) (q:x=1\/ExS E/\E.bulk<=1100000/\ET L t E) (ht:t≠3):Hid (∀y∈its++[⟨x,E⟩],ItQ L y):=λ y o=> by
 rcases mem_append.1 o with o | o
 . exact h y o
 . rw [mem_singleton.1 o]
   rcases q with q | ⟨h1,C,A⟩
   . exact .inl q
   . exact .inr ⟨h1,C,A.2.2.2.resolve_left ht⟩
structure BQ (L:List Int) (s:Stt) (its:List Itm) (gs:List Ex):Prop where
 items:∀y∈its,ItQ L y
 agg:its.map (·.agg)=s.items.map (·.agg)
 group:∀g∈gs,g.op=2/\∃i:Nat,g.index=i/\i < L.length
 len:gs.length=s.group.length
 fit:(0 < gs.length\/∃y∈its,y.agg≠0)->0 < its.length/\∀y∈its,y.agg=0->y.e.op=2/\∃g∈gs,g.index=y.e.index
 ord:∀o∈s.order,o.item<=if its.length=0 then L.length else its.length
def BdAt (cols:List Cl) (its:List Itm) (gs:List Ex) (bd:Bd) (w:World):Prop:=LsAt 9 ItE w its (qs bd.items.a bd.items.n bd.items.c)/\ArgsAt w gs (qs bd.group.a bd.group.n bd.group.c)/\LsAt 5 VaE w cols (qs bd.vars.a bd.vars.n bd.vars.c)
def QryP (s:Stt) (v:StV) (w:World) (e:Ending) (w':World):Prop:=∃(bd:Bd) (f:Int),e=.returned (.tuple #[.agg bd.arr,qi f])/\(f=0->(∃cols its gs,BQ (cols.map (·.type)) s its gs/\Ind (λ j=> j < w.heap.size) w' (BdAt cols its gs bd)/\cols.length<=3300000)/\v.od=qs bd.order.a bd.order.n bd.order.c/\bd.limit=s.limit)/\Below w.heap.size w w'
def bd0:Bd:=⟨0,⟨#[]⟩,⟨none,0,0⟩,⟨none,0,0⟩,⟨none,0,0⟩,⟨none,0,0⟩,⟨none,0,0⟩,⟨none,0,0⟩,⟨none,0,0⟩,⟨none,0,0⟩,⟨0,⟨#[]⟩,⟨#[]⟩,0,⟨0,0,⟨#[]⟩⟩,⟨none,0,0⟩⟩,⟨none,0,0⟩,⟨none,0,0⟩,0,⟨#[]⟩,0,⟨none,0,0⟩,⟨none,0,0⟩,⟨none,0,0⟩⟩
theorem cQry_calls (s:Stt) (v:StV) (w:World) (h:SttAt w s v) (S:List Tb) (sa:Option Addr) (sc:Nat) (bs:SchAt w S (qs sa S.length sc)) (hc9:∀t∈S,t.cols.length<=1100000) (hz:SttS s) (hq:QryZ s):Calls Tryz.prog 54 #[qs sa S.length sc,.agg (s.cells v).toArray] w (QryP s v w):=by
 obtain ⟨a1,n1,k1,a2,n2,k2,a3,n3,k3,a4,n4,k4,a5,n5,k5,a6,n6,k6,a7,n7,k7,a8,n8,k8,a9,n9,k9,a10,U,am,a11,J,W,rfl,h1,m1,h2,m2,h3,m3,h4,m4,h5,m5,h6,m6,h7,m7,h8,m8,h9,m9,ce,eb,cd,ea⟩:=h.shapes;have cM:=hid h1;have cL:=hid h2;have cK:=hid h3;have cJ:=hid h4;have cI:=hid h5;have cH:=hid h6;have aw:=hid h7;have cG:=hid h8;have cF:=hid h9;have al:=hid ce;have aH:=hid cd;clear h1 h2 h3 h4 h5 h6 h7 h8 h9 ce cd;have HZ:=hid hz;have HQ:=hid hq;have HD:Hid (SttAt w s ⟨qs a1 s.create.cols.length k1,qs a2 s.create.keys.length k2,qs a3 s.create.fks.length k3,qs a4 s.create.checks.length k4,qs a5 s.values.length k5,qs a6 s.sets.length k6,qs a7 s.items.length k7,qs a8 s.src.length k8,qs a9 s.cond.args.length k9,qs a10 s.group.length am,qs a11 s.order.length W⟩):=by show SttAt _ _ _;rw [cM.out,cL.out,cK.out,cJ.out,cI.out,cH.out,aw.out,cG.out,cF.out,al.out,aH.out];exact h
 clear h hz hq;simp only [Stt.cells,Ex.cells,cons_append,nil_append];obtain ⟨ai,hl⟩:=gx s.limit
 have HL:=hid hl;obtain ⟨kd,bH⟩:=gx s.kind
 obtain ⟨tb,bF⟩:=gx s.table
 obtain ⟨wo,bB⟩:=gx s.cond.op
 obtain ⟨wt,bA⟩:=gx s.cond.table
 obtain ⟨wn,bC⟩:=gx s.cond.name
 obtain ⟨wi,bE⟩:=gx s.cond.index
 obtain ⟨wk,bD⟩:=gx s.cond.v.kind
 obtain ⟨wv,bz⟩:=gx s.cond.v.int
 obtain ⟨wx,bx⟩:=gx s.cond.v.text
 obtain ⟨nm,bG⟩:=gx s.name
 rw [bH,bF,bB,bA,bC,bE,bD,bz,bx,bG,hl];have HK:=hid bH;have dF:=hid bF;have dN:=hid bG;have HC:=hid (And.intro bB (And.intro bA (And.intro bC (And.intro bE (And.intro bD (And.intro bz bx))))));clear bH bF bB bA bC bE bD bz bx bG hl;have V0:=hid ((VarIs.new w (q1a kd tb a1 n1 k1 a2 n2 k2 a3 n3 k3 a4 n4 k4 a5 n5 k5 a6 n6 k6 a7 n7 k7 a8 n8 k8 wo wt wn wi wk wv wx a9 n9 k9 a10 U am a11 J W ai nm) 40).alloc (.cells q0a 46));have V1:=hid (VarIs.new1 w (.cells (q1a kd tb a1 n1 k1 a2 n2 k2 a3 n3 k3 a4 n4 k4 a5 n5 k5 a6 n6 k6 a7 n7 k7 a8 n8 k8 wo wt wn wi wk wv wx a9 n9 k9 a10 U am a11 J W ai nm) 40) q0a 46);have aZ:Hid (Below w.heap.size w (((w.alloc (.cells (q1a kd tb a1 n1 k1 a2 n2 k2 a3 n3 k3 a4 n4 k4 a5 n5 k5 a6 n6 k6 a7 n7 k7 a8 n8 k8 wo wt wn wi wk wv wx a9 n9 k9 a10 U am a11 J W ai nm) 40))).alloc (.cells q0a 46))):=(zi.alloc lr _).alloc (by simp) _;have aN:Hid (SttAt w s ⟨qs a1 n1 k1,qs a2 n2 k2,qs a3 n3 k3,qs a4 n4 k4,qs a5 n5 k5,qs a6 n6 k6,qs a7 n7 k7,qs a8 n8 k8,qs a9 n9 k9,qs a10 U am,qs a11 J W⟩):=by have:=HD.mono zi;rw [cM.out,cL.out,cK.out,cJ.out,cI.out,cH.out,aw.out,cG.out,cF.out,al.out,aH.out] at this;exact this
 obtain ⟨ns,bZ⟩:=gx S.length
 have bc:Hid (∀w',Below w.heap.size w w'->SttAt w' s ⟨qs a1 n1 k1,qs a2 n2 k2,qs a3 n3 k3,qs a4 n4 k4,qs a5 n5 k5,qs a6 n6 k6,qs a7 n7 k7,qs a8 n8 k8,qs a9 n9 k9,qs a10 U am,qs a11 J W⟩->Calls Tryz.prog 88 #[qs sa S.length sc,.agg (q1a kd tb a1 n1 k1 a2 n2 k2 a3 n3 k3 a4 n4 k4 a5 n5 k5 a6 n6 k6 a7 n7 k7 a8 n8 k8 wo wt wn wi wk wv wx a9 n9 k9 a10 U am a11 J W ai nm)] w' (SrcP w')):=λ w' I h=> by have:=cSrc_calls s ⟨qs a1 n1 k1,qs a2 n2 k2,qs a3 n3 k3,qs a4 n4 k4,qs a5 n5 k5,qs a6 n6 k6,qs a7 n7 k7,qs a8 n8 k8,qs a9 n9 k9,qs a10 U am,qs a11 J W⟩ w' h S sa sc (bs.mono TbE.mono I) hc9;simp only [Stt.cells,Ex.cells,cons_append,nil_append,HK.out,dF.out,dN.out,HL.out,HC.1,HC.2.1,HC.2.2.1,HC.2.2.2.1,HC.2.2.2.2.1,HC.2.2.2.2.2.1,HC.2.2.2.2.2.2] at this;exact this
 rw [bZ] at bc ⊢;clear bZ bs hc9;obtain ⟨i0,ii,dl,dk,dj⟩:=info_parts Tryz.info66';obtain ⟨j0,jj,di,dh,dg⟩:=info_parts Tryz.info37';go_enter Tryz.func54,Tryz.ntmps54;go_wp2_with (refine wpList_load_stmt rfl _ rfl _ rfl V0.out.cell (by rfl) ?_);refine (bc.out _ aZ (aN.mono aZ)).mono ?_;rintro e w1 ⟨v1,v2,f,rfl,⟨la,ln,lc,rfl⟩,⟨t1,t2,t3,rfl⟩,hl,I⟩;have cO:=hid hl;have aY:=hid (aZ.trans (I.mono aZ.size));have ae:=hid (V0.below I V0.lt);have bk:=hid (V1.below I V1.lt);have aX:Hid (w.heap.size+2<=w1.heap.size):=by have:=I.size;simp at this;exact this
 clear hl I V0 V1 aZ bc;by_cases hf0:f=0
 . subst hf0
   obtain ⟨l,aQ,b7,bu⟩:=cO.out rfl;have b4:l.length=ln:=by obtain ⟨_,_,e,-⟩:=bu.shape;exact (Value.slice.inj e).2.1.symm
   have aT:∀x∈l,(0<=x.first/\x.first<=1000000000)/\x.table.cols.length<=1000000000:=aQ.fit b7;have aS:=aQ.flat;obtain ⟨cols,an⟩:=gx (l.flatMap (·.table.cols))
   have aU:=aQ.typed;rw [an] at aU aS;have dp:cols.length<=3300000:=by omega
   obtain ⟨L,hL⟩:=gx (cols.map (·.type))
   rw [hL] at aU;have dP:Hid (L.length=cols.length):=by show _=_;rw [<-hL];simp
   have bn:=hid λ (E:Ex) (w':World) (a:Option Addr) (n c:Nat) h1 h2 h3 h4 h5=> cExpr_calls l la lc L aT aU _ E lr h1 h2 h3 a n c w' h4 h5;have aE:=hid λ (w':World) h=> cVars_calls l la lc w' h (λ x hx=> by have:=aQ.2 x hx;omega) (by rw [an];omega);have bo:=hid λ (w':World) h1 h2=> cCond_calls l la lc L aT aU s.cond.op s.cond.table s.cond.name s.cond.index s.cond.v s.cond.args (by rw [Ex.eta];exact HQ.cond) (by rw [Ex.eta];exact HZ.cond) (by rw [Ex.eta];exact HQ.cbk) a9 n9 k9 w' h1 h2;simp only [HC.1,HC.2.1,HC.2.2.1,HC.2.2.2.1,HC.2.2.2.2.1,HC.2.2.2.2.2.1,HC.2.2.2.2.2.2] at bo;simp only [b4,an] at bn aE bo;have au:=hid bu;have dO:=hid hL;have dY:=hid dp;clear aQ b7 bu b4 aT aS an aU hL cO;go_upto_region 4 with (fail)
   go_cut [9] from 29 to 33 (λ z wg=> ∃(g:Nat) (b1:Option Addr) (b2 b3:Nat),z=.pointer (some ⟨g,0,none⟩)/\Hid (VarIs wg g (q1b kd tb a1 n1 k1 a2 n2 k2 a3 n3 k3 a4 n4 k4 a5 n5 k5 a6 n6 k6 a7 n7 k7 a8 n8 k8 wo wt wn wi wk wv wx a9 n9 k9 a10 U am a11 J W ai nm 0 t1 t2 t3 b1 b2 b3 none 0 0))/\Hid (w1.heap.size<=g)/\Hid (Ind (λ j=> j=g\/j < w1.heap.size) wg λ w=> LsAt 5 VaE w cols (qs b1 b2 b3))/\Hid (Below w1.heap.size w1 wg))
   case first=>
    refine wp_region_any (by kernel_rfl) ?_;change wpAny _ _ _ _ _ _ _ (World.drew _);have A:Hid (Below w1.heap.size w1 w1.drew):=zi.drew;generalize World.drew w1=wc0 at A ⊢;refine wpAny_take (i:=1) (v:=?_) rfl (by kernel_rfl) (by kernel_rfl) (by kernel_rfl) (λ _ _ _ h=> h) (Or.inl ⟨by rfl,?_⟩) ?_
    rotate_left
    . intro w;go_simp;with_reducible rfl
    refine wpAny_take (i:=2) (v:=?_) rfl (by kernel_rfl) (by kernel_rfl) (by kernel_rfl) (λ _ _ _ h=> h) (Or.inl ⟨by rfl,?_⟩) ?_
    rotate_left
    . intro w;go_simp;with_reducible rfl
    refine wpAny_ready (rs:=[0,3,5]) (by kernel_rfl) (by simp) ?_;refine AllReady.consL rfl (λ K hK=> ?_) ?_
    . simp only [q2b]
      have VL:=hid (ae.below A ae.lt);go_wp2_with (refine wpList_load_stmt rfl _ rfl _ rfl VL.out.cell (by rfl) ?_);clear VL
      try simp only [normQ]
      refine hK _ _ ?_;clear hK K;refine wpAny_ready (rs:=[3,5]) (by kernel_rfl) (by simp) ?_;refine AllReady.consL rfl (λ K hK=> ?_) ?_
      . simp only [q2b]
        go_wp2_with fail;refine (aE.out _ (au.mono SxE.mono A)).mono ?_;rintro e ao ⟨vv,rfl,M,I⟩;obtain ⟨y1,y3,rfl,-⟩:=M.here.shape;have G:=hid (M.sub (Y:=λ k=> k < w1.heap.size) λ k _ h=> lt_of_lt_of_le h A.size);replace A:=hid (A.trans (I.mono A.size));clear M I;go_wp2
        try simp only [normQ]
        refine hK _ _ ?_;clear hK K;refine wpAny_ready (rs:=[4,5]) (by kernel_rfl) (by simp) ?_;refine AllReady.consL rfl (λ K hK=> ?_) ?_
        . simp only [q2b]
          go_wp2
          try simp only [normQ]
          refine hK _ _ ?_;clear hK K;refine wpAny_ready (rs:=[5]) (by kernel_rfl) (by simp) ?_;refine AllReady.consL rfl (λ K hK=> ?_) ?_
          . simp only [q2b]
            go_wp2;have HV:=hid (VarIs.new ao q0a 46);have HG:Hid (w1.heap.size<=ao.heap.size):=A.size;replace G:=hid (G.mono (zi.alloc lr (.cells q0a 46)) (Y:=λ j=> j=ao.heap.size\/j < w1.heap.size) λ k hk e=> by
             have h2:=HG.out;rcases e with e | e
             . omega
             . exact e)
            replace A:=hid (A.alloc A.size (.cells q0a 46));generalize World.alloc ao (.cells q0a 46)=wc2 at *
            try simp only [normQ]
            refine hK _ _ ?_;clear hK K;refine wpAny_ready (rs:=[6]) (by kernel_rfl) (by simp) ?_;refine AllReady.consL rfl (λ K hK=> ?_) ?_
            . simp only [q2b]
              go_wp2_with (refine wpList_store_row rfl _ _ _ rfl _ rfl rfl HV.out rfl (by kernel_rfl) rfl ?_);intro wE T D
              try simp only [wpList,normQ]
              refine hK _ _ ?_;clear hK K;refine wpAny_done (by kernel_rfl) ?_ _;go_wp2;go_meet;exact ⟨_,_,_,_,rfl,T,HG,hid (G.agr D (λ _ _ h=> .inl h) λ _ _ h=> h),hid (A.trans (D.below A.size λ k hk=> by have:=HG.out;show ¬ k=_;omega))⟩
            exact AllReady.nil
          exact AllReady.nil
        refine AllReady.consL rfl (λ K hK=> ?_) ?_
        . simp only [q2b]
          go_wp2;have HV:=hid (VarIs.new ao q0a 46);have HG:Hid (w1.heap.size<=ao.heap.size):=A.size;replace G:=hid (G.mono (zi.alloc lr (.cells q0a 46)) (Y:=λ j=> j=ao.heap.size\/j < w1.heap.size) λ k hk e=> by
           have h2:=HG.out;rcases e with e | e
           . omega
           . exact e)
          replace A:=hid (A.alloc A.size (.cells q0a 46));generalize World.alloc ao (.cells q0a 46)=wc3 at *
          try simp only [normQ]
          refine hK _ _ ?_;clear hK K;refine wpAny_ready (rs:=[4]) (by kernel_rfl) (by simp) ?_;refine AllReady.consL rfl (λ K hK=> ?_) ?_
          . simp only [q2b]
            go_wp2
            try simp only [normQ]
            refine hK _ _ ?_;clear hK K;refine wpAny_ready (rs:=[6]) (by kernel_rfl) (by simp) ?_;refine AllReady.consL rfl (λ K hK=> ?_) ?_
            . simp only [q2b]
              go_wp2_with (refine wpList_store_row rfl _ _ _ rfl _ rfl rfl HV.out rfl (by kernel_rfl) rfl ?_);intro wE T D
              try simp only [wpList,normQ]
              refine hK _ _ ?_;clear hK K;refine wpAny_done (by kernel_rfl) ?_ _;go_wp2;go_meet;exact ⟨_,_,_,_,rfl,T,HG,hid (G.agr D (λ _ _ h=> .inl h) λ _ _ h=> h),hid (A.trans (D.below A.size λ k hk=> by have:=HG.out;show ¬ k=_;omega))⟩
            exact AllReady.nil
          exact AllReady.nil
        exact AllReady.nil
      refine AllReady.consL rfl (λ K hK=> ?_) ?_
      . simp only [q2b]
        go_wp2;have HV:=hid (VarIs.new wc0 q0a 46);have HG:Hid (w1.heap.size<=wc0.heap.size):=A.size;replace A:=hid (A.alloc A.size (.cells q0a 46));generalize World.alloc wc0 (.cells q0a 46)=wc4 at *
        try simp only [normQ]
        refine hK _ _ ?_;clear hK K;refine wpAny_ready (rs:=[3]) (by kernel_rfl) (by simp) ?_;refine AllReady.consL rfl (λ K hK=> ?_) ?_
        . simp only [q2b]
          go_wp2_with fail;refine (aE.out _ (au.mono SxE.mono A)).mono ?_;rintro e c9 ⟨vv,rfl,M,I⟩;obtain ⟨y1,y3,rfl,-⟩:=M.here.shape;have G:Hid (Ind (λ j=> j=wc0.heap.size\/j < w1.heap.size) c9 λ w=> LsAt 5 VaE w cols (qs y1 cols.length y3)):=M.sub λ k hk e=> by have h1:=HV.lt;have h2:=HG.out;show k < _;rcases e with e | e <;> omega
          replace HV:=hid (HV.below I HV.lt);replace A:=hid (A.trans (I.mono A.size));clear M I;go_wp2
          try simp only [normQ]
          refine hK _ _ ?_;clear hK K;refine wpAny_ready (rs:=[4]) (by kernel_rfl) (by simp) ?_;refine AllReady.consL rfl (λ K hK=> ?_) ?_
          . simp only [q2b]
            go_wp2
            try simp only [normQ]
            refine hK _ _ ?_;clear hK K;refine wpAny_ready (rs:=[6]) (by kernel_rfl) (by simp) ?_;refine AllReady.consL rfl (λ K hK=> ?_) ?_
            . simp only [q2b]
              go_wp2_with (refine wpList_store_row rfl _ _ _ rfl _ rfl rfl HV.out rfl (by kernel_rfl) rfl ?_);intro wE T D
              try simp only [wpList,normQ]
              refine hK _ _ ?_;clear hK K;refine wpAny_done (by kernel_rfl) ?_ _;go_wp2;go_meet;exact ⟨_,_,_,_,rfl,T,HG,hid (G.agr D (λ _ _ h=> .inl h) λ _ _ h=> h),hid (A.trans (D.below A.size λ k hk=> by have:=HG.out;show ¬ k=_;omega))⟩
            exact AllReady.nil
          exact AllReady.nil
        exact AllReady.nil
      exact AllReady.nil
    refine AllReady.consL rfl (λ K hK=> ?_) ?_
    . simp only [q2b]
      go_wp2_with fail;refine (aE.out _ (au.mono SxE.mono A)).mono ?_;rintro e ah ⟨vv,rfl,M,I⟩;obtain ⟨y1,y3,rfl,-⟩:=M.here.shape;have G:=hid (M.sub (Y:=λ k=> k < w1.heap.size) λ k _ h=> lt_of_lt_of_le h A.size);replace A:=hid (A.trans (I.mono A.size));clear M I;go_wp2
      try simp only [normQ]
      refine hK _ _ ?_;clear hK K;refine wpAny_ready (rs:=[0,5]) (by kernel_rfl) (by simp) ?_;refine AllReady.consL rfl (λ K hK=> ?_) ?_
      . simp only [q2b]
        have VL:=hid (ae.below A ae.lt);go_wp2_with (refine wpList_load_stmt rfl _ rfl _ rfl VL.out.cell (by rfl) ?_);clear VL
        try simp only [normQ]
        refine hK _ _ ?_;clear hK K;refine wpAny_ready (rs:=[4,5]) (by kernel_rfl) (by simp) ?_;refine AllReady.consL rfl (λ K hK=> ?_) ?_
        . simp only [q2b]
          go_wp2
          try simp only [normQ]
          refine hK _ _ ?_;clear hK K;refine wpAny_ready (rs:=[5]) (by kernel_rfl) (by simp) ?_;refine AllReady.consL rfl (λ K hK=> ?_) ?_
          . simp only [q2b]
            go_wp2;have HV:=hid (VarIs.new ah q0a 46);have HG:Hid (w1.heap.size<=ah.heap.size):=A.size;replace G:=hid (G.mono (zi.alloc lr (.cells q0a 46)) (Y:=λ j=> j=ah.heap.size\/j < w1.heap.size) λ k hk e=> by
             have h2:=HG.out;rcases e with e | e
             . omega
             . exact e)
            replace A:=hid (A.alloc A.size (.cells q0a 46));generalize World.alloc ah (.cells q0a 46)=wc7 at *
            try simp only [normQ]
            refine hK _ _ ?_;clear hK K;refine wpAny_ready (rs:=[6]) (by kernel_rfl) (by simp) ?_;refine AllReady.consL rfl (λ K hK=> ?_) ?_
            . simp only [q2b]
              go_wp2_with (refine wpList_store_row rfl _ _ _ rfl _ rfl rfl HV.out rfl (by kernel_rfl) rfl ?_);intro wE T D
              try simp only [wpList,normQ]
              refine hK _ _ ?_;clear hK K;refine wpAny_done (by kernel_rfl) ?_ _;go_wp2;go_meet;exact ⟨_,_,_,_,rfl,T,HG,hid (G.agr D (λ _ _ h=> .inl h) λ _ _ h=> h),hid (A.trans (D.below A.size λ k hk=> by have:=HG.out;show ¬ k=_;omega))⟩
            exact AllReady.nil
          exact AllReady.nil
        refine AllReady.consL rfl (λ K hK=> ?_) ?_
        . simp only [q2b]
          go_wp2;have HV:=hid (VarIs.new ah q0a 46);have HG:Hid (w1.heap.size<=ah.heap.size):=A.size;replace G:=hid (G.mono (zi.alloc lr (.cells q0a 46)) (Y:=λ j=> j=ah.heap.size\/j < w1.heap.size) λ k hk e=> by
           have h2:=HG.out;rcases e with e | e
           . omega
           . exact e)
          replace A:=hid (A.alloc A.size (.cells q0a 46));generalize World.alloc ah (.cells q0a 46)=wc8 at *
          try simp only [normQ]
          refine hK _ _ ?_;clear hK K;refine wpAny_ready (rs:=[4]) (by kernel_rfl) (by simp) ?_;refine AllReady.consL rfl (λ K hK=> ?_) ?_
          . simp only [q2b]
            go_wp2
            try simp only [normQ]
            refine hK _ _ ?_;clear hK K;refine wpAny_ready (rs:=[6]) (by kernel_rfl) (by simp) ?_;refine AllReady.consL rfl (λ K hK=> ?_) ?_
            . simp only [q2b]
              go_wp2_with (refine wpList_store_row rfl _ _ _ rfl _ rfl rfl HV.out rfl (by kernel_rfl) rfl ?_);intro wE T D
              try simp only [wpList,normQ]
              refine hK _ _ ?_;clear hK K;refine wpAny_done (by kernel_rfl) ?_ _;go_wp2;go_meet;exact ⟨_,_,_,_,rfl,T,HG,hid (G.agr D (λ _ _ h=> .inl h) λ _ _ h=> h),hid (A.trans (D.below A.size λ k hk=> by have:=HG.out;show ¬ k=_;omega))⟩
            exact AllReady.nil
          exact AllReady.nil
        exact AllReady.nil
      refine AllReady.consL rfl (λ K hK=> ?_) ?_
      . simp only [q2b]
        go_wp2;have HV:=hid (VarIs.new ah q0a 46);have HG:Hid (w1.heap.size<=ah.heap.size):=A.size;replace G:=hid (G.mono (zi.alloc lr (.cells q0a 46)) (Y:=λ j=> j=ah.heap.size\/j < w1.heap.size) λ k hk e=> by
         have h2:=HG.out;rcases e with e | e
         . omega
         . exact e)
        replace A:=hid (A.alloc A.size (.cells q0a 46));generalize World.alloc ah (.cells q0a 46)=wc9 at *
        try simp only [normQ]
        refine hK _ _ ?_;clear hK K;refine wpAny_ready (rs:=[0]) (by kernel_rfl) (by simp) ?_;refine AllReady.consL rfl (λ K hK=> ?_) ?_
        . simp only [q2b]
          have VL:=hid (ae.below A ae.lt);go_wp2_with (refine wpList_load_stmt rfl _ rfl _ rfl VL.out.cell (by rfl) ?_);clear VL
          try simp only [normQ]
          refine hK _ _ ?_;clear hK K;refine wpAny_ready (rs:=[4]) (by kernel_rfl) (by simp) ?_;refine AllReady.consL rfl (λ K hK=> ?_) ?_
          . simp only [q2b]
            go_wp2
            try simp only [normQ]
            refine hK _ _ ?_;clear hK K;refine wpAny_ready (rs:=[6]) (by kernel_rfl) (by simp) ?_;refine AllReady.consL rfl (λ K hK=> ?_) ?_
            . simp only [q2b]
              go_wp2_with (refine wpList_store_row rfl _ _ _ rfl _ rfl rfl HV.out rfl (by kernel_rfl) rfl ?_);intro wE T D
              try simp only [wpList,normQ]
              refine hK _ _ ?_;clear hK K;refine wpAny_done (by kernel_rfl) ?_ _;go_wp2;go_meet;exact ⟨_,_,_,_,rfl,T,HG,hid (G.agr D (λ _ _ h=> .inl h) λ _ _ h=> h),hid (A.trans (D.below A.size λ k hk=> by have:=HG.out;show ¬ k=_;omega))⟩
            exact AllReady.nil
          exact AllReady.nil
        exact AllReady.nil
      exact AllReady.nil
    refine AllReady.consL rfl (λ K hK=> ?_) ?_
    . simp only [q2b]
      go_wp2;have HV:=hid (VarIs.new wc0 q0a 46);have HG:Hid (w1.heap.size<=wc0.heap.size):=A.size;replace A:=hid (A.alloc A.size (.cells q0a 46));generalize World.alloc wc0 (.cells q0a 46)=wc10 at *
      try simp only [normQ]
      refine hK _ _ ?_;clear hK K;refine wpAny_ready (rs:=[0,3]) (by kernel_rfl) (by simp) ?_;refine AllReady.consL rfl (λ K hK=> ?_) ?_
      . simp only [q2b]
        have VL:=hid (ae.below A ae.lt);go_wp2_with (refine wpList_load_stmt rfl _ rfl _ rfl VL.out.cell (by rfl) ?_);clear VL
        try simp only [normQ]
        refine hK _ _ ?_;clear hK K;refine wpAny_ready (rs:=[3]) (by kernel_rfl) (by simp) ?_;refine AllReady.consL rfl (λ K hK=> ?_) ?_
        . simp only [q2b]
          go_wp2_with fail;refine (aE.out _ (au.mono SxE.mono A)).mono ?_;rintro e bX ⟨vv,rfl,M,I⟩;obtain ⟨y1,y3,rfl,-⟩:=M.here.shape;have G:Hid (Ind (λ j=> j=wc0.heap.size\/j < w1.heap.size) bX λ w=> LsAt 5 VaE w cols (qs y1 cols.length y3)):=M.sub λ k hk e=> by have h1:=HV.lt;have h2:=HG.out;show k < _;rcases e with e | e <;> omega
          replace HV:=hid (HV.below I HV.lt);replace A:=hid (A.trans (I.mono A.size));clear M I;go_wp2
          try simp only [normQ]
          refine hK _ _ ?_;clear hK K;refine wpAny_ready (rs:=[4]) (by kernel_rfl) (by simp) ?_;refine AllReady.consL rfl (λ K hK=> ?_) ?_
          . simp only [q2b]
            go_wp2
            try simp only [normQ]
            refine hK _ _ ?_;clear hK K;refine wpAny_ready (rs:=[6]) (by kernel_rfl) (by simp) ?_;refine AllReady.consL rfl (λ K hK=> ?_) ?_
            . simp only [q2b]
              go_wp2_with (refine wpList_store_row rfl _ _ _ rfl _ rfl rfl HV.out rfl (by kernel_rfl) rfl ?_);intro wE T D
              try simp only [wpList,normQ]
              refine hK _ _ ?_;clear hK K;refine wpAny_done (by kernel_rfl) ?_ _;go_wp2;go_meet;exact ⟨_,_,_,_,rfl,T,HG,hid (G.agr D (λ _ _ h=> .inl h) λ _ _ h=> h),hid (A.trans (D.below A.size λ k hk=> by have:=HG.out;show ¬ k=_;omega))⟩
            exact AllReady.nil
          exact AllReady.nil
        exact AllReady.nil
      refine AllReady.consL rfl (λ K hK=> ?_) ?_
      . simp only [q2b]
        go_wp2_with fail;refine (aE.out _ (au.mono SxE.mono A)).mono ?_;rintro e bW ⟨vv,rfl,M,I⟩;obtain ⟨y1,y3,rfl,-⟩:=M.here.shape;have G:Hid (Ind (λ j=> j=wc0.heap.size\/j < w1.heap.size) bW λ w=> LsAt 5 VaE w cols (qs y1 cols.length y3)):=M.sub λ k hk e=> by have h1:=HV.lt;have h2:=HG.out;show k < _;rcases e with e | e <;> omega
        replace HV:=hid (HV.below I HV.lt);replace A:=hid (A.trans (I.mono A.size));clear M I;go_wp2
        try simp only [normQ]
        refine hK _ _ ?_;clear hK K;refine wpAny_ready (rs:=[0]) (by kernel_rfl) (by simp) ?_;refine AllReady.consL rfl (λ K hK=> ?_) ?_
        . simp only [q2b]
          have VL:=hid (ae.below A ae.lt);go_wp2_with (refine wpList_load_stmt rfl _ rfl _ rfl VL.out.cell (by rfl) ?_);clear VL
          try simp only [normQ]
          refine hK _ _ ?_;clear hK K;refine wpAny_ready (rs:=[4]) (by kernel_rfl) (by simp) ?_;refine AllReady.consL rfl (λ K hK=> ?_) ?_
          . simp only [q2b]
            go_wp2
            try simp only [normQ]
            refine hK _ _ ?_;clear hK K;refine wpAny_ready (rs:=[6]) (by kernel_rfl) (by simp) ?_;refine AllReady.consL rfl (λ K hK=> ?_) ?_
            . simp only [q2b]
              go_wp2_with (refine wpList_store_row rfl _ _ _ rfl _ rfl rfl HV.out rfl (by kernel_rfl) rfl ?_);intro wE T D
              try simp only [wpList,normQ]
              refine hK _ _ ?_;clear hK K;refine wpAny_done (by kernel_rfl) ?_ _;go_wp2;go_meet;exact ⟨_,_,_,_,rfl,T,HG,hid (G.agr D (λ _ _ h=> .inl h) λ _ _ h=> h),hid (A.trans (D.below A.size λ k hk=> by have:=HG.out;show ¬ k=_;omega))⟩
            exact AllReady.nil
          exact AllReady.nil
        exact AllReady.nil
      exact AllReady.nil
    exact AllReady.nil
   obtain ⟨g,b1,b2,b3,rfl,V2,aM,G,Hx⟩:=hcut
   rename World=> wa
   have cp:=hid (ae.below Hx ae.lt);have ck:=hid (bk.below Hx bk.lt);have cx:=hid (aY.trans (Hx.mono aY.size));have c6:=hid Hx;have aL:Hid (w.heap.size+2<=g/\g < wa.heap.size):=⟨le_trans aX aM,V2.lt⟩
   clear Hx ae bk aY aE;obtain ⟨q1,q2,q3⟩:=V2.out;have x8:=q2 8;have af:=q2 18;simp only [q2a] at x8 af;have f8:wa.frozen? ⟨g,8,none⟩=false:=q3 8;have bw:wa.frozen? ⟨g,18,none⟩=false:=q3 18;clear q2 q3;go_upto_region 6 with (fail)
   have bJ:Hid (VarIs ((wa.setCell ⟨g,8,none⟩ (q0)).setCell ⟨g,18,none⟩ (q0)) g (q1b kd tb a1 n1 k1 a2 n2 k2 a3 n3 k3 a4 n4 k4 a5 n5 k5 a6 n6 k6 none 0 0 a8 n8 k8 wo wt wn wi wk wv wx a9 n9 k9 none 0 0 a11 J W ai nm 0 t1 t2 t3 b1 b2 b3 none 0 0)):=(V2.set 8 (by simp) (q0)).set 18 (by simp) (q0);have Ab:Hid (Agr (λ k=> k=g) wa ((wa.setCell ⟨g,8,none⟩ (q0)).setCell ⟨g,18,none⟩ (q0))):=(agr_setCell wa ⟨g,8,none⟩ _).trans (agr_setCell _ ⟨g,18,none⟩ _) λ _ _ h=> h;generalize World.setCell (World.setCell wa _ _) _ _=wb at *;clear q1 x8 af f8 bw V2;have bd:=hid (Ab.below (B:=g) (le_of_lt aL.2) λ j hj e=> by have e:j=g:=e;omega);have bp:=hid (c6.trans (bd.mono aM));have bL:=hid (cp.below bd (by have:=aL.1;omega));have cj:=hid (ck.below bd (by have:=aL.1;omega));have cw:=hid (cx.trans (bd.mono (by have:=aL.1;omega)));have cA:=hid (G.agr Ab (λ _ _ h=> .inl h) λ _ _ h=> h);have dU:Hid (w.heap.size+2<=g/\g < wb.heap.size):=⟨aL.1,bJ.lt⟩
   clear Ab bd c6 cp ck cx G aL;have aJ:=bL.a18;go_wp2;clear aJ;go_loopw [10,11] (λ q z wr=> ∃(k:Nat) (F:List Itm) (v:Value) (ag:Bool),k<=n7/\z=qi k/\q=.bool ag/\Hid (ag=true↔0 < U\/∃y∈F,y.agg≠0)/\Hid (F.map (·.agg)=(s.items.take k).map (·.agg))/\Hid (∀y∈F,ItQ L y)/\Hid (Bl 66 9 ItE wb.heap.size (λ j=> j < wb.heap.size) wr F v)/\Hid (VarIs wr g #[qi kd,qt tb,qs a1 n1 k1,qs a2 n2 k2,qs a3 n3 k3,qs a4 n4 k4,qs a5 n5 k5,qs a6 n6 k6,v,qs a8 n8 k8,qi wo,qt wt,qt wn,qi wi,qi wk,qi wv,qt wx,qs a9 n9 k9,q0,qs a11 J W,qi ai,qt nm,qi 0,qs t1 t2 t3,qs b1 b2 b3,q0])/\Hid (Agr (λ k=> k=g) wb wr)) (λ _ z _=> n7 - (intOf z).toNat)
   case atStart=> exact ⟨0,[],q0,_,zero_le _,rfl,rfl,(by show _↔_;simp),rfl,(λ y h=> by cases h),Bl.nil _ _ _ _ _ _,bJ,Agr.refl _ _⟩
   case round=>
    obtain ⟨k,F,v,ag,hk,rfl,rfl,cY,HM,HI,HB,ak,HA⟩:=hrel
    rename World=> wl
    obtain ⟨va,vc,hv⟩:=HB.shape;have b6:F.length=k:=by have:=congrArg List.length HM;simp at this;have:=aw.out;omega
    rw [b6] at hv;subst hv;have ax:=hid λ j h=> (HB.ge j h).2;obtain ⟨eu,bv⟩:=dU.out;have aj:=hid (HA.below (B:=g) (le_of_lt bv) λ j hj e=> by have e:j=g:=e;omega);have aP:wb.heap.size<=wl.heap.size:=HA.size;have H:=hid (bL.below aj (by omega));have ad:=hid (cj.below aj (by omega));have ac:=hid (cw.trans (aj.mono (by omega)));have ar:=hid (au.mono SxE.mono (bp.trans (aj.mono aM)));clear aj;have c8:=H.a8;by_cases hlt:k < n7
    . have O:k < s.items.length:=by rw [aw.out];exact hlt
      obtain ⟨b,o,a,n,c,rfl,aa,hx,d0,d1,d2,d3,d4,d5,d6,d7,d8⟩:=ItAt.cell (HD.items.mono ItE.mono ac) k O;have HY:=hid (HQ.items _ (getElem_mem O));have bP:=hid (HZ.items _ (getElem_mem O));have cB:Hid ((s.items.take (k+1)).map (·.agg)=(s.items.take k).map (·.agg)++[s.items[k].agg]):=by show _=_;rw [<-take_append_getElem O,map_append];rfl
      generalize s.items[k]=y at *;obtain ⟨ab,E⟩:=y;simp only at d0 d1 d2 d3 d4 d5 d6 d7 d8 hx HY bP cB;have cy:=hid hx;have br:(0:Int)<=(k:Int):=by omega
      have kk:(k:Int) < (n7:Int):=by omega
      clear hx O;go_wp2_with (refine wpList_store_row rfl _ _ _ rfl _ rfl rfl (VarIs.new _ _ _) rfl (by kernel_rfl) rfl ?_);intro w3 VB A3;clear c8;have H3:=hid (((zi.alloc lr _).trans (A3.below (by simp) (λ k hk=> by show ¬ k=_;omega)):Below wl.heap.size wl w3));have cW:=hid (And.intro aa d0);replace d0:=(H3.cell (p:=⟨b,o+k * 9,none⟩) aa).trans d0;replace d1:=(H3.cell (p:=⟨b,o+k * 9+1,none⟩) aa).trans d1;replace d2:=(H3.cell (p:=⟨b,o+k * 9+2,none⟩) aa).trans d2;replace d3:=(H3.cell (p:=⟨b,o+k * 9+3,none⟩) aa).trans d3;replace d4:=(H3.cell (p:=⟨b,o+k * 9+4,none⟩) aa).trans d4;replace d5:=(H3.cell (p:=⟨b,o+k * 9+5,none⟩) aa).trans d5;replace d6:=(H3.cell (p:=⟨b,o+k * 9+6,none⟩) aa).trans d6;replace d7:=(H3.cell (p:=⟨b,o+k * 9+7,none⟩) aa).trans d7;replace d8:=(H3.cell (p:=⟨b,o+k * 9+8,none⟩) aa).trans d8;clear A3 aa;have ct:=hid (H.below H3 H.lt);have c8:=ct.a8;go_upto_region 11 with (fail)
      go_cut [56] from 50 to 56 (λ z wg=> ∃q:Bool,z=.bool q/\Hid (q=true↔ab≠1)/\w3=wg)
      case first=> go_wp2 <;> (go_meet;exact ⟨_,rfl,(by show _↔_;simp),rfl⟩)
      obtain ⟨q1,rfl,bQ,rfl⟩:=hcut;go_step;go_cut [] from 57 to 64 (λ wy=> ∃(E':Ex) (a':Option Addr) (n' c':Nat) (t f:Int),Hid (VarIs wy wl.heap.size #[qi E'.op,qt E'.table,qt E'.name,qi E'.index,qi E'.v.kind,qi E'.v.int,qt E'.v.text,qs a' n' c',qi t,qi f])/\Hid (f=0->ab=1\/ExS E'/\E'.bulk<=1100000/\ET L t E')/\Hid (f=0->Ind (λ j=> j < wl.heap.size) wy λ w=> ArgsAt w E'.args (qs a' n' c'))/\Hid (Below wl.heap.size wl wy))
      case first=>
       cases q1 with
       | false=>
        have h1:ab=1:=by have:=bQ.out;simp at this;exact this
        go_wp2;go_meet;exact ⟨.mk 0 ⟨#[]⟩ ⟨#[]⟩ 0 ⟨0,0,⟨#[]⟩⟩ [],none,0,0,0,0,VB,(λ _=> .inl h1),(λ _=> Ind.triv λ _=> .mt),H3⟩
       | true=>
        have h1:ab≠1:=bQ.1 rfl;go_wp2_with fail;refine (bn.out E w3 a n c (HY.1.2.elim (λ h=> absurd h.1 h1) λ h=> h.2) bP HY.2 (ar.mono SxE.mono H3) (cy.mono H3)).mono ?_;rintro e w4 ⟨E',s',t,f,rfl,⟨a',n',c',rfl⟩,aO,I⟩;simp only [Ex.cells,cons_append,nil_append];have dA:=hid (VB.below I VB.lt);have H4:=hid (H3.trans (I.mono H3.size));have bb:=hid aO;clear I aO;go_wp2_with (refine wpList_store_row rfl _ _ _ rfl _ rfl rfl dA.out rfl (by kernel_rfl) rfl ?_);intro w5 dz A5;go_wp2;go_meet;refine ⟨E',a',n',c',t,f,dz,λ h=> ?_,λ h=> ?_,H4.trans (A5.below H4.size λ k hk=> by show ¬ k=_;omega)⟩
        . obtain ⟨-,h3,h4,h5,-⟩:=bb.out h
          exact .inr ⟨h4,by rw [h3];exact HY.2,h5⟩
        . obtain ⟨-,-,-,-,-,-,hi⟩:=bb.out h
          exact (hi (λ j=> j < w3.heap.size) λ _ h=> h).agr A5 (λ j _ e=> by have:=VB.lt;have e:j=wl.heap.size:=e;show j < _;omega) λ j _ h=> by have:=VB.lt;show j < _;omega
      clear VB H3 ct c8 bP cy d0 d1 d2 d3 d4 d5 d6 d7 d8 bQ
      rename World=> d9
      obtain ⟨E',a',n',c',t,f,VB,HT,bm,H3⟩:=hcut
      rename World=> w6
      have cq:=hid (H.below H3 H.lt);have bj:=hid (ad.below H3 ad.lt);have aD:=hid (ac.trans (H3.mono ac.size));have y8:=VB.a8;have y9:=VB.a9;by_cases hf0:f=0
      . subst hf0
        have dG:=hid (HT.out rfl);have bm:=hid (bm.out rfl);have d0:=(H3.cell (p:=⟨b,o+k * 9,none⟩) cW.1).trans cW.2;have c8:=cq.a8;go_upto_region 15 with (fail)
        go_cut [88] from 71 to 88 (λ z wg=> ∃q:Bool,z=.bool q/\Hid (q=false->t≠3)/\w6=wg)
        case first=>
         by_cases h3:t=3
         . have z3:(t==3)=true:=by simp [h3]
           go_wp2_with fail;go_meet;exact ⟨true,rfl,(λ h=> by cases h),rfl⟩
         . have z3:(t==3)=false:=by simp [h3]
           by_cases hs:ab=3
           . have zs:(ab==3)=true:=by simp [hs]
             go_wp2_with fail;refine (cFits_calls t 1 _).mono ?_;rintro e w7 ⟨rfl,rfl⟩;go_wp2_with fail;go_meet;exact ⟨_,rfl,(λ _=> h3),rfl⟩
           . have zs:(ab==3)=false:=by simp [hs]
             go_wp2_with fail;go_meet;exact ⟨_,rfl,(λ _=> h3),rfl⟩
        obtain ⟨q2,rfl,dK,rfl⟩:=hcut;cases q2 with
        | true=>
         clear d0 c8 y8 y9;go_wp2_with (refine wpList_store_row rfl _ _ _ rfl _ rfl rfl bj.out rfl (by kernel_rfl) rfl ?_);intro wE T D;have V:=hid (aD.trans (D.below aD.size λ k hk=> by show ¬ k=_;omega));clear D;go_wp2;refine bodyPost_ret (v:=.tuple #[.agg q0a,qi 6]) ?_ rfl ?_
         . exact results_cell_tmp rfl _ _ rfl T Tryz.underlying46 rfl (by kernel_rfl)
         . exact ⟨bd0,6,rfl,(λ h=> absurd h (by decide)),V⟩
        | false=>
         have dm:t≠3:=dK.out rfl;clear y8 y9;go_upto_region 17 with (fail)
         go_cut [96] from 90 to 96 (λ z wg=> ∃q:Bool,z=.bool q/\Hid (q=true↔ab≠0)/\w6=wg)
         case first=> go_wp2 <;> (go_meet;exact ⟨_,rfl,(by show _↔_;simp),rfl⟩)
         obtain ⟨q3,rfl,cE,rfl⟩:=hcut;go_step;go_cut [10] from 97 to 97 (λ z wg=> ∃q:Bool,z=.bool q/\Hid (q=true↔ag=true\/ab≠0)/\w6=wg)
         case first=>
          cases q3 with
          | true=>
           go_wp2;go_meet;exact ⟨true,rfl,⟨λ _=> .inr (cE.1 (by simp)),λ _=> rfl⟩,rfl⟩
          | false=>
           go_wp2;go_meet;exact ⟨ag,rfl,⟨.inl,λ h=> h.elim id λ h=> absurd (cE.2 h) (by simp)⟩,rfl⟩
         obtain ⟨q4,rfl,dJ,rfl⟩:=hcut;have ap:=hid ((ak.below H3 ak.lt));have x8:=ap.a8;have y0:=VB.a0;have y1:=VB.a1;have y2:=VB.a2;have y3:=VB.a3;have y4:=VB.a4;have y5:=VB.a5;have y6:=VB.a6;have y7:=VB.a7;go_upto_region 19 with (fail)
         refine wp_region_segs [([0,1,2,3,4,5,6,7,8,9,10,11],12)] [] [13,14,15,16] (by kernel_rfl) (by kernel_rfl) ?_;simp only [q2c,wpSegs];have dd:=cell_regrown (w:=w6.drew) x8;have df:=cell_regrown (w:=w6.drew) c8;have de:=cell_regrown (w:=w6.drew) d0;have ej:=cell_regrown (w:=w6.drew) y0;have ei:=cell_regrown (w:=w6.drew) y1;have eh:=cell_regrown (w:=w6.drew) y2;have eg:=cell_regrown (w:=w6.drew) y3;have ef:=cell_regrown (w:=w6.drew) y4;have ee:=cell_regrown (w:=w6.drew) y5;have ed:=cell_regrown (w:=w6.drew) y6;have ec:=cell_regrown (w:=w6.drew) y7;clear x8 c8 d0 y0 y1 y2 y3 y4 y5 y6 y7;have A:Hid (Below (w6).heap.size (w6) (w6).drew):=zi.drew
         repeat (first | go_big_quiet_step (fail) | quiet_step (fail))
         refine wpQuiet_nil ?_;refine ⟨rfl,λ wy hby=> ?_⟩;go_simp;have Hy:=hid (A.trans (hby.mono A.size));refine uponV_box λ wv HV Hbv=> ⟨Hbv,?_⟩
         replace A:=hid (Hy.trans (Hbv.mono Hy.size));clear hby Hy;go_simp
         repeat (first | go_big_quiet_step (fail) | quiet_step (fail))
         refine wpQuiet_nil ?_;intro wz aI;replace A:=hid (A.trans (aI.mono A.size));replace HV:=hid (HV.below aI HV.lt);clear aI;have bO:=hid (H3.trans (A.mono H3.size));have be:=hid (HB.below bO);have ch:=hid (ap.below A ap.lt);have bM:Hid (wb.heap.size<=wz.heap.size):=le_trans aP bO.size;have ba:=hid (bm.mono A (Y:=λ j=> j < wl.heap.size) λ _ _ h=> h);have bg:Hid (Agr (λ k=> k=g) wb wz):=HA.trans (Agr.all bO) λ _ _ h=> h;clear A bm ap HB;go_wp2_with (at_builtin;go_loud (refine wpList_pushG (E:=ItE) rfl _ _ 32 rfl i0 _ 112 Tryz.underlying32 ii dl dk dj rfl (by decide) (by decide) rfl be.out ⟨ab,E'⟩ [_,_,_,_,_,_,_,_,_] _ rfl HV.out.cell rfl one_itm ?hE ?hl bM.out (λ j h=> h) ?_))
         case hE=> exact (ba.sub λ j _ h=> by
          rcases h with h | h
          . exact lt_of_lt_of_le h aP
          . exact (ax.out j h)).imp λ w h=> ⟨_,rfl,h⟩
         case hl=> have:=aw.out;have:=HQ.len.1;omega
         intro v' w8 aF aB _ _;obtain ⟨aA,ay,az,rfl⟩:∃a n c,v'=qs a n c:=by obtain ⟨a,c,h⟩:=aF.shape;exact ⟨a,_,c,h⟩
         have aW:=hid (ch.below aB (by omega));have bU:Hid (Agr (λ k=> k=g) wb w8):=bg.trans (Agr.of aB) λ j h1 h2=> absurd h2 (by omega);clear aB be ch bg ba HV;obtain ⟨q1,q2,q3⟩:=aW.out;have x8:=q2 8;simp only [q2a] at x8;have f8:w8.frozen? ⟨g,8,none⟩=false:=q3 8;clear q2 q3;go_wp2;clear q1 x8 f8;have bS:=hid (aF.other (Z:=λ k=> k < wb.heap.size) (agr_setCell w8 ⟨g,8,none⟩ (qs aA ay az)) (λ j _ h=> by have h:j=g:=h;omega) (λ j hj h=> by have h1:=(aF.ge j hj).1;have h:j=g:=h;omega) (λ _ _ h=> h));have bI:=hid (aW.set 8 (by simp) (qs aA ay az));have bT:=hid (bU.trans (agr_setCell w8 ⟨g,8,none⟩ (qs aA ay az)) λ _ _ h=> h);go_roundw
         case rel=> exact ⟨k+1,F++[⟨ab,E'⟩],_,q4,by omega,by go_num,rfl,item_ag cY dJ,(by show _=_;rw [cB.out,<-HM.out];simp),item_q HI dG dm,bS,bI,bT⟩
         case measure=> simp [intOf];omega
      . have zf:(f !=0)=true:=by simp [hf0]
        go_upto_region 14 with (fail)
        clear y8 y9;go_cut [5] from 68 to 70 (λ z wy=> z=qi f/\Hid (VarIs wy (w.heap.size+1) q0a)/\Hid (Agr (λ k=> k=(w.heap.size+1)) w6 wy))
        case first=>
         have av:Hid (¬ wl.heap.size=(w.heap.size+1)):=by (have:=ad.lt;show ¬ _=_;omega)
         refine wp_region_any (by kernel_rfl) ?_;change wpAny _ _ _ _ _ _ _ (World.drew _);have A0:Hid (Agr (λ k=> k=(w.heap.size+1)) w6 w6.drew):=agr_drew _;have VZ:=hid bj.drew;have aC:=hid VB.drew;generalize World.drew w6=wc0 at *;refine wpAny_take (i:=0) (v:=?_) rfl (by kernel_rfl) (by kernel_rfl) (by kernel_rfl) (λ _ _ _ h=> h) (Or.inl ⟨by rfl,?_⟩) ?_
         rotate_left
         . intro w;go_simp;with_reducible rfl
         refine wpAny_take (i:=1) (v:=?_) rfl (by kernel_rfl) (by kernel_rfl) (by kernel_rfl) (λ _ _ _ h=> h) (Or.inl ⟨by rfl,?_⟩) ?_
         rotate_left
         . intro w;go_simp;with_reducible rfl
         refine wpAny_ready (rs:=[2,3]) (by kernel_rfl) (by simp) ?_;refine AllReady.consL rfl (λ K hK=> ?_) ?_
         . simp only [q2b]
           have yq:=aC.cell 9;simp only [q2a] at yq;go_wp2;clear yq
           try simp only [normQ]
           refine hK _ _ ?_;clear hK K;refine wpAny_ready (rs:=[3]) (by kernel_rfl) (by simp) ?_;refine AllReady.consL rfl (λ K hK=> ?_) ?_
           . simp only [q2b]
             go_wp2_with (refine wpList_store_row rfl _ _ _ rfl _ rfl rfl VZ.out rfl (by kernel_rfl) rfl ?_);intro wE T D;have aV:=hid (aC.agr D (by have:=av.out;exact this));have aG:=hid (A0.trans D λ _ _ h=> h);clear D
             try simp only [wpList,normQ]
             refine hK _ _ ?_;clear hK K;refine wpAny_ready (rs:=[4]) (by kernel_rfl) (by simp) ?_;refine AllReady.consL rfl (λ K hK=> ?_) ?_
             . simp only [q2b]
               go_wp2
               try simp only [normQ]
               refine hK _ _ ?_;clear hK K;refine wpAny_done (by kernel_rfl) ?_ _;go_wp2;go_meet;exact ⟨rfl,T,aG⟩
             exact AllReady.nil
           exact AllReady.nil
         refine AllReady.consL rfl (λ K hK=> ?_) ?_
         . simp only [q2b]
           go_wp2_with (refine wpList_store_row rfl _ _ _ rfl _ rfl rfl VZ.out rfl (by kernel_rfl) rfl ?_);intro wE T D;have aV:=hid (aC.agr D (by have:=av.out;exact this));have aG:=hid (A0.trans D λ _ _ h=> h);clear D
           try simp only [wpList,normQ]
           refine hK _ _ ?_;clear hK K;refine wpAny_ready (rs:=[2]) (by kernel_rfl) (by simp) ?_;refine AllReady.consL rfl (λ K hK=> ?_) ?_
           . simp only [q2b]
             have yq:=aV.cell 9;simp only [q2a] at yq;go_wp2;clear yq
             try simp only [normQ]
             refine hK _ _ ?_;clear hK K;refine wpAny_ready (rs:=[4]) (by kernel_rfl) (by simp) ?_;refine AllReady.consL rfl (λ K hK=> ?_) ?_
             . simp only [q2b]
               go_wp2
               try simp only [normQ]
               refine hK _ _ ?_;clear hK K;refine wpAny_done (by kernel_rfl) ?_ _;go_wp2;go_meet;exact ⟨rfl,T,aG⟩
             exact AllReady.nil
           exact AllReady.nil
         exact AllReady.nil
        obtain ⟨rfl,VZ,AZ⟩:=hcut;have V:=hid (aD.trans (AZ.below aD.size λ k hk=> by show ¬ k=_;omega));go_wp2;refine bodyPost_ret (v:=.tuple #[.agg q0a,qi f]) ?_ rfl ?_
        . exact results_cell_tmp rfl _ _ rfl VZ Tryz.underlying46 rfl (by kernel_rfl)
        . exact ⟨bd0,f,rfl,(λ h=> absurd h hf0),V⟩
    . obtain rfl:n7=k:=by omega
      clear bJ bL cj cw;have cR:=hid ((HB.done (by have:=HQ.len.1;have:=aw.out;omega)).sub (Y:=λ j=> j < wb.heap.size) λ j _ e=> ⟨e,λ e2=> by have:=(HB.ge j e2).1;omega⟩);clear HB ax;have dy:=H.a10;have dx:=H.a11;have dw:=H.a12;have dv:=H.a13;have du:=H.a14;have dt:=H.a15;have ds:=H.a16;have dr:=H.a17;go_wp2_with fail;refine (bo.out _ ar (aN.cond.mono ac)).mono ?_;rintro e w4 ⟨C,s',f,rfl,⟨ca,cn,cc,rfl⟩,I⟩;simp only [Ex.cells];have ci:=hid (ak.below I ak.lt);have cr:=hid (H.below I H.lt);have cl:=hid (ad.below I ad.lt);have bN:=hid (ac.trans (I.mono ac.size));have bq:=hid (cR.mono I (Y:=λ j=> j < wb.heap.size) λ _ _ h=> h);have cZ:Hid (Agr (λ k=> k=g) wb w4):=HA.trans (Agr.all I) λ _ _ h=> h;clear I c8 dy dx dw dv du dt ds dr ak H ad ac cR HA ar bo;go_wp2_with (refine wpList_store_part rfl _ _ _ rfl g 10 [qi kd,qt tb,qs a1 n1 k1,qs a2 n2 k2,qs a3 n3 k3,qs a4 n4 k4,qs a5 n5 k5,qs a6 n6 k6,qs va n7 vc,qs a8 n8 k8] [qi wo,qt wt,qt wn,qi wi,qi wk,qi wv,qt wx,qs a9 n9 k9] [q0,qs a11 J W,qi ai,qt nm,qi 0,qs t1 t2 t3,qs b1 b2 b3,q0] rfl rfl ci.out rfl rfl (by kernel_rfl) rfl ?_);intro wc cf A5;have cg:Hid (VarIs wc g #[qi kd,qt tb,qs a1 n1 k1,qs a2 n2 k2,qs a3 n3 k3,qs a4 n4 k4,qs a5 n5 k5,qs a6 n6 k6,qs va n7 vc,qs a8 n8 k8,qi C.op,qt C.table,qt C.name,qi C.index,qi C.v.kind,qi C.v.int,qt C.v.text,qs ca cn cc,q0,qs a11 J W,qi ai,qt nm,qi 0,qs t1 t2 t3,qs b1 b2 b3,q0]):=cf;have co:=hid (cr.agr A5 (by show ¬ _=_;omega));have bK:=hid (cl.agr A5 (by show ¬ _=_;omega));have bl:=hid (bN.trans (A5.below bN.size λ j hj e=> by have e:j=g:=e;omega));have cQ:=hid (bq.agr A5 (λ j _ e=> by have e:j=g:=e;show j < _;omega) (Z:=λ j=> j < wb.heap.size) λ _ _ h=> h);have bf:Hid (Agr (λ k=> k=g) wb wc):=cZ.trans A5 λ _ _ h=> h;have bs:wb.heap.size<=wc.heap.size:=bf.size;clear ci cr cl bN bq cZ cf A5;by_cases hf0:f=0
      . subst hf0
        have cC:=hid (au.mono SxE.mono (bp.trans ((bf.below (B:=g) (le_of_lt bv) λ j hj e=> by have e:j=g:=e;omega).mono aM)));go_wp2;go_loopw [13] (λ z wr=> ∃(k:Nat) (gs:List Ex) (u:Value),k<=U/\z=qi k/\Hid (gs.length=k)/\Hid (∀e∈gs,e.op=2/\∃i:Nat,e.index=i/\i < L.length)/\Hid (Bl 37 8 ExE wc.heap.size (λ j=> j < wc.heap.size) wr gs u)/\Hid (VarIs wr g #[qi kd,qt tb,qs a1 n1 k1,qs a2 n2 k2,qs a3 n3 k3,qs a4 n4 k4,qs a5 n5 k5,qs a6 n6 k6,qs va n7 vc,qs a8 n8 k8,qi C.op,qt C.table,qt C.name,qi C.index,qi C.v.kind,qi C.v.int,qt C.v.text,qs ca cn cc,u,qs a11 J W,qi ai,qt nm,qi 0,qs t1 t2 t3,qs b1 b2 b3,q0])/\Hid (Agr (λ k=> k=g) wc wr)) (λ z _=> U - (intOf z).toNat)
        case atStart=> exact ⟨0,[],_,zero_le _,rfl,rfl,(λ e h=> by cases h),Bl.nil _ _ _ _ _ _,cg,Agr.refl _ _⟩
        case round=>
         obtain ⟨k,gs,u,hk,rfl,aK,cT,HB,ak,HA⟩:=hrel
         rename World=> wl
         obtain ⟨ua,uc,hv⟩:=HB.shape;rw [aK.out] at hv;subst hv;have ax:=hid λ j h=> (HB.ge j h).2;have aj:=hid (HA.below (B:=g) (by omega) λ j hj e=> by have e:j=g:=e;omega);have aP:wc.heap.size<=wl.heap.size:=HA.size;have H:=hid (co.below aj (by omega));have ad:=hid (bK.below aj (by omega));have ac:=hid (bl.trans (aj.mono (by omega)));have ar:=hid (au.mono SxE.mono ((bp.trans ((bf.below (B:=g) (le_of_lt bv) λ j hj e=> by have e:j=g:=e;omega).mono aM)).trans (aj.mono aM)));clear aj;have aJ:=H.a18;by_cases hlt:k < U
         . have O:k < s.group.length:=by rw [al.out];exact hlt
           obtain ⟨b,o,rfl⟩:=ArgsAt.addr aN.group O;obtain ⟨s',bt,d0,d1,d2,d3,d4,d5,d6,d7⟩:=ArgsAt.cell (aN.group.mono ac) k O;obtain ⟨dc,da,db,rfl,-,-⟩:=bt.shape;have HY:=HQ.group _ (getElem_mem O);have cS:=hid (bn.out s.group[k] wl dc da db HY.1.2 (HZ.group _ (getElem_mem O)) HY.2 ar bt);have HO:Hid (s.group[k].op=2):=HY.1.1;generalize s.group[k]=E at *;have br:(0:Int)<=(k:Int):=by omega
           have kk:(k:Int) < (U:Int):=by omega
           clear O bt HY;go_wp2_with fail;refine cS.mono ?_;rintro e w4 ⟨E',s',t,f,rfl,⟨a',n',c',rfl⟩,aO,I⟩;have bb:=hid aO;have H4:=hid I;clear aO I cS d0 d1 d2 d3 d4 d5 d6 d7 aJ;simp only [Ex.cells,cons_append,nil_append];go_wp2_with (refine wpList_store_row rfl _ _ _ rfl _ rfl rfl (VarIs.new _ _ _) rfl (by kernel_rfl) rfl ?_);intro w6 VB A6;have bV:=hid (((zi.alloc lr _).trans (A6.below (by simp) (λ k hk=> by show ¬ k=_;omega)):Below w4.heap.size w4 w6));have dH:Hid (wl.heap.size<=w4.heap.size):=H4.size;have H3:=hid (H4.trans (bV.mono H4.size));have cq:=hid (H.below H3 H.lt);have bj:=hid (ad.below H3 ad.lt);have aD:=hid (ac.trans (H3.mono ac.size));clear A6 H4;by_cases hf0:f=0
           . subst hf0
             obtain ⟨h1,h2,h3,h4,h5,h6,hi⟩:=bb.out rfl;have dL:Hid (E'.op=2/\∃i:Nat,E'.index=i/\i < L.length):=⟨h1.trans HO,h6 HO⟩
             have ba:=hid ((hi (λ j=> j < wl.heap.size) λ _ h=> h).mono bV (Y:=λ j=> j < wl.heap.size) λ _ _ h=> h);have ap:=hid (ak.below H3 ak.lt);have be:=hid (HB.below H3);have bg:Hid (Agr (λ k=> k=g) wc w6):=HA.trans (Agr.all H3) λ _ _ h=> h;have bM:Hid (wc.heap.size<=w6.heap.size):=le_trans aP H3.size;clear h1 h2 h3 h4 h5 h6 hi bb HO HB bV;have af:=ap.a18;have y0:=VB.a0;have y1:=VB.a1;have y2:=VB.a2;have y3:=VB.a3;have y4:=VB.a4;have y5:=VB.a5;have y6:=VB.a6;have y7:=VB.a7;have y9:=VB.a9;go_wp2_with (at_builtin;go_loud (refine wpList_push (E:=ExE) rfl _ _ 27 rfl j0 _ 104 Tryz.underlying27 jj di dh dg rfl (by decide) (by decide) rfl be.out E' (E'.cells (qs a' n' c')) 37 rfl rfl (ExE.one' _ _ _ _) ?hE ?hl bM.out (λ j h=> h) ?_))
             case hE=> exact (ba.sub λ j _ h=> by
              rcases h with h | h
              . exact lt_of_lt_of_le h aP
              . exact (ax.out j h)).imp λ w h=> ⟨_,rfl,h⟩
             case hl=> have:=aK.out;have:=al.out;have:=HQ.len.2;omega
             intro v' w8 aF aB _ _;obtain ⟨aA,ay,az,rfl⟩:∃a n c,v'=qs a n c:=by obtain ⟨a,c,h⟩:=aF.shape;exact ⟨a,_,c,h⟩
             have aW:=hid (ap.below aB (by omega));have bU:Hid (Agr (λ k=> k=g) wc w8):=bg.trans (Agr.of aB) λ j h1 h2=> absurd h2 (by omega);clear aB be ap bg ba af y0 y1 y2 y3 y4 y5 y6 y7 y9;obtain ⟨q1,q2,q3⟩:=aW.out;have af:=q2 18;simp only [q2a] at af;have bw:w8.frozen? ⟨g,18,none⟩=false:=q3 18;clear q2 q3;go_wp2;clear q1 af bw;have bS:=hid (aF.other (Z:=λ k=> k < wc.heap.size) (agr_setCell w8 ⟨g,18,none⟩ (qs aA ay az)) (λ j _ h=> by have h:j=g:=h;omega) (λ j hj h=> by have h1:=(aF.ge j hj).1;have h:j=g:=h;omega) (λ _ _ h=> h));have bI:=hid (aW.set 18 (by simp) (qs aA ay az));have bT:=hid (bU.trans (agr_setCell w8 ⟨g,18,none⟩ (qs aA ay az)) λ _ _ h=> h);go_roundw
             case rel=> exact ⟨k+1,_,_,by omega,by go_num,(by show _=_;rw [length_append,aK.out];rfl),(λ e he=> by
              rcases mem_append.1 he with he | he
              . exact cT.out e he
              . rw [mem_singleton.1 he];exact dL),bS,bI,bT⟩
             case measure=> simp [intOf];omega
           . have zf:(f !=0)=true:=by simp [hf0]
             have y9:=VB.a9;go_upto_region 28 with (fail)
             clear y9;go_cut [5] from 143 to 145 (λ z wy=> z=qi f/\Hid (VarIs wy (w.heap.size+1) q0a)/\Hid (Agr (λ k=> k=(w.heap.size+1)) w6 wy))
             case first=>
              have av:Hid (¬ w4.heap.size=(w.heap.size+1)):=by (have:=ad.lt;have:=dH.out;show ¬ _=_;omega)
              refine wp_region_any (by kernel_rfl) ?_;change wpAny _ _ _ _ _ _ _ (World.drew _);have A0:Hid (Agr (λ k=> k=(w.heap.size+1)) w6 w6.drew):=agr_drew _;have VZ:=hid bj.drew;have aC:=hid VB.drew;generalize World.drew w6=wc0 at *;refine wpAny_take (i:=0) (v:=?_) rfl (by kernel_rfl) (by kernel_rfl) (by kernel_rfl) (λ _ _ _ h=> h) (Or.inl ⟨by rfl,?_⟩) ?_
              rotate_left
              . intro w;go_simp;with_reducible rfl
              refine wpAny_take (i:=1) (v:=?_) rfl (by kernel_rfl) (by kernel_rfl) (by kernel_rfl) (λ _ _ _ h=> h) (Or.inl ⟨by rfl,?_⟩) ?_
              rotate_left
              . intro w;go_simp;with_reducible rfl
              refine wpAny_ready (rs:=[2,3]) (by kernel_rfl) (by simp) ?_;refine AllReady.consL rfl (λ K hK=> ?_) ?_
              . simp only [q2b]
                have yq:=aC.cell 9;simp only [q2a] at yq;go_wp2;clear yq
                try simp only [normQ]
                refine hK _ _ ?_;clear hK K;refine wpAny_ready (rs:=[3]) (by kernel_rfl) (by simp) ?_;refine AllReady.consL rfl (λ K hK=> ?_) ?_
                . simp only [q2b]
                  go_wp2_with (refine wpList_store_row rfl _ _ _ rfl _ rfl rfl VZ.out rfl (by kernel_rfl) rfl ?_);intro wE T D;have aV:=hid (aC.agr D (by have:=av.out;exact this));have aG:=hid (A0.trans D λ _ _ h=> h);clear D
                  try simp only [wpList,normQ]
                  refine hK _ _ ?_;clear hK K;refine wpAny_ready (rs:=[4]) (by kernel_rfl) (by simp) ?_;refine AllReady.consL rfl (λ K hK=> ?_) ?_
                  . simp only [q2b]
                    go_wp2
                    try simp only [normQ]
                    refine hK _ _ ?_;clear hK K;refine wpAny_done (by kernel_rfl) ?_ _;go_wp2;go_meet;exact ⟨rfl,T,aG⟩
                  exact AllReady.nil
                exact AllReady.nil
              refine AllReady.consL rfl (λ K hK=> ?_) ?_
              . simp only [q2b]
                go_wp2_with (refine wpList_store_row rfl _ _ _ rfl _ rfl rfl VZ.out rfl (by kernel_rfl) rfl ?_);intro wE T D;have aV:=hid (aC.agr D (by have:=av.out;exact this));have aG:=hid (A0.trans D λ _ _ h=> h);clear D
                try simp only [wpList,normQ]
                refine hK _ _ ?_;clear hK K;refine wpAny_ready (rs:=[2]) (by kernel_rfl) (by simp) ?_;refine AllReady.consL rfl (λ K hK=> ?_) ?_
                . simp only [q2b]
                  have yq:=aV.cell 9;simp only [q2a] at yq;go_wp2;clear yq
                  try simp only [normQ]
                  refine hK _ _ ?_;clear hK K;refine wpAny_ready (rs:=[4]) (by kernel_rfl) (by simp) ?_;refine AllReady.consL rfl (λ K hK=> ?_) ?_
                  . simp only [q2b]
                    go_wp2
                    try simp only [normQ]
                    refine hK _ _ ?_;clear hK K;refine wpAny_done (by kernel_rfl) ?_ _;go_wp2;go_meet;exact ⟨rfl,T,aG⟩
                  exact AllReady.nil
                exact AllReady.nil
              exact AllReady.nil
             obtain ⟨rfl,VZ,AZ⟩:=hcut;have V:=hid (aD.trans (AZ.below aD.size λ k hk=> by show ¬ k=_;omega));go_wp2;refine bodyPost_ret (v:=.tuple #[.agg q0a,qi f]) ?_ rfl ?_
             . exact results_cell_tmp rfl _ _ rfl VZ Tryz.underlying46 rfl (by kernel_rfl)
             . exact ⟨bd0,f,rfl,(λ h=> absurd h hf0),V⟩
         . obtain rfl:U=k:=by omega
           clear cg co bK bl bp bn cC;have dV:=hid ((HB.done (by have:=HQ.len.2;have:=al.out;have:=aK.out;omega)).sub (Y:=λ j=> j < wc.heap.size) λ j _ e=> ⟨e,λ e2=> by have:=(HB.ge j e2).1;omega⟩);have dR:=hid (cQ.agr HA (λ j _ e=> by have e:j=g:=e;show j < _;omega) (Z:=λ j=> j < wb.heap.size) λ _ _ h=> h);have dD:=hid (cA.agr (bf.trans HA λ _ _ h=> h) (λ _ _ h=> .inl h) (Z:=λ j=> j=g\/j < w1.heap.size) λ _ _ h=> h);clear HB ax cQ cA bf HA aJ;have c8:=H.a8;have aJ:=H.a18;go_upto_region 30 with (fail)
           clear aJ;go_cut [10,161] from 155 to 160 (λ z10 z wg=> z10=.bool ag/\∃q:Bool,z=.bool q/\Hid (q=false->ag=true->n7≠0)/\wl=wg)
           case first=>
            cases ag with
            | false=>
             go_wp2_with fail;go_meet;exact ⟨rfl,_,rfl,(λ _ h=> by cases h),rfl⟩
            | true=>
             go_wp2_with fail;go_meet;exact ⟨rfl,_,rfl,(λ h _ e=> by simp [e] at h),rfl⟩
           obtain ⟨rfl,q,rfl,bR,rfl⟩:=hcut;clear c8;cases q with
           | true=>
            go_wp2_with (refine wpList_store_row rfl _ _ _ rfl _ rfl rfl ad.out rfl (by kernel_rfl) rfl ?_);intro wE T D;have V:=hid (ac.trans (D.below ac.size λ k hk=> by show ¬ k=_;omega));clear D;go_wp2;refine bodyPost_ret (v:=.tuple #[.agg q0a,qi 1]) ?_ rfl ?_
            . exact results_cell_tmp rfl _ _ rfl T Tryz.underlying46 rfl (by kernel_rfl)
            . exact ⟨bd0,1,rfl,(λ h=> absurd h (by decide)),V⟩
           | false=>
            replace bR:=hid (bR.out rfl);go_wp2;go_loopw [15] (λ z wr=> ∃k:Nat,k<=n7/\z=qi k/\Hid (∀i (h:i < F.length),i < k->ag=true->F[i].agg=0->F[i].e.op=2/\∃g∈gs,g.index=F[i].e.index)/\Hid (Below wl.heap.size wl wr)) (λ z _=> n7 - (intOf z).toNat)
            case atStart=> exact ⟨0,zero_le _,rfl,(λ i _ h=> by omega),zi⟩
            case round=>
             obtain ⟨k,hk,rfl,Hj,Hm⟩:=hrel
             rename World=> wm
             have cm:=hid (H.below Hm H.lt);have bi:=hid (ad.below Hm ad.lt);have bh:=hid (ak.below Hm ak.lt);have aq:=hid (ac.trans (Hm.mono ac.size));have cP:=hid (dR.mono Hm (Y:=λ j=> j < wb.heap.size) λ _ _ h=> h);have cU:=hid (dV.mono Hm (Y:=λ j=> j < wc.heap.size) λ _ _ h=> h);have cz:=hid (dD.mono Hm (Y:=λ j=> j=g\/j < w1.heap.size) λ _ _ h=> h);have dQ:=hid cP.here;have dT:=hid (args_of_ls cU.here);obtain ⟨_,_,bY,-⟩:=cz.here.shape;have cX:Hid (b2=cols.length):=(Value.slice.inj bY).2.1;clear bY;have c8:=cm.a8;have x8:=bh.a8;have af:=bh.a18;by_cases hlt:k < n7
             . have O:k < s.items.length:=by rw [aw.out];exact hlt
               have aR:k < F.length:=by rw [b6];exact hlt
               obtain ⟨b,o,a,n,c,rfl,aa,-,d0,-,-,-,-,-,-,-,-⟩:=ItAt.cell (aN.items.mono ItE.mono aq) k O;obtain ⟨b2,o2,a2,n2,c2,rfl,b8,-,-,e1,e2,e3,e4,e5,e6,e7,e8⟩:=ItAt.cell dQ k aR;have b9:s.items[k].agg=F[k].agg:=by
                have h1:(F.map (·.agg))[k]? =((s.items.take n7).map (·.agg))[k]? :=by rw [HM.out]
                simp [aR,hlt,O] at h1;exact h1.symm
               rw [b9] at d0;have HX:Hid (∀y:Itm,F[k]=y->(ag=true->y.agg=0->y.e.op=2/\∃g∈gs,g.index=y.e.index)->∀i (h:i < F.length),i < k+1->ag=true->F[i].agg=0->F[i].e.op=2/\∃g∈gs,g.index=F[i].e.index):=λ y e h i hi hik=> by
                by_cases e2:i=k
                . subst e2;rw [e];exact h
                . exact Hj.out i hi (by omega)
               replace HX:=hid (HX.out _ rfl);generalize F[k]=y at *;obtain ⟨ab,E⟩:=y;simp only at d0 e1 e2 e3 e4 e5 e6 e7 e8 HX;have br:(0:Int)<=(k:Int):=by omega
               have kk:(k:Int) < (n7:Int):=by omega
               clear O aR b9 aa b8;go_upto_region 35 with (fail)
               go_cut [10,193] from 170 to 192 (λ z10 z wg=> z10=.bool ag/\∃q:Bool,z=.bool q/\Hid (q=false->ag=true->ab=0->E.op=2/\∃g∈gs,g.index=E.index)/\Hid (Below wm.heap.size wm wg))
               case first=>
                cases ag with
                | false=>
                 go_quiet (fail);go_wp2_with fail;go_meet;exact ⟨rfl,_,rfl,(λ _ h=> by cases h),below_drewN wm nq⟩
                | true=>
                 by_cases h0:ab=0
                 . subst h0
                   refine wp_region_segs [([0,1,2,3,4,5,6,7,8,9,10,11,12,13,14,15,16,17,18,19,20],21)] [22,23] [] (by kernel_rfl) (by kernel_rfl) ?_;simp only [q2c,wpSegs];have df:=cell_regrown (w:=wm.drew) c8;have de:=cell_regrown (w:=wm.drew) d0;have dd:=cell_regrown (w:=wm.drew) x8;have dZ:=cell_regrown (w:=wm.drew) af;have es:=cell_regrown (w:=wm.drew) e1;have er:=cell_regrown (w:=wm.drew) e2;have ep:=cell_regrown (w:=wm.drew) e3;have eo:=cell_regrown (w:=wm.drew) e4;have en:=cell_regrown (w:=wm.drew) e5;have em:=cell_regrown (w:=wm.drew) e6;have el:=cell_regrown (w:=wm.drew) e7;have ek:=cell_regrown (w:=wm.drew) e8;clear c8 d0 x8 af e1 e2 e3 e4 e5 e6 e7 e8;have A:Hid (Below (wm).heap.size (wm) (wm).drew):=zi.drew
                   repeat (first | go_big_quiet_step (fail) | quiet_step (fail))
                   refine wpQuiet_nil ?_;refine ⟨rfl,λ wy hby=> ?_⟩;go_simp;simp only [uponV];have Hy:=hid (A.trans (hby.mono A.size));refine (cGrp_calls E.op E.table E.name E.index E.v.kind E.v.int E.v.text (qs a2 n2 c2) gs ua U uc _ (dT.mono Hy)).mono ?_;rintro e w4 ⟨q,rfl,hq,I⟩;refine ⟨_,rfl,I,?_⟩;replace A:=hid (Hy.trans (I.mono Hy.size));clear I hby Hy;have Hq:=hid hq;clear hq;go_simp
                   repeat (first | go_big_quiet_step (fail) | quiet_step (fail))
                   refine wpQuiet_nil ?_;intro wz aI;replace A:=hid (A.trans (aI.mono A.size));clear aI;simp only [wpList];go_wp2;go_meet;exact ⟨rfl,_,rfl,(λ h _ _=> Hq.out (by simpa using h)),A⟩
                 . have z0:(ab==0)=false:=by simp [h0]
                   go_quiet (fail);go_wp2_with fail;go_meet;exact ⟨rfl,_,rfl,(λ _ _ h=> absurd h h0),below_drewN wm nq⟩
               clear d0 e1 e2 e3 e4 e5 e6 e7 e8 c8 x8 af;obtain ⟨rfl,q,rfl,dI,Hx⟩:=hcut
               rename World=> wx
               have Hz:=hid (Hm.trans (Hx.mono Hm.size));cases q with
               | true=>
                have dB:=hid (bi.below Hx bi.lt);have cv:=hid (aq.trans (Hx.mono aq.size));go_wp2_with (refine wpList_store_row rfl _ _ _ rfl _ rfl rfl dB.out rfl (by kernel_rfl) rfl ?_);intro wE T D;have V:=hid (cv.trans (D.below cv.size λ k hk=> by show ¬ k=_;omega));clear D;go_wp2;refine bodyPost_ret (v:=.tuple #[.agg q0a,qi 1]) ?_ rfl ?_
                . exact results_cell_tmp rfl _ _ rfl T Tryz.underlying46 rfl (by kernel_rfl)
                . exact ⟨bd0,1,rfl,(λ h=> absurd h (by decide)),V⟩
               | false=>
                go_wp2;go_roundw
                case rel=> exact ⟨k+1,by omega,by go_num,HX.out (dI.out (by simp)),Hz⟩
                case measure=> simp [intOf];omega
             . obtain rfl:n7=k:=by omega
               have dC:=hid Hj;clear x8 af Hj;have c7:=bh.a24;go_upto_region 38 with (fail)
               clear c8;go_cut [199] from 198 to 199 (λ z wg=> ∃q:Bool,z=.bool q/\Hid (q=true↔n7=0)/\wm=wg)
               case first=> go_wp2 <;> (go_meet;exact ⟨_,rfl,(by show _↔_;simp <;> omega),rfl⟩)
               obtain ⟨q,rfl,cD,rfl⟩:=hcut;go_step;go_cut [16] from 200 to 202 (λ z wg=> ∃cN:Nat,z=qi cN/\Hid (cN=if F.length=0 then L.length else F.length)/\wm=wg)
               case first=>
                cases q with
                | true=>
                 go_wp2;go_meet;exact ⟨b2,rfl,(by have h:=cD.1 (by simp);show _=_;rw [if_pos (by omega),dP.out];exact cX),rfl⟩
                | false=>
                 go_wp2;go_meet;exact ⟨n7,rfl,(by have h:¬ n7=0:=λ e=> absurd (cD.2 e) (by simp);show _=_;rw [if_neg (by omega)];omega),rfl⟩
               obtain ⟨cN,rfl,dX,rfl⟩:=hcut;clear c7;go_wp2;go_loopw [17] (λ z wr=> ∃k:Nat,k<=J/\z=qi k/\Hid (∀j (h:j < s.order.length),j < k->s.order[j].item<=(cN:Int))/\wm=wr) (λ z _=> J - (intOf z).toNat)
               case atStart=> exact ⟨0,zero_le _,rfl,(λ j _ h=> by omega),rfl⟩
               case round=>
                obtain ⟨k,hk,rfl,cu,rfl⟩:=hrel;have dq:=cm.a19;by_cases hlt:k < J
                . have O:k < s.order.length:=by rw [aH.out];exact hlt
                  obtain ⟨b,o,rfl,aa,d0,d1⟩:=OrAt.cell (aN.order.mono OrE.mono aq) k O;have HX:Hid (∀x:Ord,s.order[k]=x->x.item<=(cN:Int)->∀j (h:j < s.order.length),j < k+1->s.order[j].item<=(cN:Int)):=λ x e h j hj hjk=> by
                   by_cases e2:j=k
                   . subst e2;rw [e];exact h
                   . exact cu.out j hj (by omega)
                  replace HX:=hid (HX.out _ rfl);generalize s.order[k]=y at *;obtain ⟨yi,yd⟩:=y;simp only at d0 d1 HX;have br:(0:Int)<=(k:Int):=by omega
                  have kk:(k:Int) < (J:Int):=by omega
                  clear O aa d1;by_cases hgt:(cN:Int) < yi
                  . go_wp2_with (refine wpList_store_row rfl _ _ _ rfl _ rfl rfl bi.out rfl (by kernel_rfl) rfl ?_)
                    intro wE T D;have V:=hid (aq.trans (D.below aq.size λ k hk=> by show ¬ k=_;omega));clear D;go_wp2;refine bodyPost_ret (v:=.tuple #[.agg q0a,qi 1]) ?_ rfl ?_
                    . exact results_cell_tmp rfl _ _ rfl T Tryz.underlying46 rfl (by kernel_rfl)
                    . exact ⟨bd0,1,rfl,(λ h=> absurd h (by decide)),V⟩
                  . go_wp2
                    clear d0 dq;go_roundw
                    case rel=> exact ⟨k+1,by omega,by go_num,HX.out (by omega),(by first | rfl | trivial)⟩
                    case measure=> simp [intOf];omega
                . obtain rfl:J=k:=by omega
                  have dM:Hid (∀e∈s.order,e.item<=(if F.length=0 then L.length else F.length:Nat)):=λ e he=> by obtain ⟨j,hj,rfl⟩:=mem_iff_getElem.1 he;rw [<-dX.out];exact cu.out j hj (by have:=aH.out;omega)
                  go_wp2_with (first | (refine wpList_load_bound rfl _ rfl _ rfl bh.out.cell (by rfl) ?_) | (refine wpList_store_row rfl _ _ _ rfl _ rfl rfl bi.out rfl (by kernel_rfl) rfl ?_));intro wE T D;have dS:=hid (cP.agr D (λ j _ e=> by have e:j=w.heap.size+1:=e;show j < _;omega) (Z:=λ j=> j < w.heap.size) λ j _ h=> by have:=aX.out;show j < _;omega);have dW:=hid (cU.agr D (λ j _ e=> by have e:j=w.heap.size+1:=e;show j < _;omega) (Z:=λ j=> j < w.heap.size) λ j _ h=> by have:=aX.out;show j < _;omega);have dE:=hid (cz.agr D (λ j _ e=> .inr (by have e:j=w.heap.size+1:=e;have:=aX.out;omega)) (Z:=λ j=> j < w.heap.size) λ j _ h=> .inr (by have:=aX.out;omega));have V:=hid (aq.trans (D.below aq.size λ k hk=> by show ¬ k=_;omega));clear D;go_wp2;refine bodyPost_ret (v:=.tuple #[.agg #[qi kd,qt tb,qs a1 n1 k1,qs a2 n2 k2,qs a3 n3 k3,qs a4 n4 k4,qs a5 n5 k5,qs a6 n6 k6,qs va n7 vc,qs a8 n8 k8,qi C.op,qt C.table,qt C.name,qi C.index,qi C.v.kind,qi C.v.int,qt C.v.text,qs ca cn cc,qs ua U uc,qs a11 J W,qi ai,qt nm,qi 0,qs t1 t2 t3,qs b1 b2 b3,q0],qi 0]) ?_ rfl ?_
                  . exact results_cell_tmp rfl _ _ rfl T Tryz.underlying46 rfl (by kernel_rfl)
                  . refine ⟨⟨kd,tb,⟨a1,n1,k1⟩,⟨a2,n2,k2⟩,⟨a3,n3,k3⟩,⟨a4,n4,k4⟩,⟨a5,n5,k5⟩,⟨a6,n6,k6⟩,⟨va,n7,vc⟩,⟨a8,n8,k8⟩,⟨C.op,C.table,C.name,C.index,C.v,⟨ca,cn,cc⟩⟩,⟨ua,U,uc⟩,⟨a11,J,W⟩,ai,nm,0,⟨t1,t2,t3⟩,⟨b1,b2,b3⟩,⟨none,0,0⟩⟩,0,rfl,(λ _=> ⟨⟨cols,F,gs,?_,λ w' ha=> ⟨dS.out w' ha,args_of_ls (dW.out w' ha),dE.out w' ha⟩,dY⟩,rfl,HL.symm⟩),V⟩
                    . have hl:=dO.out
                      rw [hl];refine ⟨HI,by rw [HM.out,<-aw.out,take_length],cT,by rw [aK.out,al.out],λ h=> ?_,dM⟩;have cb:ag=true:=cY.2 (by rw [<-aK.out];exact h);refine ⟨by have:=bR.out cb;omega,λ y hy h0=> ?_⟩;obtain ⟨j,hj,rfl⟩:=mem_iff_getElem.1 hy;exact dC.out j hj (by omega) cb h0
      . have zf:(f==0)=false:=by simp [hf0]
        have zg:(f !=0)=true:=by simp [hf0]
        go_wp2_with (refine wpList_store_row rfl _ _ _ rfl _ rfl rfl bK.out rfl (by kernel_rfl) rfl ?_);intro wE T D;have V:=hid (bl.trans (D.below bl.size λ k hk=> by show ¬ k=_;omega));clear D;go_wp2;refine bodyPost_ret (v:=.tuple #[.agg q0a,qi f]) ?_ rfl ?_
        . exact results_cell_tmp rfl _ _ rfl T Tryz.underlying46 rfl (by kernel_rfl)
        . exact ⟨bd0,f,rfl,(λ h=> absurd h hf0),V⟩
 . have zf:(f !=0)=true:=by simp [hf0]
   go_wp2_with (refine wpList_store_row rfl _ _ _ rfl _ rfl rfl bk.out rfl (by kernel_rfl) rfl ?_);intro wE T D;have V:=hid (aY.trans (D.below aY.size λ k hk=> by show ¬ k=_;omega));clear D;go_wp2;refine bodyPost_ret (v:=.tuple #[.agg q0a,qi f]) ?_ rfl ?_
   . exact results_cell_tmp rfl _ _ rfl T Tryz.underlying46 rfl (by kernel_rfl)
   . exact ⟨bd0,f,rfl,(λ h=> absurd h hf0),V⟩
end
end
end Go.Proofs.YtcomoomndgbckaaGreat
