/- Part 28 of the proof. -/
import Derived.Test.YtcomoomndgbckaaGreatY26
import Derived.Test.YtcomoomndgbckaaGreatY27
set_option maxHeartbeats 16000000
set_option maxRecDepth 100000
open Go Go.RowKit
open Go.Lib (hid)
open List (getElem_mem length_append nil_append mem_cons mem_singleton cons_append mem_append take_length not_mem_nil sizeOf_lt_of_mem)
open Nat (zero_le le_trans)
namespace Go.Proofs.YtcomoomndgbckaaGreat
noncomputable section
section
open Go.Sort
theorem cRule_calls (L:List Int) (op:Int) (tb nm:ByteArray) (ix:Int) (v:Vl) (args:List Ex) (ts:List Int) (ha:(args.length:Int)=arity op) (h1:op≠1) (h2:op≠2) (hl:ts.length=args.length) (ht:∀i (h:i < args.length) (h':i < ts.length),ET L ts[i] args[i]) (hx:ExS (.mk op tb nm ix v args)) (hk:Ex.bulk (.mk op tb nm ix v args)<=1100000) (sa ta:Option Addr) (n sc tc:Nat) (w:World) (hs:ArgsAt w args (qs sa n sc)) (hts:NosAt w ts (qs ta n tc)):
 Calls Tryz.prog 120 #[.agg #[qi op,qt tb,qt nm,qi ix,qi v.kind,qi v.int,qt v.text,qs sa n sc],qs ta n tc] w (RuleP L (.mk op tb nm ix v args) w):=by
 have F:n=args.length:=by obtain ⟨_,_,_,e,h,-⟩:=hs.shape;cases e;exact h
 subst F;unfold arity at ha;by_cases hu:op=3\/op=9\/op=17\/op=20
 . have D:args.length=1:=by
    rw [if_neg (by omega),if_pos hu] at ha;omega
   obtain ⟨A,rfl⟩:=List.length_eq_one_iff.1 D;obtain ⟨t,rfl⟩:=List.length_eq_one_iff.1 (hl.trans D);have q:ET L t A:=ht 0 (by simp) (by simp);rcases hu with rfl | rfl | rfl | rfl
   . exact cRule_3 L tb nm ix v A t q hx hk sa ta sc tc w hs hts
   . exact cRule_9 L tb nm ix v A t q hx hk sa ta sc tc w hs hts
   . exact cRule_17 L tb nm ix v A t q hx hk sa ta sc tc w hs hts
   . exact cRule_20 L tb nm ix v A t q hx hk sa ta sc tc w hs hts
 . by_cases hb:(4<=op/\op<=8)\/(10<=op/\op<=16)\/op=18\/op=19
   . have D:args.length=2:=by
      rw [if_neg (by omega),if_neg hu,if_pos hb] at ha;omega
     obtain ⟨A,B,rfl⟩:∃A B,args=[A,B]:=by
      match args,D with
      | [A,B],_=> exact ⟨A,B,rfl⟩
     obtain ⟨t,o,rfl⟩:∃t o,ts=[t,o]:=by
      match ts,hl with
      | [t,o],_=> exact ⟨t,o,rfl⟩
     have q:ET L t A:=ht 0 (by simp) (by simp);have C:ET L o B:=ht 1 (by simp) (by simp);have h:(op=4\/op=5)\/op=6\/(op=7\/op=8)\/(op=10\/op=11)\/(op=12\/op=13\/op=14\/op=15)\/op=16\/(op=18\/op=19):=by omega
     rcases h with h | rfl | h | h | h | rfl | h
     . exact cRule_4 L op h tb nm ix v A B t o q C hx hk sa ta sc tc w hs hts
     . exact cRule_6 L tb nm ix v A B t o q C hx hk sa ta sc tc w hs hts
     . exact cRule_7 L op h tb nm ix v A B t o q C hx hk sa ta sc tc w hs hts
     . exact cRule_10 L op h tb nm ix v A B t o q C hx hk sa ta sc tc w hs hts
     . exact cRule_12 L op h tb nm ix v A B t o q C hx hk sa ta sc tc w hs hts
     . exact cRule_16 L tb nm ix v A B t o q C hx hk sa ta sc tc w hs hts
     . exact cRule_18 L op h tb nm ix v A B t o q C hx hk sa ta sc tc w hs hts
   . rw [if_neg (by omega),if_neg hu,if_neg hb] at ha
     omega
end
section
open Go.Sort
def SrcT (l:List Srs) (L:List Int):Prop:=∀N T,ColG l N T->0<=N/\L[N.toNat]? =some T
def TyP (L:List Int) (E:Ex) (w:World) (e:Ending) (w':World):Prop:=∃(E':Ex) (s:Value) (t f:Int),e=.returned (.agg (E'.cells s++[qi t,qi f]).toArray)/\(∃a n c,s=qs a n c)/\(f=0->E'.op=E.op/\E'.bulk=E.bulk/\ExS E'/\ET L t E'/\E'.args.length=E.args.length/\(E.op=2->∃i:Nat,E'.index=i/\i < L.length)/\∀X:Nat->Prop,(∀j,X j->j < w.heap.size)->Ind X w' (λ w=> ArgsAt w E'.args s))/\Below w.heap.size w w'
theorem lit_et {L:List Int} (tb nm:ByteArray) (ix:Int) {v:Vl} (h:LitOk v):ET L v.kind (.mk 1 tb nm ix v []):=by
 rcases h with ⟨h1,q,o⟩ | ⟨h1,q,o⟩ | ⟨h1,q,o⟩
 . exact ⟨λ _ t'=> .lit t' tb nm ix v (.inl ⟨h1,q,o⟩),λ e=> absurd (h1 ▸ e) (by decide),λ e=> absurd (h1 ▸ e) (by decide),.inr ⟨0,.lit 0 tb nm ix v (.inl ⟨h1,q,o⟩)⟩⟩
 . exact ⟨λ e=> absurd (h1 ▸ e) (by decide),λ _=> .lit 1 tb nm ix v (.inr (.inl ⟨h1,rfl,o⟩)),λ e=> absurd (h1 ▸ e) (by decide),.inr ⟨1,.lit 1 tb nm ix v (.inr (.inl ⟨h1,rfl,o⟩))⟩⟩
 . exact ⟨λ e=> absurd (h1 ▸ e) (by decide),λ e=> absurd (h1 ▸ e) (by decide),λ _=> .lit 2 tb nm ix v (.inr (.inr ⟨h1,rfl,q,o⟩)),.inr ⟨2,.lit 2 tb nm ix v (.inr (.inr ⟨h1,rfl,q,o⟩))⟩⟩
theorem args_nil {w w':World} {s:Value} (h:ArgsAt w [] s) (hs:w.heap.size<=w'.heap.size):ArgsAt w' [] s:=by
 cases h with
 | mt=> exact .mt
 | lie _ b o n cap ss hn hlt hm=> exact .lie [] b o n cap ss hn (by omega) hm (λ i h=> absurd h (by simp)) (λ i h=> absurd h (by simp))
theorem ExE.one' (e:Ex) (a:Option Addr) (n c:Nat):∀u∈e.cells (qs a n c),u.oneCell'=true:=by
 intro u o;simp only [Ex.cells,mem_cons,not_mem_nil,or_false] at o;rcases o with rfl | rfl | rfl | rfl | rfl | rfl | rfl | rfl <;> rfl
theorem bulkL_snoc (l:List Ex) (e:Ex):Ex.bulkL (l++[e])=Ex.bulkL l+e.bulk:=by
 induction l with
 | nil=> simp [Ex.bulkL]
 | cons x l ih=> simp only [cons_append,Ex.bulkL,ih];omega
theorem node_step {L:List Int} {As:List Ex} {Ts:List Int} {args:List Ex} {k:Nat} {E' F:Ex} {t:Int} (h:Ex.bulkL As=Ex.bulkL (args.take k)/\(∀e∈As,ExS e)/\∀i (h:i < As.length) (h':i < Ts.length),ET L Ts[i] As[i]) (hb:Ex.bulkL (args.take (k+1))=Ex.bulkL (args.take k)+F.bulk) (he:E'.bulk=F.bulk/\ExS E'/\ET L t E') (hl:As.length=Ts.length):Ex.bulkL (As++[E'])=Ex.bulkL (args.take (k+1))/\(∀e∈As++[E'],ExS e)/\∀i (h:i < (As++[E']).length) (h':i < (Ts++[t]).length),ET L (Ts++[t])[i] (As++[E'])[i]:=by
 obtain ⟨h1,q,o⟩:=h;refine ⟨by rw [bulkL_snoc,hb,h1,he.1],λ e hm=> ?_,λ i hi hi'=> ?_⟩
 . rcases mem_append.1 hm with hm | hm
   . exact q e hm
   . rw [mem_singleton.1 hm];exact he.2.1
 . by_cases hlt:i < As.length
   . rw [List.getElem_append_left hlt,List.getElem_append_left (by omega)]
     exact o i hlt (by omega)
   . rw [List.getElem_append_right (by omega),List.getElem_append_right (by omega)]
     simp only [List.getElem_singleton];exact he.2.2
theorem cExpr_calls (l:List Srs) (la:Option Addr) (lc:Nat) (L:List Int) (hf:∀x∈l,(0<=x.first/\x.first<=1000000000)/\x.table.cols.length<=1000000000) (hL:SrcT l L) (m:Nat):∀E:Ex,SizeOf.sizeOf E<=m->Fm E->ExS E->E.bulk<=1100000->∀(a:Option Addr) (n c:Nat) (w:World),LsAt 7 SxE w l (qs la l.length lc)->ArgsAt w E.args (qs a n c)->
 Calls Tryz.prog 84 #[.agg #[qi E.op,qt E.table,qt E.name,qi E.index,qi E.v.kind,qi E.v.int,qt E.v.text,qs a n c],qs la l.length lc] w (TyP L E w):=by
 induction m with
 | zero=> intro E h;cases E;simp at h
 | succ m ih=>
  rintro ⟨op,q,nm,ix,v,args⟩ hm aX aD ak a n c w aT hs;simp only [Ex.args] at hs;simp only [Ex.op,Ex.table,Ex.name,Ex.index,Ex.v];obtain ⟨_,_,_,he,hn,bQ⟩:=hs.shape;cases he;have HN:=hid hn.symm;have HS:=hid hs;have aI:=hid aD;obtain ⟨bc,aY,aj⟩:(args.length:Int)=arity op/\(∀e∈args,Fm e)/\(op=1->LitOk v):=by
   cases aX with
   | mk op q nm ix v args h1 D h3 h4=> exact ⟨h1,D,h3⟩
  have aL:=hid bc;have bK:=hid aY;have bF:=hid aj;have bl:=hid aT;have bG:=hid hL;have bC:=hid ih;have bN:=hid ak;have ap:Hid (n<=1100000):=by have:=len_bulk args;simp only [Ex.bulk] at ak;show _<=_;omega
  have bE:Hid (∀e∈args,SizeOf.sizeOf e<=m/\e.bulk<=1100000/\ExS e):=λ e he=> by
   have h1:=sizeOf_lt_of_mem he;have D:=bulk_mem he;simp only [Ex.bulk] at ak;simp at hm;refine ⟨by omega,by omega,?_⟩;cases aD with
   | mk _ _ _ _ _ _ _ _ _ h=> exact h e he
  have V0:=hid ((VarIs.new w #[qi op,qt q,qt nm,qi ix,qi v.kind,qi v.int,qt v.text,qs a n c] 37).alloc (.cells q0e 138));have V1:=hid (VarIs.new1 w (.cells #[qi op,qt q,qt nm,qi ix,qi v.kind,qi v.int,qt v.text,qs a n c] 37) q0e 138);have aa:Hid (Below w.heap.size w ((w.alloc (.cells #[qi op,qt q,qt nm,qi ix,qi v.kind,qi v.int,qt v.text,qs a n c] 37)).alloc (.cells q0e 138))):=(zi.alloc lr _).alloc (by simp) _;clear hs hn aX aD bc aY aj aT ih ak hm;obtain ⟨i0,ii,bz,bx,bw⟩:=info_parts Tryz.info37';obtain ⟨j0,jj,bv,bu,bt⟩:=info_parts Tryz.info3';go_enter Tryz.func84,Tryz.ntmps84;by_cases h1:op=1
  . subst h1
    obtain rfl:args=[]:=by have:=aL.out;simp [arity] at this;exact this
    go_wp2_with (refine wpList_store_row rfl _ _ _ rfl _ rfl rfl V1.out rfl (by kernel_rfl) rfl ?_);intro wE VE G;have A:=hid (aa.trans (G.below aa.size λ k hk=> by show ¬ k=_;omega));clear G;go_wp2;refine bodyPost_ret (v:=.agg #[qi 1,qt q,qt nm,qi ix,qi v.kind,qi v.int,qt v.text,qs a n c,qi v.kind,qi 0]) ?_ rfl ?_
    . exact results_cell_var rfl _ _ rfl VE Tryz.underlying138 rfl (by kernel_rfl)
    . exact ⟨.mk 1 q nm ix v [],qs a n c,v.kind,0,rfl,⟨a,n,c,rfl⟩,(λ _=> ⟨rfl,rfl,aI,lit_et q nm ix (bF.out (by simp)),rfl,(λ h=> absurd h (by simp [Ex.op])),λ X hX w' ha=> args_nil HS (le_trans A.size ha.size)⟩),A⟩
  have z1:(op==1)=false:=by simp [h1]
  by_cases D:op=2
  . subst D
    obtain rfl:args=[]:=by have:=aL.out;simp [arity] at this;exact this
    go_wp2_with fail;refine (cColn_calls 2 q nm ix v.kind v.int v.text (qs a n c) l la lc _ (bl.mono SxE.mono aa) hf).mono ?_;rintro e w3 ⟨N,T,f,rfl,hg,V⟩;have HG:=hid hg;have aH:=hid (aa.trans (V.mono aa.size));have an:=hid (V0.below V V0.lt);have aF:=hid (V1.below V V1.lt);clear hg V;by_cases hf0:f=0
    . subst hf0
      obtain ⟨bS,af⟩:=bG.out N T (HG.out (by simp));obtain ⟨i,rfl⟩:∃i:Nat,N=i:=⟨N.toNat,by omega⟩
      have aK:Hid (ET L T (.mk 2 q nm i v [])):=⟨λ h t'=> .col t' T q nm i v af (.inr h),λ h=> .col 1 T q nm i v af (.inl h),λ h=> .col 2 T q nm i v af (.inl h),.inr ⟨T,.col T T q nm i v af (.inl rfl)⟩⟩
      have aq:Hid (ExS (.mk 2 q nm i v [])):=by
       cases aI.out with
       | mk op q nm ix v args h1 D h3 h4=> exact .mk _ _ _ _ _ _ h1 D h3 h4
      have c3:=an.a3;have ae:=an.free 3;go_upto_region 8 with (fail)
      have I:Hid (VarIs (w3.setCell ⟨w.heap.size,3,none⟩ (qi (i:Nat))) w.heap.size #[qi 2,qt q,qt nm,qi (i:Nat),qi v.kind,qi v.int,qt v.text,qs a n c]):=an.set 3 (by simp) (qi (i:Nat));have bB:=hid (aF.setOther (g:=w.heap.size) (by omega) 3 (qi (i:Nat)));have bh:Hid (Below w.heap.size w (w3.setCell ⟨w.heap.size,3,none⟩ (qi (i:Nat)))):=aH.setCell (p:=⟨w.heap.size,3,none⟩) lr (qi (i:Nat));generalize World.setCell w3 ⟨w.heap.size,3,none⟩ (qi (i:Nat))=w4 at *;clear c3 ae an aF;have g0:=I.a0;have g1:=I.a1;have g2:=I.a2;have g3:=I.a3;have g4:=I.a4;have g5:=I.a5;have g6:=I.a6;have g7:=I.a7;go_wp2_with (refine wpList_store_row rfl _ _ _ rfl _ rfl rfl bB.out rfl (by kernel_rfl) rfl ?_);intro wE VE G;have A:=hid (bh.trans (G.below bh.size λ k hk=> by show ¬ k=_;omega));clear G;go_wp2;refine bodyPost_ret (v:=.agg #[qi 2,qt q,qt nm,qi (i:Nat),qi v.kind,qi v.int,qt v.text,qs a n c,qi T,qi 0]) ?_ rfl ?_
      . exact results_cell_var rfl _ _ rfl VE Tryz.underlying138 rfl (by kernel_rfl)
      . exact ⟨.mk 2 q nm i v [],qs a n c,T,0,rfl,⟨a,n,c,rfl⟩,(λ _=> ⟨rfl,rfl,aq,aK,rfl,(λ _=> ⟨i,rfl,(List.getElem?_eq_some_iff.1 af).1⟩),λ X hX w' ha=> args_nil HS (le_trans A.size ha.size)⟩),A⟩
    . have zf:(f==0)=false:=by simp [hf0]
      go_wp2_with (refine wpList_store_row rfl _ _ _ rfl _ rfl rfl aF.out rfl (by kernel_rfl) rfl ?_);intro wE VE G;have A:=hid (aH.trans (G.below aH.size λ k hk=> by show ¬ k=_;omega));clear G;go_wp2;refine bodyPost_ret (v:=.agg #[qi 0,qt ⟨#[]⟩,qt ⟨#[]⟩,qi 0,qi 0,qi 0,qt ⟨#[]⟩,q0,qi 0,qi f]) ?_ rfl ?_
      . exact results_cell_var rfl _ _ rfl VE Tryz.underlying138 rfl (by kernel_rfl)
      . exact ⟨.mk 0 ⟨#[]⟩ ⟨#[]⟩ 0 ⟨0,0,⟨#[]⟩⟩ [],q0,0,f,rfl,⟨none,0,0,rfl⟩,(λ h=> absurd h hf0),A⟩
  have z2:(op==2)=false:=by simp [D]
  go_wp2;go_loopw [8,9,10] (λ vv yy z wr=> ∃(k:Nat) (As:List Ex) (Ts:List Int),k<=n/\z=qi k/\Hid (As.length=k)/\Hid (Ts.length=k)/\Hid (Bl 37 8 ExE (w.heap.size+2) (λ j=> j < w.heap.size+2\/yy.ownBlock=some j) wr As vv)/\Hid (Bl 3 1 NoE (w.heap.size+2) (λ j=> j < w.heap.size+2\/vv.ownBlock=some j) wr Ts yy)/\Hid (∀j,vv.ownBlock=some j->yy.ownBlock≠some j)/\Hid (Ex.bulkL As=Ex.bulkL (args.take k)/\(∀e∈As,ExS e)/\∀i (h:i < As.length) (h':i < Ts.length),ET L Ts[i] As[i])/\Hid (Below (w.heap.size+2) ((w.alloc (.cells #[qi op,qt q,qt nm,qi ix,qi v.kind,qi v.int,qt v.text,qs a n c] 37)).alloc (.cells q0e 138)) wr)) (λ _ _ z _=> n - (intOf z).toNat)
  case atStart=> exact ⟨0,[],[],zero_le _,rfl,rfl,rfl,Bl.nil _ _ _ _ _ _,Bl.nil _ _ _ _ _ _,(λ j h=> by cases h),⟨rfl,(λ e h=> by cases h),λ i h=> absurd h (by simp)⟩,zi⟩
  case round=>
   obtain ⟨k,As,Ts,hk,rfl,J,ab,M,K,aJ,HF,Hb⟩:=hrel;have ao:Hid (w.heap.size+2<=wr.heap.size):=by have:=Hb.size;simp at this;exact this
   have ah:=hid (aa.trans (Hb.mono (by omega)));have ag:=hid (V0.below Hb (by omega));have al:=hid (V1.below Hb (by omega));have c7:=ag.a7;by_cases aj:k < n
   . have ad:k < args.length:=by rw [HN.out];exact aj
     obtain ⟨b,o,rfl⟩:=ArgsAt.addr HS ad;obtain ⟨s',az,e0,e1,e2,e3,e4,e5,e6,e7⟩:=ArgsAt.cell (HS.mono ah) k ad;obtain ⟨sa,sn,sc,rfl,-,-⟩:=az.shape;have bM:=hid (bulkL_take args k ad);have ac:=getElem_mem ad;obtain ⟨aR,aQ,aP⟩:=bE.out _ ac;have bH:=hid (bC.out args[k] aR (bK.out _ ac) aP aQ sa sn sc wr (bl.mono SxE.mono ah) az);generalize args[k]=F at *;have bR:(0:Int)<=(k:Int):=by omega
     have kk:(k:Int) < (n:Int):=by omega
     clear az ac ad aR aQ aP;go_wp2_with fail;refine bH.mono ?_;rintro e w5 ⟨E',s5,t5,f5,rfl,⟨a5,n5,k5,rfl⟩,aS,V⟩;have bi:=hid aS;have aG:=hid V;have bD:=hid V.size;clear aS V e0 e1 e2 e3 e4 e5 e6 e7 c7;simp only [Ex.cells,cons_append,nil_append];go_wp2_with (refine wpList_store_row rfl _ _ _ rfl _ rfl rfl (VarIs.new _ _ _) rfl (by kernel_rfl) rfl ?_);intro w6 W A6;have aN:=hid (((zi.alloc lr _).trans (A6.below (by simp) (λ k hk=> by show ¬ k=_;omega)):Below w5.heap.size w5 w6));have Hr:=hid (aG.trans (aN.mono aG.size));have bg:=hid (ah.trans (Hr.mono ah.size));clear A6 aG;by_cases hf:f5=0
     . subst hf
       obtain ⟨aU,av,ar,au,bd,-,aV⟩:=bi.out rfl;have bI:=hid ((aV (λ j=> j < wr.heap.size) λ _ h=> h).mono aN λ _ _ h=> h);have bL:=hid (And.intro av (And.intro ar au));clear aU av ar au bd aV bi aN;have br:=hid (M.below Hr);have ay:=hid (K.below Hr);have aO:=hid (Hb.trans (Hr.mono ao));have bT:=hid W.lt;have y0:=W.a0;have y1:=W.a1;have y2:=W.a2;have y3:=W.a3;have y4:=W.a4;have y5:=W.a5;have y6:=W.a6;have y7:=W.a7;have y8:=W.a8;have y9:=W.a9;go_wp2_with (at_builtin;go_loud (refine wpList_pushW (E:=ExE) rfl _ _ 27 rfl i0 _ 104 Tryz.underlying27 ii bz bx bw rfl (by decide) (by decide) rfl br.out E' (E'.cells (qs a5 n5 k5)) 37 rfl rfl (ExE.one' _ _ _ _) ?hE ?hl (by have:=aO.out.size;simp at this;omega) ?hX ?_))
       case hl=> have:=J.out;have:=ap.out;omega
       case hX=>
        intro j h;have:=Hr.size;have:=ao.out;rcases h with h | h
        . omega
        . have:=(K.ge j h).2
          omega
       case hE=>
        refine (bI.sub λ j hj h=> ?_).imp λ w h=> ⟨_,rfl,h⟩
        have:=ao.out;rcases h with (h | h) | h
        . show j < _
          omega
        . exact (K.ge j h).2
        . exact (M.ge j h).2
       intro v' w7 ai bb aC aB;have bp:=hid (ay.beside aC aB λ j h D=> aJ.out j D h);have aw:=hid (ay.apart aB λ j h D=> aJ.out j D h);have H7:=hid (aO.trans (bb.mono (by have:=aO.size;simp at this;omega)));have V7:=hid (W.agr (Agr.grown aC) λ h=> by have:=(M.ge _ h.symm).2;have:=bD.out;omega);clear bb aC aB y0 y1 y2 y3 y4 y5 y6 y7 y8 y9 W;have y8:=V7.a8;go_wp2_with (at_builtin;go_loud (refine wpList_pushW (E:=NoE) rfl _ _ 43 rfl j0 _ 8 Tryz.underlying43 jj bv bu bt rfl (by decide) (by decide) rfl bp.out t5 [_] 3 rfl rfl (one_int _) (Ind.triv λ _=> rfl) ?hl (by have:=H7.out.size;simp at this;omega) ?hX ?_))
       case hl=> have:=ab.out;have:=ap.out;omega
       case hX=>
        intro j h;have:=Hr.size;have:=ao.out;have h7:=H7.size;simp at h7;rcases h with h | h
        . omega
        . exact (ai.ge j h).2
       intro y' w8 bo ba aW aA;have bq:=hid (ai.beside aW aA λ j h D=> aw.out j D h);have bn:=hid (ai.apart aA λ j h D=> aw.out j D h);have H8:=hid (H7.trans (ba.mono (by have:=H7.size;simp at this;omega)));clear ba aW aA y8 V7;have bJ:=hid (node_step HF bM bL (J.trans ab.symm));go_wp2;go_roundw
       case rel=> exact ⟨k+1,_,_,by omega,by go_num,(by show _=_;rw [length_append,J.out];rfl),(by show _=_;rw [length_append,ab.out];rfl),bq,bo,bn,bJ,H8⟩
       case measure=> simp [intOf];omega
     . have zf:(f5==0)=false:=by simp [hf]
       have bA:=hid (al.below Hr al.lt);have y9:=W.a9;go_wp2_with (refine wpList_store_row rfl _ _ _ rfl _ rfl rfl bA.out rfl (by kernel_rfl) rfl ?_);intro wE VE G;have A:=hid (bg.trans (G.below bg.size λ k hk=> by show ¬ k=_;omega));clear G;go_wp2;refine bodyPost_ret (v:=.agg #[qi 0,qt ⟨#[]⟩,qt ⟨#[]⟩,qi 0,qi 0,qi 0,qt ⟨#[]⟩,q0,qi 0,qi f5]) ?_ rfl ?_
       . exact results_cell_var rfl _ _ rfl VE Tryz.underlying138 rfl (by kernel_rfl)
       . exact ⟨.mk 0 ⟨#[]⟩ ⟨#[]⟩ 0 ⟨0,0,⟨#[]⟩⟩ [],q0,0,f5,rfl,⟨none,0,0,rfl⟩,(λ h=> absurd h hf),A⟩
   . obtain rfl:n=k:=by omega
     have HA:=hid ((M.done (by have:=J.out;have:=ap.out;omega)).sub λ j _ (h:j < w.heap.size+2)=> ⟨.inl h,λ e=> by have:=(M.ge j e).1;omega⟩);have HT:=hid ((K.done (by have:=ab.out;have:=ap.out;omega)).sub λ j _ (h:j < w.heap.size+2)=> ⟨.inl h,λ e=> by have:=(K.ge j e).1;omega⟩);obtain ⟨U,O,hv⟩:=M.shape;obtain ⟨ya,yc,hy⟩:=K.shape;rw [J.out] at hv;rw [ab.out] at hy;subst hv hy;have ax:Hid (Ex.bulk (.mk op q nm 0 v As)=Ex.bulk (.mk op q nm ix v args)):=by have h1:=HF.1;rw [<-HN.out,take_length] at h1;show _=_;simp only [Ex.bulk,h1]
     have aq:Hid (ExS (.mk op q nm 0 v As)):=by
      cases aI.out with
      | mk _ _ _ _ _ _ h1 D h3 h4=> exact .mk _ _ _ _ _ _ h1 D h3 HF.2.1
     have bm:=hid λ w' hs hts=> cRule_calls L op q nm 0 v As Ts (by rw [<-aL.out,J.out,HN.out]) h1 D (ab.trans J.symm) HF.2.2 aq (by rw [ax.out];exact bN) U ya n O yc w' hs hts;clear M K aJ HF c7;have c7:=ag.a7;have ae:=ag.free 7;go_upto_region 20 with (fail)
     have am:Hid (VarIs (wr.setCell ⟨w.heap.size,7,none⟩ (qs U n O)) w.heap.size #[qi op,qt q,qt nm,qi ix,qi v.kind,qi v.int,qt v.text,qs U n O]):=ag.set 7 (by simp) (qs U n O);have bf:=hid (al.setOther (g:=w.heap.size) (by omega) 7 (qs U n O));have H5:Hid (Below w.heap.size w (wr.setCell ⟨w.heap.size,7,none⟩ (qs U n O))):=ah.setCell (p:=⟨w.heap.size,7,none⟩) lr (qs U n O);have bs:=hid (HA.agr (agr_setCell wr ⟨w.heap.size,7,none⟩ (qs U n O)) (λ j _ h=> by show j < _;have:j=w.heap.size:=h;omega) (λ _ _ h=> h));have bk:=hid (HT.agr (agr_setCell wr ⟨w.heap.size,7,none⟩ (qs U n O)) (λ j _ h=> by show j < _;have:j=w.heap.size:=h;omega) (λ _ _ h=> h));generalize World.setCell wr ⟨w.heap.size,7,none⟩ (qs U n O)=w5 at *;clear HA HT c7 ae ag al;have c3:=am.a3;have ae:=am.free 3;go_upto_region 21 with (fail)
     have C:Hid (VarIs (w5.setCell ⟨w.heap.size,3,none⟩ (qi 0)) w.heap.size #[qi op,qt q,qt nm,qi 0,qi v.kind,qi v.int,qt v.text,qs U n O]):=am.set 3 (by simp) (qi 0);have aE:=hid (bf.setOther (g:=w.heap.size) (by omega) 3 (qi 0));have H6:Hid (Below w.heap.size w (w5.setCell ⟨w.heap.size,3,none⟩ (qi 0))):=H5.setCell (p:=⟨w.heap.size,3,none⟩) lr (qi 0);have aM:=hid (bs.agr (agr_setCell w5 ⟨w.heap.size,3,none⟩ (qi 0)) (λ j _ h=> by show j < _;have:j=w.heap.size:=h;omega) (λ _ _ h=> h));have bj:=hid (bk.agr (agr_setCell w5 ⟨w.heap.size,3,none⟩ (qi 0)) (λ j _ h=> by show j < _;have:j=w.heap.size:=h;omega) (λ _ _ h=> h));generalize World.setCell w5 ⟨w.heap.size,3,none⟩ (qi 0)=w6 at *;clear bs bk c3 ae am bf H5;have c0:=C.a0;have c1:=C.a1;have c2:=C.a2;have c3:=C.a3;have c4:=C.a4;have c5:=C.a5;have c6:=C.a6;have c7:=C.a7;go_wp2_with fail;refine (bm.out _ (args_of_ls aM.here) bj.here).mono ?_;rintro e w7 ⟨T,f,rfl,aZ,V⟩;have aK:=hid aZ;have H7:=hid (H6.trans (V.mono H6.size));have H:=hid (C.below V C.lt);have be:=hid (aE.below V aE.lt);have bP:=hid (aM.mono V λ _ _ h=> h);clear aZ V C aE aM bj H6 bm c0 c1 c2 c3 c4 c5 c6 c7;by_cases hf:f=0
     . subst hf
       have c0:=H.a0;have c1:=H.a1;have c2:=H.a2;have c3:=H.a3;have c4:=H.a4;have c5:=H.a5;have c6:=H.a6;have c7:=H.a7;go_wp2_with (refine wpList_store_row rfl _ _ _ rfl _ rfl rfl be.out rfl (by kernel_rfl) rfl ?_);intro wE VE G;have A:=hid (H7.trans (G.below H7.size λ k hk=> by show ¬ k=_;omega));have bO:=hid (bP.agr G (λ j _ h=> by show j < _;have:j=w.heap.size+1:=h;omega) (λ _ _ h=> h));clear G;go_wp2;refine bodyPost_ret (v:=.agg #[qi op,qt q,qt nm,qi 0,qi v.kind,qi v.int,qt v.text,qs U n O,qi T,qi 0]) ?_ rfl ?_
       . exact results_cell_var rfl _ _ rfl VE Tryz.underlying138 rfl (by kernel_rfl)
       . exact ⟨.mk op q nm 0 v As,qs U n O,T,0,rfl,⟨U,n,O,rfl⟩,(λ h=> ⟨rfl,ax,aq,aK.out (by first | exact h | trivial),J.trans HN.symm,(λ h=> absurd h D),λ X hX w2 ha=> args_of_ls (bO.out w2 ⟨ha.os,ha.tape,ha.output,ha.size,λ j hj hx=> ha.block j hj λ h=> hx (by have:=hX j h;show j < _;omega)⟩)⟩),A⟩
     . have zf:(f==0)=false:=by simp [hf]
       go_wp2_with (refine wpList_store_row rfl _ _ _ rfl _ rfl rfl be.out rfl (by kernel_rfl) rfl ?_);intro wE VE G;have A:=hid (H7.trans (G.below H7.size λ k hk=> by show ¬ k=_;omega));clear G;go_wp2;refine bodyPost_ret (v:=.agg #[qi 0,qt ⟨#[]⟩,qt ⟨#[]⟩,qi 0,qi 0,qi 0,qt ⟨#[]⟩,q0,qi 0,qi f]) ?_ rfl ?_
       . exact results_cell_var rfl _ _ rfl VE Tryz.underlying138 rfl (by kernel_rfl)
       . exact ⟨.mk 0 ⟨#[]⟩ ⟨#[]⟩ 0 ⟨0,0,⟨#[]⟩⟩ [],q0,0,f,rfl,⟨none,0,0,rfl⟩,(λ h=> absurd h hf),A⟩
end
end
end Go.Proofs.YtcomoomndgbckaaGreat
