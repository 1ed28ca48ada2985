/- Part 14 of the proof. -/
import Derived.Test.YtcomoomndgbckaaGreatY13
set_option maxHeartbeats 16000000
set_option maxRecDepth 100000
open Go Go.RowKit
open Go.Lib (hid)
open List (getElem?_cons_zero getElem?_cons_succ getElem_mem length_append append_assoc length_take mem_cons mem_singleton mem_append length_map take_succ_eq_append_getElem mem_of_getElem? getElem?_eq_getElem map_append take_of_length_le append_nil mem_iff_getElem length_eq_zero_iff pairwise_cons all_eq_true sizeOf_lt_of_mem)
open Nat (le_refl zero_le le_succ lt_succ_self lt_of_lt_of_le add_zero zero_add le_of_lt min_eq_left)
namespace Go.Proofs.YtcomoomndgbckaaGreat
noncomputable section
def Vl.Of (t:Int) (v:Vl):Prop:=(v.kind=0/\v.int=0/\v.text=⟨#[]⟩)\/(v.kind=1/\t=1/\v.text=⟨#[]⟩)\/(v.kind=2/\t=2/\v.int=0/\v.text.size<=16)
inductive VT (L:List Int):Int->Ex->Prop where
 | lit (t:Int) (tb nm:ByteArray) (ix:Int) (v:Vl) (h:v.Of t):VT L t (.mk 1 tb nm ix v [])
 | col (t t':Int) (tb nm:ByteArray) (i:Nat) (v:Vl) (h:L[i]? =some t') (ht:t'=t\/t'=0):VT L t (.mk 2 tb nm i v [])
 | neg (tb nm:ByteArray) (ix:Int) (v:Vl) (A:Ex) (hA:VT L 1 A):VT L 1 (.mk 3 tb nm ix v [A])
 | len (tb nm:ByteArray) (ix:Int) (v:Vl) (A:Ex) (hA:VT L 2 A):VT L 1 (.mk 9 tb nm ix v [A])
 | bin (op:Int) (hop:op=4\/op=5\/op=6) (tb nm:ByteArray) (ix:Int) (v:Vl) (A B:Ex) (hA:VT L 1 A) (hB:VT L 1 B):VT L 1 (.mk op tb nm ix v [A,B])
 | div (op:Int) (hop:op=7\/op=8) (tb nm:ByteArray) (ix:Int) (v:Vl) (A B:Ex) (d:Vl) (hA:VT L 1 A) (hB:VT L 1 B) (hc:B.cols=false) (hd:Ex.value [] B=some d) (hk:d.kind=1) (h1:1<=d.int) (h2:d.int<=1000):VT L 1 (.mk op tb nm ix v [A,B])
def RowOf (L:List Int) (R:Rw):Prop:=R.length=L.length/\∀i (h:i < R.length) (h':i < L.length),R[i].Of L[i]
theorem value_nocols (R:Rw) (m:Nat):∀E:Ex,SizeOf.sizeOf E<=m->E.cols=false->Ex.value R E=Ex.value [] E:=by
 induction m with
 | zero=> intro E h;cases E;simp at h
 | succ m ih=>
  rintro ⟨op,C,nm,D,v,args⟩ hm q;have hl:∀l:List Ex,(∀E∈l,SizeOf.sizeOf E<=m)->Ex.colsL l=false->Ex.values R l=Ex.values [] l:=by
   intro l
   induction l with
   | nil=> intro _ _;rfl
   | cons e l ihl=>
    intro A o;simp only [Ex.colsL,Bool.or_eq_false_iff] at o;rw [Ex.values,Ex.values,ih e (A e (by simp)) o.1,ihl (λ E hE=> A E (by simp [hE])) o.2]
  simp only [Ex.cols,Bool.or_eq_false_iff,beq_eq_false_iff_ne] at q;simp only [Ex.value,if_neg q.1];rw [hl args (λ E hE=> by have:=sizeOf_lt_of_mem hE;simp at hm;omega) q.2]
theorem of_null (t:Int):Vl.null.Of t:=.inl ⟨rfl,rfl,rfl⟩
theorem of_int (n:Int):(⟨1,n,⟨#[]⟩⟩:Vl).Of 1:=.inr (.inl ⟨rfl,rfl,rfl⟩)
theorem Vl.Of.wide {t t':Int} {v:Vl} (ht:t'=t\/t'=0) (h:v.Of t'):v.Of t:=by
 rcases ht with rfl | rfl
 . exact h
 . rcases h with h | ⟨-,h,-⟩ | ⟨-,h,-⟩
   . exact .inl h
   . exact absurd h (by decide)
   . exact absurd h (by decide)
theorem bTwice_calls (l:List ByteArray) (la:Option Addr) (lc:Nat) (w:World) (hl:NmsAt w l (qs la l.length lc)):Calls Tryz.prog 127 #[qs la l.length lc] w (BoolP True w):=by
 have M:=hid hl;have h1:l.length<=2000000000000:=by obtain ⟨_,_,e,h⟩:=hl.shape;exact h
 obtain ⟨n,D⟩:=gx l.length
 have L:=hid D;rw [D] at M h1 ⊢;clear hl D;go_enter Tryz.func127,Tryz.ntmps127;go_wp2;go_loopw [3] (λ z wr=> ∃k:Nat,k<=n/\z=qi k/\Hid (Below w.heap.size w wr)) (λ z _=> n - (intOf z).toNat)
 case atStart=> exact ⟨0,zero_le _,rfl,zi⟩
 case round=>
  obtain ⟨k,V,rfl,A⟩:=hrel;by_cases hlt:k < n
  . have F:k < l.length:=by rw [L.out];exact hlt
    go_wp2;go_loopw [4] (λ z G=> ∃j:Nat,j<=k/\z=qi j/\Hid (Below w.heap.size w G)) (λ z _=> k - (intOf z).toNat)
    case atStart=> exact ⟨0,zero_le _,rfl,A⟩
    case round=>
     clear A;obtain ⟨j,W,rfl,A⟩:=hrel
     rename_i G
     by_cases hjk:j < k
     . have C:=M.mono NmE.mono A
       rw [<-L.out] at C;obtain ⟨b,o,K,T,c0⟩:=NmsAt.cell C k F;obtain ⟨b2,U,J,-,c2⟩:=NmsAt.cell C j (by omega);have I:=Option.some.inj (K.symm.trans J);obtain ⟨rfl,rfl,-⟩:=Addr.mk.inj I;subst K;have O:(j:Int) < n:=by omega
       generalize l[k]=x at *;generalize l[j]=y at *;clear C J I;go_wp2;go_quiet (fail);obtain ⟨q,H⟩:=gx ((x.toList==y.toList))
       rw [H];clear H;cases q with
       | true=>
        go_wp2;go_ret;exact ⟨true,rfl,(λ _=> trivial),A.trans ((below_drewN _ _).mono A.size)⟩
       | false=>
        go_wp2;go_roundw
        case rel=> exact ⟨j+1,by omega,by go_num,A.trans ((below_drewN _ _).mono A.size)⟩
        case measure=> simp [intOf];omega
     . obtain rfl:j=k:=by omega
       go_wp2;go_roundw
       case rel=> exact ⟨j+1,by omega,by go_num,A⟩
       case measure=> simp [intOf];omega
  . obtain rfl:k=n:=by omega
    go_wp2;go_ret;exact ⟨false,rfl,(λ h=> (by cases h)),A⟩
theorem bFew_calls (t:Int) (l:List ByteArray) (la:Option Addr) (lc:Nat) (w:World) (hl:NmsAt w l (qs la l.length lc)):Calls Tryz.prog 72 #[qi t,qs la l.length lc] w (BoolP (t<=20/\l.length<=20/\∀x∈l,x.size<=60) w):=by
 have J:=hid hl;have h1:l.length<=2000000000000:=by obtain ⟨_,_,e,h⟩:=hl.shape;exact h
 obtain ⟨n,D⟩:=gx l.length
 have I:=hid D;rw [D] at J h1 ⊢;clear hl D;go_enter Tryz.func72,Tryz.ntmps72;go_wp2;go_loopw [5] (λ z wr=> ∃k:Nat,k<=n/\z=qi k/\Hid (∀j (h:j < l.length),j < k->l[j].size<=60)/\Hid (Below w.heap.size w wr)) (λ z _=> n - (intOf z).toNat)
 case atStart=> exact ⟨0,zero_le _,rfl,(λ j _ h=> by omega),zi⟩
 case round=>
  obtain ⟨k,M,rfl,G,C⟩:=hrel;by_cases hlt:k < n
  . have A:k < l.length:=by rw [I.out];exact hlt
    have q:=J.mono NmE.mono C;rw [<-I.out] at q;obtain ⟨b,o,rfl,K,c0⟩:=NmsAt.cell q k A;have H:Hid (∀x,l[k]=x->x.size<=60->∀j (h:j < l.length),j < k+1->l[j].size<=60):=λ x e h j F hjk=> by
     by_cases e2:j=k
     . subst e2;rw [e];exact h
     . exact G.out j F (by omega)
    replace H:=hid (H.out _ rfl);generalize l[k]=x at *;clear q A;go_wp2
    . go_ret
      exact ⟨false,rfl,(λ h=> (by cases h)),C⟩
    . go_roundw
      case rel=> exact ⟨k+1,by omega,by go_num,H.out (by omega),C⟩
      case measure=> simp [intOf];omega
  . obtain rfl:k=n:=by omega
    have L:Hid (∀x∈l,x.size<=60):=λ x hx=> by obtain ⟨j,F,rfl⟩:=mem_iff_getElem.1 hx;exact G.out j F (by have:=I.out;omega)
    clear G;by_cases h2:t<=20
    . go_wp2
      go_ret;exact ⟨decide ((k:Int)<=20),rfl,(λ h=> ⟨h2,(by have:=of_decide_eq_true h;omega),L⟩),C⟩
    . go_wp2
      go_ret;exact ⟨false,rfl,(λ h=> (by cases h)),C⟩
theorem bCont_calls (s t:ByteArray) (w:World) (hs:s.size<=2000000000000) (ht:t.size<=2000000000000):Calls Tryz.prog 148 #[qt s,qt t] w (BoolP True w):=by
 go_enter Tryz.func148,Tryz.ntmps148;go_wp2;go_loopw [5] (λ z wr=> ∃k:Nat,k<=s.size+1/\z=qi k/\Hid (Below w.heap.size w wr)) (λ z _=> s.size+1 - (intOf z).toNat)
 case atStart=> exact ⟨0,zero_le _,rfl,zi⟩
 case round=>
  obtain ⟨k,q,rfl,o⟩:=hrel;by_cases hlt:k+t.size<=s.size
  . go_wp2
    . go_ret
      exact ⟨true,rfl,(λ _=> trivial),o⟩
    . go_roundw
      case rel=> exact ⟨k+1,by omega,by go_num,o⟩
      case measure=> simp [intOf];omega
  . go_wp2
    go_ret;exact ⟨false,rfl,(λ h=> (by cases h)),o⟩
theorem bKeyw_calls (w:World):Calls Tryz.prog 149 #[] w λ e w'=> ∃s:ByteArray,e=.returned (qt s)/\s.size<=1000/\Below w.heap.size w w':=by
 go_enter Tryz.func149,Tryz.ntmps149;go_wp2;go_ret;exact ⟨_,rfl,Nat.le_of_ble_eq_true (by kernel_rfl),zi⟩
def BNameP (s:ByteArray) (w:World) (e:Ending) (w':World):Prop:=BoolP (1<=s.size/\s.size<=24) w e w'
theorem bName_calls (s:ByteArray) (w:World) (hs:s.size<=2000000000000):Calls Tryz.prog 125 #[qt s] w (BNameP s w):=by
 go_enter Tryz.func125,Tryz.ntmps125;go_upto_region 1 with (fail)
 go_cut [21] from 4 to 21 (λ z wx=> ∃q:Bool,z=.bool q/\Hid (q=false->1<=s.size/\s.size<=24)/\w=wx)
 case first=>
  by_cases h1:s.size < 1
  . go_wp2
    go_meet;exact ⟨true,rfl,(λ h=> (by cases h)),rfl⟩
  . by_cases G:24 < s.size
    . go_wp2
      go_meet;exact ⟨true,rfl,(λ h=> (by cases h)),rfl⟩
    . go_wp2 <;> (go_meet;exact ⟨_,rfl,λ _=> ⟨by omega,by omega⟩,rfl⟩)
 obtain ⟨q,rfl,H,rfl⟩:=hcut;cases q with
 | true=>
  go_wp2;go_ret;exact ⟨false,rfl,(λ h=> (by cases h)),zi⟩
 | false=>
  obtain ⟨h1,G⟩:=H.out rfl;clear H;go_wp2;go_loopw [3] (λ z wr=> ∃k:Nat,k<=s.size/\z=qi k/\Hid (Below w.heap.size w wr)) (λ z _=> s.size - (intOf z).toNat)
  case atStart=> exact ⟨0,zero_le _,rfl,zi⟩
  case round=>
   obtain ⟨k,K,rfl,C⟩:=hrel;by_cases hlt:k < s.size
   . go_upto_region 6 with (fail)
     go_cut [56] from 28 to 56 (λ z wx=> ∃q:Bool,z=.bool q/\wr=wx)
     case first=>
      go_wp2 <;> (go_meet;exact ⟨_,rfl,rfl⟩)
     obtain ⟨q,rfl,rfl⟩:=hcut;cases q with
     | true=>
      go_wp2;go_ret;exact ⟨false,rfl,(λ h=> (by cases h)),C⟩
     | false=>
      go_wp2;go_roundw
      case rel=> exact ⟨k+1,by omega,by go_num,C⟩
      case measure=> simp [intOf];omega
   . obtain rfl:k=s.size:=by omega
     go_wp2_with fail;refine (bKeyw_calls _).mono ?_;rintro e I ⟨t,rfl,ht,F⟩;have A:=hid (C.trans (F.mono C.size));go_wp2_with fail;refine (bCont_calls t _ I (by omega) (by simp only [ByteArray.size_append];show 1+s.size+1<=_;omega)).mono ?_;rintro e J ⟨q,rfl,-,o⟩;have D:=hid (A.trans (o.mono A.size));clear F o C;go_wp2;go_ret;exact ⟨!q,rfl,(λ _=> ⟨h1,G⟩),D⟩
def ColOk (c:Cl):Prop:=c.name.size<=24/\(c.type=1\/c.type=2)
theorem bCol_calls (c:Cl) (w:World) (hs:c.name.size<=2000000000000):Calls Tryz.prog 126 #[.agg #[qt c.name,qi c.type,qi c.low,qi c.high,qi c.max,.bool c.nn]] w (BoolP (ColOk c) w):=by
 obtain ⟨nm,A,lo,hi,F,nn⟩:=c;simp only at hs ⊢;have K:=hid (VarIs.new w #[qt nm,qi A,qi lo,qi hi,qi F,.bool nn] 125);have J:=hid ((Below.refl w.heap.size w).alloc lr (.cells #[qt nm,qi A,qi lo,qi hi,qi F,.bool nn] 125));go_enter Tryz.func126,Tryz.ntmps126;go_wp2_with fail;refine (bName_calls nm _ hs).mono ?_;rintro e L ⟨q,rfl,G,D⟩;have I:=hid G;have o:=hid (K.below D (by simp));have C:=hid (J.trans (D.mono J.size));clear G D;have c1:=o.a1;have c2:=o.a2;have c3:=o.a3;have c4:=o.a4;cases q with
 | false=>
  go_wp2;go_ret;exact ⟨false,rfl,(λ h=> (by cases h)),C⟩
 | true=>
  obtain ⟨-,H⟩:=I.out rfl;clear I;by_cases h1:A=1
  . subst h1
    go_wp2
    all_goals (go_ret;exact ⟨_,rfl,(λ _=> ⟨H,.inl rfl⟩),C⟩)
  . by_cases h3:A=2
    . subst h3
      go_wp2
      all_goals (go_ret;exact ⟨_,rfl,(λ _=> ⟨H,.inr rfl⟩),C⟩)
    . go_wp2
      all_goals (go_ret;exact ⟨false,rfl,(λ h=> (by cases h)),C⟩)
def WithP (n lo hi:Int) (w:World) (e:Ending) (w':World):Prop:=∃q:Bool,e=.returned (.bool q)/\(q=true↔lo<=n/\n<=hi)/\w=w'
theorem tWith_calls (n lo hi:Int) (w:World):Calls Tryz.prog 158 #[qi n,qi lo,qi hi] w (WithP n lo hi w):=by
 by_cases h1:lo<=n
 . by_cases h2:n<=hi
   . go_enter Tryz.func158,Tryz.ntmps158
     go_wp2;go_ret;exact ⟨true,rfl,by simp [h1,h2],rfl⟩
   . go_enter Tryz.func158,Tryz.ntmps158
     go_wp2;go_ret;exact ⟨false,rfl,by simp [h2],rfl⟩
 . go_enter Tryz.func158,Tryz.ntmps158
   go_wp2;go_ret;exact ⟨false,rfl,⟨λ h=> (by cases h),λ h=> absurd h.1 (by omega)⟩,rfl⟩
theorem tAbs_calls (n:Int) (w:World) (h: -9223372036854775807<=n/\n<=9223372036854775807):Calls Tryz.prog 161 #[qi n] w λ e w'=> e=.returned (qi n.natAbs)/\w=w':=by
 by_cases h1:n < 0
 . have e:((n.natAbs:Nat):Int)= -n:=by omega
   rw [e];have o:IntKind.i64.wrap (-n)= -n:=IntWalk.i64_in _ (by omega);go_enter Tryz.func161,Tryz.ntmps161;go_wp2;go_ret;exact ⟨rfl,rfl⟩
 . have e:((n.natAbs:Nat):Int)=n:=by omega
   rw [e];go_enter Tryz.func161,Tryz.ntmps161;go_wp2;go_ret;exact ⟨rfl,rfl⟩
theorem tInts_calls (a b:Int) (w:World):Calls Tryz.prog 165 #[qi a,qi b] w (SomeI w):=by
 by_cases h1:a < b
 . go_enter Tryz.func165,Tryz.ntmps165
   go_wp2;go_ret;exact ⟨_,rfl,zi⟩
 . by_cases h2:b < a
   . go_enter Tryz.func165,Tryz.ntmps165
     go_wp2;go_ret;exact ⟨_,rfl,zi⟩
   . go_enter Tryz.func165,Tryz.ntmps165
     go_wp2;go_ret;exact ⟨_,rfl,zi⟩
def FitsP (a b:Int) (w:World) (e:Ending) (w':World):Prop:=e=.returned (.bool (a==0 || a==b))/\w=w'
theorem cFits_calls (a b:Int) (w:World):Calls Tryz.prog 85 #[qi a,qi b] w (FitsP a b w):=by
 by_cases h1:a=0
 . subst h1
   go_enter Tryz.func85,Tryz.ntmps85;go_wp2;go_ret;exact ⟨rfl,rfl⟩
 . have o:(a==0)=false:=by simp [h1]
   go_enter Tryz.func85,Tryz.ntmps85;go_wp2;go_ret;exact ⟨by rw [o];rfl,rfl⟩
theorem cNull_calls (m:Nat):∀E:Ex,SizeOf.sizeOf E<=m->∀(a:Option Addr) (n c:Nat) (w:World),ArgsAt w E.args (qs a n c)->
 Calls Tryz.prog 145 #[.agg #[qi E.op,qt E.table,qt E.name,qi E.index,qi E.v.kind,qi E.v.int,qt E.v.text,qs a n c]] w (BoolP True w):=by
 induction m with
 | zero=> intro E h;cases E;simp at h
 | succ m ih=>
  rintro ⟨op,table,name,index,C,args⟩ hm a n c w J;simp only [Ex.args] at J;simp only [Ex.op,Ex.table,Ex.name,Ex.index,Ex.v];have W:=hid J;obtain ⟨V,h1⟩:args.length=n/\n<=2000000000000:=by obtain ⟨_,_,_,e,h,h'⟩:=J.shape;cases e;exact ⟨h.symm,h'⟩
  have Hn:=hid V;have G:Hid (∀E∈args,SizeOf.sizeOf E<=m):=λ E hE=> by have:=sizeOf_lt_of_mem hE;simp at hm;omega
  have O:=hid ih;have Hv:=hid (VarIs.new w #[qi op,qt table,qt name,qi index,qi C.kind,qi C.int,qt C.text,qs a n c] 37);have I:Hid (∀o,Below w.heap.size w (w.alloc o)):=λ o=> zi.alloc lr o;clear J V ih hm;by_cases h1:op=1
  . subst h1
    go_enter Tryz.func145,Tryz.ntmps145;go_wp2 <;> (go_ret;exact ⟨_,rfl,(λ _=> trivial),I.out _⟩)
  have aa:(op==1)=false:=by simp [h1]
  go_enter Tryz.func145,Tryz.ntmps145;go_wp2;go_loopw [3] (λ z wr=> ∃k:Nat,k<=n/\z=qi k/\Hid (Below (w.heap.size+1) (w.alloc (.cells #[qi op,qt table,qt name,qi index,qi C.kind,qi C.int,qt C.text,qs a n c] 37)) wr)) (λ z _=> n - (intOf z).toNat)
  case atStart=> exact ⟨0,zero_le _,rfl,zi⟩
  case round=>
   obtain ⟨k,hk,rfl,K⟩:=hrel;have A:=hid ((I.out _).trans (K.mono (le_succ _)));obtain ⟨v1,U,-⟩:=Hv.below K (lt_succ_self _);have F:=U 7;simp only [q2a] at F;clear U;by_cases hlt:k < n
   . have q:k < args.length:=by have:=Hn.out;omega
     obtain ⟨b,o,rfl⟩:=W.addr q;obtain ⟨s',D,c0,c1,c2,c3,c4,c5,c6,c7⟩:=(W.mono A).cell k q;obtain ⟨sa,sn,sc,rfl,-,-⟩:=D.shape;have M:=hid (G.out _ (getElem_mem q));generalize args[k]=E' at *;go_wp2_with fail;refine (O.out E' M _ _ _ _ D).mono ?_;rintro e w3 ⟨t,rfl,-,L⟩;have T:=hid (K.trans (L.mono (by have:=K.size;simp at this;omega)));have H:=hid (A.trans (L.mono A.size));clear L c0 c1 c2 c3 c4 c5 c6 c7 F v1;cases t with
     | true=>
      go_wp2;go_ret;exact ⟨true,rfl,(λ _=> trivial),H⟩
     | false=>
      go_wp2;go_roundw
      case rel=> exact ⟨k+1,by omega,by go_num,T⟩
      case measure=> simp [intOf];omega
   . obtain rfl:k=n:=by omega
     go_wp2;go_ret;exact ⟨false,rfl,(λ _=> trivial),A⟩
def EvOk (w:World) (it:It) (G:List Rw):Prop:=∀R∈G,∀w' s,Below w.heap.size w w'->ValsAt w' R s->Calls Tryz.prog 58 #[it.e.val,s] w' (ValEnd (it.f R) w')
def ResEnd (its:List It) (G:List Rw) (w:World) (e:Ending) (w':World):Prop:=∃v,e=.returned v/\RowO w' w.heap.size (its.map λ i=> resV i G) v/\Below w.heap.size w w'
section
open Go.Sort
theorem varIs_setMid {b:Nat}:∀(vs pre o post:List Value) {w:World},VarIs w b (pre++o++post).toArray->vs.length=o.length->VarIs (w.setCells b pre.length vs) b (pre++vs++post).toArray
 | [],pre,o,post,w,h,hl=> by obtain rfl:o=[]:=length_eq_zero_iff.1 hl.symm;exact h
 | v::vs,pre,o,post,w,h,hl=> by
  obtain ⟨m,o,rfl⟩:∃m l,o=m::l:=by
   cases o with
   | nil=> simp at hl
   | cons m l=> exact ⟨m,l,rfl⟩
  have h1:=h.set pre.length (by simp) v;have e:(pre++m::o++post).toArray.set pre.length v (by simp)=((pre++[v])++o++post).toArray:=by rw [List.set_toArray];simp
  rw [e] at h1;have q:=varIs_setMid vs (pre++[v]) o post h1 (by simpa using hl);rw [World.setCells];simpa using q
theorem wpList_store_part {P:Program} {ops:Array Oper} {rest:List Oper} {op:Oper} {a:Act} {w:World} {Q:Exit->Act->World->Prop} (hgd:op.guard=none) (ty:TypeId) (x y:Operand) (ho:op.op=.store ty x y) (b o:Nat) (pre mid post:List Value) {cs:List Value} (hx:a.eval x=.pointer (some ⟨b,o,none⟩)) (hy:a.eval y=.agg cs.toArray)
 (hv:VarIs w b (pre++mid++post).toArray) (hp:pre.length=o) (hsz:cs.length=mid.length) (hi:(P.info? ty).map (·.size)=some cs.length) (h1:cs.all (·.oneCell')=true)
 (h:∀w',Hid (VarIs w' b (pre++cs++post).toArray)->Hid (Agr (λ k=> k=b) w w')->wpList P ops Q rest (a.put op.dst undef) w'):wpList P ops Q (op::rest) a w:=by
 subst hp;have ht:w.there b pre.length cs.toArray.size:=λ j hj=> by
  have q:pre.length+j < (pre++mid++post).toArray.size:=by simp at hj ⊢;omega
  refine ⟨?_,hv.free _⟩;rw [hv.cell,Array.getElem?_eq_getElem q];rfl
 exact wpList_store_mid hgd ty x y ho b pre.length cs.toArray hx hy ht (by simpa using hi) (all_oneCell_toArray λ v hv=> all_eq_true.1 h1 v hv) (h _ (varIs_setMid cs pre mid post hv hsz) (agr_setCells b _ _ w))
end
end
end Go.Proofs.YtcomoomndgbckaaGreat
noncomputable section
namespace Go.Proofs.YtcomoomndgbckaaGreat
section
variable {α:Type} {c:α->α->Int}
theorem stEq_cons {x:α} {l m:List α} (h:StEq c (x::l) (x::m)):StEq c l m:=λ z=> by
 have:=h z;rw [List.filter_cons,List.filter_cons] at this;split at this
 . exact (List.cons.inj this).2
 . exact this
theorem stEq_uniq (hc:Ord3 c):∀{l m:List α},AscC c l->AscC c m->StEq c l m->l=m
 | [],[],_,_,_=> rfl
 | [],y::m,_,_,h=> absurd (h.mem hc (List.mem_cons_self ..)) (by simp)
 | x::l,[],_,_,h=> absurd (h.symm.mem hc (List.mem_cons_self ..)) (by simp)
 | x::l,y::m,h1,h2,h=> by
  obtain ⟨a1,a2⟩:=pairwise_cons.1 h1;obtain ⟨A,b2⟩:=pairwise_cons.1 h2;have D:c x y<=0:=by
   rcases mem_cons.1 (h.mem hc (List.mem_cons_self ..:y∈y::m)) with e | e
   . subst e;rw [hc.self];exact Int.le_refl _
   . exact a1 y e
  have C:c y x<=0:=by
   rcases mem_cons.1 (h.symm.mem hc (List.mem_cons_self ..:x∈x::l)) with e | e
   . subst e;rw [hc.self];exact Int.le_refl _
   . exact A x e
  have q:c y x=0:=by have:=hc.anti y x;have:=hc.anti x y;omega
  have e:=h x;rw [List.filter_cons,List.filter_cons,if_pos (by simp [hc.self]),if_pos (by simp [q])] at e;have o:x=y:=(List.cons.inj e).1;subst o;rw [stEq_uniq hc a2 b2 (stEq_cons h)]
end
def insK (es:List Xp) (x:Rw):List Rw->List Rw
 | []=> [x]
 | y::l=> if keyC es x y < 0 then x::y::l else y::insK es x l
def stS (es:List Xp) (L:List Rw):List Rw:=L.foldl (λ l x=> insK es x l) []
theorem keyC_ord (es:List Xp):Ord3 (keyC es):=
 ⟨λ x y=> by unfold keyC;have:=cmpR_swap (keyV es x) (keyV es y);omega,λ x y z h1 h2=> cmpR_le h1 h2⟩
theorem insK_asc (es:List Xp) (x:Rw):∀{l:List Rw},AscC (keyC es) l->AscC (keyC es) (insK es x l)/\StEq (keyC es) (l++[x]) (insK es x l)
 | [],_=> ⟨List.pairwise_singleton _ _,StEq.refl _⟩
 | y::l,h=> by
  obtain ⟨h1,F⟩:=pairwise_cons.1 h;unfold insK;split
  . rename_i q
    refine ⟨pairwise_cons.2 ⟨λ z o=> ?_,h⟩,?_⟩
    . rcases mem_cons.1 o with rfl | o
      . omega
      . exact (keyC_ord es).trans _ _ _ (by omega) (h1 z o)
    . exact (StEq.swap (keyC_ord es) (u:=y::l) (v:=[x]) λ a A b hb=> by
       rw [mem_singleton.1 hb];rcases mem_cons.1 A with rfl | A
       . exact q
       . exact (keyC_ord es).lt_le q (h1 a A))
  . rename_i q
    obtain ⟨D,C⟩:=insK_asc es x F;refine ⟨pairwise_cons.2 ⟨λ z o=> ?_,D⟩,(StEq.refl [y]).app C⟩;have:=C.mem (keyC_ord es) o;rcases mem_append.1 this with o | o
    . exact h1 z o
    . rw [mem_singleton.1 o];exact (keyC_ord es).le q
theorem stS_spec (es:List Xp) (L:List Rw):AscC (keyC es) (stS es L)/\StEq (keyC es) L (stS es L):=by
 have:∀(L l:List Rw),AscC (keyC es) l->AscC (keyC es) (L.foldl (λ l x=> insK es x l) l)/\StEq (keyC es) (l++L) (L.foldl (λ l x=> insK es x l) l):=by
  intro L
  induction L with
  | nil=> intro l h;exact ⟨h,by rw [append_nil];exact StEq.refl _⟩
  | cons x L ih=>
   intro l h;obtain ⟨q,o⟩:=insK_asc es x h;obtain ⟨h1,A⟩:=ih _ q;refine ⟨h1,?_⟩;have:=o.app (StEq.refl (c:=keyC es) L);rw [append_assoc] at this;exact this.trans A
 exact this L [] List.Pairwise.nil
theorem stS_eq (es:List Xp) {X Z:List Cel} (ha:AscC (cc (keyC es)) Z) (he:StEq (cc (keyC es)) X Z):Z.map Cel.r=stS es (X.map Cel.r):=by
 obtain ⟨h1,o⟩:=stS_spec es (X.map Cel.r);refine stEq_uniq (keyC_ord es) ?_ h1 (StEq.trans ?_ o)
 . unfold AscC;rw [List.pairwise_map];exact ha
 . intro z
   rw [List.filter_map,List.filter_map];have:=he ⟨z,none,0,0⟩;unfold cc at this;exact congrArg (List.map Cel.r) this.symm
def stepG (es:List Xp) (s:List (List Rw)×Option Rw) (r:Rw):List (List Rw)×Option Rw:=
 (match s.2 with
  | none=> s.1++[[r]]
  | some p=> if keyC es p r=0 then s.1.dropLast++[s.1.getLastD []++[r]] else s.1++[[r]],some r)
def grpS (es:List Xp) (l:List Rw):List (List Rw):=(l.foldl (stepG es) ([],none)).1
def groupsL (es:List Xp) (L:List Rw):List (List Rw):=if es.length=0 then [L] else grpS es (stS es L)
theorem grp_state (es:List Xp) (l:List Rw) (k:Nat) (hk:k < l.length):(l.take (k+1)).foldl (stepG es) ([],none)=(((l.take (k+1)).foldl (stepG es) ([],none)).1,some l[k]):=by
 rw [take_succ_eq_append_getElem hk,List.foldl_append];rfl
theorem grpS_zero (es:List Xp) (l:List Rw) (h:0 < l.length):grpS es (l.take 1)=[[l[0]]]:=by
 unfold grpS;rw [take_succ_eq_append_getElem h];rfl
theorem grpS_succ (es:List Xp) (l:List Rw) (k:Nat) (hk:k+1 < l.length):grpS es (l.take (k+1+1))=if keyC es (l[k]) (l[k+1])=0 then (grpS es (l.take (k+1))).dropLast++[(grpS es (l.take (k+1))).getLastD []++[l[k+1]]] else grpS es (l.take (k+1))++[[l[k+1]]]:=by
 unfold grpS;rw [take_succ_eq_append_getElem hk,List.foldl_append,grp_state es l k (by omega)];rfl
theorem grpS_ne (es:List Xp) (l:List Rw) (k:Nat) (hk:k < l.length):∃Gs G,grpS es (l.take (k+1))=Gs++[G]:=by
 cases k with
 | zero=> exact ⟨[],[l[0]],by rw [grpS_zero es l hk];rfl⟩
 | succ k=>
  rw [grpS_succ es l k hk];split
  . exact ⟨_,_,rfl⟩
  . exact ⟨_,_,rfl⟩
theorem stepG_flat (es:List Xp) (s:List (List Rw)×Option Rw) (r:Rw) (h:s.2=none\/s.1≠[]):(stepG es s r).1.flatten=s.1.flatten++[r]/\(stepG es s r).1≠[]:=by
 obtain ⟨q,p⟩:=s;cases p with
 | none=> simp [stepG]
 | some p=>
  have o:q≠[]:=by rcases h with h | h;(cases h);exact h
  unfold stepG;dsimp only;split
  . refine ⟨?_,by simp⟩
    rw [List.flatten_append,List.flatten_cons,List.flatten_nil,append_nil,<-append_assoc];congr 1;obtain ⟨C,A,rfl⟩:∃C A,q=C++[A]:=by
     rcases List.eq_nil_or_concat q with h | ⟨a,b,h⟩
     . exact absurd h o
     . exact ⟨a,b,by rw [h,List.concat_eq_append]⟩
    simp
  . simp
theorem grpS_flat (es:List Xp) (l:List Rw):(grpS es l).flatten=l:=by
 have:∀(l:List Rw) (s:List (List Rw)×Option Rw),(s.2=none\/s.1≠[])->(l.foldl (stepG es) s).1.flatten=s.1.flatten++l:=by
  intro l
  induction l with
  | nil=> intro s _;simp
  | cons r l ih=>
   intro s h;obtain ⟨h1,o⟩:=stepG_flat es s r h;rw [List.foldl_cons,ih _ (.inr o),h1,append_assoc];rfl
 exact this l ([],none) (.inl rfl)
theorem grpS_le (es:List Xp) (l:List Rw) (Gs:List (List Rw)) (G:List Rw) (h:grpS es l=Gs++[G]):G.length<=l.length:=by
 have:=congrArg List.length (grpS_flat es l);rw [h,List.flatten_append,length_append] at this;simp at this;omega
end Go.Proofs.YtcomoomndgbckaaGreat
end
namespace Go.Proofs.YtcomoomndgbckaaGreat
noncomputable section
def oGd:Array Oper:=((Tryz.f14.body).bind λ c=> opsOf c 14).getD #[]
structure GdE (W:World) (KX KY:Rw) (L:Nat->Bool) (g:Nat->Value) (w:World):Prop where
 below:Below W.heap.size W w
 x:L 9=true->ValsAt w KX (g 53)
 y:L 12=true->ValsAt w KY (g 56)
 z:L 13=true->g 57=qi (cmpR KX KY)
 b:L 14=true->g 58=.bool (cmpR KX KY !=0)
 r:L 15=true->g 59=.bool (cmpR KX KY !=0)
theorem rGd {Q:Exit->Act->World->Prop} {a:Act} {w:World} (A:Array Value) (hA:A.size=26) (bb g n cp i j pn pc:Nat) (px:Option Addr) (sr:Value) (KX KY:Rw) (hsz:a.tmps.size=79) (h2:a.eval (.tmp 2)=.pointer (some ⟨bb,0,none⟩)) (h5:a.eval (.tmp 5)=qs (some ⟨g,0,none⟩) n cp) (h9:a.eval (.tmp 9)=qi i) (h10:a.eval (.tmp 10)=sr)
 (hi:i=j+1) (hjn:(j:Int) < n) (hn:n < 1099511627776)
 (hbb:w.heap[bb]? =some (.cells A 46 (0,0))) (hgl:g < w.heap.size) (hc:w.cell? ⟨g,j,none⟩=some (qs px pn pc))
 (HX:∀w',Below w.heap.size w w'->Calls Tryz.prog 35 #[.agg A,qs px pn pc] w' λ e w''=> ∃v,e=.returned v/\ValsAt w'' KX v/\Below w'.heap.size w' w'')
 (HY:∀w',Below w.heap.size w w'->Calls Tryz.prog 35 #[.agg A,sr] w' λ e w''=> ∃v,e=.returned v/\ValsAt w'' KY v/\Below w'.heap.size w' w'')
 (ops:Array Oper) (hops:ops=oGd) (hQ:∀(u:Nat->Value) V,u 59=.bool (cmpR KX KY !=0)->Below w.heap.size w V->Q .normal (putK a (([44,45,46,47,48,49,50,51,52,53,54,55,56,57,58,59]:List Nat).map λ d=> (d,u d))) V):(Code.region 14 ops true).wp Tryz.prog Q a w:=by
 subst hops;have ad:oGd.size=16:=by kernel_rfl
 have aB:bb < w.heap.size:=(Array.getElem?_eq_some_iff.1 hbb).1;have aA:((i:Int)==0)=false:=by simp;omega
 have az:IntKind.i64.wrap ((i:Int) - 1)=j:=by rw [show (i:Int) - 1=j by omega];exact IntWalk.i64_in _ (by omega)
 have ay:(0:Int)<=j:=by omega
 have hE:Looks (GdE w KX KY) [9,12,13,14,15] [53,56,57,58,59]:=by intro L L' g g' V W hg h;exact ⟨h.below,λ e=> by rw [<-hg 53 (by decide)];exact h.x (by rw [W 9 (by decide)];exact e),λ e=> by rw [<-hg 56 (by decide)];exact h.y (by rw [W 12 (by decide)];exact e),λ e=> by rw [<-hg 57 (by decide)];exact h.z (by rw [W 13 (by decide)];exact e),λ e=> by rw [<-hg 58 (by decide)];exact h.b (by rw [W 14 (by decide)];exact e),λ e=> by rw [<-hg 59 (by decide)];exact h.r (by rw [W 15 (by decide)];exact e)⟩
 have I:(([(0,44,qi i),(1,45,.bool false),(2,46,.bool false),(3,47,.agg A),(4,48,qs (some ⟨g,0,none⟩) n cp),(5,49,qi i),(6,50,qi j),(7,51,.pointer (some ⟨g,j,none⟩)),(8,52,qs px pn pc),(10,54,.agg A),(11,55,sr)]:List (Nat×Nat×Value)).map (·.1)).Nodup:=by show List.Nodup [0,1,2,3,4,5,6,7,8,10,11];decide
 have H:(([(0,44,qi i),(1,45,.bool false),(2,46,.bool false),(3,47,.agg A),(4,48,qs (some ⟨g,0,none⟩) n cp),(5,49,qi i),(6,50,qi j),(7,51,.pointer (some ⟨g,j,none⟩)),(8,52,qs px pn pc),(10,54,.agg A),(11,55,sr)]:List (Nat×Nat×Value)).map (·.2.1)).Nodup:=by show List.Nodup [44,45,46,47,48,49,50,51,52,54,55];decide
 refine wp_region_vals (ops':=oGd) [44,45,46,47,48,49,50,51,52,53,54,55,56,57,58,59] [(0,44,qi i),(1,45,.bool false),(2,46,.bool false),(3,47,.agg A),(4,48,qs (some ⟨g,0,none⟩) n cp),(5,49,qi i),(6,50,qi j),(7,51,.pointer (some ⟨g,j,none⟩)),(8,52,qs px pn pc),(10,54,.agg A),(11,55,sr)] (GdE w KX KY) rfl (by kernel_rfl) (by kernel_rfl) ⟨Below.drew zi,λ h=> (by cases h),λ h=> (by cases h),λ h=> (by cases h),λ h=> (by cases h),λ h=> (by cases h)⟩ ?_ ?_
 . intro K o L a1 V ho W q C
   have aC:K < 16:=by have:=(Array.getElem?_eq_some_iff.1 ho).1;omega
   have O:a1.tmps.size=79:=C.frame.size.trans hsz;have ab:V.heap[bb]? =some (.cells A 46 (0,0)):=(C.eff.below.block bb aB).trans hbb;have ae:V.cell? ⟨g,j,none⟩=some (qs px pn pc):=(C.eff.below.cell (p:=⟨g,j,none⟩) hgl).trans hc;have G:oGd[2]? =some ⟨some 46,Op.move (Operand.tmp 45),_,_,_,none⟩:=rfl;rcases (by omega:K=0\/K=1\/K=2\/K=3\/K=4\/K=5\/K=6\/K=7\/K=8\/K=9\/K=10\/K=11\/K=12\/K=13\/K=14\/K=15) with rfl | rfl | rfl | rfl | rfl | rfl | rfl | rfl | rfl | rfl | rfl | rfl | rfl | rfl | rfl | rfl
   . have hl:oGd[0]? =some ⟨some 44,Op.move (Operand.tmp 9),_,_,_,none⟩:=rfl
     obtain rfl:=Option.some.inj (ho.symm.trans hl);have x9:=C.old 9 (qi i) (by decide) h9;exact C.read hE 0 44 (qi i) ho rfl rfl q (by decide) (by rw [hsz];decide) (by decide) (by decide) (vals_at I H 0 rfl) (by simp [go_sem,execOp,Act.eval,x9])
   . have hl:oGd[1]? =some ⟨some 45,Op.binOp BinOp.eql _ (Operand.tmp 44) (Operand.const (Value.int IntKind.i64 0)) _,_,_,_,none⟩:=rfl
     obtain rfl:=Option.some.inj (ho.symm.trans hl);have aw:=C.val 0 44 (qi i) (mem_of_getElem? (i:=0) rfl) (dep_of ho q (by kernel_rfl:waitsB oGd 1 0=true));exact C.read hE 1 45 (.bool false) ho rfl rfl q (by decide) (by rw [hsz];decide) (by decide) (by decide) (vals_at I H 1 rfl) (by simp [go_sem,execOp,Act.eval,aw,aA])
   . have hl:oGd[2]? =some ⟨some 46,Op.move (Operand.tmp 45),_,_,_,none⟩:=rfl
     obtain rfl:=Option.some.inj (ho.symm.trans hl);have av:=C.val 1 45 (.bool false) (mem_of_getElem? (i:=1) rfl) (dep_of ho q (by kernel_rfl:waitsB oGd 2 1=true));exact C.read hE 2 46 (.bool false) ho rfl rfl q (by decide) (by rw [hsz];decide) (by decide) (by decide) (vals_at I H 2 rfl) (by simp [go_sem,execOp,Act.eval,av])
   . have hl:oGd[3]? =some ⟨some 47,Op.load _ (Operand.tmp 2),_,_,_,some (2,false)⟩:=rfl
     obtain rfl:=Option.some.inj (ho.symm.trans hl);have x2:=C.old 2 (.pointer (some ⟨bb,0,none⟩)) (by decide) h2;have F:=C.val 2 46 (.bool false) (mem_of_getElem? (i:=2) rfl) (dep_of ho q (by kernel_rfl:waitsB oGd 3 2=true));exact C.read hE 3 47 (.agg A) ho rfl (want_g rfl G rfl F) q (by decide) (by rw [hsz];decide) (by decide) (by decide) (vals_at I H 3 rfl) (exec_load_row 46 (.tmp 2) rfl bb (by simpa [Act.eval] using x2) 46 A (0,0) _ ab Tryz.underlying46 rfl (by rw [hA];exact Tryz.size46))
   . have hl:oGd[4]? =some ⟨some 48,Op.move (Operand.tmp 5),_,_,_,some (2,false)⟩:=rfl
     obtain rfl:=Option.some.inj (ho.symm.trans hl);have F:=C.val 2 46 (.bool false) (mem_of_getElem? (i:=2) rfl) (dep_of ho q (by kernel_rfl:waitsB oGd 4 2=true));have x5:=C.old 5 (qs (some ⟨g,0,none⟩) n cp) (by decide) h5;exact C.read hE 4 48 (qs (some ⟨g,0,none⟩) n cp) ho rfl (want_g rfl G rfl F) q (by decide) (by rw [hsz];decide) (by decide) (by decide) (vals_at I H 4 rfl) (by simp [go_sem,execOp,Act.eval,x5])
   . have hl:oGd[5]? =some ⟨some 49,Op.move (Operand.tmp 9),_,_,_,some (2,false)⟩:=rfl
     obtain rfl:=Option.some.inj (ho.symm.trans hl);have F:=C.val 2 46 (.bool false) (mem_of_getElem? (i:=2) rfl) (dep_of ho q (by kernel_rfl:waitsB oGd 5 2=true));have x9:=C.old 9 (qi i) (by decide) h9;exact C.read hE 5 49 (qi i) ho rfl (want_g rfl G rfl F) q (by decide) (by rw [hsz];decide) (by decide) (by decide) (vals_at I H 5 rfl) (by simp [go_sem,execOp,Act.eval,x9])
   . have hl:oGd[6]? =some ⟨some 50,Op.binOp BinOp.sub _ (Operand.tmp 49) (Operand.const (Value.int IntKind.i64 1)) _,_,_,_,some (2,false)⟩:=rfl
     obtain rfl:=Option.some.inj (ho.symm.trans hl);have F:=C.val 2 46 (.bool false) (mem_of_getElem? (i:=2) rfl) (dep_of ho q (by kernel_rfl:waitsB oGd 6 2=true));have aq:=C.val 5 49 (qi i) (mem_of_getElem? (i:=5) rfl) (dep_of ho q (by kernel_rfl:waitsB oGd 6 5=true));exact C.read hE 6 50 (qi j) ho rfl (want_g rfl G rfl F) q (by decide) (by rw [hsz];decide) (by decide) (by decide) (vals_at I H 6 rfl) (by simp [go_sem,execOp,Act.eval,aq,az])
   . have hl:oGd[7]? =some ⟨some 51,Op.indexAddr _ (Operand.tmp 48) (Operand.tmp 50),_,_,_,some (2,false)⟩:=rfl
     obtain rfl:=Option.some.inj (ho.symm.trans hl);have F:=C.val 2 46 (.bool false) (mem_of_getElem? (i:=2) rfl) (dep_of ho q (by kernel_rfl:waitsB oGd 7 2=true));have ar:=C.val 4 48 (qs (some ⟨g,0,none⟩) n cp) (mem_of_getElem? (i:=4) rfl) (dep_of ho q (by kernel_rfl:waitsB oGd 7 4=true));have ap:=C.val 6 50 (qi j) (mem_of_getElem? (i:=6) rfl) (dep_of ho q (by kernel_rfl:waitsB oGd 7 6=true));exact C.read hE 7 51 (.pointer (some ⟨g,j,none⟩)) ho rfl (want_g rfl G rfl F) q (by decide) (by rw [hsz];decide) (by decide) (by decide) (vals_at I H 7 rfl) (by simp [go_sem,execOp,Act.eval,ar,ap,ay,hjn])
   . have hl:oGd[8]? =some ⟨some 52,Op.load _ (Operand.tmp 51),_,_,_,some (2,false)⟩:=rfl
     obtain rfl:=Option.some.inj (ho.symm.trans hl);have F:=C.val 2 46 (.bool false) (mem_of_getElem? (i:=2) rfl) (dep_of ho q (by kernel_rfl:waitsB oGd 8 2=true));have ao:=C.val 7 51 (.pointer (some ⟨g,j,none⟩)) (mem_of_getElem? (i:=7) rfl) (dep_of ho q (by kernel_rfl:waitsB oGd 8 7=true));exact C.read hE 8 52 (qs px pn pc) ho rfl (want_g rfl G rfl F) q (by decide) (by rw [hsz];decide) (by decide) (by decide) (vals_at I H 8 rfl) (by simp [go_sem,execOp,Act.eval,ao,ae])
   . have hl:oGd[9]? =some ⟨some 53,Op.call ⟨Callee.value (Operand.func _),#[Operand.tmp 47,Operand.tmp 52],_⟩,_,_,_,some (2,false)⟩:=rfl
     obtain rfl:=Option.some.inj (ho.symm.trans hl);have F:=C.val 2 46 (.bool false) (mem_of_getElem? (i:=2) rfl) (dep_of ho q (by kernel_rfl:waitsB oGd 9 2=true));have au:=C.val 3 47 (.agg A) (mem_of_getElem? (i:=3) rfl) (dep_of ho q (by kernel_rfl:waitsB oGd 9 3=true));have an:=C.val 8 52 (qs px pn pc) (mem_of_getElem? (i:=8) rfl) (dep_of ho q (by kernel_rfl:waitsB oGd 9 8=true));have D:=C.eff;have aa:L 12=false:=C.no W (by kernel_rfl:waitsB oGd 12 9=true);have U:L 13=false:=C.no W (by kernel_rfl:waitsB oGd 13 9=true);have J:L 14=false:=C.no U (by kernel_rfl:waitsB oGd 14 13=true);have T:L 15=false:=C.no J (by kernel_rfl:waitsB oGd 15 14=true);refine inv_call ho (want_g rfl G rfl F) (f:=35) (by simp [go_sem,Act.eval,au,an]) (HX V D.below) ?_;rintro e w2 ⟨v2,rfl,ac,M⟩;refine ⟨_,rfl,C.put 9 53 _ ho q (by decide) (by intro t ht;exact vals_ne2 rfl rfl (by decide:9 ∉ [0,1,2,3,4,5,6,7,8,10,11]) (by decide:53 ∉ [44,45,46,47,48,49,50,51,52,54,55]) ht) ?_⟩;exact ⟨D.below.trans (M.mono D.below.size),λ _=> by rw [eval_put_same (by rw [O];decide:53 < a1.tmps.size)];exact ac,λ h=> by simp [aa] at h,λ h=> by simp [U] at h,λ h=> by simp [J] at h,λ h=> by simp [T] at h⟩
   . have hl:oGd[10]? =some ⟨some 54,Op.load _ (Operand.tmp 2),_,_,_,some (2,false)⟩:=rfl
     obtain rfl:=Option.some.inj (ho.symm.trans hl);have x2:=C.old 2 (.pointer (some ⟨bb,0,none⟩)) (by decide) h2;have F:=C.val 2 46 (.bool false) (mem_of_getElem? (i:=2) rfl) (dep_of ho q (by kernel_rfl:waitsB oGd 10 2=true));exact C.read hE 10 54 (.agg A) ho rfl (want_g rfl G rfl F) q (by decide) (by rw [hsz];decide) (by decide) (by decide) (vals_at I H 9 rfl) (exec_load_row 46 (.tmp 2) rfl bb (by simpa [Act.eval] using x2) 46 A (0,0) _ ab Tryz.underlying46 rfl (by rw [hA];exact Tryz.size46))
   . have hl:oGd[11]? =some ⟨some 55,Op.move (Operand.tmp 10),_,_,_,some (2,false)⟩:=rfl
     obtain rfl:=Option.some.inj (ho.symm.trans hl);have F:=C.val 2 46 (.bool false) (mem_of_getElem? (i:=2) rfl) (dep_of ho q (by kernel_rfl:waitsB oGd 11 2=true));have ax:=C.old 10 (sr) (by decide) h10;exact C.read hE 11 55 (sr) ho rfl (want_g rfl G rfl F) q (by decide) (by rw [hsz];decide) (by decide) (by decide) (vals_at I H 10 rfl) (by simp [go_sem,execOp,Act.eval,ax])
   . have hl:oGd[12]? =some ⟨some 56,Op.call ⟨Callee.value (Operand.func _),#[Operand.tmp 54,Operand.tmp 55],_⟩,_,_,_,some (2,false)⟩:=rfl
     obtain rfl:=Option.some.inj (ho.symm.trans hl);have F:=C.val 2 46 (.bool false) (mem_of_getElem? (i:=2) rfl) (dep_of ho q (by kernel_rfl:waitsB oGd 12 2=true));have al:=C.val 10 54 (.agg A) (mem_of_getElem? (i:=9) rfl) (dep_of ho q (by kernel_rfl:waitsB oGd 12 10=true));have ak:=C.val 11 55 (sr) (mem_of_getElem? (i:=10) rfl) (dep_of ho q (by kernel_rfl:waitsB oGd 12 11=true));have D:=C.eff;have e9:L 9=true:=dep_of ho q (by kernel_rfl:waitsB oGd 12 9=true);have U:L 13=false:=C.no W (by kernel_rfl:waitsB oGd 13 12=true);have J:L 14=false:=C.no U (by kernel_rfl:waitsB oGd 14 13=true);have T:L 15=false:=C.no J (by kernel_rfl:waitsB oGd 15 14=true);refine inv_call ho (want_g rfl G rfl F) (f:=35) (by simp [go_sem,Act.eval,al,ak]) (HY V D.below) ?_;rintro e w2 ⟨v2,rfl,ac,M⟩;refine ⟨_,rfl,C.put 12 56 _ ho q (by decide) (by intro t ht;exact vals_ne2 rfl rfl (by decide:12 ∉ [0,1,2,3,4,5,6,7,8,10,11]) (by decide:56 ∉ [44,45,46,47,48,49,50,51,52,54,55]) ht) ?_⟩;exact ⟨D.below.trans (M.mono D.below.size),λ _=> by rw [eval_put_ne (by decide:56≠53)];exact (D.x e9).mono M,λ _=> by rw [eval_put_same (by rw [O];decide:56 < a1.tmps.size)];exact ac,λ h=> by simp [U] at h,λ h=> by simp [J] at h,λ h=> by simp [T] at h⟩
   . have hl:oGd[13]? =some ⟨some 57,Op.call ⟨Callee.value (Operand.func _),#[Operand.tmp 53,Operand.tmp 56],_⟩,_,_,_,some (2,false)⟩:=rfl
     obtain rfl:=Option.some.inj (ho.symm.trans hl);have F:=C.val 2 46 (.bool false) (mem_of_getElem? (i:=2) rfl) (dep_of ho q (by kernel_rfl:waitsB oGd 13 2=true));have D:=C.eff;have e9:L 9=true:=dep_of ho q (by kernel_rfl:waitsB oGd 13 9=true);have aa:L 12=true:=dep_of ho q (by kernel_rfl:waitsB oGd 13 12=true);have J:L 14=false:=C.no W (by kernel_rfl:waitsB oGd 14 13=true);have T:L 15=false:=C.no J (by kernel_rfl:waitsB oGd 15 14=true);obtain ⟨vx,ag⟩:=gx (a1.eval (.tmp 53))
     obtain ⟨vy,af⟩:=gx (a1.eval (.tmp 56))
     have am:=eval_spell ag;have aj:=eval_spell af;have q1:=D.x e9;have q2:=D.y aa;rw [ag] at q1;rw [af] at q2;refine inv_call ho (want_g rfl G rfl F) (f:=34) (by simp [go_sem,Act.eval,am,aj]) (compareRows_calls KX KY vx vy V q1 q2) ?_;rintro e w2 ⟨rfl,M⟩;refine ⟨_,rfl,C.put 13 57 _ ho q (by decide) (by intro t ht;exact vals_ne2 rfl rfl (by decide:13 ∉ [0,1,2,3,4,5,6,7,8,10,11]) (by decide:57 ∉ [44,45,46,47,48,49,50,51,52,54,55]) ht) ?_⟩;exact ⟨D.below.trans (M.mono D.below.size),λ _=> by rw [eval_put_ne (by decide:57≠53)];exact (D.x e9).mono M,λ _=> by rw [eval_put_ne (by decide:57≠56)];exact (D.y aa).mono M,λ _=> eval_put_same (by rw [O];decide:57 < a1.tmps.size),λ h=> by simp [J] at h,λ h=> by simp [T] at h⟩
   . have hl:oGd[14]? =some ⟨some 58,Op.binOp BinOp.neq _ (Operand.tmp 57) (Operand.const (Value.int IntKind.i64 0)) _,_,_,_,some (2,false)⟩:=rfl
     obtain rfl:=Option.some.inj (ho.symm.trans hl);have F:=C.val 2 46 (.bool false) (mem_of_getElem? (i:=2) rfl) (dep_of ho q (by kernel_rfl:waitsB oGd 14 2=true));have D:=C.eff;have U:L 13=true:=dep_of ho q (by kernel_rfl:waitsB oGd 14 13=true);have T:L 15=false:=C.no W (by kernel_rfl:waitsB oGd 15 14=true);have hz:a1.eval (.tmp 57)=qi (cmpR KX KY):=D.z U;have ai:=eval_spell hz;refine inv_value (w':=V) ho (want_g rfl G rfl F) (v:=.bool (cmpR KX KY !=0)) (by simp [go_sem,execOp,Act.eval,ai]) ?_;refine C.put 14 58 _ ho q (by decide) (by intro t ht;exact vals_ne2 rfl rfl (by decide:14 ∉ [0,1,2,3,4,5,6,7,8,10,11]) (by decide:58 ∉ [44,45,46,47,48,49,50,51,52,54,55]) ht) ?_;exact ⟨D.below,λ h=> by rw [eval_put_ne (by decide:58≠53)];exact D.x (by simpa using h),λ h=> by rw [eval_put_ne (by decide:58≠56)];exact D.y (by simpa using h),λ _=> by rw [eval_put_ne (by decide:58≠57)];exact hz,λ _=> eval_put_same (by rw [O];decide:58 < a1.tmps.size),λ h=> by simp [T] at h⟩
   . have hl:oGd[15]? =some ⟨some 59,Op.pick (Operand.tmp 46) (Operand.const (Value.bool true)) (Operand.tmp 58),_,_,_,none⟩:=rfl
     obtain rfl:=Option.some.inj (ho.symm.trans hl);have F:=C.val 2 46 (.bool false) (mem_of_getElem? (i:=2) rfl) (dep_of ho q (by kernel_rfl:waitsB oGd 15 2=true));have D:=C.eff;have J:L 14=true:=dep_of ho q (by kernel_rfl:waitsB oGd 15 14=true);have hz:a1.eval (.tmp 58)=.bool (cmpR KX KY !=0):=D.b J;have ah:=eval_spell hz;refine inv_value (w':=V) ho rfl (v:=.bool (cmpR KX KY !=0)) (by simp [go_sem,execOp,Act.eval,F,ah]) ?_;refine C.put 15 59 _ ho q (by decide) (by intro t ht;exact vals_ne2 rfl rfl (by decide:15 ∉ [0,1,2,3,4,5,6,7,8,10,11]) (by decide:59 ∉ [44,45,46,47,48,49,50,51,52,54,55]) ht) ?_;exact ⟨D.below,λ h=> by rw [eval_put_ne (by decide:59≠53)];exact D.x (by simpa using h),λ h=> by rw [eval_put_ne (by decide:59≠56)];exact D.y (by simpa using h),λ h=> by rw [eval_put_ne (by decide:59≠57)];exact D.z (by simpa using h),λ _=> by rw [eval_put_ne (by decide:59≠58)];exact hz,λ _=> eval_put_same (by rw [O];decide:59 < a1.tmps.size)⟩
 . intro L a1 V W C
   have e:=C.frame.eq;rw [e];exact hQ (λ d=> a1.eval (.tmp d)) V (C.eff.r (W 15 (by rw [ad];decide))) C.eff.below
section
open Go.Sort
theorem resultG_calls (its:List It) (G:List Rw) (si s:Value) (w:World) (hi:ItemsAt w its si) (hs:RowsAt w G s) (hk:∀i∈its,i.k=0->0 < G.length) (hev:∀i∈its,i.k≠1->EvOk w i G) (htx:∀i∈its,∀R∈G,(i.f R).text.size<=maxLen) (hli:its.length < 1099511627776) (hlg:G.length < 1099511627776):
 Calls Tryz.prog 28 #[si,s] w (ResEnd its G w):=by
 obtain ⟨ai,ni,ci,rfl,aC,-⟩:=hi.shape;obtain ⟨a,n,c,rfl,hn,-⟩:=hs.shape;obtain ⟨j0,jj,aU,aT,aS⟩:=info_parts Tryz.info35';have HI:=hid hi;have HS:=hid hs;have HK:=hid hk;have HE:=hid hev;have HX:=hid htx;have aM:=hid aC;have Hn:=hid hn;have b1:ni < 1099511627776:=by omega
 have b2:n < 1099511627776:=by omega
 clear hi hs hk hev htx hli hlg aC hn;go_enter Tryz.func28,Tryz.ntmps28;go_wp2;go_loopw [5,13] (λ z5 z13 wr=> ∃k:Nat,k<=ni/\z13=qi k/\Hid (RowO wr w.heap.size ((its.take k).map λ i=> resV i G) z5/\Below w.heap.size w wr)) (λ _ z _=> ni - (intOf z).toNat)
 case atStart=> exact ⟨0,zero_le _,rfl,hid ⟨⟨World.ownsRow_nil _ _ _ _,by simp⟩,zi⟩⟩
 case round=>
  obtain ⟨k,hk,rfl,W⟩:=hrel;obtain ⟨a5,n5,c5,h5,-,-⟩:=W.1.vals.shape;subst h5;by_cases hlt:k < ni
  . have T:k < its.length:=by have:=aM.out;omega
    obtain ⟨b,o,rfl,az,I⟩:=(HI.mono W.2).at k T;have aF:=HK.out _ (getElem_mem T);have aR:=hid (HE.out _ (getElem_mem T));have aP:=hid (HX.out _ (getElem_mem T));have HT:=hid (show (its.take (k+1)).map (λ i=> resV i G)=(its.take k).map (λ i=> resV i G)++[resV its[k] G] by rw [take_succ_eq_append_getElem T,map_append];rfl);have aN:=hid (show ((its.take k).map (λ i=> resV i G)).length=k by rw [length_map,length_take,min_eq_left (by omega)]);generalize its[k]=it at *;clear T;obtain ⟨C,⟨op,tab,nm,idx,⟨lk,li,lt⟩,⟨aa,an,ac⟩⟩,f⟩:=it;have c0:=I 0 (by omega);have c1:=I 1 (by omega);have c2:=I 2 (by omega);have c3:=I 3 (by omega);have c4:=I 4 (by omega);have aK:=I 5 (by omega);have c6:=I 6 (by omega);have c7:=I 7 (by omega);have c8:=I 8 (by omega);simp only [It.cells,Xp.cells,getElem?_cons_zero,getElem?_cons_succ,add_zero] at c0 c1 c2 c3 c4 aK c6 c7 c8;have V:=VarIs.new wr #[qi C,qi op,qt tab,qt nm,qi idx,qi lk,qi li,qt lt,qs aa an ac] 66;have aI:Below wr.heap.size wr (wr.alloc (.cells #[qi C,qi op,qt tab,qt nm,qi idx,qi lk,qi li,qt lt,qs aa an ac] 66)):=zi.alloc lr _;have ab:(wr.alloc (.cells #[qi C,qi op,qt tab,qt nm,qi idx,qi lk,qi li,qt lt,qs aa an ac] 66)).heap.size=wr.heap.size+1:=by simp
    have aX:=hid aF;clear I aF;go_upto_region 5 with (fail)
    obtain ⟨bw,ao⟩:=gx wr.heap.size
    rw [ao] at V ab;simp only [ao];have bo:=hid ao;have al:=hid aI;have A:=hid V;have F:=hid ab;clear ao c0 c1 c2 c3 c4 aK c6 c7 c8 az aI V ab;generalize wr.alloc (.cells #[qi C,qi op,qt tab,qt nm,qi idx,qi lk,qi li,qt lt,qs aa an ac] 66)=W0 at *;by_cases h0:C=0
    . have hG:0 < G.length:=aX.out h0
      obtain ⟨bg,og,rfl⟩:=HS.has 0 (by have:=Hn.out;omega);obtain ⟨ax,nx,cx,D,-⟩:=HS.row 0 hG;have O:Below w.heap.size w W0:=W.2.trans (al.mono W.2.size);have av:=hid O;obtain ⟨I,hx,-⟩:=D.out _ O;have aZ:=hid hx;have H:=hid λ (w':World) (hb:Below W0.heap.size W0 w')=> aR.out (by show ¬ C=1;omega) G[0] (getElem_mem hG) w' (qs ax nx cx) (O.trans (hb.mono O.size)) (aZ.mono hb);have ag:=hid (aP.out G[0] (getElem_mem hG));have ba:Hid (resV ⟨C,⟨op,tab,nm,idx,⟨lk,li,lt⟩,⟨aa,an,ac⟩⟩,f⟩ G=f G[0]):=by
       show _=_;unfold resV;rw [if_pos h0];cases G with
       | nil=> simp at hG
       | cons x l=> rfl
      have aQ:=hid (show RowO W0 w.heap.size ((its.take k).map λ i=> resV i G) (qs a5 n5 c5) from ⟨own_below W.1.1 al,W.1.2⟩);have z0:(C==0)=true:=by simp [h0]
      have n0:(0:Int) < (n:Int):=by have:=Hn.out;omega
      rw [add_zero] at I;have d0:=A.a0;have d1:=A.a1;have d2:=A.a2;have d3:=A.a3;have d4:=A.a4;have d5:=A.a5;have d6:=A.a6;have d7:=A.a7;have d8:=A.a8;unfold Xp.val at H;unfold ValEnd Vl.val at H;go_upto_region 6 with (fail)
      clear d0;refine wp_region_segs [([0,1,2,3,4,5],6),([],7)] [] [8,9] (by kernel_rfl) (by kernel_rfl) ?_;simp only [q2c,wpSegs];have bm:=cell_regrown (w:=W0.drew) d1;have bl:=cell_regrown (w:=W0.drew) d2;have bk:=cell_regrown (w:=W0.drew) d3;have bj:=cell_regrown (w:=W0.drew) d4;have bi:=cell_regrown (w:=W0.drew) d5;have bh:=cell_regrown (w:=W0.drew) d6;have bf:=cell_regrown (w:=W0.drew) d7;have be:=cell_regrown (w:=W0.drew) d8;have bd:=cell_regrown (w:=W0.drew) I;clear d1 d2 d3 d4 d5 d6 d7 d8 I;have Hr:Hid (Below (W0).heap.size (W0) (W0).drew):=zi.drew
      repeat (first | go_big_quiet_step (fail) | quiet_step (fail))
      refine wpQuiet_nil ?_;refine ⟨rfl,λ wy hby=> ?_⟩;go_simp;simp only [uponV];have Hy:=hid (Hr.trans (hby.mono Hr.size));refine (H.out _ Hy).mono ?_;rintro e w7 ⟨rfl,hb⟩;refine ⟨_,rfl,hb,?_⟩;replace Hr:=hid (Hy.trans (hb.mono Hy.size));clear hb hby Hy;go_simp
      repeat (first | go_big_quiet_step (fail) | quiet_step (fail))
      refine wpQuiet_nil ?_;refine ⟨rfl,λ wy hby=> ?_⟩;go_simp;have Hy:=hid (Hr.trans (hby.mono Hr.size));refine uponV_box λ wv HV Hbv=> ⟨Hbv,?_⟩
      replace Hr:=hid (Hy.trans (Hbv.mono Hy.size));clear hby Hy;go_simp
      repeat (first | go_big_quiet_step (fail) | quiet_step (fail))
      refine wpQuiet_nil ?_;intro wz ay;replace Hr:=hid (Hr.trans (ay.mono Hr.size));replace HV:=hid (HV.below ay HV.lt);clear ay;have y0:=HV.a0;have y1:=HV.a1;have y2:=HV.a2;have L:=hid (av.trans (Hr.mono av.size));go_wp2_with (at_builtin;go_loud (refine wpList_val rfl _ _ rfl w.heap.size ((its.take k).map λ i=> resV i G) (f G[0]) _ rfl ⟨own_below aQ.out.1 Hr.out,aQ.out.2⟩ _ _ rfl y0 y1 y2 ag.out (by rw [aN.out];omega) L.size ?_));intro v3 w3 K ae;have HN:=hid (show RowO w3 w.heap.size ((its.take (k+1)).map λ i=> resV i G) v3/\Below w.heap.size w w3 from ⟨by rw [HT.out,ba.out];first | exact K | (rw [List.map_take];exact K),L.trans ae⟩);clear K ae y0 y1 y2 H;go_wp2_with fail;go_roundw
      case rel=> exact ⟨k+1,by omega,by go_num,HN⟩
      case measure=> simp [intOf];omega
    have aE:(C==0)=false:=by simp [h0]
    obtain ⟨v1,J,v3⟩:=A.out;have d0:=J 0;simp only [q2a] at d0;clear J v3;go_wp2_with (refine wpList_make_full _ rfl _ _ 59 rfl (bw+1) 35 j0 (.agg q0c) 3 Tryz.underlying59 jj aU aT _ _ _ _ n rfl rfl rfl rfl ?k2 ?k3 ?k4 ?_)
    case k2=> first | omega | (rw [aS];omega)
    case k3=> unfold maxLen;omega
    case k4=> rw [F.out];exact lr
    intro w1 aB aH;have M:=rowO_made (B:=bw+1) (n:=n) aB;have af:Below (bw+1) W0 w1:=zi.grown aH (by rw [F.out];exact lr) (by simp);simp only [F.out] at M ⊢;obtain ⟨g,hg⟩:=gx (bw+1)
    have Hg:=hid hg;rw [hg] at M af ⊢;have am:=hid (show RowO w1 g (List.replicate n nilV) (qs (some ⟨g,0,none⟩) n n)/\Below g W0 w1 from ⟨M,af⟩);have aJ:=(af.cell (p:=⟨bw,0,none⟩) (show bw < g by have:=Hg.out;omega)).trans d0;have au:=lt_of_lt_of_le v1 af.size;have aA:=hid (show ∀wx,Below g W0 wx->RowO wx w.heap.size ((its.take k).map λ i=> resV i G) (qs a5 n5 c5)/\Below w.heap.size w wx/\VarIs wx bw #[qi C,qi op,qt tab,qt nm,qi idx,qi lk,qi li,qt lt,qs aa an ac]/\w.heap.size<=wx.heap.size from λ wx hb=> by
     have h1:Below W0.heap.size W0 wx:=by rw [F.out,Hg.out];exact hb
     have h2:Below wr.heap.size wr wx:=al.trans (h1.mono al.size);have h3:=W.2.trans (h2.mono W.2.size);exact ⟨⟨own_below W.1.1 h2,W.1.2⟩,h3,A.below h1 A.lt,h3.size⟩)
    clear M af aB aH hg d0 v1 W al A F;go_upto_if 34 with (fail)
    go_cut [] from 34 to 49 (λ wx=> Hid (∃Vs,RowO wx g Vs (qs (some ⟨g,0,none⟩) n n)/\Below g W0 wx/\resV ⟨C,⟨op,tab,nm,idx,⟨lk,li,lt⟩,⟨aa,an,ac⟩⟩,f⟩ G=aggV C Vs))
    case first=>
     by_cases hk1:C=1
     . have e1:(C !=1)=false:=by simp [hk1]
       have HR:=hid (show resV ⟨C,⟨op,tab,nm,idx,⟨lk,li,lt⟩,⟨aa,an,ac⟩⟩,f⟩ G=aggV C (List.replicate n nilV) by unfold resV;rw [if_neg (by simp [hk1]),if_pos hk1,List.map_const',Hn.out]);clear hk1;go_wp2_with fail;go_meet;exact hid ⟨_,am.1,am.2,HR⟩
     . have e1:(C !=1)=true:=by simpa using hk1
       have HR:=hid (show resV ⟨C,⟨op,tab,nm,idx,⟨lk,li,lt⟩,⟨aa,an,ac⟩⟩,f⟩ G=aggV C (G.map f) by unfold resV;rw [if_neg (by simpa using aE),if_neg hk1]);have bb:=hid (aR.out (by simpa using hk1));clear hk1;rw [e1];go_wp2_with fail;go_loopw [37] (λ z wx=> ∃j:Nat,j<=n/\z=qi j/\Hid (RowO wx g ((G.take j).map f++List.replicate (n - j) nilV) (qs (some ⟨g,0,none⟩) n n)/\Below g W0 wx)) (λ z _=> n - (intOf z).toNat)
       case atStart=> exact ⟨0,zero_le _,rfl,by simpa using am⟩
       case round=>
        clear am aJ au;obtain ⟨j,hj,rfl,HJ⟩:=hrel;by_cases hjn:j < n
        . have ad:j < G.length:=by have:=Hn.out;omega
          obtain ⟨p1,p2,⟨v1,J,-⟩,p4⟩:=aA.out _ HJ.2;obtain ⟨bg,og,rfl⟩:=HS.has j hjn;obtain ⟨ax,nx,cx,D,-⟩:=HS.row j ad;obtain ⟨I,hx,az⟩:=D.out _ p2;have H:=hid (show Calls Tryz.prog 58 #[Xp.val ⟨op,tab,nm,idx,⟨lk,li,lt⟩,⟨aa,an,ac⟩⟩,qs ax nx cx] wr (ValEnd (f G[j]) wr) from bb.out G[j] (getElem_mem ad) _ _ p2 hx);have ag:=hid (show (f G[j]).text.size<=maxLen from aP.out G[j] (getElem_mem ad));have d1:=J 1;have d2:=J 2;have d3:=J 3;have d4:=J 4;have d5:=J 5;have d6:=J 6;have d7:=J 7;have d8:=J 8;simp only [q2a] at d1 d2 d3 d4 d5 d6 d7 d8;have aD:((G.take j).map f++List.replicate (n - j) nilV).length=n:=by rw [length_append,length_map,length_take,List.length_replicate,min_eq_left (by omega)];omega
          have ar:((G.take j).map f++List.replicate (n - j) nilV).set j (f G[j])=(G.take (j+1)).map f++List.replicate (n - (j+1)) nilV:=by rw [List.set_append_right _ _ (by simp;omega),length_map,length_take,min_eq_left (by omega),Nat.sub_self,show n - j=n - (j+1)+1 by omega,List.replicate_succ,List.set_cons_zero,take_succ_eq_append_getElem ad,map_append,append_assoc];rfl
          have aj:=hid aD;have ah:=hid ar;unfold Xp.val at H;have aG:g<=wr.heap.size:=by
           obtain ⟨_,⟨e,_⟩ | ⟨g',_,_,e,_,aV,_⟩⟩:=HJ.1.1
           . cases e
           . injection e with e1
             injection e1 with e1;injection e1 with e1;subst e1;exact le_of_lt (Array.getElem?_eq_some_iff.1 aV).1
          have aY:=hid aG;clear hx D p1 p2 J p4 aD ar aG;generalize f G[j]=y at *;generalize G[j]=X at *;clear ad;have bn:(j:Int) < n:=by omega
          go_wp2_with fail;(with_reducible refine H.out.mono ?_);rintro e w2 ⟨rfl,U⟩;have ap:RowO w2 g ((G.take j).map f++List.replicate (n - j) nilV) (qs (some ⟨g,0,none⟩) n n):=⟨own_below HJ.1.1 U,HJ.1.2⟩
          have q:=ap.1;rw [aj.out] at q;obtain ⟨z0,z1,z2⟩:=ap.vals.cell j (by rw [aj.out];exact hjn);rw [zero_add] at z0 z1 z2;have bc:=ap.vals.lt (show j < _ by rw [aj.out];exact hjn);have f0:=q.frozenAt (j * 3);have f1:=q.frozenAt (j * 3+1);have f2:=q.frozenAt (j * 3+2);have aw:=own_set (v:=y) q (by rw [aj.out];exact hjn);rw [ah.out] at aw;have aq:=hid (show RowO (((w2.setCell ⟨g,j * 3,none⟩ (qi y.kind)).setCell ⟨g,j * 3+1,none⟩ (qi y.int)).setCell ⟨g,j * 3+2,none⟩ (qt y.text)) g ((G.take (j+1)).map f++List.replicate (n - (j+1)) nilV) (qs (some ⟨g,0,none⟩) n n)/\Below g W0 (((w2.setCell ⟨g,j * 3,none⟩ (qi y.kind)).setCell ⟨g,j * 3+1,none⟩ (qi y.int)).setCell ⟨g,j * 3+2,none⟩ (qt y.text)) from by
           refine ⟨⟨?_,λ u hu=> ?_⟩,(((HJ.2.trans (U.mono aY)).setCell (p:=⟨g,j * 3,none⟩) lr _).setCell (p:=⟨g,j * 3+1,none⟩) lr _).setCell (p:=⟨g,j * 3+2,none⟩) lr _⟩
           . have hl:((G.take (j+1)).map f++List.replicate (n - (j+1)) nilV).length=n:=by rw [<-ah.out,List.length_set,aj.out]
             rw [hl];exact aw
           . rw [<-ah.out] at hu
             rcases List.mem_or_eq_of_mem_set hu with hu | rfl
             . exact HJ.1.2 u hu
             . exact ag)
          generalize ((G.take j).map f++List.replicate (n - j) nilV)=Vs0 at *;unfold Vl.val;clear U ap q aw I az d1 d2 d3 d4 d5 d6 d7 d8 H v1;go_wp2_with fail;go_roundw
          case rel=> exact ⟨j+1,by omega,by go_num,aq⟩
          case measure=> simp [intOf];omega
        . obtain rfl:j=n:=by omega
          have aq:=hid (show RowO wr g (G.map f) (qs (some ⟨g,0,none⟩) j j)/\Below g W0 wr from by
           have:=HJ.out
           rwa [Nat.sub_self,List.replicate_zero,append_nil,take_of_length_le (by have:=Hn.out;omega)] at this)
          clear HJ;go_wp2_with fail;go_meet;exact hid ⟨_,aq.1,aq.2,HR⟩
    rename Hid (∃Vs,_)=> HC
    obtain ⟨Vs,q1,q2,q3⟩:=HC.out;clear am aJ au HC;obtain ⟨p1,p2,⟨v1,J,-⟩,p4⟩:=aA.out _ q2;have d0:=J 0;simp only [q2a] at d0;have aO:=hid (show Vs.length < 1099511627776 from by obtain ⟨_,_,_,e,h1,_⟩:=q1.vals.shape;injection e with e1 e2 e3;omega);have HA:=hid (aggregate_calls C Vs _ wc q1.vals aO);have aW:=hid q3;have ag:=hid (aggV_text C Vs q1.2);have aL:=hid p1;have L:=hid p2;clear J q1 q2 q3 p1 p2 p4 aA;go_wp2_with fail;(with_reducible refine HA.out.mono ?_);rintro e w2 ⟨rfl,U⟩;have ak:=hid U;generalize aggV C Vs=y at *;unfold Vl.val;clear d0 v1 U HA;go_wp2_with (at_builtin;go_loud (refine wpList_val rfl _ _ rfl w.heap.size ((its.take k).map λ i=> resV i G) y _ rfl ⟨own_below aL.out.1 (ak.out.alloc ak.out.size _),aL.out.2⟩ _ _ rfl (by simp) (by simp) (by simp) ag.out (by rw [aN.out];omega) (by have:=(L.trans (ak.mono L.size)).size;simp;omega) ?_));intro v3 w3 K ae;have HN:=hid (show RowO w3 w.heap.size ((its.take (k+1)).map λ i=> resV i G) v3/\Below w.heap.size w w3 from ⟨by rw [HT.out,aW.out];first | exact K | (rw [List.map_take];exact K),(L.trans ((ak.alloc ak.size _).mono L.size)).trans ae⟩);clear K ae;go_wp2_with fail;go_roundw
    case rel=> exact ⟨k+1,by omega,by go_num,HN⟩
    case measure=> simp [intOf];omega
  . obtain rfl:k=ni:=by omega
    have HF:=hid (show RowO wr w.heap.size (its.map λ i=> resV i G) (qs a5 n5 c5)/\Below w.heap.size w wr from by
     have:=W.out
     rwa [take_of_length_le (by have:=aM.out;omega)] at this)
    clear W;go_wp2_with fail;go_ret;exact ⟨_,rfl,HF⟩
end
end
end Go.Proofs.YtcomoomndgbckaaGreat
