/- Part 5 of the proof. -/
import Derived.Test.YtcomoomndgbckaaGreatY01
import Derived.Test.YtcomoomndgbckaaGreatY02
set_option maxHeartbeats 16000000
set_option maxRecDepth 100000
open Go Go.RowKit
open Go.Lib (hid)
open List (getElem?_toArray getElem?_cons_zero getElem?_cons_succ getElem_mem length_append length_take mem_cons mem_singleton mem_append length_map take_succ_eq_append_getElem getElem?_eq_getElem map_append drop_eq_getElem_cons take_of_length_le take_length drop_of_length_le getD_eq_getElem?_getD sizeOf_lt_of_mem)
open Nat (zero_le le_succ lt_succ_self le_trans lt_of_lt_of_le add_zero zero_add le_of_lt min_eq_left)
namespace Go.Proofs.YtcomoomndgbckaaGreat
noncomputable section
def SomeI (w:World) (e:Ending) (w':World):Prop:=∃t:Int,e=.returned (qi t)/\Below w.heap.size w w'
theorem aWt_calls (m:Nat):∀E:Ex,SizeOf.sizeOf E<=m->∀(a:Option Addr) (n c:Nat) (w:World),ArgsAt w E.args (qs a n c)->
 Calls Tryz.prog 77 #[.agg #[qi E.op,qt E.table,qt E.name,qi E.index,qi E.v.kind,qi E.v.int,qt E.v.text,qs a n c]] w (SomeI w):=by
 induction m with
 | zero=> intro E h;cases E;simp at h
 | succ m ih=>
  rintro ⟨op,table,name,index,D,args⟩ hm a n c w K;simp only [Ex.args] at K;simp only [Ex.op,Ex.table,Ex.name,Ex.index,Ex.v];have H:Hid (∀E∈args,SizeOf.sizeOf E<=m):=by intro E hE;have h1:=sizeOf_lt_of_mem hE;simp at hm;omega
  obtain ⟨_,_,_,he,V,q⟩:=K.shape;cases he;have Hn:=hid V;have Hs:=hid K;have O:=hid ih;have Hv:=hid (VarIs.new w #[qi op,qt table,qt name,qi index,qi D.kind,qi D.int,qt D.text,qs a n c] 37);have T:Hid (∀o,Below w.heap.size w (w.alloc o)):=λ o=> zi.alloc lr o;clear K V ih hm;go_enter Tryz.func77,Tryz.ntmps77;go_wp2;go_loopw [3,4] (λ s z wr=> ∃(k:Nat) (x:Int),k<=n/\z=qi k/\s=qi x/\Hid (Below (w.heap.size+1) (w.alloc (.cells #[qi op,qt table,qt name,qi index,qi D.kind,qi D.int,qt D.text,qs a n c] 37)) wr)) (λ _ z _=> n - (intOf z).toNat)
  case atStart=> exact ⟨0,_,zero_le _,rfl,rfl,zi⟩
  case round=>
   obtain ⟨k,x,hk,rfl,rfl,L⟩:=hrel;have C:=hid ((T.out _).trans (L.mono (le_succ _)));obtain ⟨U,J,-⟩:=Hv.below L (lt_succ_self _);have c0:=J 0;have W:=J 7;simp only [q2a] at c0 W;clear J;by_cases A:k < n/\x < 1000
   . obtain ⟨A,hx⟩:=A
     have q:k < args.length:=by have:=Hn.out;omega
     obtain ⟨b,o,rfl⟩:∃b o,a=some ⟨b,o,none⟩:=by
      have:=Hs.out;cases this with
      | mt=> omega
      | lie _ b o=> exact ⟨b,o,rfl⟩
     obtain ⟨s',F,c0,c1,c2,c3,c4,c5,c6,c7⟩:=(Hs.mono C).cell k q;obtain ⟨sa,sn,sc,rfl,-,-⟩:=F.shape;have M:=hid (H.out _ (getElem_mem q));generalize args[k]=E' at *;go_wp2_with fail;refine (O.out E' M _ _ _ _ F).mono ?_;rintro e w1 ⟨t,rfl,G⟩;have I:=hid (L.trans (G.mono (by have:=L.size;simp at this;omega)));clear G c0 c1 c2 c3 c4 c5 c6 c7 U W;obtain ⟨U,J,-⟩:=Hv.below I (lt_succ_self _);go_wp2;go_roundw
     case rel=> exact ⟨k+1,_,by omega,by go_num,rfl,I⟩
     case measure=> simp [intOf];omega
   . by_cases hlt1:k < n
     . have hx:1000<=x:=by omega
       clear A;go_wp2;go_ret;exact ⟨_,rfl,C⟩
     . clear A
       go_wp2;go_ret;exact ⟨_,rfl,C⟩
theorem aUpTo_calls (m:Nat):∀E:Ex,SizeOf.sizeOf E<=m->∀(C:Int) (a:Option Addr) (n c:Nat) (w:World),ArgsAt w E.args (qs a n c)->
 Calls Tryz.prog 79 #[.agg #[qi E.op,qt E.table,qt E.name,qi E.index,qi E.v.kind,qi E.v.int,qt E.v.text,qs a n c],qi C] w (SomeI w):=by
 induction m with
 | zero=> intro E h;cases E;simp at h
 | succ m ih=>
  rintro ⟨op,table,name,index,A,args⟩ hm C a n c w L;simp only [Ex.args] at L;simp only [Ex.op,Ex.table,Ex.name,Ex.index,Ex.v];have I:Hid (∀E∈args,SizeOf.sizeOf E<=m):=by intro E hE;have h1:=sizeOf_lt_of_mem hE;simp at hm;omega
  obtain ⟨_,_,_,he,W,q⟩:=L.shape;cases he;have Hn:=hid W;have Hs:=hid L;have T:=hid ih;have Hv:=hid (VarIs.new w #[qi op,qt table,qt name,qi index,qi A.kind,qi A.int,qt A.text,qs a n c] 37);have U:Hid (∀o,Below w.heap.size w (w.alloc o)):=λ o=> zi.alloc lr o;clear L W ih hm;go_enter Tryz.func79,Tryz.ntmps79;go_upto_if 9 with (fail)
  go_cut [5] from 7 to 9 (λ z wx=> ∃x:Int,z=qi x/\w.alloc (.cells #[qi op,qt table,qt name,qi index,qi A.kind,qi A.int,qt A.text,qs a n c] 37)=wx)
  case first=>
   by_cases h0:op=0
   . subst h0
     go_wp2;go_meet;exact ⟨_,rfl,rfl⟩
   . go_wp2
     go_meet;exact ⟨_,rfl,rfl⟩
  obtain ⟨x0,rfl,rfl⟩:=hcut;go_wp2;go_loopw [5,6] (λ s z wr=> ∃(k:Nat) (x:Int),k<=n/\z=qi k/\s=qi x/\Hid (Below (w.heap.size+1) (w.alloc (.cells #[qi op,qt table,qt name,qi index,qi A.kind,qi A.int,qt A.text,qs a n c] 37)) wr)) (λ _ z _=> n - (intOf z).toNat)
  case atStart=> exact ⟨0,_,zero_le _,rfl,rfl,zi⟩
  case round=>
   obtain ⟨k,x,hk,rfl,rfl,M⟩:=hrel;have F:=hid ((U.out _).trans (M.mono (le_succ _)));obtain ⟨V,K,-⟩:=Hv.below M (lt_succ_self _);have c0:=K 0;have d5:=K 7;simp only [q2a] at c0 d5;clear K;by_cases D:k < n/\x<=C
   . obtain ⟨D,hx⟩:=D
     have q:k < args.length:=by have:=Hn.out;omega
     obtain ⟨b,o,rfl⟩:∃b o,a=some ⟨b,o,none⟩:=by
      have:=Hs.out;cases this with
      | mt=> omega
      | lie _ b o=> exact ⟨b,o,rfl⟩
     obtain ⟨s',G,c0,c1,c2,c3,c4,c5,c6,c7⟩:=(Hs.mono F).cell k q;obtain ⟨sa,sn,sc,rfl,-,-⟩:=G.shape;have O:=hid (I.out _ (getElem_mem q));generalize args[k]=E' at *;go_wp2_with fail;refine (T.out E' O _ _ _ _ _ G).mono ?_;rintro e w1 ⟨t,rfl,H⟩;have J:=hid (M.trans (H.mono (by have:=M.size;simp at this;omega)));clear H c0 c1 c2 c3 c4 c5 c6 c7 V d5;obtain ⟨V,K,-⟩:=Hv.below J (lt_succ_self _);go_wp2;go_roundw
     case rel=> exact ⟨k+1,_,by omega,by go_num,rfl,J⟩
     case measure=> simp [intOf];omega
   . by_cases hlt1:k < n
     . have hx:C < x:=by omega
       clear D;go_wp2;go_ret;exact ⟨_,rfl,F⟩
     . clear D
       go_wp2;go_ret;exact ⟨_,rfl,F⟩
theorem aDepth_calls (m:Nat):∀E:Ex,SizeOf.sizeOf E<=m->∀(a:Option Addr) (n c:Nat) (w:World),ArgsAt w E.args (qs a n c)->
 Calls Tryz.prog 80 #[.agg #[qi E.op,qt E.table,qt E.name,qi E.index,qi E.v.kind,qi E.v.int,qt E.v.text,qs a n c]] w (SomeI w):=by
 induction m with
 | zero=> intro E h;cases E;simp at h
 | succ m ih=>
  rintro ⟨op,table,name,index,C,args⟩ hm a n c w J;simp only [Ex.args] at J;simp only [Ex.op,Ex.table,Ex.name,Ex.index,Ex.v];have G:Hid (∀E∈args,SizeOf.sizeOf E<=m):=by intro E hE;have h1:=sizeOf_lt_of_mem hE;simp at hm;omega
  obtain ⟨_,_,_,he,U,q⟩:=J.shape;cases he;have Hn:=hid U;have Hs:=hid J;have M:=hid ih;have W:=hid (VarIs.new w #[qi op,qt table,qt name,qi index,qi C.kind,qi C.int,qt C.text,qs a n c] 37);have O:Hid (∀o,Below w.heap.size w (w.alloc o)):=λ o=> zi.alloc lr o;clear J U ih hm;go_enter Tryz.func80,Tryz.ntmps80;go_wp2;go_loopw [3,4] (λ s z wr=> ∃(k:Nat) (x:Int),k<=n/\z=qi k/\s=qi x/\Hid (Below (w.heap.size+1) (w.alloc (.cells #[qi op,qt table,qt name,qi index,qi C.kind,qi C.int,qt C.text,qs a n c] 37)) wr)) (λ _ z _=> n - (intOf z).toNat)
  case atStart=> exact ⟨0,_,zero_le _,rfl,rfl,zi⟩
  case round=>
   obtain ⟨k,x,hk,rfl,rfl,K⟩:=hrel;have A:=hid ((O.out _).trans (K.mono (le_succ _)));obtain ⟨T,I,-⟩:=W.below K (lt_succ_self _);have c0:=I 0;have V:=I 7;simp only [q2a] at c0 V;clear I;by_cases hlt:k < n
   . skip
     have q:k < args.length:=by have:=Hn.out;omega
     obtain ⟨b,o,rfl⟩:∃b o,a=some ⟨b,o,none⟩:=by
      have:=Hs.out;cases this with
      | mt=> omega
      | lie _ b o=> exact ⟨b,o,rfl⟩
     obtain ⟨s',D,c0,c1,c2,c3,c4,c5,c6,c7⟩:=(Hs.mono A).cell k q;obtain ⟨sa,sn,sc,rfl,-,-⟩:=D.shape;have L:=hid (G.out _ (getElem_mem q));generalize args[k]=E' at *;go_wp2_with fail;refine (M.out E' L _ _ _ _ D).mono ?_;rintro e w1 ⟨t,rfl,F⟩;have H:=hid (K.trans (F.mono (by have:=K.size;simp at this;omega)));clear F c0 c1 c2 c3 c4 c5 c6 c7 T V;obtain ⟨T,I,-⟩:=W.below H (lt_succ_self _);go_wp2;go_roundw
     case rel=> exact ⟨k+1,_,by omega,by go_num,rfl,H⟩
     case measure=> simp [intOf];omega
   . obtain rfl:k=n:=by omega
     by_cases h0:op=0
     . subst h0
       go_wp2;go_ret;exact ⟨_,rfl,A⟩
     . go_wp2
       go_ret;exact ⟨_,rfl,A⟩
theorem bFine_calls (m:Nat):∀E:Ex,SizeOf.sizeOf E<=m->∀(D:Int) (a:Option Addr) (n c:Nat) (w:World),ArgsAt w E.args (qs a n c)->
 Calls Tryz.prog 100 #[.agg #[qi E.op,qt E.table,qt E.name,qi E.index,qi E.v.kind,qi E.v.int,qt E.v.text,qs a n c],qi D] w (BoolP True w):=by
 induction m with
 | zero=> intro E h;cases E;simp at h
 | succ m ih=>
  rintro ⟨op,table,name,index,C,args⟩ hm D a n c w M;simp only [Ex.args] at M;simp only [Ex.op,Ex.table,Ex.name,Ex.index,Ex.v];have J:Hid (∀E∈args,SizeOf.sizeOf E<=m):=by intro E hE;have h1:=sizeOf_lt_of_mem hE;simp at hm;omega
  obtain ⟨_,_,_,he,W,A⟩:=M.shape;cases he;have Hn:=hid W;have Hs:=hid M;have U:=hid ih;have Hv:=hid (VarIs.new w #[qi op,qt table,qt name,qi index,qi C.kind,qi C.int,qt C.text,qs a n c] 37);have G:Hid (∀o,Below w.heap.size w (w.alloc o)):=λ o=> zi.alloc lr o;clear M W ih hm;go_enter Tryz.func100,Tryz.ntmps100;go_upto_region 1 with (fail)
  go_cut [28] from 6 to 28 (λ z wx=> ∃q:Bool,z=.bool q/\w.alloc (.cells #[qi op,qt table,qt name,qi index,qi C.kind,qi C.int,qt C.text,qs a n c] 37)=wx)
  case first=>
   by_cases h0:D=0
   . subst h0
     go_wp2 <;> (go_meet;exact ⟨_,rfl,rfl⟩)
   . go_wp2 <;> (go_meet;exact ⟨_,rfl,rfl⟩)
  obtain ⟨q,rfl,rfl⟩:=hcut;cases q with
  | true=>
   go_wp2;go_ret;exact ⟨false,rfl,(λ h=> (by cases h)),G.out _⟩
  | false=>
   go_wp2;go_loopw [5] (λ z wr=> ∃k:Nat,k<=n/\z=qi k/\Hid (Below (w.heap.size+1) (w.alloc (.cells #[qi op,qt table,qt name,qi index,qi C.kind,qi C.int,qt C.text,qs a n c] 37)) wr)) (λ z _=> n - (intOf z).toNat)
   case atStart=> exact ⟨0,zero_le _,rfl,zi⟩
   case round=>
    obtain ⟨k,hk,rfl,O⟩:=hrel;have K:=hid ((G.out _).trans (O.mono (le_succ _)));obtain ⟨V,L,-⟩:=Hv.below O (lt_succ_self _);have c0:=L 0;have d5:=L 7;simp only [q2a] at c0 d5;clear L;by_cases hlt:k < n
    . skip
      have A:k < args.length:=by have:=Hn.out;omega
      obtain ⟨b,o,rfl⟩:∃b o,a=some ⟨b,o,none⟩:=by
       have:=Hs.out;cases this with
       | mt=> omega
       | lie _ b o=> exact ⟨b,o,rfl⟩
      obtain ⟨s',H,c0,c1,c2,c3,c4,c5,c6,c7⟩:=(Hs.mono K).cell k A;obtain ⟨sa,sn,sc,rfl,-,-⟩:=H.shape;have T:=hid (J.out _ (getElem_mem A));generalize args[k]=E' at *;go_wp2_with fail;refine (U.out E' T _ _ _ _ _ H).mono ?_;rintro e w1 ⟨t,rfl,-,I⟩;have F:=hid (O.trans (I.mono (by have:=O.size;simp at this;omega)));clear I c0 c1 c2 c3 c4 c5 c6 c7 V d5;obtain ⟨V,L,-⟩:=Hv.below F (lt_succ_self _);cases t with
      | true=>
       go_wp2;go_roundw
       case rel=> exact ⟨k+1,by omega,by go_num,F⟩
       case measure=> simp [intOf];omega
      | false=>
       go_wp2;go_ret;exact ⟨false,rfl,(λ h=> (by cases h)),(G.out _).trans (F.mono (le_succ _))⟩
    . obtain rfl:k=n:=by omega
      go_wp2;go_ret;exact ⟨true,rfl,(λ _=> trivial),K⟩
theorem agg1_calls (v:Vl) (w:World):Calls Tryz.prog 44 #[.agg #[qi v.kind,qi v.int,qt v.text]] w λ e w'=> e=.returned (.bool (v.kind==0))/\Below w.heap.size w w':=by
 go_enter Tryz.func44,Tryz.ntmps44;go_wp2;go_ret;exact ⟨rfl,zi.alloc lr _⟩
theorem vInt_calls (n:Int) (w:World):Calls Tryz.prog 45 #[qi n] w λ e w'=> e=.returned (.agg #[qi 1,qi n,qt ⟨#[]⟩])/\Below w.heap.size w w':=by
 go_enter Tryz.func45,Tryz.ntmps45;go_wp2;refine bodyPost_ret (v:=.agg #[qi 1,qi n,qt ⟨#[]⟩]) (by simp [results,Tryz.results45,go_sem]) rfl ?_;exact ⟨rfl,zi.alloc lr _⟩
def nullAt:Rw->Nat->Int | [],_=> -1 | v::l,i=> if v.kind=0 then i else nullAt l (i+1)
theorem indexV_calls (L:Rw) (s:Value) (w:World) (hs:ValsAt w L s):
 Calls Tryz.prog 70 #[s,.func (.func 44) #[] #[]] w λ e w'=> e=.returned (qi (nullAt L 0))/\Below w.heap.size w w':=by
 obtain ⟨a,n,c,rfl,V,hm⟩:=hs.shape;have U:=hid hs;have Hn:=hid V;have aa:n<=9223372036854775807:=by unfold maxLen at hm;omega
 clear hs V hm;go_enter Tryz.func70,Tryz.ntmps70;go_wp2;go_loopg [8] n (λ g z wr=> ∃i:Nat,z=qi i/\g+i=n/\Hid (nullAt L 0=nullAt (L.drop i) i)/\Hid (Below w.heap.size w wr))
 case atStart=> exact ⟨0,rfl,rfl,rfl,zi⟩
 case round=>
  obtain ⟨i,rfl,G,T,J⟩:=hrel;by_cases hin:i < n
  . have F:i < L.length:=by rw [<-Hn.out];exact hin
    obtain ⟨b,o,rfl⟩:=U.has i hin;have H:=(U.mono J).cell i F;have ab:=(U.mono J).lt F;have hd:L.drop i=L[i]::L.drop (i+1):=drop_eq_getElem_cons F;have W:(i:Int) < n:=by omega
    have M:Hid (∀w',Calls Tryz.prog 44 #[.agg #[qi L[i].kind,qi L[i].int,qt L[i].text]] w' λ e w''=> e=.returned (.bool (L[i].kind==0))/\Below w'.heap.size w' w''):=λ w'=> agg1_calls L[i] w';have q:nullAt (L.drop i) i=if L[i].kind=0 then (i:Int) else nullAt (L.drop (i+1)) (i+1):=by rw [hd];rfl
    have D:=hid q;obtain ⟨c0,c1,c2⟩:=H;have K:=hid G;clear hd q G;generalize L[i]=v at *;clear F;by_cases hk:v.kind=0
    . have A:(v.kind==0)=true:=by rw [hk];rfl
      have O:=hid hk;rw [A] at M;clear hk A;go_wp2_with fail;(with_reducible refine (M.out _).mono ?_);rintro e w1 ⟨rfl,C⟩;have I:=hid (J.trans (C.mono J.size));clear C;go_wp2;go_ret;exact ⟨by rw [T.out,D.out,if_pos O.out];rfl,I⟩
    . have A:(v.kind==0)=false:=beq_false_of_ne hk
      have O:=hid hk;rw [A] at M;clear hk A;go_wp2_with fail;(with_reducible refine (M.out _).mono ?_);rintro e w1 ⟨rfl,C⟩;have I:=hid (J.trans (C.mono J.size));clear C;go_wp2;go_roundg (gk - 1)
      case rel=> exact ⟨i+1,by go_num,by have:=K.out;omega,by show _=_;rw [T.out,D.out,if_neg O.out],I⟩
      case measure=> have:=K.out;omega
  . obtain rfl:i=n:=by omega
    have hR:Hid (nullAt L 0= -1):=by show _=_;rw [T.out,drop_of_length_le (by rw [<-Hn.out];exact lr)];rfl
    clear G hin;go_wp2;go_ret;exact ⟨by rw [hR.out];rfl,J⟩
def nnV (l:Rw):Rw:=l.filter λ v=> v.kind !=0
theorem nullAt_neg:∀(l:Rw) (i:Nat),nullAt l i= -1->nnV l=l
 | [],_,_=> rfl
 | v::l,i,h=> by
  unfold nullAt at h;by_cases hk:v.kind=0
  . rw [if_pos hk] at h;omega
  . rw [if_neg hk] at h
    have o:=nullAt_neg l (i+1) h;unfold nnV at o ⊢;rw [List.filter_cons,if_pos (by simp [hk]),o]
theorem nullAt_at:∀(l:Rw) (i:Nat) (j:Int),nullAt l i=j->j≠ -1->∃k:Nat,j=(i+k:Nat)/\k < l.length/\nnV (l.take (k+1))=l.take k
 | [],_,_,h,hne=> absurd h.symm hne
 | v::l,i,j,h,hne=> by
  unfold nullAt at h;by_cases hk:v.kind=0
  . rw [if_pos hk] at h
    refine ⟨0,by omega,by simp,?_⟩;simp [nnV,hk]
  . rw [if_neg hk] at h
    obtain ⟨k,h1,q,o⟩:=nullAt_at l (i+1) j h hne;refine ⟨k+1,by omega,by simpa using q,?_⟩;unfold nnV at o ⊢;rw [List.take_succ_cons,List.filter_cons,if_pos (by simp [hk]),o,List.take_succ_cons]
theorem nnV_snoc (l:Rw) (v:Vl):nnV (l++[v])=if v.kind=0 then nnV l else nnV l++[v]:=by
 unfold nnV;by_cases h:v.kind=0 <;> simp [h]
structure DelS (R C:Rw) (i j:Nat):Prop where
 len:C.length=R.length
 kept:C.take i=nnV (R.take j)
 rest:C.drop j=R.drop j
 lt:i < j
 le:j<=R.length
theorem DelS.skip {R C:Rw} {i j:Nat} (h:DelS R C i j) (hj:j < R.length) (hk:(R[j]).kind=0):DelS R C i (j+1):=
 ⟨h.len,by rw [h.kept,List.take_add_one,getElem?_eq_getElem hj];exact (by rw [Option.toList_some,nnV_snoc,if_pos hk]),by
  have:=congrArg List.tail h.rest
  rwa [List.tail_drop,List.tail_drop] at this,by have:=h.lt;omega,hj⟩
theorem DelS.keep {R C:Rw} {i j:Nat} (h:DelS R C i j) (hj:j < R.length) (hk:(R[j]).kind≠0):DelS R (C.set i R[j]) (i+1) (j+1):=by
 have hi:i < C.length:=by have:=h.len;have:=h.lt;omega
 refine ⟨by rw [List.length_set];exact h.len,?_,?_,by have:=h.lt;omega,hj⟩
 . rw [List.take_add_one,List.getElem?_set_self hi,List.take_set_of_le lr,h.kept,List.take_add_one,getElem?_eq_getElem hj]
   exact (by simp only [Option.toList_some];rw [nnV_snoc,if_neg hk])
 . rw [List.drop_set_of_lt (by have:=h.lt;omega)]
   have:=congrArg List.tail h.rest
   rwa [List.tail_drop,List.tail_drop] at this
theorem DelS.at {R C:Rw} {i j:Nat} (h:DelS R C i j) (hj:j < R.length):C[j]? =some R[j]:=by
 have h1:C[j]? =(C.drop j)[0]? :=by rw [List.getElem?_drop];simp
 rw [h1,h.rest,List.getElem?_drop];simp
theorem zeroV_one (n:Nat):∀u∈(Builtin.zeroCells (Value.agg q0c).cells n).toList,u.oneCell'=true:=by
 intro u o;unfold Builtin.zeroCells at o;simp only [Value.cells,Array.toList_map,List.mem_map] at o;obtain ⟨i,-,rfl⟩:=o;have:i % 3=0\/i % 3=1\/i % 3=2:=by omega
 rcases this with h | h | h <;> simp [h] <;> rfl
theorem deleteFunc_calls (R:Rw) (s:Value) (B:Nat) (w:World) (hs:RowO w B R s) (hB:B<=w.heap.size):
 Calls Tryz.prog 42 #[s,.func (.func 44) #[] #[]] w λ e w'=> ∃u,e=.returned u/\ValsAt w' (nnV R) u/\Below B w w':=by
 have hv:=hs.vals;have HI:=hid (indexV_calls R s w hv);obtain ⟨a,n,c,rfl,hn,hm⟩:=hv.shape;have HS:=hid hs;have HV:=hid hv;have Hn:=hid hn;have av:=hid hB;have aU:n<=9223372036854775807:=by unfold maxLen at hm;omega
 by_cases hi:nullAt R 0= -1
 . have an:=nullAt_neg R 0 hi
   have aG:=hid an;rw [hi] at HI;clear hs hv hn hm hB an hi;go_enter Tryz.func42,Tryz.ntmps42;go_wp2_with fail;(with_reducible refine HI.out.mono ?_);rintro e w1 ⟨rfl,ac⟩;have H1:=hid ac;clear ac HI;go_wp2;go_ret;exact ⟨_,rfl,by rw [aG.out];exact HV.mono H1,H1.mono av⟩
 . obtain ⟨i0,e0,ap,aw⟩:=nullAt_at R 0 _ rfl hi
   rw [zero_add] at e0;rw [e0] at HI;have HD:Hid (DelS R R i0 (i0+1)):=⟨rfl,aw.symm,rfl,lt_succ_self _,ap⟩
   have aQ:i0 < n:=by rw [hn];exact ap
   clear hs hv hn hm hB hi e0 ap aw;go_enter Tryz.func42,Tryz.ntmps42;go_wp2_with fail;(with_reducible refine HI.out.mono ?_);rintro e w1 ⟨rfl,ac⟩;have H1:=hid ac;clear ac HI;obtain ⟨D,rfl,aa⟩:∃D,a=some ⟨D,0,none⟩/\B<=D:=by
    rcases HS.1.2 with ⟨h',_⟩ | ⟨g',aF,A,h',hb,_⟩
    . injection h' with O e2 e3;omega
    . injection h' with O e2 e3;exact ⟨g',O,hb⟩
   have aH:Hid (RowO w1 B R (qs (some ⟨D,0,none⟩) n c)/\Below B w w1):=⟨⟨own_below HS.1 H1,HS.2⟩,H1.mono av⟩
   go_wp2;go_loopg [5,6] (n - (i0+1)) (λ g z5 z6 wr=> ∃(i j:Nat) (C:Rw),z5=qi i/\z6=qi j/\g+j=n/\Hid (DelS R C i j)/\Hid (RowO wr B C (qs (some ⟨D,0,none⟩) n c)/\Below B w wr))
   case atStart=> exact ⟨i0,i0+1,R,rfl,by go_num,by omega,HD,aH⟩
   case round=>
    clear HD aH;obtain ⟨i,j,C,rfl,rfl,af,HD,K⟩:=hrel;have ad:=HD.len;have aX:=HD.lt;have G:=K.1;have T:=G.vals;by_cases hjn:j < n
    . have M:j < R.length:=by rw [<-Hn.out];exact hjn
      have W:j < C.length:=by rw [ad];exact M
      have ah:C[j]=R[j]:=by have:=HD.at M;rw [getElem?_eq_getElem W] at this;exact Option.some.inj this
      obtain ⟨c0,c1,c2⟩:=T.cell j W;rw [ah] at c0 c1 c2;rw [zero_add] at c0 c1 c2;have az:=T.lt W;have aO:(j:Int) < n:=by omega
      have HC:=hid (λ w'=> agg1_calls R[j] w');have ai:=hid af;by_cases hk:R[j].kind=0
      . have Hs:=hid (HD.skip M hk)
        have U:(R[j].kind==0)=true:=by rw [hk];rfl
        rw [U] at HC;have ae:=K;clear hk U ad G T af;generalize R[j]=y at *;clear M W ah;go_wp2_with fail;(with_reducible refine (HC.out _).mono ?_);rintro e w2 ⟨rfl,J⟩;have I:Below wr.heap.size wr w2:=(zi.alloc lr _).trans (J.mono (by simp));have au:Hid (RowO w2 B C (qs (some ⟨D,0,none⟩) n c)/\Below B w w2):=⟨⟨own_below ae.1.1 I,ae.1.2⟩,ae.2.trans (I.mono (by have:=Nat.lt_of_le_of_lt aa az;omega))⟩
        clear J I;go_wp2;go_roundg (gk - 1)
        case rel=> exact ⟨i,j+1,C,rfl,by go_num,by have:=ai.out;omega,Hs,au⟩
        case measure=> have:=ai.out;omega
      . have Hs:=hid (HD.keep M hk)
        have U:(R[j].kind==0)=false:=beq_false_of_ne hk;rw [U] at HC;have aL:i < C.length:=by omega
        have ag:C.length=n:=by rw [ad,Hn.out]
        have aI:=hid ag;have aM:Hid (R[j].text.size<=maxLen):=K.1.2 _ (by rw [<-ah];exact getElem_mem _);have V:=λ c=> VarIs.new wr c 35;have ar:=hid aL;clear hk U ad G T af ag;generalize R[j]=y at *;clear M W ah;go_wp2_with fail;(with_reducible refine (HC.out _).mono ?_);rintro e w2 ⟨rfl,J⟩;obtain ⟨-,v2,-⟩:=(V #[qi y.kind,qi y.int,qt y.text]).below J (by simp);have aR:wr.heap.size < w2.heap.size:=lt_of_lt_of_le (by simp) J.size;have y0:=v2 0;have y1:=v2 1;have y2:=v2 2;simp only [q2a] at y0 y1 y2;have I:Below wr.heap.size wr w2:=(zi.alloc lr _).trans (J.mono (by simp));have F:RowO w2 B C (qs (some ⟨D,0,none⟩) n c):=⟨own_below K.1.1 I,K.1.2⟩
        have aE:Below B w w2:=K.2.trans (I.mono (by have:=Nat.lt_of_le_of_lt aa az;omega));obtain ⟨z0,z1,z2⟩:=F.vals.cell i ar;rw [zero_add] at z0 z1 z2;have aN:=F.vals.lt ar;have o:=F.1;rw [aI.out] at o;have f0:=o.frozenAt (i * 3);have f1:=o.frozenAt (i * 3+1);have f2:=o.frozenAt (i * 3+2);have aj:=own_set (v:=y) o ar;have au:Hid (RowO (((w2.setCell ⟨D,i * 3,none⟩ (qi y.kind)).setCell ⟨D,i * 3+1,none⟩ (qi y.int)).setCell ⟨D,i * 3+2,none⟩ (qt y.text)) B (C.set i y) (qs (some ⟨D,0,none⟩) n c)/\Below B w (((w2.setCell ⟨D,i * 3,none⟩ (qi y.kind)).setCell ⟨D,i * 3+1,none⟩ (qi y.int)).setCell ⟨D,i * 3+2,none⟩ (qt y.text))):=by
         refine ⟨⟨by rw [List.length_set,aI.out];exact aj,λ u hu=> ?_⟩,((aE.setCell aa _).setCell aa _).setCell aa _⟩;rcases List.mem_or_eq_of_mem_set hu with hu | rfl
         . exact K.1.2 u hu
         . exact aM
        have aB:(i:Int) < n:=by omega
        generalize C[i]=q at *;clear J I F o aE aj V v2;go_wp2;go_roundg (gk - 1)
        case rel=> exact ⟨i+1,j+1,C.set i y,by go_num,by go_num,by have:=ai.out;omega,Hs,au⟩
        case measure=> have:=ai.out;omega
    . obtain rfl:j=n:=by have:=HD.le;have:=Hn.out;omega
      have H:C.take i=nnV R:=by rw [HD.kept,Hn.out,take_length]
      have aB:i < C.length:=by have:=Hn.out;omega
      obtain ⟨A,aD,aV,aq,aK⟩:∃A:Array Value,wr.heap[D]? =some (.cells A 35 (0,0))/\C.length<=c/\C.length * 3<=A.size/\A.toList.take (C.length * 3)=flat C:=by
       rcases G.1.2 with ⟨h',_⟩ | ⟨g',aF,A,h',hb,hg,ay,aY,aq,ao⟩
       . injection h' with O e2 e3;cases O
       . injection h' with O e2 e3
         injection O with O;injection O with O;subst O;exact ⟨A,hg,by rw [e3];exact ay,by rw [aq];exact Nat.mul_le_mul_right _ ay,ao⟩
      have ab:wr.heap[D]? =some (.cells A.toList.toArray 35 (0,0)):=by simpa using aD
      have aZ:C.length * 3<=A.toList.length:=by simpa using aq
      obtain ⟨iV,ii,aJ,aT,aS⟩:=info_parts Tryz.info35';have ag:C.length=j:=by rw [ad,Hn.out]
      have al:i * 3+(j - i) * 3<=A.toList.length:=by rw [<-ag];omega
      have ax:0 < j - i:=by omega
      have aP:(i:Int)<=j:=by omega
      have ba:¬ c=i:=by omega
      have aW:¬ j - i=0:=by omega
      have bb:=K;generalize A.toList=L at *;clear T G af hjn;go_wp2_with ((refine wpList_clear2 rfl _ 59 rfl 35 iV (.agg q0c) 3 Tryz.underlying59 ii aJ rfl D (i * 3) (j - i) (c - i) rfl ax L ab al (zeroV_one _) ?_));intro w9 hz aC;have HR:Hid (ValsAt w9 (nnV R) (qs (some ⟨D,0,none⟩) i c)/\Below B w w9):=by
       have ak:(nnV R).length=i:=by rw [<-H,length_take,min_eq_left (le_of_lt aB)]
       have am:=hz.out;refine ⟨.lie _ D 0 i c ak.symm (Array.getElem?_eq_some_iff.1 am).1 (by unfold maxLen;omega) (λ k hk jj hjj=> ?_) (λ u hu=> K.1.2 u (List.mem_of_mem_take (by rw [H];exact hu))),?_⟩
       . rw [ak] at hk
         rw [zero_add,cell_of_row w9 D (k * 3+jj) _ 35 (0,0) am,getElem?_toArray,splice_get L (i * 3) _ (by rw [Array.length_toList,size_zeroCells];exact al),if_pos (by omega)];have O:L[k * 3+jj]? =(flat C)[k * 3+jj]? :=by rw [<-aK,List.getElem?_take,if_pos (by omega)]
         have aA:k < C.length:=by omega
         rw [O,flat_get C k aA jj hjj];have e2:(nnV R)[k]'(by omega)=C[k]:=by
          have:(C.take i)[k]? =some C[k]:=by rw [List.getElem?_take,if_pos hk,getElem?_eq_getElem aA]
          rw [H,getElem?_eq_getElem (by omega)] at this;exact Option.some.inj this
         rw [e2]
       . have h9:=aC.out
         exact ⟨h9.os.trans K.2.os,h9.tape.trans K.2.tape,h9.output.trans K.2.output,le_trans K.2.size h9.size,λ k hk=> (h9.block k (by have:=K.2.size;have:=av.out;omega) (by intro e;have:=Option.some.inj e;omega)).trans (K.2.block k hk)⟩
      clear hz aC ab;go_wp2;go_ret;exact ⟨_,rfl,HR.1,HR.2⟩
def intV (n:Int):Vl:=⟨1,n,⟨#[]⟩⟩
def sumV (l:Rw):Int:=l.foldl (λ s v=> if v.kind=1 then wrap64 (s+v.int) else s) 0
def aggV (k:Int) (l:Rw):Vl:=
 if k=1 then intV l.length else if k=2 then intV (nnV l).length else
 match nnV l with
 | []=> nilV
 | x::r=> if k=4 then minV x r else if k=5 then maxV x r else if k=3 then intV (sumV (x::r)) else nilV
theorem sumV_step (l:Rw) (k:Nat) (h:k < l.length):sumV (l.take (k+1))=if (l[k]).kind=1 then wrap64 (sumV (l.take k)+(l[k]).int) else sumV (l.take k):=by
 unfold sumV;rw [take_succ_eq_append_getElem h,List.foldl_append];rfl
def AggEnd (k:Int) (R:Rw) (w:World) (e:Ending) (w':World):Prop:=e=.returned (aggV k R).val/\Below w.heap.size w w'
theorem aggregate_calls (k:Int) (R:Rw) (s:Value) (w:World) (hs:ValsAt w R s) (hlen:R.length < 1099511627776):
 Calls Tryz.prog 22 #[qi k,s] w (AggEnd k R w):=by
 obtain ⟨a,n,c,rfl,hn,aj⟩:=hs.shape;have HC:=hid (cloneV_calls R _ (w.alloc (.cells q0c 35)) (hs.mono (zi.alloc lr _)) hlen);have V:=hid (VarIs.new w q0c 35);have Hn:=hid hn;have ao:n < 1099511627776:=by omega
 obtain ⟨B,hB⟩:=gx w.heap.size
 have HB:=hid hB;have Hs:=hid hs;clear hs hn aj hlen hB;go_enter Tryz.func22,Tryz.ntmps22;go_wp2_with fail;(with_reducible refine HC.out.mono ?_);rintro e w1 ⟨v1,rfl,aa,ac⟩;have al:=hid aa;have K:=hid ac;have HD:=hid (deleteFunc_calls R v1 _ w1 aa ac.size);clear aa ac HC;go_wp2_with fail;(with_reducible refine HD.out.mono ?_);rintro e F ⟨u,rfl,hu,ab⟩;have hW:Below w.heap.size w F:=(zi.alloc lr _).trans ((K.trans ab).mono (by simp));have hV:VarIs F B q0c:=by
  have:=V.below (K.trans ab) (by simp)
  rwa [HB.out] at this
 have Hu:=hid hu;have HV:=hid hV;have HW:=hid hW;obtain ⟨au,M,cu,rfl,af,-⟩:=hu.shape;have ak:(nnV R).length<=R.length:=List.length_filter_le _ _;have am:M < 1099511627776:=by have:=Hn.out;omega
 have U:=hid af;simp only [HB.out];have D:Hid (∀C,Below F.heap.size F C->(B < C.heap.size/\C.cell? ⟨B,0,none⟩=some (qi 0)/\C.cell? ⟨B,1,none⟩=some (qi 0)/\C.cell? ⟨B,2,none⟩=some (qt ⟨#[]⟩)/\C.frozen? ⟨B,0,none⟩=false/\C.frozen? ⟨B,1,none⟩=false/\C.frozen? ⟨B,2,none⟩=false)/\∀v:Vl,v=aggV k R->AggEnd k R w (.returned v.val) (((C.setCell ⟨B,0,none⟩ (qi v.kind)).setCell ⟨B,1,none⟩ (qi v.int)).setCell ⟨B,2,none⟩ (qt v.text))):=by
  refine hid λ C q=> ⟨?_,λ v hv=> ⟨by rw [hv],?_⟩⟩
  . obtain ⟨f1,f2,f3⟩:=HV.below q HV.lt
    exact ⟨f1,f2 0,f2 1,f2 2,f3 0,f3 1,f3 2⟩
  . have h0:w.heap.size<=B:=by rw [HB.out];exact lr
    exact (((HW.trans (q.mono HW.size)).setCell (p:=⟨B,0,none⟩) h0 _).setCell (p:=⟨B,1,none⟩) h0 _).setCell (p:=⟨B,2,none⟩) h0 _
 have A:=hid (λ (m:Int) w'=> vInt_calls m w');clear hu ab hW HD K V hV af ak al;by_cases k1:k=1
 . have L:=hid (show intV n=aggV k R by rw [k1,Hn.out];rfl)
   have hk:(k==1)=true:=by simpa using k1
   clear k1;go_wp2_with fail;(with_reducible refine (A.out _ _).mono ?_);rintro e C ⟨rfl,q⟩;obtain ⟨⟨d1,I,H,G,d5,d6,d7⟩,he⟩:=D.out C q;have J:=hid (he _ L);clear he q D A;go_wp2;refine bodyPost_ret (v:=(intV n).val) (by simp [results,Tryz.results22,go_sem,I,H,G];rfl) rfl J
 have av:(k==1)=false:=by simpa using k1
 by_cases k2:k=2
 . have L:=hid (show intV M=aggV k R by rw [k2,U.out];rfl)
   have hk:(k==2)=true:=by simpa using k2
   clear k1 k2;go_wp2_with fail;(with_reducible refine (A.out _ _).mono ?_);rintro e C ⟨rfl,q⟩;obtain ⟨⟨d1,I,H,G,d5,d6,d7⟩,he⟩:=D.out C q;have J:=hid (he _ L);clear he q D A;go_wp2;refine bodyPost_ret (v:=(intV M).val) (by simp [results,Tryz.results22,go_sem,I,H,G];rfl) rfl J
 have ar:(k==2)=false:=by simpa using k2
 rcases hnn:nnV R with _ | ⟨x,r⟩
 . have h0:M=0:=by have:=U.out;rw [hnn] at this;exact this
   have L:=hid (show nilV=aggV k R by unfold aggV;rw [if_neg k1,if_neg k2,hnn]);obtain ⟨⟨d1,I,H,G,d5,d6,d7⟩,he⟩:=D.out F zi;have J:=hid (he _ L);subst h0;clear he D A k1 k2 hnn;go_wp2;refine bodyPost_ret (v:=nilV.val) (by simp [results,Tryz.results22,go_sem,I,H,G];rfl) rfl J
 have an:((M:Int)==0)=false:=by have:=U.out;rw [hnn] at this;simp at this ⊢;omega
 have T:=hid (show ValsAt F (x::r) (qs au M cu) by rw [<-hnn];exact Hu);have W:=hid (show aggV k R=if k=4 then minV x r else if k=5 then maxV x r else if k=3 then intV (sumV (x::r)) else nilV by unfold aggV;rw [if_neg k1,if_neg k2,hnn]);have ah:=hid (show M=(x::r).length by rw [<-hnn];exact U);clear k1 k2 hnn Hu;by_cases k4:k=4
 . have L:=hid (show minV x r=aggV k R by rw [W.out,if_pos k4])
   have hk:(k==4)=true:=by simpa using k4
   have HM:=hid (minFunc_calls x r _ F T);clear k4;go_wp2_with fail;(with_reducible refine HM.out.mono ?_);rintro e C ⟨rfl,q⟩;obtain ⟨⟨d1,I,H,G,d5,d6,d7⟩,he⟩:=D.out C q;have J:=hid (he _ L);clear he q D A;go_wp2;refine bodyPost_ret (v:=(minV x r).val) (by simp [results,Tryz.results22,go_sem,I,H,G];rfl) rfl J
 have aq:(k==4)=false:=by simpa using k4
 by_cases k5:k=5
 . have L:=hid (show maxV x r=aggV k R by rw [W.out,if_neg k4,if_pos k5])
   have hk:(k==5)=true:=by simpa using k5
   have HM:=hid (maxFunc_calls x r _ F T);clear k4 k5;go_wp2_with fail;(with_reducible refine HM.out.mono ?_);rintro e C ⟨rfl,q⟩;obtain ⟨⟨d1,I,H,G,d5,d6,d7⟩,he⟩:=D.out C q;have J:=hid (he _ L);clear he q D A;go_wp2;refine bodyPost_ret (v:=(maxV x r).val) (by simp [results,Tryz.results22,go_sem,I,H,G];rfl) rfl J
 have ap:(k==5)=false:=by simpa using k5
 by_cases k3:k=3
 . have hk:(k !=3)=false:=by simp [k3]
   have L:=hid (show intV (sumV (x::r))=aggV k R by rw [W.out,if_neg k4,if_neg k5,if_pos k3]);clear k3 k4 k5;go_wp2_with fail;go_loopw [6,45] (λ z6 z45 wr=> ∃j:Nat,j<=M/\z45=qi j/\z6=qi (sumV ((x::r).take j))/\Hid (Below F.heap.size F wr)) (λ _ z _=> M - (intOf z).toNat)
   case atStart=> exact ⟨0,zero_le _,rfl,rfl,hid zi⟩
   case round=>
    obtain ⟨j,hj,rfl,rfl,Hb⟩:=hrel;by_cases hlt:j < M
    . have O:j < (x::r).length:=by have:=ah.out;omega
      obtain ⟨b,o,rfl⟩:=T.has j hlt;have ae:=sumV_step (x::r) j O;have hv:=T.mono Hb;obtain ⟨e0,e1,e2⟩:=hv.cell j O;have aw:=hv.lt O;have ag:=hid ae;generalize (x::r)[j]=y at *;have V:=VarIs.new wr #[qi y.kind,qi y.int,qt y.text] 35;obtain ⟨-,y0,-⟩:=V;have z0:=y0 0;have z1:=y0 1;simp only [q2a] at z0 z1;have K:=hid (show Below F.heap.size F (wr.alloc (.cells #[qi y.kind,qi y.int,qt y.text] 35)) from Hb.alloc Hb.size _);clear ae hv y0 O;by_cases hy:y.kind=1
      . have ai:(y.kind==1)=true:=by simpa using hy
        have ad:=hid (show sumV ((x::r).take (j+1))=wrap64 (sumV ((x::r).take j)+y.int) by rw [ag.out,if_pos hy]);clear hy;generalize sumV ((x::r).take j)=S at *;go_wp2_with fail;go_roundw
        case rel=> exact ⟨j+1,by omega,by go_num,by rw [ad.out],K⟩
        case measure=> simp [intOf];omega
      . have ai:(y.kind==1)=false:=by simpa using hy
        have ad:=hid (show sumV ((x::r).take (j+1))=sumV ((x::r).take j) by rw [ag.out,if_neg hy]);clear hy;generalize sumV ((x::r).take j)=S at *;go_wp2_with fail;go_roundw
        case rel=> exact ⟨j+1,by omega,by go_num,by rw [ad.out],K⟩
        case measure=> simp [intOf];omega
    . obtain rfl:j=M:=by omega
      have hS:sumV ((x::r).take j)=sumV (x::r):=by rw [take_of_length_le (by have:=ah.out;omega)]
      have HS:=hid hS;generalize sumV ((x::r).take j)=S at *;clear hS;go_wp2_with fail;(with_reducible refine (A.out _ _).mono ?_);rintro e C ⟨rfl,q⟩;obtain ⟨⟨d1,I,H,G,d5,d6,d7⟩,he⟩:=D.out C (Hb.trans (q.mono Hb.size));have J:=hid (he (intV S) (by rw [HS.out];exact L));clear he q D A;go_wp2;refine bodyPost_ret (v:=(intV S).val) (by simp [results,Tryz.results22,go_sem,I,H,G];rfl) rfl J
 . have hk:(k !=3)=true:=by simpa using k3
   have L:=hid (show nilV=aggV k R by rw [W.out,if_neg k4,if_neg k5,if_neg k3]);obtain ⟨⟨d1,I,H,G,d5,d6,d7⟩,he⟩:=D.out F zi;have J:=hid (he _ L);clear he D A k3 k4 k5;go_wp2;refine bodyPost_ret (v:=nilV.val) (by simp [results,Tryz.results22,go_sem,I,H,G];rfl) rfl J.out
theorem sort1_calls (os:List Od) (X Y:Rw) (sx sy so:Value) (bo m:Nat) (w:World) (hx:ValsAt w X sx) (hy:ValsAt w Y sy) (ho:OrdsAt w os so) (hbo:w.cell? ⟨bo,0,none⟩=some so) (hlX:X.length=m) (hlY:Y.length=m) (hf:OrdsFit os m):
 Calls Tryz.prog 39 #[sx,sy,.pointer (some ⟨bo,0,none⟩)] w λ e w'=> e=.returned (qi (ordC os X Y))/\Below w.heap.size w w':=by
 obtain ⟨ax,nx,cx,rfl,ar,av⟩:=hx.shape;obtain ⟨ay,ny,cy,rfl,aq,au⟩:=hy.shape;obtain ⟨ao,no,co,rfl,af,ag⟩:=ho.shape;have HX:=hid hx;have HY:=hid hy;have HO:=hid ho;have HN:=hid (show nx=m/\ny=m/\no=os.length/\X.length=m/\Y.length=m from ⟨by omega,by omega,af,hlX,hlY⟩);have HF:=hid hf;unfold maxLen at av au ag;have aw:=World.block_lt_of_cell? w _ hbo;clear hx hy ho ar aq af hlX hlY hf;have HD:=hid (λ w' (hb:Below w.heap.size w w')=> compareRows_calls X Y _ _ w' (HX.mono hb) (HY.mono hb));have HP:=hid (λ (a:Int) w'=> compare2_calls a 0 w');go_enter Tryz.func39,Tryz.ntmps39;go_wp2;go_loopw [11] (λ z wr=> ∃k:Nat,k<=no/\z=qi k/\Hid (ordC os X Y=ordC (os.drop k) X Y)/\Hid (Below w.heap.size w wr)) (λ z _=> no - (intOf z).toNat)
 case atStart=> exact ⟨0,zero_le _,rfl,rfl,zi⟩
 case round=>
  obtain ⟨k,hk,rfl,He,M⟩:=hrel;by_cases hlt:k < no
  . have ac:k < os.length:=by have:=HN.out;omega
    obtain ⟨b,o,rfl,am,c0,c1⟩:=(HO.mono M).at k ac;have aj:=HF.out os[k] (getElem_mem _);have F:=ordC_drop ac X Y;obtain ⟨od,ae⟩:=gx (os[k])
    rw [ae] at aj F c0 c1;have ah:od.k < m:=by unfold Od.k;omega
    have U:od.k < X.length:=by have:=HN.out;omega
    have T:od.k < Y.length:=by have:=HN.out;omega
    obtain ⟨bx,ox,rfl⟩:=HX.has od.k (by have:=HN.out;omega);obtain ⟨bY,oy,rfl⟩:=HY.has od.k (by have:=HN.out;omega);obtain ⟨x0,x1,x2⟩:=(HX.mono M).cell od.k U;obtain ⟨y0,y1,y2⟩:=(HY.mono M).cell od.k T;have C:=(HX.mono M).lt U;have A:=(HY.mono M).lt T;have al:od.c X Y=if od.desc then - cmpV X[od.k] Y[od.k] else cmpV X[od.k] Y[od.k]:=by unfold Od.c;rw [getD_eq_getElem?_getD,getD_eq_getElem?_getD,getElem?_eq_getElem U,getElem?_eq_getElem T];rfl
    have L:=hid al;have aa:=hid F;have HC:=hid (λ w'=> cmpV_calls X[od.k] Y[od.k] w');have ad:=cmpV_range X[od.k] Y[od.k];have H:=hid ad;generalize X[od.k]=x at *;generalize Y[od.k]=y at *;generalize cmpV x y=r at *;obtain ⟨q,hq⟩:=gx od.k
    have ab:od.item - 1=q:=by rw [<-hq];unfold Od.k;omega
    rw [hq] at x0 x1 x2 y0 y1 y2 ah;obtain ⟨it,ai⟩:=gx od.item
    obtain ⟨J,ak⟩:=gx od.desc
    rw [ai] at c0 ab;rw [ak] at c1 L;have e1:IntKind.i64.wrap (it - 1)=q:=by rw [ab];exact IntWalk.i64_in _ (by have:=HN.out;omega)
    have an:Hid (nx=m/\ny=m):=hid ⟨HN.1,HN.2.1⟩;have i1:(0:Int)<=q:=by omega
    have i2:(q:Int) < nx:=by have:=an.out;omega
    have i3:(q:Int) < ny:=by have:=an.out;omega
    have V:=VarIs.new wr #[qi it,.bool J] 84;have G:Below w.heap.size w (wr.alloc (.cells #[qi it,.bool J] 84)):=M.alloc M.size _;clear al F ae aj U T ad hq ab ai ak ac ah;go_upto_region 4 with (fail)
    obtain ⟨v1,v2,v3⟩:=V;have d0:=v2 0;have d1:=v2 1;simp only [q2a] at d0 d1;have O:wr.heap.size < (wr.alloc (.cells #[qi it,.bool J] 84)).heap.size:=by simp
    have D:=(Below.refl wr.heap.size wr).alloc lr (.cells #[qi it,.bool J] 84);replace x0:=(D.cell (p:=⟨bx,ox+q * 3,none⟩) C).trans x0;replace x1:=(D.cell (p:=⟨bx,ox+q * 3+1,none⟩) C).trans x1;replace x2:=(D.cell (p:=⟨bx,ox+q * 3+2,none⟩) C).trans x2;replace y0:=(D.cell (p:=⟨bY,oy+q * 3,none⟩) A).trans y0;replace y1:=(D.cell (p:=⟨bY,oy+q * 3+1,none⟩) A).trans y1;replace y2:=(D.cell (p:=⟨bY,oy+q * 3+2,none⟩) A).trans y2;replace C:=lt_of_lt_of_le C D.size;replace A:=lt_of_lt_of_le A D.size;have W:=hid G;obtain ⟨bw,K⟩:=gx wr.heap.size
    rw [K] at d0 d1 O;simp only [K];clear v1 v2 v3 D c0 c1 am G K aw hbo;generalize wr.alloc (.cells #[qi it,.bool J] 84)=W0 at *;go_cut [8] from 15 to 27 (λ z wx=> z=qi r/\Hid (Below W0.heap.size W0 wx))
    case first=>
     go_region_held3 (λ w'=> Below W0.heap.size W0 w'/\∀b o,b < W0.heap.size->w'.cell? ⟨b,o,none⟩=W0.cell? ⟨b,o,none⟩)
      (first | assumption | exact S_of (Below.drew zi) | exact S_step (by assumption) (by assumption))
      (first | (go_at_call 40;(with_reducible refine (HC.out _).mono ?_);rintro e w1 ⟨rfl,G⟩))
     all_goals
      rename_i hH
      have I:=hid hH.1;clear hH;go_step;go_step;go_meet;exact ⟨rfl,I⟩
    obtain ⟨rfl,I⟩:=hcut;have ap:=hid (W.trans (I.mono W.size));have aA:=(I.cell (p:=⟨bw,1,none⟩) O).trans d1;have az:=lt_of_lt_of_le O I.size;clear d0 d1 O x0 x1 x2 y0 y1 y2 C A I HC e1 i1 i2 i3;by_cases hr:r=0
    . subst hr
      have HE:Hid (ordC os X Y=ordC (os.drop (k+1)) X Y):=hid (by rw [He.out,aa.out,L.out];cases J <;> simp);clear He aa L H;cases J
      all_goals
       go_wp2;go_roundw
       case rel=> exact ⟨k+1,by omega,by go_num,HE,ap⟩
       case measure=> simp [intOf];omega
    . have h1:(r !=0)=true:=by simpa using hr
      have h2:(-r !=0)=true:=by simp;omega
      have h3: -9223372036854775808<= -r:=by have:=H.out;omega
      have h4: -r<=9223372036854775807:=by have:=H.out;omega
      have HE:Hid (ordC os X Y=if J then -r else r):=hid (by rw [He.out,aa.out,L.out,if_neg];cases J <;> simp <;> omega);clear He aa L H hr;cases J
      all_goals
       go_wp2;go_ret;exact ⟨by rw [HE.out];rfl,ap⟩
  . obtain rfl:k=no:=by omega
    have HE:Hid (ordC os X Y=cmpR X Y):=hid (by rw [He.out,drop_of_length_le (by have:=HN.out;omega)];rfl);have H:=hid (cmpR_range X Y);generalize cmpR X Y=r at *;clear He hbo HO ag hlt hk;go_wp2_with fail;(with_reducible refine (HD.out _ M.out).mono ?_);rintro e w1 ⟨rfl,G⟩;have W:=hid (M.trans (G.mono M.size));clear G;go_wp2_with fail;(with_reducible refine (HP.out r _).mono ?_);rintro e w2 ⟨rfl,rfl⟩;go_wp2;go_ret;refine ⟨?_,W⟩;have hr:cmpS r 0=r:=by rcases H.out with h | h | h <;> rw [h] <;> rfl
    show Ending.returned (qi (cmpS r 0))=_;rw [hr,HE.out]
structure Sl where
 a:Option Addr
 n:Nat
 c:Nat
structure Xp where
 op:Int
 tab:ByteArray
 nm:ByteArray
 idx:Int
 lit:Vl
 args:Sl
def Xp.cells (e:Xp):List Value:=[qi e.op,qt e.tab,qt e.nm,qi e.idx,qi e.lit.kind,qi e.lit.int,qt e.lit.text,qs e.args.a e.args.n e.args.c]
def Xp.val (e:Xp):Value:=.agg #[qi e.op,qt e.tab,qt e.nm,qi e.idx,qi e.lit.kind,qi e.lit.int,qt e.lit.text,qs e.args.a e.args.n e.args.c]
def ValEnd (v:Vl) (w:World) (e:Ending) (w':World):Prop:=e=.returned v.val/\Below w.heap.size w w'
theorem evalue_col (e:Xp) (R:Rw) (s:Value) (q:Nat) (w:World) (ho:e.op=2) (hi:e.idx=q) (hs:ValsAt w R s) (hq:q < R.length):
 Calls Tryz.prog 58 #[e.val,s] w (ValEnd (R.getD q nilV) w):=by
 obtain ⟨a,n,c,rfl,F,A⟩:=hs.shape;obtain ⟨b,o,rfl⟩:=hs.has q (by omega);obtain ⟨J,I,H⟩:=hs.cell q hq;have G:=hs.lt hq;have C:R.getD q nilV=R[q]:=by rw [getD_eq_getElem?_getD,getElem?_eq_getElem hq];rfl
 have D:q < n:=by omega
 rw [C];unfold maxLen at A;clear hs C F;generalize R[q]=y at *;clear hq;obtain ⟨op,tab,nm,idx,⟨K,L,lt⟩,⟨V,T,U⟩⟩:=e;obtain rfl:op=2:=ho;obtain rfl:idx=q:=hi;unfold Xp.val;have O:(0:Int)<=q:=by omega
 have M:(q:Int) < n:=by omega
 go_enter Tryz.func58,Tryz.ntmps58;go_wp2;refine bodyPost_ret (v:=y.val) (by simp [results,Tryz.results58,go_sem];rfl) rfl ⟨rfl,?_⟩
 first
  | exact (zi.alloc lr _).alloc (by simp) _
  | exact ((((zi.alloc lr _).alloc (by simp) _).setCell (by simp) _).setCell (by simp) _).setCell (by simp) _
structure It where
 k:Int
 e:Xp
 f:Rw->Vl
def It.cells (i:It):List Value:=qi i.k::i.e.cells
inductive ItemsAt (w:World):List It->Value->Prop where
 | mt {a:Option Addr} {c:Nat}:ItemsAt w [] (qs a 0 c)
 | lie (its:List It) (b o n cap:Nat) (hn:n=its.length) (hlt:b < w.heap.size) (hm:n<=maxLen)
  (hc:∀i (h:i < its.length),∀j (_:j < 9),w.cell? ⟨b,o+i * 9+j,none⟩=(its[i].cells[j]?)):ItemsAt w its (qs (some ⟨b,o,none⟩) n cap)
theorem ItemsAt.mono {w w':World} {its:List It} {s:Value} (h:ItemsAt w its s) (hb:Below w.heap.size w w'):ItemsAt w' its s:=by
 cases h with
 | mt=> exact .mt
 | lie _ b o n cap hn hlt hm hc=> exact .lie _ b o n cap hn (lt_of_lt_of_le hlt hb.size) hm λ i h j hj=> (hb.cell (p:=⟨b,_,none⟩) hlt).trans (hc i h j hj)
theorem ItemsAt.shape {w:World} {its:List It} {s:Value} (h:ItemsAt w its s):∃a n c,s=qs a n c/\n=its.length/\n<=maxLen:=by
 cases h with
 | mt=> exact ⟨_,_,_,rfl,rfl,by simp⟩
 | lie _ b o n cap hn hlt hm hc=> exact ⟨_,_,_,rfl,hn,hm⟩
theorem ItemsAt.at {w:World} {its:List It} {a:Option Addr} {n c:Nat} (h:ItemsAt w its (qs a n c)) (i:Nat) (hi:i < its.length):∃b o,a=some ⟨b,o,none⟩/\b < w.heap.size/\∀j (_:j < 9),w.cell? ⟨b,o+i * 9+j,none⟩=(its[i].cells[j]?):=by
 cases h with
 | mt=> simp at hi
 | lie _ b o n cap hn hlt hm hc=> exact ⟨b,o,rfl,hlt,hc i hi⟩
def resV (i:It) (G:List Rw):Vl:=if i.k=0 then i.f (G.headD []) else aggV i.k (if i.k=1 then G.map (λ _=> nilV) else G.map i.f)
theorem wpList_val {w:World} {ops:Array Oper} {rest:List Oper} {o:Oper} {a:Act} {Q:Exit->Act->World->Prop} (hgd:o.guard=none) (s x:Operand)
 (ho:o.op=.call { callee:=.builtin .append,args:=#[s,x],argTypes:=#[60,60] })
 (B:Nat) (R:Rw) (y:Vl) (v:Value) (hs:a.eval s=v) (hown:RowO w B R v) (g:Nat) (c:Nat) (hx:a.eval x=qs (some ⟨g,0,none⟩) 1 c)
 (h0:w.cell? ⟨g,0,none⟩=some (qi y.kind)) (h1:w.cell? ⟨g,1,none⟩=some (qi y.int)) (h2:w.cell? ⟨g,2,none⟩=some (qt y.text)) (hy:y.text.size<=maxLen)
 (hlen:R.length+1<=1099511627776) (hB:B<=w.heap.size)
 (h:∀C w',RowO w' B (R++[y]) C->Below B w w'->wpList Tryz.prog ops Q rest (a.put o.dst C) w'):wpList Tryz.prog ops Q (o::rest) a w:=by
 obtain ⟨J,I,G,F,D⟩:=info_parts Tryz.info35';refine wpList_append_own w hgd s x 60 ho B 35 J (.agg q0c) 3 32 Tryz.underlying60 I G F D rfl (by decide) v _ (flat R) hs hown.1 ⟨g,0,none⟩ 1 c (flat [y]) hx (by rw [length_flat];rfl) (λ j u hj=> ?_) (one_flat [y]) (by unfold maxLen;omega) (by omega) hB ?_
 . have e:(⟨g,0,none⟩:Addr).add j=⟨g,j,none⟩:=by unfold Addr.add;split <;> simp_all
   rw [e];have A:=(List.getElem?_eq_some_iff.1 hj).1;rw [length_flat] at A;have L:j=0\/j=1\/j=2:=by simp at A;omega
   rcases L with rfl | rfl | rfl <;> simp [flat,Vl.cells] at hj <;> subst hj <;> assumption
 . intro C w' H K _
   refine h C w' ⟨?_,?_⟩ (zi.grown K hB λ g hg'=> (hown.1.lt g hg').1)
   . have e:flat (R++[y])=flat R++flat [y]:=by simp [flat]
     rw [length_append,e];exact H
   . intro u q
     rcases mem_append.1 q with q | q
     . exact hown.2 u q
     . rw [mem_singleton.1 q];exact hy
theorem made_flat (n:Nat):(madeCells (Value.agg q0c).cells (n * 3)).toList=flat (List.replicate n nilV):=by
 apply List.ext_getElem?;intro j;by_cases hj:j < n * 3
 . have e:=flat_get (List.replicate n nilV) (j / 3) (by simp;omega) (j % 3) (Nat.mod_lt _ (by omega))
   rw [show j / 3 * 3+j % 3=j by omega] at e;rw [e,List.getElem_replicate];have o:j % 3=0\/j % 3=1\/j % 3=2:=by omega
   rcases o with h | h | h <;> simp [madeCells,hj,h,Value.cells,Vl.cells,nilV]
 . rw [List.getElem?_eq_none (by simp [madeCells];omega),List.getElem?_eq_none (by rw [length_flat];simp;omega)]
theorem rowO_made {w:World} {B n:Nat} {v:Value} (h:w.ownsRow B 35 3 v n (madeCells (Value.agg q0c).cells (n * 3)).toList):RowO w B (List.replicate n nilV) v:=by
 rw [made_flat] at h;refine ⟨by rw [List.length_replicate];exact h,λ u hu=> ?_⟩;rw [List.eq_of_mem_replicate hu];exact zero_le _
theorem minV_mem (x:Vl) (r:Rw):minV x r∈x::r:=by
 unfold minV
 induction r generalizing x with
 | nil=> simp
 | cons y r ih=>
  rw [List.foldl_cons];rcases mem_cons.1 (ih (if cmpV y x < 0 then y else x)) with h | h
  . rw [h];split <;> simp
  . simp [h]
theorem maxV_mem (x:Vl) (r:Rw):maxV x r∈x::r:=by
 unfold maxV
 induction r generalizing x with
 | nil=> simp
 | cons y r ih=>
  rw [List.foldl_cons];rcases mem_cons.1 (ih (if 0 < cmpV y x then y else x)) with h | h
  . rw [h];split <;> simp
  . simp [h]
theorem aggV_text (k:Int) (R:Rw) (h:∀v∈R,v.text.size<=maxLen):(aggV k R).text.size<=maxLen:=by
 have h0:∀n,(intV n).text.size<=maxLen:=λ n=> zero_le _;have h1:nilV.text.size<=maxLen:=zero_le _;have hm:∀v∈nnV R,v.text.size<=maxLen:=λ v hv=> h v (List.mem_filter.1 hv).1;unfold aggV;split
 . exact h0 _
 split
 . exact h0 _
 split
 . exact h1
 . rename_i x r e
   rw [e] at hm;split
   . exact hm _ (minV_mem x r)
   split
   . exact hm _ (maxV_mem x r)
   split
   . exact h0 _
   . exact h1
structure Bd where
 kind:Int
 tab:ByteArray
 cr0:Sl
 cr1:Sl
 cr2:Sl
 cr3:Sl
 vals:Sl
 sets:Sl
 items:Sl
 frm:Sl
 whr:Xp
 group:Sl
 order:Sl
 limit:Int
 name:ByteArray
 table:Int
 tables:Sl
 vars:Sl
 rows:Sl
def Bd.arr (b:Bd):Array Value:=#[qi b.kind,qt b.tab,qs b.cr0.a b.cr0.n b.cr0.c,qs b.cr1.a b.cr1.n b.cr1.c,qs b.cr2.a b.cr2.n b.cr2.c,qs b.cr3.a b.cr3.n b.cr3.c,qs b.vals.a b.vals.n b.vals.c,qs b.sets.a b.sets.n b.sets.c,qs b.items.a b.items.n b.items.c,qs b.frm.a b.frm.n b.frm.c,qi b.whr.op,qt b.whr.tab,qt b.whr.nm,qi b.whr.idx,qi b.whr.lit.kind,qi b.whr.lit.int,qt b.whr.lit.text,qs b.whr.args.a b.whr.args.n b.whr.args.c,qs b.group.a b.group.n b.group.c,qs b.order.a b.order.n b.order.c,qi b.limit,qt b.name,qi b.table,qs b.tables.a b.tables.n b.tables.c,qs b.vars.a b.vars.n b.vars.c,qs b.rows.a b.rows.n b.rows.c]
inductive XpsAt (w:World):List Xp->Value->Prop where
 | mt {a:Option Addr} {c:Nat}:XpsAt w [] (qs a 0 c)
 | lie (es:List Xp) (b o n cap:Nat) (hn:n=es.length) (hlt:b < w.heap.size) (hm:n<=maxLen)
  (hc:∀i (h:i < es.length),∀j (_:j < 8),w.cell? ⟨b,o+i * 8+j,none⟩=(es[i].cells[j]?)):XpsAt w es (qs (some ⟨b,o,none⟩) n cap)
theorem XpsAt.mono {w w':World} {es:List Xp} {s:Value} (h:XpsAt w es s) (hb:Below w.heap.size w w'):XpsAt w' es s:=by
 cases h with
 | mt=> exact .mt
 | lie _ b o n cap hn hlt hm hc=> exact .lie _ b o n cap hn (lt_of_lt_of_le hlt hb.size) hm λ i h j hj=> (hb.cell (p:=⟨b,_,none⟩) hlt).trans (hc i h j hj)
theorem XpsAt.shape {w:World} {es:List Xp} {s:Value} (h:XpsAt w es s):∃a n c,s=qs a n c/\n=es.length/\n<=maxLen:=by
 cases h with
 | mt=> exact ⟨_,_,_,rfl,rfl,by simp⟩
 | lie _ b o n cap hn hlt hm hc=> exact ⟨_,_,_,rfl,hn,hm⟩
theorem XpsAt.at {w:World} {es:List Xp} {a:Option Addr} {n c:Nat} (h:XpsAt w es (qs a n c)) (i:Nat) (hi:i < es.length):∃b o,a=some ⟨b,o,none⟩/\b < w.heap.size/\∀j (_:j < 8),w.cell? ⟨b,o+i * 8+j,none⟩=(es[i].cells[j]?):=by
 cases h with
 | mt=> simp at hi
 | lie _ b o n cap hn hlt hm hc=> exact ⟨b,o,rfl,hlt,hc i hi⟩
def keyV (es:List Xp) (R:Rw):Rw:=es.map λ e=> R.getD e.idx.toNat nilV
def KeyFit (es:List Xp) (n:Nat):Prop:=∀e∈es,0<=e.idx/\e.idx < n
def KeyEnd (es:List Xp) (R:Rw) (w:World) (e:Ending) (w':World):Prop:=∃v,e=.returned v/\RowO w' w.heap.size (keyV es R) v/\Below w.heap.size w w'
theorem key_calls (bd:Bd) (es:List Xp) (R:Rw) (s:Value) (w:World) (he:XpsAt w es (qs bd.group.a bd.group.n bd.group.c)) (hs:ValsAt w R s) (hf:KeyFit es R.length) (hl:es.length < 1099511627776):
 Calls Tryz.prog 35 #[.agg bd.arr,s] w (KeyEnd es R w):=by
 obtain ⟨a,n,c,rfl,hn,W⟩:=hs.shape;have F:bd.group.n=es.length:=by obtain ⟨_,_,_,L,F,-⟩:=he.shape;injection L with _ L _;omega
 obtain ⟨kind,tab,⟨a0,n0,c0⟩,⟨a1,n1,c1⟩,⟨a2,n2,c2⟩,⟨a3,n3,c3⟩,⟨a4,n4,c4⟩,⟨a5,n5,c5⟩,⟨a6,n6,c6⟩,⟨a7,n7,c7⟩,⟨wo,wt,wn,wi,⟨wk,wv,wx⟩,⟨wa,wb,wc⟩⟩,⟨ga,T,gc⟩,⟨oa,on,oc⟩,limit,name,table,⟨ta,tn,tc⟩,⟨va,vn,vc⟩,⟨ra,rn,rc⟩⟩:=bd;unfold Bd.arr;dsimp only at he F ⊢;unfold maxLen at W;have HE:=hid he;have V:=hid hs;have HF:=hid hf;have U:=hid F;have Hn:=hid hn;have af:T < 1099511627776:=by omega
 obtain ⟨B,hB⟩:=gx w.heap.size
 have HB:=hid hB;clear he hs hf F hn hl hB;go_enter Tryz.func35,Tryz.ntmps35;go_wp2;go_loopw [5,12] (λ z5 z12 wr=> ∃k:Nat,k<=T/\z12=qi k/\Hid (RowO wr w.heap.size (keyV (es.take k) R) z5/\Below w.heap.size w wr)) (λ _ z _=> T - (intOf z).toNat)
 case atStart=> exact ⟨0,zero_le _,rfl,hid ⟨⟨World.ownsRow_nil _ _ _ _,by simp [keyV]⟩,zi.alloc lr _⟩⟩
 case round=>
  obtain ⟨k,hk,rfl,C⟩:=hrel;obtain ⟨z0,zn,zc,h5,-,-⟩:=C.1.vals.shape;subst h5;by_cases hlt:k < T
  . have D:k < es.length:=by have:=U.out;omega
    obtain ⟨b,o,rfl,ah,G⟩:=(HE.mono C.2).at k D;have H:=HF.out _ (getElem_mem D);have hT:keyV (es.take (k+1)) R=keyV (es.take k) R++[R.getD (es[k]).idx.toNat nilV]:=by unfold keyV;rw [take_succ_eq_append_getElem D,map_append];rfl
    have ad:=hid (show (keyV (es.take k) R).length=k by unfold keyV;rw [length_map,length_take,min_eq_left (by omega)]);generalize es[k]=e at *;clear D;obtain ⟨op,ae,nm,idx,⟨lk,li,lt⟩,⟨aa,an,ac⟩⟩:=e;obtain ⟨q,hq⟩:∃q:Nat,idx=q:=⟨idx.toNat,by have:=H.1;dsimp only at this;omega⟩
    subst hq;have e0:=G 0 (by omega);have e1:=G 1 (by omega);have e2:=G 2 (by omega);have e3:=G 3 (by omega);have e4:=G 4 (by omega);have e5:=G 5 (by omega);have e6:=G 6 (by omega);have e7:=G 7 (by omega);simp only [Xp.cells,getElem?_cons_zero,getElem?_cons_succ,add_zero] at e0 e1 e2 e3 e4 e5 e6 e7;have A:q < R.length:=by have:=H.2;dsimp only at this;omega
    obtain ⟨bx,ox,rfl⟩:=V.has q (by have:=Hn.out;omega);obtain ⟨x0,x1,x2⟩:=(V.mono C.2).cell q A;have ag:=(V.mono C.2).lt A;have J:=V.txt _ (getElem_mem A);have O:keyV (es.take (k+1)) R=keyV (es.take k) R++[R[q]]:=by rw [hT,getD_eq_getElem?_getD];dsimp only;rw [Int.toNat_natCast,getElem?_eq_getElem A];rfl
    have HT:=hid O;have ab:=hid J;have I:=hid C.2.size;have i1:(0:Int)<=q:=by omega
    have i2:(q:Int) < n:=by have:=Hn.out;omega
    clear G H hT O J;generalize R[q]=y at *;clear A;go_wp2_with (at_builtin;go_loud (refine wpList_val rfl _ _ rfl w.heap.size (keyV (es.take k) R) y _ rfl ⟨own_below C.out.1.1 ((zi.alloc lr _).alloc (by simp) _),C.out.1.2⟩ _ _ rfl (by simp) (by simp) (by simp) ab.out (by rw [ad.out];omega) (by have:=I.out;simp;omega) ?_));intro v3 w3 K M;have HN:=hid (show RowO w3 w.heap.size (keyV (es.take (k+1)) R) v3/\Below w.heap.size w w3 from ⟨by rw [HT.out];exact K,((C.2.alloc I _).alloc (by have:=I.out;simp;omega) _).trans M⟩);clear K M;go_wp2_with fail;go_roundw
    case rel=> exact ⟨k+1,by omega,by go_num,HN⟩
    case measure=> simp [intOf];omega
  . obtain rfl:k=T:=by omega
    have HF:=hid (show RowO wr w.heap.size (keyV es R) (qs z0 zn zc)/\Below w.heap.size w wr from by
     have:=C.out
     rwa [take_of_length_le (by have:=U.out;omega)] at this)
    clear C;go_wp2_with fail;go_ret;exact ⟨_,rfl,HF⟩
end
end Go.Proofs.YtcomoomndgbckaaGreat
