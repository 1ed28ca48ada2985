/- Part 3 of the proof. -/
import Derived.Test.YtcomoomndgbckaaGreatY01
set_option maxHeartbeats 16000000
set_option maxRecDepth 100000
open Go Go.RowKit
open Go.Lib (hid)
open List (getElem_mem getElem?_eq_getElem mem_iff_getElem all_eq_true sizeOf_lt_of_mem)
open Nat (zero_le le_of_lt one_mul)
namespace Go.Proofs.YtcomoomndgbckaaGreat
noncomputable section
theorem alloc_gen {Pr:Program} {c:Code} {Q:Exit->Act->World->Prop} {a:Act} {w:World} {C:Array Value} {t:TypeId} (h:∀w',(∀k u,C[k]? =some u->w'.cell? ⟨w.heap.size,k,none⟩=some u)->Below w.heap.size w w'->c.wp Pr Q a w'):c.wp Pr Q a (w.alloc (.cells C t)):=
 h _ (λ k _u hk=> (World.cell?_alloc_new w C t k).trans hk) (zi.alloc lr _)
def strB:Value->Bool
 | .string _=> true
 | _=> false
theorem strs_get {w:World} {b:Nat} {C:Array Value} (hc:∀k u,C[k]? =some u->w.cell? ⟨b,k,none⟩=some u) {n:Nat} (h:(C.toList.all strB && C.size==n)=true) (k:Nat) (hk:k < n):∃x,w.cell? ⟨b,k,none⟩=some (.string x):=by
 simp only [Bool.and_eq_true,beq_iff_eq] at h;have o:k < C.size:=by omega
 have h1:=all_eq_true.1 h.1 C[k] (by simp);have q:=hc k C[k] (Array.getElem?_eq_getElem o);generalize C[k]=u at *;cases u <;> first | (cases h1;done) | exact ⟨_,q⟩
theorem aKeyw_calls (s:ByteArray) (w:World):Calls Tryz.prog 132 #[.string s] w (BoolP True w):=by
 go_enter Tryz.func132,Tryz.ntmps132;go_upto_region 2 with (fail)
 refine alloc_gen λ w1 hc hb=> ?_;have C:=hid (λ k A=> strs_get hc (n:=47) (by kernel_rfl) k A);have o:=hid hb;clear hc hb;generalize w.heap.size=b at C ⊢;go_wp2;go_loopw [4] (λ z wr=> ∃k:Nat,k<=47/\z=.int .i64 k/\Hid (Below w1.heap.size w1 wr)) (λ z _=> 47 - (intOf z).toNat)
 case atStart=> exact ⟨0,zero_le _,rfl,zi⟩
 case round=>
  obtain ⟨k,A,rfl,q⟩:=hrel;by_cases hlt:k < 47
  . obtain ⟨x,c0⟩:=C.out k hlt
    replace c0:=(q.cell (p:=⟨b,k,none⟩) (World.block_lt_of_cell? _ _ c0)).trans c0;go_wp2
    . go_ret
      exact ⟨true,rfl,(λ _=> trivial),o.trans (q.mono o.size)⟩
    . go_roundw
      case rel=> exact ⟨k+1,by omega,by go_num,q⟩
      case measure=> simp [intOf];omega
  . obtain rfl:k=47:=by omega
    go_wp2;go_ret;exact ⟨false,rfl,(λ h=> (by cases h)),o.trans (q.mono o.size)⟩
theorem aName_calls (s:ByteArray) (w:World) (hs:s.size<=2000000000000):Calls Tryz.prog 105 #[qt s] w (BoolP (1<=s.size/\s.size<=24) w):=by
 go_enter Tryz.func105,Tryz.ntmps105;go_wp2;go_loopw [3] (λ z wr=> ∃k:Nat,k<=s.size/\z=qi k/\Hid (Below w.heap.size w wr)) (λ z _=> s.size - (intOf z).toNat)
 case atStart=> exact ⟨0,zero_le _,rfl,zi⟩
 case round=>
  obtain ⟨k,G,rfl,o⟩:=hrel;by_cases hlt:k < s.size
  . go_upto_region 4 with (fail)
    go_cut [4] from 11 to 20 (λ z wx=> ∃q:Bool,z=.bool q/\wr=wx)
    case first=>
     go_wp2 <;> (go_meet;exact ⟨_,rfl,rfl⟩)
    obtain ⟨q0,rfl,rfl⟩:=hcut;go_upto_region 5 with (fail)
    go_cut [44] from 21 to 44 (λ z wx=> ∃q:Bool,z=.bool q/\wr=wx)
    case first=>
     cases q0 with
     | true=> go_wp2 <;> (go_meet;exact ⟨_,rfl,rfl⟩)
     | false=>
      by_cases h0:k=0
      . subst h0
        go_wp2 <;> (go_meet;exact ⟨_,rfl,rfl⟩)
      . have D:¬ (k:Int)=0:=by omega
        go_wp2 <;> (go_meet;exact ⟨_,rfl,rfl⟩)
    obtain ⟨q,rfl,rfl⟩:=hcut;cases q with
    | true=>
     go_wp2;go_ret;exact ⟨false,rfl,(λ h=> (by cases h)),o⟩
    | false=>
     go_wp2;go_roundw
     case rel=> exact ⟨k+1,by omega,by go_num,o⟩
     case measure=> simp [intOf];omega
  . obtain rfl:k=s.size:=by omega
    by_cases h1:0 < s.size
    . by_cases h2:s.size<=24
      . go_wp2_with fail
        refine (aKeyw_calls s _).mono ?_;rintro e F ⟨t,rfl,-,C⟩;have A:=hid (o.trans (C.mono o.size));clear C o;go_wp2;go_ret;exact ⟨!t,rfl,(λ _=> ⟨h1,h2⟩),A⟩
      . go_wp2
        go_ret;exact ⟨false,rfl,(λ h=> (by cases h)),o⟩
    . go_wp2
      go_ret;exact ⟨false,rfl,(λ h=> (by cases h)),o⟩
theorem emp_of {s:ByteArray} (h:s.toList.isEmpty=true):s=⟨#[]⟩:=(toList_nil_iff_emptyBytes s).1 (by simpa using h)
def LitOk (v:Vl):Prop:=(v.kind=0/\v.int=0/\v.text=⟨#[]⟩)\/(v.kind=1/\(0<=v.int/\v.int<=2147483648)/\v.text=⟨#[]⟩)\/(v.kind=2/\v.int=0/\v.text.size<=16)
theorem aLit_calls (v:Vl) (w:World) (hs:v.text.size<=2000000000000):Calls Tryz.prog 134 #[.agg #[qi v.kind,qi v.int,qt v.text]] w (BoolP (LitOk v) w):=by
 obtain ⟨D,F,C⟩:=v;simp only at hs ⊢;have L:=hid (VarIs.new w #[qi D,qi F,qt C] 35);have o:=hid ((Below.refl w.heap.size w).alloc lr (.cells #[qi D,qi F,qt C] 35));by_cases h0:D=0
 . subst h0
   by_cases h1:F=0
   . subst h1
     go_enter Tryz.func134,Tryz.ntmps134;go_wp2;go_ret;exact ⟨C.toList.isEmpty,rfl,(λ h=> .inl ⟨rfl,rfl,emp_of h⟩),o⟩
   . go_enter Tryz.func134,Tryz.ntmps134
     go_wp2;go_ret;exact ⟨false,rfl,(λ h=> (by cases h)),o⟩
 . by_cases h1:D=1
   . subst h1
     clear h0;go_enter Tryz.func134,Tryz.ntmps134;go_wp2_with fail;refine (aNumb_calls F _).mono ?_;rintro e K ⟨q,rfl,G,A⟩;have I:=hid G;have J:=hid (L.below A (by simp));have H:=hid (o.trans (A.mono o.size));clear G A;have c2:=J.a2;cases q with
     | true=>
      go_wp2;go_ret;exact ⟨C.toList.isEmpty,rfl,(λ h=> .inr (.inl ⟨rfl,I.out (by simp),emp_of h⟩)),H⟩
     | false=>
      go_wp2;go_ret;exact ⟨false,rfl,(λ h=> (by cases h)),H⟩
   . by_cases h2:D=2
     . subst h2
       clear h0 h1;by_cases h3:F=0
       . subst h3
         go_enter Tryz.func134,Tryz.ntmps134;go_wp2_with fail;refine (aText_calls C _ hs).mono ?_;rintro e K ⟨q,rfl,G,A⟩;have I:=hid G;have H:=hid (o.trans (A.mono o.size));clear G A;go_wp2;go_ret;exact ⟨q,rfl,(λ h=> .inr (.inr ⟨rfl,rfl,I.out h⟩)),H⟩
       . go_enter Tryz.func134,Tryz.ntmps134
         go_wp2;go_ret;exact ⟨false,rfl,(λ h=> (by cases h)),o⟩
     . go_enter Tryz.func134,Tryz.ntmps134
       go_wp2;go_ret;exact ⟨false,rfl,(λ h=> (by cases h)),o⟩
theorem aAbs_calls (E:Ex) (s:Value) (a:Option Addr) (n c:Nat) (w:World) (h:s=qs a n c):Calls Tryz.prog 106 #[E.val s] w (BoolP (E.op=0) w):=by
 subst h;obtain ⟨op,F,nm,G,⟨C,D,A⟩,args⟩:=E;simp only [Ex.val,Ex.op,Ex.table,Ex.name,Ex.index,Ex.v];have q:=hid (λ o=> (Below.refl w.heap.size w).alloc lr o);by_cases h0:op=0
 . subst h0
   go_enter Tryz.func106,Tryz.ntmps106;go_wp2
   all_goals (go_ret;exact ⟨_,rfl,(λ _=> trivial),q.out _⟩)
 . go_enter Tryz.func106,Tryz.ntmps106
   go_wp2;go_ret;exact ⟨false,rfl,(λ h=> (by cases h)),q.out _⟩
inductive Fm:Ex->Prop
 | mk (op:Int) (tb nm:ByteArray) (ix:Int) (v:Vl) (args:List Ex) (ha:(args.length:Int)=arity op) (hs:∀e∈args,Fm e) (hl:op=1->LitOk v) (hk:op=16->∃y,args[1]? =some y/\y.op=1/\y.v.kind=2):Fm (.mk op tb nm ix v args)
theorem aForm_calls (m:Nat):∀E:Ex,SizeOf.sizeOf E<=m->ExS E->∀(a:Option Addr) (n c:Nat) (w:World),ArgsAt w E.args (qs a n c)->
 Calls Tryz.prog 107 #[.agg #[qi E.op,qt E.table,qt E.name,qi E.index,qi E.v.kind,qi E.v.int,qt E.v.text,qs a n c]] w (BoolP (Fm E) w):=by
 induction m with
 | zero=> intro E h;cases E;simp at h
 | succ m ih=>
  rintro ⟨op,table,name,index,M,args⟩ hm hz a n c w hs;simp only [Ex.args] at hs;simp only [Ex.op,Ex.table,Ex.name,Ex.index,Ex.v];have am:Hid (∀E∈args,SizeOf.sizeOf E<=m):=by intro E hE;have h1:=sizeOf_lt_of_mem hE;simp at hm;omega
  have HZ:Hid (table.size<=2000000/\name.size<=2000000/\M.text.size<=2000000/\∀e∈args,ExS e):=by
   cases hz with
   | mk _ _ _ _ _ _ h1 h2 h3 h4=> exact ⟨h1,h2,h3,h4⟩
  obtain ⟨_,_,_,he,hn,I⟩:=hs.shape;cases he;have Hn:=hid hn;have Hs:=hid hs;have ar:=hid ih;have J:=hid (VarIs.new w #[qi op,qt table,qt name,qi index,qi M.kind,qi M.int,qt M.text,qs a n c] 37);have aw:Hid (∀o,Below w.heap.size w (w.alloc o)):=λ o=> zi.alloc lr o;clear hs hn ih hm hz;go_enter Tryz.func107,Tryz.ntmps107;go_upto_region 1 with (fail)
  obtain ⟨L,ae⟩:=gx (w.alloc (.cells #[qi op,qt table,qt name,qi index,qi M.kind,qi M.int,qt M.text,qs a n c] 37))
  have ad:=hid (ae ▸ aw.out _);rw [ae] at J ⊢;have A:w.heap.size < L.heap.size:=J.lt;clear ae;obtain ⟨b1,G⟩:=gx w.heap.size
  have ao:=hid G;rw [G] at J A ⊢;clear G;go_cut [10] from 3 to 10 (λ z wx=> z=.bool (arity op !=(n:Int))/\Hid (Below L.heap.size L wx))
  case first=>
   obtain ⟨v1,v2,-⟩:=J.out;have c0:=v2 0;have c7:=v2 7;simp only [q2a] at c0 c7;clear v2;go_region_held3 (λ w'=> Below L.heap.size L w'/\∀b o,b < L.heap.size->w'.cell? ⟨b,o,none⟩=L.cell? ⟨b,o,none⟩)
    (first | assumption | exact S_of (Below.drew zi) | exact S_step (by assumption) (by assumption))
    (first | ((with_reducible refine (aArgs_calls _ _).mono ?_);rintro e w' ⟨rfl,rfl⟩))
   all_goals (go_wp2_with fail;go_meet;exact ⟨rfl,Below.drew zi⟩)
  obtain ⟨rfl,af⟩:=hcut;have ac:=hid (ad.trans (af.mono (le_of_lt (by have:=ao.out;omega))));by_cases hne:arity op=(n:Int)
  . have an := hid hne
    have H:(arity op !=(n:Int))=false:=by simp [hne]
    rw [H];clear H hne;go_wp2;go_loopw [3] (λ z wr=> ∃k:Nat,k<=n/\z=qi k/\Hid (∀j (h:j < args.length),j < k->Fm args[j])/\Hid (Below L.heap.size L wr)) (λ z _=> n - (intOf z).toNat)
    case atStart=> exact ⟨0,zero_le _,rfl,(λ j _ h=> by omega),af⟩
    case round=>
     clear af ac;obtain ⟨k,hk,rfl,Hj,K⟩:=hrel;have C:=hid (ad.trans (K.mono (le_of_lt (by have:=ao.out;omega))));have ak:=(J.below K A).a0;have aa:=(J.below K A).a1;have aj:=(J.below K A).a2;have V:=(J.below K A).a4;have U:=(J.below K A).a5;have T:=(J.below K A).a6;have ai:=(J.below K A).a7;by_cases hlt:k < n
     . have I:k < args.length:=by have:=Hn.out;omega
       obtain ⟨b,o,rfl⟩:∃b o,a=some ⟨b,o,none⟩:=by
        have:=Hs.out;cases this with
        | mt=> omega
        | lie _ b o=> exact ⟨b,o,rfl⟩
       obtain ⟨s',W,c0,c1,c2,c3,c4,c5,c6,c7⟩:=(Hs.mono C).cell k I;obtain ⟨sa,sn,sc,rfl,-,-⟩:=W.shape;have al:=hid (And.intro (am.out _ (getElem_mem I)) (HZ.2.2.2 _ (getElem_mem I)));have HX:Hid (∀x,args[k]=x->Fm x->∀j (h:j < args.length),j < k+1->Fm args[j]):=λ x e h j hj hjk=> by
        by_cases e2:j=k
        . subst e2;rw [e];exact h
        . exact Hj.out j hj (by omega)
       replace HX:=hid (HX.out _ rfl);generalize args[k]=E' at *;go_wp2_with fail;refine (ar.out E' al.1 al.2 _ _ _ _ W).mono ?_;rintro e w3 ⟨t,rfl,ht,G⟩;have Ht:=hid ht;have av:=hid (K.trans (G.mono K.size));have D:=hid (C.trans (G.mono C.size));clear G ht c0 c1 c2 c3 c4 c5 c6 c7 ak aa aj V U T ai;cases t with
       | true=>
        go_wp2;go_roundw
        case rel=> exact ⟨k+1,by omega,by go_num,HX.out (Ht.out (by simp)),av⟩
        case measure=> simp [intOf];omega
       | false=>
        go_wp2;go_ret;exact ⟨false,rfl,(λ h=> (by cases h)),D⟩
     . obtain rfl:k=n:=by omega
       have HF:Hid (∀e∈args,Fm e):=λ e he=> by obtain ⟨j,hj,rfl⟩:=mem_iff_getElem.1 he;exact Hj.out j hj (by have:=Hn.out;omega)
       clear Hj;have F:Hid ((op=1->LitOk M)->(op=16->∃y,args[1]? =some y/\y.op=1/\y.v.kind=2)->Fm (.mk op table name index M args)):=λ h1 h2=> .mk _ _ _ _ _ _ (by have:=an.out;have:=Hn.out;omega) HF h1 h2;clear HF;by_cases h2:op=2
       . subst h2
         replace F:=hid (F.out (λ h=> absurd h (by decide)) (λ h=> absurd h (by decide)));go_wp2_with fail;refine (aName_calls name _ (by have:=HZ.2.1;omega)).mono ?_;rintro e w3 ⟨q,rfl,-,H⟩;have ag:=hid (K.trans (H.mono K.size));have D:=hid (C.trans (H.mono C.size));clear H ak aa aj V U T ai;have v4:=J.below ag A;have aa:=v4.a1;have V:=v4.a4;have U:=v4.a5;have T:=v4.a6;clear v4;cases q with
         | false=>
          go_wp2;go_ret;exact ⟨false,rfl,(λ h=> (by cases h)),D⟩
         | true=>
          by_cases ht:table.toList.isEmpty=true
          . go_wp2
            all_goals (go_ret;exact ⟨_,rfl,(λ _=> F),D⟩)
          . have az:table.toList.isEmpty=false:=by simpa using ht
            clear ht;go_wp2_with fail;refine (aName_calls table _ (by have:=HZ.1;omega)).mono ?_;rintro e w4 ⟨q,rfl,-,H⟩;have au:=hid (ag.trans (H.mono ag.size));have ab:=hid (D.trans (H.mono D.size));clear H aa V U T;have v6:=J.below au A;have V:=v6.a4;have U:=v6.a5;have T:=v6.a6;clear v6;cases q with
            | false=>
             go_wp2;go_ret;exact ⟨false,rfl,(λ h=> (by cases h)),ab⟩
            | true=>
             go_wp2
             all_goals (go_ret;exact ⟨_,rfl,(λ _=> F),ab⟩)
       . have ah:(op==2)=false:=by simp [h2]
         go_upto_region 10 with (fail)
         go_cut [54] from 47 to 54 (λ z wx=> ∃q:Bool,z=.bool q/\wr=wx)
         case first=>
          go_wp2 <;> (go_meet;exact ⟨_,rfl,rfl⟩)
         obtain ⟨q,rfl,rfl⟩:=hcut;cases q with
         | true=>
          go_wp2;go_ret;exact ⟨false,rfl,(λ h=> (by cases h)),C⟩
         | false=>
          by_cases h3:op=1
          . subst h3
            clear h2 ah;go_wp2_with fail;refine (aLit_calls M _ (by have:=HZ.2.2.1;omega)).mono ?_;rintro e w3 ⟨q,rfl,hq,H⟩;have Hq:=hid hq;have D:=hid (C.trans (H.mono C.size));clear hq H;go_wp2;go_ret;exact ⟨q,rfl,(λ h=> F.out (λ _=> Hq.out h) (λ h=> absurd h (by decide))),D⟩
          . have aq:(op==1)=false:=by simp [h3]
            by_cases h4:op=16
            . subst h4
              have ap:k=2:=by have:=an.out;unfold arity at this;simp at this;omega
              subst ap;have O:1 < args.length:=by have:=Hn.out;omega
              obtain ⟨b,o,rfl⟩:∃b o,a=some ⟨b,o,none⟩:=by
               have:=Hs.out;cases this with
               | lie _ b o=> exact ⟨b,o,rfl⟩
              obtain ⟨s',W,d0,d1,d2,d3,d4,d5,d6,d7⟩:=(Hs.mono C).cell 1 O;have HY:Hid (∀y,args[1]=y->y.op=1->y.v.kind=2->Fm (.mk 16 table name index M args)):=λ y e e1 e2=> F.out (λ h=> absurd h (by decide)) (λ _=> ⟨args[1],getElem?_eq_getElem O,by rw [e];exact e1,by rw [e];exact e2⟩);replace HY:=hid (HY.out _ rfl);generalize args[1]=y at *;obtain ⟨yo,yt,yn,yi,⟨yk,ay,ax⟩,ya⟩:=y;simp only [Ex.op,Ex.v,one_mul] at d0 d4 HY;clear d1 d2 d3 d5 d6 d7 W h2 ah h3 aq;by_cases h5:yo=1
              . subst h5
                by_cases h6:yk=2
                . subst h6
                  go_wp2
                  all_goals (go_ret;exact ⟨_,rfl,(λ _=> HY.out (by simp) (by simp)),C⟩)
                . go_wp2
                  go_ret;exact ⟨false,rfl,(λ h=> (by cases h)),C⟩
              . go_wp2
                go_ret;exact ⟨false,rfl,(λ h=> (by cases h)),C⟩
            . have aA:(op==16)=false:=by simp [h4]
              replace F:=hid (F.out (λ h=> absurd h h3) (λ h=> absurd h h4));clear h2 h3 h4;go_wp2
              all_goals (go_ret;exact ⟨_,rfl,(λ _=> F),C⟩)
  . have H:(arity op !=(n:Int))=true:=by simp [hne]
    rw [H];go_wp2;go_ret;exact ⟨false,rfl,(λ h=> (by cases h)),ac⟩
end
end Go.Proofs.YtcomoomndgbckaaGreat
