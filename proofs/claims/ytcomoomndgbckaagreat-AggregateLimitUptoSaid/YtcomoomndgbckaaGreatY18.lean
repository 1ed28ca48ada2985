/- Part 18 of the proof. -/
import Derived.Test.YtcomoomndgbckaaGreatY14
set_option maxHeartbeats 16000000
set_option maxRecDepth 100000
open Go Go.RowKit
open Go.Lib (hid)
open List (getElem_mem length_append nil_append append_assoc length_take length_map take_succ_eq_append_getElem take_of_length_le append_nil take_append_drop sizeOf_lt_of_mem)
open Nat (zero_le le_succ lt_succ_self le_trans lt_of_lt_of_le zero_add le_of_lt min_eq_left)
namespace Go.Proofs.YtcomoomndgbckaaGreat
noncomputable section
theorem rcolumns_calls (m:Nat):∀E:Ex,SizeOf.sizeOf E<=m->∀(a:Option Addr) (n c:Nat) (w:World),ArgsAt w E.args (qs a n c)->
 Calls Tryz.prog 143 #[.agg #[qi E.op,qt E.table,qt E.name,qi E.index,qi E.v.kind,qi E.v.int,qt E.v.text,qs a n c]] w λ e w'=> e=.returned (.bool (Ex.cols E))/\Below w.heap.size w w':=by
 induction m with
 | zero=> intro E h;cases E;simp at h
 | succ m ih=>
  rintro ⟨op,table,name,index,C,args⟩ hm a n c w T;simp only [Ex.args] at T;simp only [Ex.op,Ex.table,Ex.name,Ex.index,Ex.v];have L:Hid (∀E∈args,SizeOf.sizeOf E<=m):=by intro E hE;have h1:=sizeOf_lt_of_mem hE;simp at hm;omega
  obtain ⟨_,_,_,he,hn,q⟩:=T.shape;cases he;have Hn:=hid hn;have Hs:=hid T;have aa:=hid ih;have Hv:=hid (VarIs.new w #[qi op,qt table,qt name,qi index,qi C.kind,qi C.int,qt C.text,qs a n c] 37);have O:Hid (∀o,Below w.heap.size w (w.alloc o)):=λ o=> zi.alloc lr o;have A:Hid (Ex.cols (.mk op table name index C args)=(Ex.colsL args || op==2)):=by show _=_;simp [Ex.cols,Bool.or_comm]
  clear T hn ih hm;go_enter Tryz.func143,Tryz.ntmps143;go_wp2;go_loopw [3] (λ i wr=> ∃k:Nat,k<=n/\i=qi k/\Hid (Ex.colsL (args.take k)=false)/\Hid (Below (w.heap.size+1) (w.alloc (.cells #[qi op,qt table,qt name,qi index,qi C.kind,qi C.int,qt C.text,qs a n c] 37)) wr)) (λ i _=> n - (intOf i).toNat)
  case atStart=> exact ⟨0,zero_le _,rfl,rfl,zi⟩
  case round=>
   obtain ⟨k,hk,rfl,H,U⟩:=hrel;have M:=hid ((O.out _).trans (U.mono (le_succ _)));obtain ⟨v1,v2,-⟩:=Hv.below U (lt_succ_self _);by_cases hlt:k < n
   . have q:k < args.length:=by have:=Hn.out;omega
     obtain ⟨b,o,rfl⟩:∃b o,a=some ⟨b,o,none⟩:=by
      have:=Hs.out;cases this with
      | mt=> omega
      | lie _ b o=> exact ⟨b,o,rfl⟩
     obtain ⟨s',G,c0,c1,c2,c3,c4,c5,c6,c7⟩:=(Hs.mono M).cell k q;obtain ⟨sa,sn,sc,rfl,-,-⟩:=G.shape;have W:=hid (L.out _ (getElem_mem q));have V:=hid (take_succ_ex args k q);have D:=hid (take_append_drop (k+1) args);generalize args[k]=E' at *;go_wp2_with fail;refine (aa.out E' W _ _ _ _ G).mono ?_;rintro e w1 ⟨rfl,I⟩;have F:=hid (U.trans (I.mono (by have:=U.size;simp at this;omega)));have Hc:Hid (Ex.colsL (args.take (k+1))=Ex.cols E'):=by show _=_;rw [V.out,colsL_append,H.out];simp [Ex.colsL]
     clear I c0 c1 c2 c3 c4 c5 c6 c7 v1 v2;obtain ⟨v1,v2,-⟩:=Hv.below F (lt_succ_self _);cases hcol:Ex.cols E'
     . rw [hcol] at Hc
       clear hcol;go_wp2;go_roundw
       case rel=> exact ⟨k+1,by omega,by go_num,Hc,F⟩
       case measure=> simp [intOf];omega
     . have J:Hid (Ex.colsL args=true):=by
        show _=_;rw [<-D.out,colsL_append,Hc.out,hcol];rfl
       clear hcol;go_wp2;go_ret;exact ⟨by rw [A.out,J.out];rfl,(O.out _).trans (F.mono (le_succ _))⟩
   . obtain rfl:k=n:=by omega
     have K:Hid (Ex.colsL args=false):=by
      have:=H.out
      rwa [take_of_length_le (by have:=Hn.out;omega)] at this
     go_wp2;go_ret;exact ⟨by rw [A.out,K.out];simp,M⟩
def LitPost (v:Vl) (w:World) (e:Ending) (w':World):Prop:=∃t:Int,e=.returned (qi t)/\((t=0/\v.kind=0/\v.int=0/\v.text=⟨#[]⟩)\/(t=1/\v.Of 1/\v.kind=1)\/(t=2/\v.Of 2/\v.kind=2)\/t= -1)/\Below w.heap.size w w'
theorem empty_of {s:ByteArray} (h:s.toList=[]):s=⟨#[]⟩:=(toList_nil_iff_emptyBytes s).1 h
theorem empty_of' {s:ByteArray} (h:s.toList.isEmpty=true):s=⟨#[]⟩:=empty_of (by simpa using h)
theorem literal_calls (v:Vl) (w:World):Calls Tryz.prog 55 #[.agg #[qi v.kind,qi v.int,qt v.text]] w (LitPost v w):=by
 have q:Hid (∀o,Below w.heap.size w (w.alloc o)):=λ o=> zi.alloc lr o;obtain ⟨k,i,t⟩:=v;simp only;go_enter Tryz.func55,Tryz.ntmps55;go_wp2_with fail
 all_goals go_ways
 . rename_i h1 A C
   go_ret;exact ⟨_,rfl,.inl ⟨rfl,h1,A,empty_of' C⟩,q.out _⟩
 . go_ret
   exact ⟨_,rfl,.inr (.inr (.inr rfl)),q.out _⟩
 . go_ret
   exact ⟨_,rfl,.inr (.inr (.inr rfl)),q.out _⟩
 . rename_i h1 A C L K
   go_ret;exact ⟨_,rfl,.inr (.inl ⟨rfl,.inr (.inl ⟨A,rfl,empty_of C⟩),A⟩),q.out _⟩
 . go_ret
   exact ⟨_,rfl,.inr (.inr (.inr rfl)),q.out _⟩
 . go_ret
   exact ⟨_,rfl,.inr (.inr (.inr rfl)),q.out _⟩
 . go_ret
   exact ⟨_,rfl,.inr (.inr (.inr rfl)),q.out _⟩
 . have H:Hid (k=2/\i=0/\(t.size:Int)<=16):=⟨by assumption,by assumption,by assumption⟩
   have D:t.size<=16:=by have:=H.2.2;omega
   go_loopw [2,3] (λ _ i wr=> ∃(k:Nat),k<=t.size/\i=qi k/\Hid (wr=w.alloc (Obj.cells #[qi 2,qi 0,qt t] 35))) (λ _ i _=> t.size - (intOf i).toNat)
   case atStart=> exact ⟨0,zero_le _,rfl,rfl⟩
   case round=>
    obtain ⟨j,J,rfl,I⟩:=hrel;obtain rfl:=I.out;by_cases hlt:j < t.size
    . by_cases hb:(t[j].toNat:Int) < 32
      . go_wp2
        go_ret;exact ⟨_,rfl,.inr (.inr (.inr rfl)),q.out _⟩
      . have G:32<=(t[j].toNat:Int):=by omega
        clear hb;by_cases hc:126 < (t[j].toNat:Int)
        . go_wp2
          go_ret;exact ⟨_,rfl,.inr (.inr (.inr rfl)),q.out _⟩
        . have F:(t[j].toNat:Int)<=126:=by omega
          clear hc;go_wp2;go_roundw
          case rel=> exact ⟨j+1,by omega,by go_num⟩
          case measure=> simp [intOf];omega
    . go_wp2
      go_ret;exact ⟨_,rfl,.inr (.inr (.inl ⟨rfl,.inr (.inr ⟨by first | exact H.1 | rfl,rfl,by first | exact H.2.1 | rfl,D⟩),by first | exact H.1 | rfl⟩)),q.out _⟩
 . go_ret
   exact ⟨_,rfl,.inr (.inr (.inr rfl)),q.out _⟩
 . go_ret
   exact ⟨_,rfl,.inr (.inr (.inr rfl)),q.out _⟩
 . go_ret
   exact ⟨_,rfl,.inr (.inr (.inr rfl)),q.out _⟩
inductive VarsAt (w:World):List Int->Value->Prop where
 | mt {a:Option Addr}:VarsAt w [] (qs a 0 0)
 | lie (L:List Int) (b o n cap:Nat) (hn:n=L.length) (hlt:b < w.heap.size) (hm:n<=4000000000000)
  (hc:∀i (h:i < L.length),w.cell? ⟨b,o+i * 5,none⟩=some (qi L[i])):VarsAt w L (qs (some ⟨b,o,none⟩) n cap)
theorem VarsAt.mono {w w':World} {L:List Int} {s:Value} (h:VarsAt w L s) (hb:Below w.heap.size w w'):VarsAt w' L s:=by
 cases h with
 | mt=> exact .mt
 | lie _ b o n cap hn hlt hm hc=> exact .lie _ b o n cap hn (lt_of_lt_of_le hlt hb.size) hm (λ i h=> (hb.cell hlt).trans (hc i h))
theorem VarsAt.shape {w:World} {L:List Int} {s:Value} (h:VarsAt w L s):∃a n c,s=qs a n c/\n=L.length/\n<=4000000000000:=by
 cases h with
 | mt=> exact ⟨_,_,_,rfl,rfl,by omega⟩
 | lie _ b o n cap hn hlt hm hc=> exact ⟨_,_,_,rfl,hn,hm⟩
theorem VarsAt.cell {w:World} {L:List Int} {b o n c:Nat} (h:VarsAt w L (qs (some ⟨b,o,none⟩) n c)) (i:Nat) (hi:i < L.length):w.cell? ⟨b,o+i * 5,none⟩=some (qi L[i]):=by
 cases h with
 | mt=> simp at hi
 | lie _ b o n cap hn hlt hm hc=> exact hc i hi
theorem VarsAt.has {w:World} {L:List Int} {a:Option Addr} {n c:Nat} (h:VarsAt w L (qs a n c)) (i:Nat) (hi:i < n):∃b o,a=some ⟨b,o,none⟩:=by
 cases h with
 | mt=> omega
 | lie _ b o=> exact ⟨b,o,rfl⟩
theorem VarsAt.lt {w:World} {L:List Int} {b o n c i:Nat} (h:VarsAt w L (qs (some ⟨b,o,none⟩) n c)) (hi:i < L.length):b < w.heap.size:=by
 cases h with
 | mt=> simp at hi
 | lie _ b o n cap hn hlt hm hc=> exact hlt
def RowPost (L:List Int) (R:Rw) (w:World) (e:Ending) (w':World):Prop:=∃b:Bool,e=.returned (.bool b)/\(b=true->RowOf L R)/\Below w.heap.size w w'
theorem row_calls (L:List Int) (R:Rw) (s r:Value) (w:World) (hs:VarsAt w L s) (hr:ValsAt w R r):Calls Tryz.prog 25 #[s,r] w (RowPost L R w):=by
 obtain ⟨a,n,c,rfl,hn,ad⟩:=hs.shape;obtain ⟨a',V,c',rfl,H,G⟩:=hr.shape;unfold maxLen at G;have Hs:=hid hs;have Hr:=hid hr;have Hn:=hid hn;have M:=hid H;have af:Hid (∀o,Below w.heap.size w (w.alloc o)):=λ o=> zi.alloc lr o;clear hs hr hn H;by_cases hne:(n:Int)=V
 . obtain rfl:n=V:=by omega
   clear hne;go_enter Tryz.func25,Tryz.ntmps25;go_wp2;go_loopw [5] (λ i wr=> ∃k:Nat,k<=n/\i=qi k/\Hid (∀j,j < k->∀(h:j < R.length) (K:j < L.length),R[j].Of L[j])/\Hid (Below w.heap.size w wr)) (λ i _=> n - (intOf i).toNat)
   case atStart=> exact ⟨0,zero_le _,rfl,λ j hj=> by omega,zi⟩
   case round=>
    obtain ⟨k,hk,rfl,F,D⟩:=hrel;by_cases hlt:k < n
    . have I:k < L.length:=by have:=Hn.out;omega
      have C:k < R.length:=by have:=M.out;omega
      obtain ⟨b,o,rfl⟩:=Hs.has k hlt;obtain ⟨b',o',rfl⟩:=Hr.has k hlt;have c0:=(Hs.mono D).cell k I;obtain ⟨d0,d1,d2⟩:=(Hr.mono D).cell k C;have q:Hid (R[k].Of L[k]->∀j,j < k+1->∀(h:j < R.length) (K:j < L.length),R[j].Of L[j]):=by
       intro hof j hj h K;by_cases hjk:j=k
       . subst hjk;exact hof
       . exact F.out j (by omega) h K
      have A:=hid D.size;generalize R[k]=v at *;generalize L[k]=t at *;obtain ⟨vk,vi,vt⟩:=v;simp only at d0 d1 d2;have ae:b < wr.heap.size:=(Hs.mono D).lt I;by_cases C:vk=2
      . subst C
        by_cases ht:t=2
        . subst ht
          by_cases hi:vi=0
          . subst hi
            go_wp2_with fail;refine (literal_calls ⟨2,0,vt⟩ _).mono ?_;rintro e w1 ⟨x,rfl,hx,J⟩;have Hx:=hid hx;have O:=hid ((D.alloc A _).trans (J.mono (by have:=A.out;simp;omega)));clear hx J;by_cases hx2:x=2
            . subst hx2
              have F:Hid (Vl.Of 2 ⟨2,0,vt⟩):=by
               rcases Hx.out with h | h | h | h
               . exact absurd h.1 (by decide)
               . exact absurd h.1 (by decide)
               . exact h.2.1
               . exact absurd h (by decide)
              go_wp2;go_roundw
              case rel=> exact ⟨k+1,by omega,by go_num,q.out F,O⟩
              case measure=> simp [intOf];omega
            . have aa:(x==2)=false:=by simpa using hx2
              clear hx2;go_wp2;go_ret;exact ⟨false,rfl,(λ h=> nomatch h),O⟩
          . go_wp2
            go_ret;exact ⟨false,rfl,(λ h=> nomatch h),D.alloc A _⟩
        . go_wp2
          go_ret;exact ⟨false,rfl,(λ h=> nomatch h),D.alloc A _⟩
      . have ac:(vk==2)=false:=by simpa using C
        clear C;go_wp2_with fail
        all_goals go_ways
        all_goals first
         | (go_ret
            exact ⟨_,rfl,λ h=> (nomatch h:False).elim,D.alloc A _⟩)
         | skip
        . rename_i h1 U W
          exact ⟨⟨k+1,by omega,by go_num,q.out (.inl ⟨by simpa using h1,U,empty_of' (by simpa using W)⟩),D.alloc A _⟩,by simp [intOf];omega⟩
        . rename_i h1 U W h4 h5 h6
          exact ⟨⟨k+1,by omega,by go_num,q.out (.inr (.inl ⟨by simpa using U,W,empty_of h4⟩)),D.alloc A _⟩,by simp [intOf];omega⟩
    . have T:Hid (RowOf L R):=by
       have h1:=Hn.out;have U:=M.out;exact ⟨by omega,λ i h K=> F.out i (by omega) h K⟩
      go_wp2;go_ret;exact ⟨_,rfl,λ _=> T,D⟩
 . have ab:((n:Int)==V)=false:=by simpa using hne
   clear hne;go_enter Tryz.func25,Tryz.ntmps25;go_wp2;go_ret;exact ⟨false,rfl,(λ h=> nomatch h),zi⟩
section
open Go.Sort
structure Srs where
 name:ByteArray
 table:Tb
 first:Int
def SxE (w:World) (x:Srs) (cs:List Value):Prop:=∃s1 s2 s3 s4,cs=[qt x.name,qt x.table.name,s1,s2,s3,s4,qi x.first]/\TbAt w x.table s1 s2 s3 s4
theorem SxE.mono:EMono SxE:=λ _ _ _ _ ⟨s1,s2,s3,s4,h1,h2⟩ hb=> ⟨s1,s2,s3,s4,h1,h2.mono hb⟩
theorem SxAt.cell {w:World} {xs:List Srs} {a:Option Addr} {n c:Nat} (h:LsAt 7 SxE w xs (qs a n c)) (i:Nat) (hi:i < xs.length):∃b o a1 c1 a2 n2 c2 a3 n3 c3 a4 A c4,a=some ⟨b,o,none⟩/\b < w.heap.size/\w.cell? ⟨b,o+i * 7,none⟩=some (qt xs[i].name)/\w.cell? ⟨b,o+i * 7+1,none⟩=some (qt xs[i].table.name)/\w.cell? ⟨b,o+i * 7+2,none⟩=some (qs a1 xs[i].table.cols.length c1)/\w.cell? ⟨b,o+i * 7+3,none⟩=some (qs a2 n2 c2)/\w.cell? ⟨b,o+i * 7+4,none⟩=some (qs a3 n3 c3)/\w.cell? ⟨b,o+i * 7+5,none⟩=some (qs a4 A c4)/\w.cell? ⟨b,o+i * 7+6,none⟩=some (qi xs[i].first)/\LsAt 6 ClE w xs[i].table.cols (qs a1 xs[i].table.cols.length c1):=by
 obtain ⟨b,o,cs,h1,F,K,q,J,I,H,G,rfl,D⟩:=h.get i hi;obtain ⟨C,k2,k3,k4⟩:=D;obtain ⟨a1,c1,rfl,-⟩:=C.shape;obtain ⟨a2,c2,rfl,-⟩:=k2.shape;obtain ⟨a3,c3,rfl,-⟩:=k3.shape;obtain ⟨a4,A,c4,rfl,-,-⟩:=k4.shape;exact ⟨b,o,a1,c1,a2,_,c2,a3,_,c3,a4,A,c4,h1,F,by simpa using q 0 (by omega),by simpa using q 1 (by omega),by simpa using q 2 (by omega),by simpa using q 3 (by omega),by simpa using q 4 (by omega),by simpa using q 5 (by omega),by simpa using q 6 (by omega),C⟩
def ColG (l:List Srs) (N T:Int):Prop:=∃x∈l,∃j:Nat,∃h:j < x.table.cols.length,N=x.first+j/\T=x.table.cols[j].type
def ColnP (l:List Srs) (w:World) (e:Ending) (w':World):Prop:=∃N T f:Int,e=.returned (.tuple #[qi N,qi T,qi f])/\(f=0->ColG l N T)/\Below w.heap.size w w'
theorem cColn_calls (op:Int) (tb nm:ByteArray) (ix vk vi:Int) (vt:ByteArray) (s:Value) (l:List Srs) (la:Option Addr) (lc:Nat) (w:World) (hl:LsAt 7 SxE w l (qs la l.length lc)) (hf:∀x∈l,(0<=x.first/\x.first<=1000000000)/\x.table.cols.length<=1000000000):
 Calls Tryz.prog 119 #[.agg #[qi op,qt tb,qt nm,qi ix,qi vk,qi vi,qt vt,s],qs la l.length lc] w (ColnP l w):=by
 have HL:=hid hl;have HF:=hid hf;obtain ⟨n,hn⟩:=gx l.length
 have HN:=hid hn;have aH:n<=2000000000000:=by obtain ⟨_,_,_,h⟩:=hl.shape;omega
 rw [hn] at HL ⊢;have Hv:=hid (VarIs.new w #[qi op,qt tb,qt nm,qi ix,qi vk,qi vi,qt vt,s] 37);have ar:Hid (∀o,Below w.heap.size w (w.alloc o)):=λ o=> zi.alloc lr o;clear hl hn hf;go_enter Tryz.func119,Tryz.ntmps119;go_wp2;go_loopw [7,8,9,10] (λ a b c z wr=> ∃(k:Nat) (N T:Int) (F:Nat),k<=n/\F<=k/\z=qi k/\a=qi N/\b=qi T/\c=qi F/\Hid (F≠0->ColG l N T)/\Hid (Below (w.heap.size+1) (w.alloc (.cells #[qi op,qt tb,qt nm,qi ix,qi vk,qi vi,qt vt,s] 37)) wr)) (λ _ _ _ z _=> n - (intOf z).toNat)
 case atStart=> exact ⟨0,0,0,0,zero_le _,lr,rfl,rfl,rfl,rfl,(λ h=> absurd rfl h),zi⟩
 case round=>
  obtain ⟨k,N,T,F,hk,aJ,rfl,rfl,rfl,rfl,HG,Hb⟩:=hrel;have J:=hid ((ar.out _).trans (Hb.mono (le_succ _)));by_cases hlt:k < n
  . have I:k < l.length:=by rw [HN.out];exact hlt
    have ag:=HL.mono SxE.mono J;obtain ⟨b,o,a1,c1,a2,n2,c2,a3,n3,c3,a4,n4,c4,rfl,A,d0,W,M,d3,d4,d5,L,ai⟩:=SxAt.cell ag k I;have HY:=hid (HF.out _ (getElem_mem I));have HM:=hid (getElem_mem I);generalize l[k]=y at *;obtain ⟨m1,H⟩:=gx y.table.cols.length
    obtain ⟨tn,af⟩:=gx y.table.name
    obtain ⟨yn,ae⟩:=gx y.name
    obtain ⟨yf,O⟩:=gx y.first
    rw [H] at M;rw [af] at W;rw [ae] at d0;rw [O] at L;have ad:=hid ai;have ac:=hid λ w' (h:LsAt 6 ClE w' y.table.cols (qs a1 y.table.cols.length c1))=> bColn_calls tn y.table.cols a1 c1 (qs a2 n2 c2) (qs a3 n3 c3) (qs a4 n4 c4) nm w' h;simp only [H] at ac ad;have ab:=hid H;have aa:=hid O;have ay:(0:Int)<=(k:Int):=by omega
    have kk:(k:Int) < (n:Int):=by omega
    clear ag I ai af ae O H;go_upto_region 5 with (fail)
    go_cut [31] from 19 to 31 (λ z wy=> ∃q:Bool,z=.bool q/\Hid (Below wr.heap.size wr wy))
    case first=>
     clear HL HF HN HY HM ad ac ab aa HG;obtain ⟨v1,v2,-⟩:=Hv.below Hb (lt_succ_self _);have g1:=v2 1;simp only [q2a] at g1;clear v2;clear W M d3 d4 d5 L;by_cases he:tb=⟨#[]⟩
     . subst he
       go_quiet (fail);go_wp2_with fail;go_meet;exact ⟨_,rfl,below_drewN wr nq⟩
     . have ap:¬ tb.toList=[]:=mt (λ h=> empty_of h) he
       have aI:tb.toList.isEmpty=false:=List.isEmpty_eq_false_iff.2 ap;go_quiet (fail);go_wp2_with fail;go_meet;exact ⟨_,rfl,below_drewN wr nq⟩
    obtain ⟨q,rfl,G⟩:=hcut
    rename World=> D
    replace W:=(G.cell (p:=⟨b,o+k * 7+1,none⟩) A).trans W;replace M:=(G.cell (p:=⟨b,o+k * 7+2,none⟩) A).trans M;replace d3:=(G.cell (p:=⟨b,o+k * 7+3,none⟩) A).trans d3;replace d4:=(G.cell (p:=⟨b,o+k * 7+4,none⟩) A).trans d4;replace d5:=(G.cell (p:=⟨b,o+k * 7+5,none⟩) A).trans d5;replace L:=(G.cell (p:=⟨b,o+k * 7+6,none⟩) A).trans L;have K:=hid (Hb.trans (G.mono (by have:=Hb.size;simp at this;omega)));have am:=hid (ad.mono ClE.mono G);have aw:=hid M;have av:=hid L;clear d0;cases q with
    | true=>
     go_wp2;clear W M d3 d4 d5 L;go_roundw
     case rel=> exact ⟨k+1,N,T,F,by omega,by omega,by go_num,rfl,rfl,rfl,HG,K⟩
     case measure=> simp [intOf];omega
    | false=>
     obtain ⟨v1,v2,-⟩:=Hv.below K (lt_succ_self _);have g2:=v2 2;simp only [q2a] at g2;clear v2;clear v1;go_upto_region 6 with (fail)
     refine wp_region_segs [([0,1,2,3,4,5,6],7)] [8,9,10,11,12] [] (by kernel_rfl) (by kernel_rfl) ?_;simp only [q2c,wpSegs];have aF:=cell_regrown (w:=D.drew) W;have aE:=cell_regrown (w:=D.drew) M;have aD:=cell_regrown (w:=D.drew) d3;have aC:=cell_regrown (w:=D.drew) d4;have aB:=cell_regrown (w:=D.drew) d5;have aA:=cell_regrown (w:=D.drew) L;have az:=cell_regrown (w:=D.drew) g2;clear W M d3 d4 d5 L g2;have C:Hid (Below (D).heap.size (D) (D).drew):=zi.drew
     repeat (quiet_step (fail))
     refine wpQuiet_nil ?_;refine ⟨rfl,λ wy hby=> ?_⟩;go_simp;simp only [uponV];have Hy:=hid (C.trans (hby.mono C.size));refine (ac.out _ (am.mono ClE.mono Hy)).mono ?_;rintro e w1 ⟨p,q,rfl,hp,hb⟩;refine ⟨_,rfl,hb,?_⟩;replace C:=hid (Hy.trans (hb.mono Hy.size));clear hb hby Hy;have Hp:=hid hp;clear hp;go_simp
     repeat (quiet_step (fail))
     refine wpQuiet_nil ?_;intro wz aj;replace C:=hid (C.trans (aj.mono C.size));clear aj;simp only [wpList];have ak:=hid (K.trans (C.mono (by have:=K.size;simp at this;omega)));cases q with
     | false=>
      clear C;go_wp2;go_roundw
      case rel=> exact ⟨k+1,N,T,F,by omega,by omega,by go_num,rfl,rfl,rfl,HG,ak⟩
      case measure=> simp [intOf];omega
     | true=>
      obtain ⟨ao,an⟩:=Hp.out rfl;obtain ⟨j,rfl⟩:∃j:Nat,p=j:=⟨p.toNat,by omega⟩
      have hj:j < m1:=by omega
      have V:j < y.table.cols.length:=by rw [ab.out];exact hj
      have al:Hid (∀t,y.table.cols[j].type=t->ColG l (yf+j) t):=λ t ht=> ⟨y,HM,j,V,by rw [aa.out],ht.symm⟩
      have ah:=am.mono ClE.mono C;obtain ⟨b5,o5,rfl,ax,-,e1,-,-,-,-⟩:=ClAt.cell ah j V;obtain ⟨ty,U⟩:=gx (y.table.cols[j].type)
      rw [U] at e1;have au:=hid (al.out ty U);have e2:=(C.cell (p:=⟨b,o+k * 7+2,none⟩) (lt_of_lt_of_le A G.size)).trans aw;have e6:=(C.cell (p:=⟨b,o+k * 7+6,none⟩) (lt_of_lt_of_le A G.size)).trans av;have yr:(0<=yf/\yf<=1000000000)/\m1<=1000000000:=by have h1:=HY.out;rw [aa.out,ab.out] at h1;exact h1
      have aG:(0:Int)<=(j:Int):=by omega
      have jj:(j:Int) < (m1:Int):=by omega
      have hw:IntKind.i64.wrap (yf+j)=yf+j:=IntWalk.i64_in _ (by omega);clear ah V U Hp ao an al C;go_upto_region 8 with (fail)
      go_quiet (fail);have aq:=hid (ak.trans (below_drewN _ nq));clear e1 e2 e6;go_wp2;go_roundw
      case rel=> exact ⟨k+1,yf+j,ty,F+1,by omega,by omega,by go_num,rfl,rfl,by go_num,(λ _=> au),aq⟩
      case measure=> simp [intOf];omega
  . obtain rfl:n=k:=by omega
    by_cases h0:F=0
    . subst h0
      go_wp2;go_ret3;exact ⟨0,0,4,rfl,(λ h=> absurd h (by decide)),J⟩
    . have z0:((F:Int)==0)=false:=by simp [h0]
      by_cases h1:1 < F
      . go_wp2
        go_ret3;exact ⟨0,0,1,rfl,(λ h=> absurd h (by decide)),J⟩
      . go_wp2
        go_ret3;exact ⟨N,T,0,rfl,(λ _=> HG.out h0),J⟩
end
def GroupsEnd (es:List Xp) (L:List Rw) (w:World) (e:Ending) (w':World):Prop:=∃v,e=.returned v/\GsAt w' (groupsL es L) v/\Below w.heap.size w w'
theorem groups_calls (bd:Bd) (es:List Xp) (L:List Rw) (m:Nat) (s:Value) (w:World) (hs:RowsAt w L s) (he:XpsAt w es (qs bd.group.a bd.group.n bd.group.c)) (hm:∀r∈L,r.length=m) (hf:KeyFit es m) (hle:es.length < 1099511627776) (hlen:L.length < 1099511627776) (hmb:m < 1099511627776):
 Calls Tryz.prog 14 #[.agg bd.arr,s] w (GroupsEnd es L w):=by
 obtain ⟨a,n,c,rfl,hn,bG⟩:=hs.shape;obtain ⟨i0,ii,bB,bA,bz⟩:=info_parts Tryz.info60';have aJ:bd.group.n=es.length:=by obtain ⟨_,_,_,ak,aJ,-⟩:=he.shape;injection ak with _ ak _;omega
 have HK:=hid (λ (X Y:Rw) (sx sy:Value) (bb:Nat) (w':World) (hb:Below w.heap.size w w') (C:ValsAt w' X sx) (hy:ValsAt w' Y sy) (ab:w'.heap[bb]? =some (.cells bd.arr 46 (0,0))) (h1:X.length=m) (V:Y.length=m)=> groups1_calls bd es X Y sx sy bb w' C hy (he.mono hb) ab (by rw [h1];exact hf) (by rw [V];exact hf) hle);have bv:=hid (λ (X:Rw) (sx:Value) (w':World) (hb:Below w.heap.size w w') (C:ValsAt w' X sx) (h1:X.length=m)=> key_calls bd es X sx w' (he.mono hb) C (by rw [h1];exact hf) hle);have HA:=hid (show bd.arr.size=26/\bd.arr[18]? =some (qs bd.group.a bd.group.n bd.group.c) from ⟨rfl,rfl⟩);have HS:=hid hs;have Hm:=hid hm;have Hn:=hid hn;have HM:=hid hmb;have bn:=hid aJ;have bF:n < 1099511627776:=by omega
 obtain ⟨B,hB⟩:=gx w.heap.size
 have HB:=hid hB;have ab:=World.ownsRow_nil w 0 0 0;clear ab he;generalize bd.arr=A at *;generalize bd.group.a=ga at *;generalize bd.group.n=gn at *;generalize bd.group.c=gc at *;have ac:Below w.heap.size w (w.alloc (.cells A 46)):=zi.alloc lr _;have aC:(w.alloc (.cells A 46)).heap.size=B+1:=by simp [hB]
 have aF:(w.alloc (.cells A 46)).heap[B]? =some (.cells A 46 (0,0)):=by rw [<-hB];exact heap_alloc_new w _
 rw [hB] at ac;clear hs hm hf hn bG hlen hmb hB aJ hle;go_enter Tryz.func14,Tryz.ntmps14;go_upto_region 1 with (fail)
 simp only [HB.out];generalize w.alloc (.cells A 46)=W0 at *;have HV:=hid aF;have br:=hid ac;have O:=hid aC;clear aF ac aC;go_wp2_with (refine wpList_make_full _ rfl _ _ 41 rfl B 60 i0 (q0) 1 Tryz.underlying41 ii bB bA _ _ _ _ n rfl rfl rfl rfl ?k2 ?k3 ?k4 ?_)
 case k2=> rw [bz];omega
 case k3=> unfold maxLen;omega
 case k4=> rw [O.out];omega
 intro I aW aM;have D:=rowsOwn_made (by rw [Nat.mul_one];exact aW);have F:Below B w I:=br.grown aM (by rw [O.out];omega) (by simp);have M:B < W0.heap.size:=(Array.getElem?_eq_some_iff.1 HV).1;have aU:I.heap[B]? =some (.cells A 46 (0,0)):=(aM.block B M (by simp)).trans HV;rw [O.out] at D;simp only [O.out];have HW:Hid (RowsOwn I B (L.take 0++List.replicate (n - 0) []) (qs (some ⟨B+1,0,none⟩) n n)/\Below B w I/\I.heap[B]? =some (.cells A 46 (0,0))):=hid ⟨by simpa using D,F,aU⟩;obtain ⟨g,hg⟩:=gx (B+1)
 rw [hg] at HW ⊢;have Hg:=hid hg;clear D F aU aW aM HV br O hg M;go_wp2;go_loopw [16] (λ z wr=> ∃k:Nat,k<=n/\z=qi k/\Hid (RowsOwn wr B (L.take k++List.replicate (n - k) []) (qs (some ⟨g,0,none⟩) n n)/\Below B w wr/\wr.heap[B]? =some (.cells A 46 (0,0)))) (λ z _=> n - (intOf z).toNat)
 case atStart=> exact ⟨0,zero_le _,rfl,HW⟩
 case round=>
  clear HW;obtain ⟨k,hk,rfl,HW⟩:=hrel;by_cases hlt:k < n
  . have aH:k < L.length:=by have:=Hn.out;omega
    obtain ⟨b,o,rfl⟩:=HS.has k hlt;obtain ⟨ax,nx,cx,aq,-⟩:=HS.row k aH;have bi:Below w.heap.size w wr:=by rw [HB.out];exact HW.2.1
    obtain ⟨hc,C,al⟩:=aq.out _ bi;have HC:=hid (clone_calls L[k] _ wr C (by rw [Hm.out _ (getElem_mem _)];exact HM));have HN:=hid (show (L.take k++List.replicate (n - k) []).set k L[k]=L.take (k+1)++List.replicate (n - (k+1)) [] by rw [List.set_append_right _ _ (by simp;omega),length_take,min_eq_left (by omega),Nat.sub_self,show n - k=n - (k+1)+1 by omega,List.replicate_succ,List.set_cons_zero,take_succ_eq_append_getElem aH,append_assoc];rfl);have bH:(k:Int) < n:=by omega
    clear C aq bi;generalize L[k]=R at *;clear aH;go_wp2_with fail;(with_reducible refine HC.out.mono ?_);rintro e w2 ⟨v,rfl,hv,ay⟩;have W:=HW.1.mono ay;obtain ⟨x,c1,f1,aj,-⟩:=W.cellAt k hlt;obtain ⟨av,nv,cv,rfl,-,-⟩:=hv.vals.shape;have af:=W.set k hv.vals hv.far;rw [HN.out] at af;have aK:B<=g:=by have:=Hg.out;omega
    have ab:Below B w w2:=HW.2.1.trans (ay.mono (by have:=(Array.getElem?_eq_some_iff.1 HW.2.2).1;omega));have aT:w2.heap[B]? =some (.cells A 46 (0,0)):=(ay.block B (Array.getElem?_eq_some_iff.1 HW.2.2).1).trans HW.2.2;have aA:Hid (RowsOwn (w2.setCell ⟨g,k,none⟩ (qs av nv cv)) B (L.take (k+1)++List.replicate (n - (k+1)) []) (qs (some ⟨g,0,none⟩) n n)/\Below B w (w2.setCell ⟨g,k,none⟩ (qs av nv cv))/\(w2.setCell ⟨g,k,none⟩ (qs av nv cv)).heap[B]? =some (.cells A 46 (0,0))):=
     hid ⟨af,ab.setCell aK _,(Below.heap_setCell w2 ⟨g,k,none⟩ _ B (show B≠g by have:=Hg.out;omega)).trans aT⟩
    clear W hv ay af ab aT hc al HC HW HN;go_wp2;go_roundw
    case rel=> exact ⟨k+1,by omega,by go_num,aA⟩
    case measure=> simp [intOf];omega
  . obtain rfl:k=n:=by omega
    have hL:L.take k++List.replicate (k - k) []=L:=by rw [Nat.sub_self,take_of_length_le (by have:=Hn.out;omega)];simp
    have aA:=HW.out;rw [hL] at aA;obtain ⟨D,bf,au⟩:=aA;have HO:=hid D;have H:=hid bf;have aO:=hid au;have aj:g < wr.heap.size:=by obtain ⟨_,q1,_⟩:=D;exact (q1.lt g rfl).2
    have M:B < wr.heap.size:=(Array.getElem?_eq_some_iff.1 au).1;have bJ:wr.cell? ⟨B,18,none⟩=some (qs ga gn gc):=by rw [cell_of_row wr B 18 _ 46 (0,0) au];exact HA.2
    clear hL HW D bf au;by_cases ak:gn=0
    . subst ak
      have HE:=hid (show groupsL es L=[L] by unfold groupsL;rw [if_pos bn.symm]);go_wp2_with fail;go_ret;refine ⟨_,rfl,?_,(H.mono (by rw [HB.out];exact lr)).alloc (by have:=H.size;rw [HB.out] at this;rw [HB.out];exact this) _⟩;rw [HE.out];have ho:=HO.at
      refine ⟨_,_,_,rfl,rfl,λ i hi=> ⟨_,_,qs (some ⟨g,0,none⟩) k k,rfl,by simp,?_,?_⟩⟩
      . have:i=0:=by simp at hi;omega
        subst this;simp
      . have:i=0:=by simp at hi;omega
        subst this;exact ho.alloc _
    . have bS:((gn:Int)==0)=false:=by simp;omega
      obtain ⟨xs,o1,o2,o3⟩:=HO.out;obtain ⟨d,d1,d2,d3⟩:=rowVs_cels o2;have e1:L.length=k:=by have:=Hn.out;omega
      rw [e1] at o1;have hA:Arr wr B g k k d wr:=⟨by rw [d1];exact o1,World.grownBy.refl _ _⟩
      have ah:B≠g:=by have:=Hg.out;omega
      have aK:B<=g:=by have:=Hg.out;omega
      have K:∀x∈d,Far wr B x.v:=λ x C=> o3 _ (by rw [<-d1];exact List.mem_map_of_mem C);have aE:CmpOk 33 #[.pointer (some ⟨B,0,none⟩)] (keyC es) d wr g:=by refine ⟨Tryz.call33,λ x C y hy w' hg'=> ?_,keyC_ord3 es⟩;have al:Below B wr w':=zi.grown hg' (le_of_lt M) (λ j hj=> by injection hj with hj;omega);have bD:=((d3 x C).grown (K x C) hA.own hg').1;have bC:=((d3 y hy).grown (K y hy) hA.own hg').1;have lx:x.r.length=m:=Hm.out _ (by rw [<-d2];exact List.mem_map_of_mem C);have ly:y.r.length=m:=Hm.out _ (by rw [<-d2];exact List.mem_map_of_mem hy);exact HK.out x.r y.r _ _ B w' (by rw [HB.out];exact H.trans al) bD bC ((hg'.block B M (λ e=> ah (Option.some.inj e))).trans aO) lx ly
      have bs:=hid (sortStable_calls 33 #[.pointer (some ⟨B,0,none⟩)] (keyC es) wr B g k k d wr aE hA (by omega));have aG:Hid (∀Z w',AscC (cc (keyC es)) Z->StEq (cc (keyC es)) d Z->Arr wr B g k k ([]++Z++[]) w'->RowsOwn w' B (stS es L) (qs (some ⟨g,0,none⟩) k k)/\Below B w w'/\w'.heap[B]? =some (.cells A 46 (0,0))):=by
       refine hid λ Z w' h1 V U=> ?_;rw [nil_append,append_nil] at U;have hz:∀x∈Z,x∈d:=λ x C=> V.mem (keyC_ord3 es) C;have al:Below B wr w':=zi.grown U.gr (le_of_lt M) (λ j hj=> by injection hj with hj;omega);refine ⟨⟨Z.map Cel.v,?_,?_,?_⟩,H.trans al,(U.gr.block B M (λ e=> ah (Option.some.inj e))).trans aO⟩
       . rw [<-d2,<-stS_eq es h1 V,length_map,U.len];exact U.own
       . rw [<-d2,<-stS_eq es h1 V]
         exact cels_rowVs λ x C=> ((d3 x (hz x C)).grown (K x (hz x C)) hA.own U.gr).1
       . intro y hy
         obtain ⟨x,C,rfl⟩:=List.mem_map.1 hy;exact ((d3 x (hz x C)).grown (K x (hz x C)) hA.own U.gr).2
      have HE:=hid (show groupsL es L=grpS es (stS es L) by unfold groupsL;rw [if_neg (by rw [<-bn.out];exact ak)]);have bk:=hid (show (stS es L).length=k by rw [<-((stS_spec es L).2.perm (keyC_ord es)).length_eq,e1]);have bj:=hid (show ∀r∈stS es L,r.length=m from λ r hr=> Hm.out r ((stS_spec es L).2.mem (keyC_ord es) hr));clear hA K aE o1 o2 o3 d1 d2 d3 e1 ah aK HO H aO;go_wp2_with fail;(with_reducible refine bs.out.mono ?_);rintro e I ⟨rfl,Z,h1,V,U⟩;have H1:=hid (aG.out Z I h1 V U);clear h1 V U bs aG bJ aj M;generalize stS es L=zs at *;obtain ⟨N,hN⟩:=gx I.heap.size
      have HN:=hid hN;clear hN;go_wp2_with fail;go_loopw [8,39] (λ z8 z39 wr=> ∃i:Nat,i<=k/\z39=qi i/\Hid (GOwn wr N (grpS es (zs.take i)) z8/\Below N I wr/\(grpS es (zs.take i)).length<=i)) (λ _ z _=> k - (intOf z).toNat)
      case atStart=> exact ⟨0,zero_le _,rfl,hid ⟨GOwn.nil _ _,zi,by simp [grpS]⟩⟩
      case round=>
       obtain ⟨i,hi,rfl,HG⟩:=hrel;obtain ⟨a8,c8,h8⟩:=HG.1.shape;subst h8;have F:Below I.heap.size I wr:=by rw [HN.out];exact HG.2.1
       by_cases hik:i < k
       . have aw:i < zs.length:=by have:=bk.out;omega
         have am:=H1.1.at
         obtain ⟨pa,pn,pc,an,bL⟩:=am.row i aw;obtain ⟨hc,C,aj⟩:=an.out wr F;rw [zero_add] at hc;have Hx:=hid C;have bH:(i:Int) < k:=by omega
         have bN:=hid F;have bu:=hid (show N<=wr.heap.size by rw [<-HN.out];exact F.size);have H:=hid (show Below w.heap.size w wr from by have:=H1.2.1;rw [<-HB.out] at this;exact this.trans (F.mono this.size));have bM:=hid (bj.out _ (getElem_mem aw));have bq:=hid (show wr.heap[B]? =some (.cells A 46 (0,0)) from (F.block B (Array.getElem?_eq_some_iff.1 H1.2.2).1).trans H1.2.2);have ao:=hid HG.2.2;clear C F;go_upto_region 14 with (fail)
         go_cut [59] from 44 to 59 (λ z wx=> ∃q:Bool,z=.bool q/\Hid ((q=true->grpS es (zs.take (i+1))=grpS es (zs.take i)++[[zs[i]]])/\(q=false->∃J G,grpS es (zs.take i)=J++[G]/\grpS es (zs.take (i+1))=J++[G++[zs[i]]]))/\Hid (Below wr.heap.size wr wx))
         case first=>
          by_cases hi0:i=0
          . subst hi0
            have HQ:=hid (show grpS es (zs.take (0+1))=grpS es (zs.take 0)++[[zs[0]]] by rw [grpS_zero es zs aw];rfl);clear am an;go_quiet (fail);go_step;go_step;go_meet;exact ⟨true,rfl,hid ⟨λ _=> HQ,λ h=> (by cases h)⟩,hid (below_drewN _ _)⟩
          . obtain ⟨j,rfl⟩:∃j,i=j+1:=⟨i - 1,by omega⟩
            have aI:j < zs.length:=by omega
            obtain ⟨qa,qn,qc,aP,-⟩:=am.row j aI;obtain ⟨aN,aS,-⟩:=aP.out wr bN;rw [zero_add] at aN;have bK:=hid aS;have bm:=hid (bj.out _ (getElem_mem aI));have bt:=hid (grpS_succ es zs j aw);have bO:=hid (grpS_ne es zs j aI);clear aS am;refine rGd A HA.1 B g k k (j+1) j qn qc qa (qs pa pn pc) (keyV es zs[j]) (keyV es zs[j+1]) rfl rfl rfl rfl rfl rfl (by omega) bF bq aj aN (λ w' hb=> (bv.out zs[j] _ w' (H.trans (hb.mono H.size)) (bK.mono hb) bm).mono ?_) (λ w' hb=> (bv.out zs[j+1] _ w' (H.trans (hb.mono H.size)) (Hx.mono hb) bM).mono ?_) _ (by kernel_rfl) ?_
            . rintro e bx ⟨v,h1,V,U⟩
              exact ⟨v,h1,V.vals,U⟩
            . rintro e bx ⟨v,h1,V,U⟩
              exact ⟨v,h1,V.vals,U⟩
            . intro u wx hu be
              have ar:=hid be;have aV:u 59=.bool (keyC es zs[j] zs[j+1] !=0):=hu;have HQ:=hid (show ((keyC es zs[j] zs[j+1] !=0)=true->grpS es (zs.take (j+1+1))=grpS es (zs.take (j+1))++[[zs[j+1]]])/\((keyC es zs[j] zs[j+1] !=0)=false->∃J G,grpS es (zs.take (j+1))=J++[G]/\grpS es (zs.take (j+1+1))=J++[G++[zs[j+1]]]) from ⟨λ h=> by
               rw [bt.out,if_neg (by simpa using h)],λ h=> by
               obtain ⟨J,G,e⟩:=bO.out;refine ⟨J,G,e,?_⟩;rw [bt.out,if_pos (by simpa using h),e];simp⟩)
              generalize (keyC es zs[j] zs[j+1] !=0)=q at *;have Hu:=hid aV;clear hu aV be hc aN;simp only [putK,List.map,List.foldl,Act.put,List.setIfInBounds_toArray,List.set_cons_succ,List.set_cons_zero];rw [Hu.out];go_step;go_step;go_meet;exact ⟨q,rfl,HQ,ar⟩
         obtain ⟨q,rfl,Hq,ar⟩:=hcut;have ae:=hid (show GOwn wc N (grpS es (zs.take i)) (qs a8 (grpS es (zs.take i)).length c8)/\Below N I wc from ⟨HG.1.mono ar,HG.2.1.trans (ar.mono bu)⟩);have T:=hid (le_trans bu ar.size);have aZ:(grpS es (zs.take i)).length < 1099511627776:=by have:=ao.out;omega
         obtain ⟨gl,ai⟩:=gx ((grpS es (zs.take i)).length)
         have ad:=hid ai;rw [ai] at ae aZ ⊢;clear hc aj am HG ai;go_upto_if 59 with (fail)
         go_cut [8] from 59 to 62 (λ z wx=> ∃(J:List (List Rw)) (G:List Rw) (a9:Option Addr) (n9 c9:Nat),z=qs a9 n9 c9/\n9=J.length+1/\n9<=i+1/\Hid (GOwn wx N (J++[G]) z/\Below N I wx/\grpS es (zs.take (i+1))=J++[G++[zs[i]]]/\G.length<=i))
         case first=>
          cases q
          . obtain ⟨J,G,e1,e2⟩:=Hq.2 rfl
            have aD:gl=J.length+1:=by rw [<-ad.out,e1];simp
            have HF:=hid (show GOwn wc N (J++[G]) (qs a8 gl c8)/\Below N I wc/\grpS es (zs.take (i+1))=J++[G++[zs[i]]]/\G.length<=i from ⟨by rw [<-e1];exact ae.1,ae.2,e2,by have:=grpS_le es _ J G e1;rw [length_take] at this;omega⟩);have bo:=hid aD;clear e1 e2 aD;go_wp2_with fail;go_meet;exact ⟨J,G,a8,gl,c8,rfl,bo,by have:=ad.out;have:=ao.out;omega,HF⟩
          . have HQ:=hid (Hq.1 rfl)
            go_wp2_with (at_builtin;go_loud (refine wpList_group rfl _ _ rfl N (grpS es (zs.take i)) _ rfl (ae.out.1.mono (zi.alloc lr _)) _ _ rfl (by simp) (by rw [ad.out];omega) (by have:=T.out;simp;omega) ?_));intro v3 w3 aa bh;obtain ⟨a9,c9,h9⟩:=aa.shape;have aY:(grpS es (zs.take i)++[[]]).length=gl+1:=by rw [length_append,ad.out];rfl
            rw [aY] at h9;subst h9;have HF:=hid (show GOwn w3 N (grpS es (zs.take i)++[[]]) (qs a9 (gl+1) c9)/\Below N I w3/\grpS es (zs.take (i+1))=grpS es (zs.take i)++[[]++[zs[i]]]/\([]:List Rw).length<=i from ⟨aa,(ae.2.alloc T _).trans bh,by rw [HQ.out];rfl,zero_le _⟩);clear aa bh aY;go_wp2_with fail;go_meet;exact ⟨_,[],a9,gl+1,c9,rfl,by rw [ad.out],by have:=ad.out;have:=ao.out;omega,HF⟩
         obtain ⟨J,G,a9,n9,c9,rfl,aX,bR,HF⟩:=hcut;clear ae T Hq q;obtain ⟨g9,bU,x9,e9,bI,ba,cx,fx,az,ag⟩:=HF.1.last;injection e9 with e9a e9b e9c;subst e9a;have aQ:=hid az;have ap:=hid ag;obtain ⟨xa,xn,xc,aR,-,-⟩:=az.at.shape;have bE:xn=G.length:=by obtain ⟨_,_,_,e,h1,_⟩:=az.at.shape;rw [aR] at e;injection e with _ e2 _;omega
         subst aR;subst bE;have bl:=hid (show ∀w',Below wc.heap.size wc w'->ValsAt w' zs[i] (qs pa pn pc)/\Far w' N (qs pa pn pc) from λ w' hb=> by
          have h1:Below I.heap.size I w':=by have V:=HF.2.1;rw [<-HN.out] at V;exact V.trans (hb.mono V.size)
          have U:=(an.out w' h1).2.1;refine ⟨U,?_⟩;have:=bL.out w'
          rwa [HN.out] at this)
         have T:=hid (show N<=wc.heap.size by have:=HF.2.1.size;have:=HN.out;omega);have bp:=hid (show G.length+1<=1099511627776 by have:=HF.2.2.2;omega);obtain ⟨p,hp⟩:=gx J.length
         rw [hp] at e9b aX cx fx;have Hp:=hid hp;subst e9b;have bT:p < 1099511627776:=by omega
         have ac:=(Below.refl wc.heap.size wc).alloc lr (.cells #[qs pa pn pc] 60);have aB:=hid ac;have bw:=hid HF.2.2.1;have bP:=hid HF.2.1;clear hp aX az ag HF e9c ac;go_wp2_with (at_builtin;go_loud (refine wpList_rowB rfl (.tmp 72) (.tmp 74) rfl N G zs[i] _ rfl (aQ.out.mono aB.out) _ _ (qs pa pn pc) rfl (by simp) (bl.out _ aB.out).1 (bl.out _ aB.out).2 bp.out (by have:=T.out;simp;omega) ?_));intro v3 w3 aa aL bc;obtain ⟨a3,n3,c3,rfl,-,-⟩:=aa.at.shape;obtain ⟨r1,⟨y,r2⟩,r3,r4⟩:=ap.out _ w3 (G++[zs[i]]) _ aB T aa aL (λ k hk=> by have:=bc k hk;simpa using this);rw [Hp.out] at r2 r3 r4;have bg:Below N I w3:=by have h1:Below N I (wc.alloc (.cells #[qs pa pn pc] 60)):=bP.alloc T _;refine h1.grown aL (by have:=T.out;simp;omega) λ k hk=> ?_;obtain ⟨_,q1,_⟩:=aQ.out;exact (q1.lt k hk).1
         have HR:=hid (show GOwn (w3.setCell ⟨g9,p,none⟩ (qs a3 n3 c3)) N (grpS es (zs.take (i+1))) (qs (some ⟨g9,0,none⟩) (p+1) c9)/\Below N I (w3.setCell ⟨g9,p,none⟩ (qs a3 n3 c3))/\(grpS es (zs.take (i+1))).length<=i+1 from ⟨by rw [bw.out];exact r4,bg.setCell bI _,by rw [bw.out];have:=Hp.out;simp;omega⟩);clear r4 bg aa aL bc cx fx ba ap aQ;go_wp2_with fail;go_roundw
         case rel=> exact ⟨i+1,by omega,by go_num,HR⟩
         case measure=> simp [intOf];omega
       . obtain rfl:i=k:=by omega
         have bQ:=hid (show GsAt wr (groupsL es L) (qs a8 (grpS es (zs.take i)).length c8)/\Below w.heap.size w wr from by
          have h1:=HG.1.at
          rw [HE.out];refine ⟨?_,?_⟩
          . rwa [show zs.take i=zs from take_of_length_le (by have:=bk.out;omega)] at h1 ⊢
          . have:=H1.2.1
            rw [<-HB.out] at this;exact this.trans (F.mono this.size))
         clear HG;go_wp2_with fail;go_ret;exact ⟨_,rfl,bQ⟩
end
end Go.Proofs.YtcomoomndgbckaaGreat
