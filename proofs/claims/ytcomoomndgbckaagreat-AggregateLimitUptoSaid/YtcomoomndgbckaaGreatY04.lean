/- Part 4 of the proof. -/
import Derived.Test.YtcomoomndgbckaaGreatY02
set_option maxHeartbeats 16000000
set_option maxRecDepth 100000
open Go Go.RowKit
open Go.Lib (hid)
open List (getElem_mem length_append nil_append append_assoc length_take mem_cons mem_singleton cons_append mem_append take_succ_eq_append_getElem getElem?_eq_getElem drop_eq_getElem_cons take_of_length_le length_nil length_cons append_nil take_append_drop length_eq_zero_iff pairwise_cons drop_of_length_le getElem?_append_right mem_cons_of_mem)
open Nat (zero_le le_trans add_zero zero_add min_eq_left)
namespace Go.Proofs.YtcomoomndgbckaaGreat
noncomputable section
structure SrB (c:Rw->Rw->Int) (y:Cel) (X:List Cel) (i j:Nat):Prop where
 lo:∀x∈X.take i,¬ cc c y x < 0
 hi:∀x∈X.drop j,cc c y x < 0
theorem SrB.up {c:Rw->Rw->Int} (hc:Ord3 (cc c)) {y:Cel} {X:List Cel} {i j h:Nat} (s:SrB c y X i j) (ha:AscC (cc c) X) (hh:h < X.length) (hl:¬ cc c y X[h] < 0):SrB c y X (h+1) j:=by
 refine ⟨λ x o h2=> hl ?_,s.hi⟩;rw [take_succ_eq_append_getElem hh] at o;rcases mem_append.1 o with o | o
 . have:AscC (cc c) (X.take h++X[h]::X.drop (h+1)):=by rwa [<-drop_eq_getElem_cons hh,take_append_drop]
   exact hc.lt_le h2 (this.cross x o X[h] (List.mem_cons_self ..))
 . rw [mem_singleton.1 o] at h2;exact h2
theorem SrB.dn {c:Rw->Rw->Int} (hc:Ord3 (cc c)) {y:Cel} {X:List Cel} {i j h:Nat} (s:SrB c y X i j) (ha:AscC (cc c) X) (hh:h < X.length) (hl:cc c y X[h] < 0):SrB c y X i h:=by
 refine ⟨s.lo,λ x o=> ?_⟩;rw [drop_eq_getElem_cons hh] at o;rcases mem_cons.1 o with rfl | o
 . exact hl
 . have:AscC (cc c) (X.take h++(X[h]::X.drop (h+1))):=by rwa [<-drop_eq_getElem_cons hh,take_append_drop]
   exact hc.lt_le hl ((pairwise_cons.1 this.right).1 x o)
theorem SrB.done {c:Rw->Rw->Int} (hc:Ord3 (cc c)) {y:Cel} {X:List Cel} {i:Nat} (s:SrB c y X i i) (o:AscC (cc c) X):AscC (cc c) (X.take i++[y]++X.drop i)/\StEq (cc c) (X++[y]) (X.take i++[y]++X.drop i):=by
 have h:AscC (cc c) (X.take i++X.drop i):=by rwa [take_append_drop]
 refine ⟨(h.left.app (List.pairwise_singleton _ _) λ a o b hb=> ?_).app h.right λ a o b hb=> ?_,?_⟩
 . rw [mem_singleton.1 hb];exact hc.le (s.lo a o)
 . rcases mem_append.1 o with o | o
   . exact h.cross a o b hb
   . rw [mem_singleton.1 o];have:=s.hi b hb;omega
 . have h1:StEq (cc c) (X.drop i++[y]) ([y]++X.drop i):=StEq.swap hc λ a o b hb=> by rw [mem_singleton.1 hb];exact s.hi a o
   have:=(StEq.refl (c:=cc c) (X.take i)).app h1
   rwa [<-append_assoc,take_append_drop,<-append_assoc] at this
theorem symB_calls (K:FuncId) (cap:Array Value) (c:Rw->Rw->Int) (d0:List Cel) (w0:World) (B g n cp:Nat) (P X S:List Cel) (y:Cel) (w:World) (a m b:Nat) (hp:P.length=a) (hm:a+X.length=m) (hb:m+1=b) (hX2:2<=X.length)
 (hC:CmpOk K cap c d0 w0 g) (hmem:∀x∈y::X,x∈d0) (hX:AscC (cc c) X) (C:Arr w0 B g n cp (P++X++[y]++S) w) (hmx:n<=1099511627776):
 Calls Tryz.prog 96 #[qs (some ⟨g,0,none⟩) n cp,qi a,qi m,qi b,.func (.func K) #[] cap] w λ e w'=> e=.returned (.tuple #[])/\∃Z,AscC (cc c) Z/\StEq (cc c) (X++[y]) Z/\Arr w0 B g n cp (P++Z++S) w':=by
 have O:=C.len;simp only [length_append,length_cons,length_nil] at O;have b1:b<=n:=by omega
 have b2:m<=b:=by omega
 have b3:a < m:=by omega
 have b4:m < n:=by omega
 have ht:((m:Int) - a==1)=false:=by simp;omega
 have al:((b:Int) - m==1)=true:=by simp;omega
 have HL:=hid (show P.length=a/\a+X.length=m/\m+1=b from ⟨hp,hm,hb⟩);have HA:=hid C;have HC:=hid hC;have HX:=hid hX;have F:=hid hmem;have eg:=hC.enter;clear C O hp hm hb hC hmem hX hX2;go_enter Tryz.func96,Tryz.ntmps96;go_wp2;go_loopw [14,15] (λ z10 z11 wr=> ∃i j:Nat,a<=i/\i<=j/\j<=m/\z10=qi i/\z11=qi j/\Hid (SrB c y X (i - a) (j - a))/\Hid (Arr w0 B g n cp (P++X++[y]++S) wr)) (λ z10 z11 _=> (intOf z11).toNat - (intOf z10).toNat)
 case atStart=> exact ⟨a,m,lr,by omega,lr,rfl,rfl,⟨by simp,by rw [drop_of_length_le (by have:=HL.out;omega)];simp⟩,HA⟩
 case round=>
  obtain ⟨i,j,ag,ai,ah,rfl,rfl,Hs,H⟩:=hrel;by_cases hlt:i < j
  . obtain ⟨h,hh⟩:∃h:Nat,h=(i+j) / 2:=⟨_,rfl⟩
    have aj:i<=h:=by omega
    have ap:h < j:=by omega
    have hk:h - a < X.length:=by have:=HL.out;omega
    have T:(P++X++[y]++S)[h]? =some X[h - a]:=by have:=mid_get (P:=P) (u:=X) (S:=[y]++S) hk;rw [HL.1,show a+(h - a)=h by omega] at this;rw [append_assoc (P++X)];exact this
    have ad:(P++X++[y]++S)[m]? =some y:=by have:=mid_get (P:=P++X) (u:=[y]) (S:=S) (i:=0) (by simp);rw [add_zero,length_append,HL.1,HL.2.1] at this;exact this
    have cx:=H.cell T;have cy:=H.cell ad;have hg:=H.lt;have aa:=λ hl=> Hs.up HC.ord HX hk (j:=j - a) hl;have ae:=λ hl=> Hs.dn HC.ord HX hk (i:=i - a) hl;have HU:=hid (show (¬ cc c y X[h - a] < 0->SrB c y X (h+1 - a) (j - a))/\(cc c y X[h - a] < 0->SrB c y X (i - a) (h - a)) from ⟨λ hl=> by have:=aa hl;rwa [show h - a+1=h+1 - a by omega] at this,ae⟩);have HK:=hid (λ w' (hb:Below wr.heap.size wr w')=> HC.call y (F.out _ (List.mem_cons_self ..)) X[h - a] (F.out _ (mem_cons_of_mem _ (getElem_mem _))) w' (grownBy_bel H.gr hb));clear aa ae T ad;unfold cc at HU;generalize X[h - a]=x at *;generalize c y.r x.r=r at *;clear hk;have Hh:=hid hh;have i1:(0:Int)<=h:=by omega
    have i2:(h:Int) < n:=by omega
    have i3:(0:Int)<=m:=by omega
    have i4:(m:Int) < n:=by omega
    clear hh;go_upto_region 16 with (fail)
    go_cut [16] (λ z wx=> z=qi h/\wx=wr)
    case first=>
     go_wp2_with fail;go_meet;exact ⟨by have:=Hh.out;congr 1;omega,rfl⟩
    obtain ⟨rfl,rfl⟩:=hcut;go_upto_region 17 with (fail)
    go_cut [103] (λ z wx=> ∃q:Bool,z=.bool q/\Hid (q=!decide (r < 0))/\Hid (Below wc.heap.size wc wx))
    case first=>
     go_region_held3 (λ w'=> Below wc.heap.size wc w'/\∀b o,b < wc.heap.size->w'.cell? ⟨b,o,none⟩=wc.cell? ⟨b,o,none⟩)
      (first | assumption | exact S_of (Below.drew zi) | exact S_step (by assumption) (by assumption))
      (first | ((with_reducible refine (HK.out _ (by first | assumption | exact And.left (by assumption))).mono ?_);rintro e w1 ⟨rfl,aq⟩))
     all_goals
      rename_i hH
      have Hb:=hid hH.1;clear hH;go_step;go_step;go_meet;exact ⟨_,rfl,rfl,Hb⟩
    obtain ⟨q,rfl,Hq,Hb⟩:=hcut;have I:=hid (H.below Hb);clear cy cx hg HK H Hb;cases q
    . have hr:r < 0:=by simpa using Hq.out
      have W:=hid (HU.2 hr);clear HU Hq hr Hs;go_wp2;go_roundw
      case rel=> exact ⟨i,h,ag,aj,by omega,rfl,rfl,W,I⟩
      case measure=> simp [intOf];omega
    . have hr:¬ r < 0:=by simpa using Hq.out
      have W:=hid (HU.1 hr);clear HU Hq hr Hs;go_wp2;go_roundw
      case rel=> exact ⟨h+1,j,by omega,by omega,ah,by go_num,rfl,W,I⟩
      case measure=> simp [intOf];omega
  . obtain rfl:i=j:=by omega
    obtain ⟨ac,ab⟩:=Hs.done HC.ord HX;have HZ:=hid ac;have HE:=hid ab;have G:=hid (show (P++X.take (i - a)).length=i/\(X.drop (i - a)).length=m - i by rw [length_append,length_take,min_eq_left (by have:=HL.out;omega),List.length_drop];have:=HL.out;omega);have I:Hid (Arr w0 B g n cp ((P++X.take (i - a))++X.drop (i - a)++[y]++S) wr):=by have:=H.out;rw [<-take_append_drop (i - a) X] at this;exact hid (by simpa only [append_assoc] using this)
    generalize X.take (i - a)=X1 at *;generalize X.drop (i - a)=X2 at *;clear ac ab Hs H HA HC F HX hlt ai;go_wp2;go_loopw [17] (λ z wr=> ∃k t:Nat,k=i+t/\k<=m/\z=qi k/\Hid (Arr w0 B g n cp ((P++X1)++X2.take t++[y]++X2.drop t++S) wr)) (λ z _=> (intOf z).toNat - i)
    case atStart=> exact ⟨m,m - i,by omega,lr,rfl,hid (by rw [take_of_length_le (by rw [G.2];exact lr),drop_of_length_le (by rw [G.2];exact lr)];simpa using I.out)⟩
    case round=>
     clear I;obtain ⟨k,t,V,an,rfl,H⟩:=hrel;by_cases hlt:0 < t
     . obtain ⟨A,rfl⟩:∃A,t=A+1:=⟨t - 1,by omega⟩
       have U:A < X2.length:=by rw [G.2];omega
       obtain ⟨x,hy⟩:=gx (X2[A])
       have e0:X2.drop A=x::X2.drop (A+1):=by rw [drop_eq_getElem_cons U,hy]
       have e1:X2.take (A+1)=X2.take A++[x]:=by rw [take_succ_eq_append_getElem U,hy]
       have af:(P++X1)++X2.take (A+1)++[y]++X2.drop (A+1)++S=(P++X1++X2.take A)++x::[]++y::(X2.drop (A+1)++S):=by rw [e1];simp only [append_assoc,cons_append,nil_append]
       have C:=H.out;rw [af] at C;obtain ⟨J,rfl⟩:∃J,k=J+1:=⟨k - 1,by omega⟩
       have lP:(P++X1++X2.take A).length=J:=by rw [length_append,length_take,G.1,G.2,min_eq_left (by omega)];omega
       have hs:=swp_at (P:=P++X1++X2.take A) (Q:=[]) (S:=X2.drop (A+1)++S) (x:=x) (y:=y);rw [lP,length_nil,add_zero] at hs;have hx:((P++X1++X2.take A)++x::[]++y::(X2.drop (A+1)++S))[J]? =some x:=by rw [append_assoc,getElem?_append_right (by rw [lP];exact lr),lP];simp
       have L:((P++X1++X2.take A)++x::[]++y::(X2.drop (A+1)++S))[J+1]? =some y:=by rw [append_assoc,getElem?_append_right (by rw [lP];omega),lP];simp
       have M:=C.drew.swap hx L;have D:=C.drew.swap L hx;rw [swp_comm] at D;rw [hs] at M D;have e2:(P++X1)++X2.take A++[y]++X2.drop A++S=(P++X1++X2.take A)++y::[]++x::(X2.drop (A+1)++S):=by rw [e0];simp only [append_assoc,cons_append,nil_append]
       rw [<-e2] at M D;have H2:=hid M;have H3:=hid D;have cx:=C.cell hx;have cy:=C.cell L;have fx:=C.free J;have fy:=C.free (J+1);have hg:=C.lt;have ao:(i:Int) < (J+1:Nat):=by omega
       have am:(J:Int)+1 < n:=by omega
       clear C M D e2 e1 e0 af hx L hs lP hy U H;have ak:=hid V;clear V;go_wp2;go_region;go_wp2;go_roundw
       case rel=> exact ⟨J,A,by have:=ak.out;omega,by omega,by go_num,by first | exact H2 | exact H3⟩
       case measure=> simp [intOf];omega
     . obtain rfl:t=0:=by omega
       obtain rfl:k=i:=by omega
       clear V;go_wp2;refine bodyPost_ret (v:=.tuple #[]) (results_none rfl _ _ _) rfl ?_;refine ⟨rfl,_,HZ,HE,?_⟩;have:=H.out;rw [List.take_zero,List.drop_zero] at this;simpa only [append_assoc,append_nil,nil_append] using this
def MergesTo (w0:World) (B g n cp:Nat) (c:Rw->Rw->Int) (P X Y S:List Cel) (e:Ending) (w':World):Prop:=e=.returned (.tuple #[])/\∃Z,AscC (cc c) Z/\StEq (cc c) (X++Y) Z/\Arr w0 B g n cp (P++Z++S) w'
def SymLaw (N:Nat) (K:FuncId) (cap:Array Value) (c:Rw->Rw->Int) (d0:List Cel) (w0:World) (B g n cp:Nat):Prop:=
 ∀(P X Y S:List Cel) (w:World) (a m b:Nat),b - a < N->P.length=a->a+X.length=m->m+Y.length=b->0 < X.length->0 < Y.length->(∀x∈X++Y,x∈d0)->AscC (cc c) X->AscC (cc c) Y->Arr w0 B g n cp (P++X++Y++S) w->
  Calls Tryz.prog 96 #[qs (some ⟨g,0,none⟩) n cp,qi a,qi m,qi b,.func (.func K) #[] cap] w (MergesTo w0 B g n cp c P X Y S)
theorem symC_calls (K:FuncId) (cap:Array Value) (c:Rw->Rw->Int) (d0:List Cel) (w0:World) (B g n cp:Nat) (P X Y S:List Cel) (w:World) (a m b:Nat) (hp:P.length=a) (hm:a+X.length=m) (hb:m+Y.length=b) (hX2:2<=X.length) (hY2:2<=Y.length)
 (hC:CmpOk K cap c d0 w0 g) (hmem:∀x∈X++Y,x∈d0) (hX:AscC (cc c) X) (hY:AscC (cc c) Y) (hA:Arr w0 B g n cp (P++X++Y++S) w) (hmx:n<=1099511627776)
 (IH:Hid (SymLaw (b - a) K cap c d0 w0 B g n cp)):
 Calls Tryz.prog 96 #[qs (some ⟨g,0,none⟩) n cp,qi a,qi m,qi b,.func (.func K) #[] cap] w (MergesTo w0 B g n cp c P X Y S):=by
 have ad:=hA.len;simp only [length_append] at ad;have b1:b<=n:=by omega
 have b2:m+2<=b:=by omega
 have b3:a+2<=m:=by omega
 have ht:((m:Int) - a==1)=false:=by simp;omega
 have aG:((b:Int) - m==1)=false:=by simp;omega
 have HL:=hid (show P.length=a/\a+X.length=m/\m+Y.length=b from ⟨hp,hm,hb⟩);have HA:=hid hA;have HC:=hid hC;have HX:=hid hX;have HY:=hid hY;have M:=hid hmem;have eg:=hC.enter;obtain ⟨A,an⟩:∃A,A=(a+b) / 2:=⟨_,rfl⟩
 have d1:a < A:=by omega
 have d2:A < b:=by omega
 have T:=hid an;clear hA ad hp hm hb hC hmem hX hY hX2 hY2 an;go_enter Tryz.func96,Tryz.ntmps96;go_upto_region 24 with (fail)
 go_cut [18] from 129 to 134 (λ z wx=> z=qi A/\wx=w)
 case first=> as_aux_lemma=>
  go_wp2_with fail;go_meet;exact ⟨by have:=T.out;congr 1;omega,rfl⟩
 obtain ⟨rfl,rfl⟩:=hcut;go_upto_if 140 with (fail)
 have aI:(A:Int)+m<=9223372036854775807:=by omega
 go_cut [20,21] from 138 to 146 (λ z20 z21 wx=> ∃i j:Nat,a<=i/\i<=j/\j<=m/\A+m<=i+b/\j<=A/\z20=qi i/\z21=qi j/\Hid (SrC c X Y (A - a) (i - a) (j - a))/\wx=wc)
 case first=> as_aux_lemma=>
  by_cases hgt:A < m
  . have am:(A:Int)+m - b<=9223372036854775807:=by omega
    have aH:(b:Int)<=A+m:=by have:=T.out;omega
    go_wp2_with fail;go_meet;refine ⟨A+m - b,A,by have:=T.out;omega,by omega,by omega,by omega,lr,by go_num,rfl,hid ⟨?_,.inr (.inl lr)⟩,rfl⟩;right;left;have:=HL.out;have:=T.out;omega
  . go_wp2_with fail
    go_meet;refine ⟨a,m,lr,by omega,lr,by have:=T.out;omega,by omega,rfl,rfl,hid ⟨.inl (by omega),.inl (by have:=HL.out;omega)⟩,rfl⟩
 obtain ⟨i0,j0,g1,g2,g3,g4,g5,rfl,rfl,ay,rfl⟩:=hcut;have am:(1:Int)<=A+m:=by omega
 go_upto_region 32 with (fail)
 obtain ⟨pp,aj⟩:∃pp:Nat,pp+1=A+m:=⟨A+m - 1,by omega⟩
 have az:=hid aj;go_cut [22] from 147 to 148 (λ z wx=> z=qi pp/\wx=wc)
 case first=> as_aux_lemma=>
  clear aj;go_wp2_with fail;go_meet;exact ⟨by have:=az.out;congr 1;omega,rfl⟩
 obtain ⟨rfl,rfl⟩:=hcut;clear aj am;go_wp2_with fail;go_loopw [20,21] (λ z20 z21 wr=> ∃i j:Nat,a<=i/\i<=j/\j<=m/\A+m<=i+b/\j<=A/\z20=qi i/\z21=qi j/\Hid (SrC c X Y (A - a) (i - a) (j - a))/\Hid (Arr w0 B g n cp (P++X++Y++S) wr)) (λ z20 z21 _=> (intOf z21).toNat - (intOf z20).toNat)
 case atStart=> exact ⟨i0,j0,g1,g2,g3,g4,g5,rfl,rfl,ay,HA⟩
 case round=>
  clear g1 g2 g3 g4 g5 ay HA;obtain ⟨i,j,g1,g2,g3,g4,g5,rfl,rfl,Hs,H⟩:=hrel;by_cases hlt:i < j
  . as_aux_lemma=>
    obtain ⟨h,hh⟩:∃h:Nat,h=(i+j) / 2:=⟨_,rfl⟩
    have aD:i<=h:=by omega
    have aJ:h < j:=by omega
    obtain ⟨q,hq⟩:∃q:Nat,q+h+1=A+m:=⟨A+m - 1 - h,by omega⟩
    have aa:h - a < X.length:=by have:=HL.out;omega
    have V:q - m < Y.length:=by have:=HL.out;omega
    have ae:(P++X++Y++S)[h]? =some X[h - a]:=by have:=mid_get (P:=P) (u:=X) (S:=Y++S) aa;rw [HL.1,show a+(h - a)=h by omega] at this;rw [append_assoc (P++X)];exact this
    have ao:(P++X++Y++S)[q]? =some Y[q - m]:=by have:=mid_get (P:=P++X) (u:=Y) (S:=S) V;rw [length_append,HL.1,HL.2.1,show m+(q - m)=q by omega] at this;exact this
    have cx:=H.cell ae;have cy:=H.cell ao;have hg:=H.lt;have HU:Hid ((¬ cc c Y[q - m] X[h - a] < 0->SrC c X Y (A - a) (h+1 - a) (j - a))/\(cc c Y[q - m] X[h - a] < 0->SrC c X Y (A - a) (i - a) (h - a))):=by
     refine hid ⟨λ hl=> ⟨.inr (.inr ⟨X[h - a],Y[q - m],by omega,?_,?_,hl⟩),Hs.hi⟩,λ hl=> ⟨Hs.lo,.inr (.inr ⟨X[h - a],Y[q - m],?_,?_,by omega,hl⟩)⟩⟩
     . rw [show h+1 - a - 1=h - a by omega];exact getElem?_eq_getElem aa
     . rw [show A - a - (h+1 - a)=q - m by omega];exact getElem?_eq_getElem V
     . exact getElem?_eq_getElem aa
     . rw [show A - a - (h - a+1)=q - m by omega];exact getElem?_eq_getElem V
    have HK:=hid (λ w' (hb:Below wr.heap.size wr w')=> HC.call Y[q - m] (M.out _ (mem_append.2 (.inr (getElem_mem _)))) X[h - a] (M.out _ (mem_append.2 (.inl (getElem_mem _)))) w' (grownBy_bel H.gr hb));clear ae ao;unfold cc at HU;generalize X[h - a]=x at *;generalize Y[q - m]=y at *;generalize c y.r x.r=r at *;clear aa V;have Hh:=hid hh;have Hq:=hid hq;have e1:(pp:Int) - h=q:=by have:=az.out;omega
    have i1:(0:Int)<=h:=by omega
    have i2:(h:Int) < n:=by omega
    have i3:(0:Int)<=q:=by omega
    have i4:(q:Int) < n:=by omega
    clear hh hq;have He:=hid e1;clear e1;go_upto_region 34 with (fail)
    go_cut [23] from 152 to 157 (λ z wx=> z=qi h/\wx=wr)
    case first=> as_aux_lemma=>
     go_wp2_with fail;go_meet;exact ⟨by have:=Hh.out;congr 1;omega,rfl⟩
    obtain ⟨rfl,rfl⟩:=hcut;go_upto_region 35 with (fail)
    have e2:IntKind.i64.wrap ((pp:Int) - h)=q:=by rw [He.out];exact IntWalk.i64_in _ (by omega)
    go_cut [171] from 158 to 171 (λ z wx=> ∃t:Bool,z=.bool t/\Hid (t=!decide (r < 0))/\Hid (Below wc.heap.size wc wx))
    case first=> as_aux_lemma=>
     go_region_held3 (λ w'=> Below wc.heap.size wc w'/\∀b o,b < wc.heap.size->w'.cell? ⟨b,o,none⟩=wc.cell? ⟨b,o,none⟩)
      (first | assumption | exact S_of (Below.drew zi) | exact S_step (by assumption) (by assumption))
      (first | ((with_reducible refine (HK.out _ (by first | assumption | exact And.left (by assumption))).mono ?_);rintro e w1 ⟨rfl,aK⟩))
     all_goals
      rename_i hH
      have Hb:=hid hH.1;clear hH;go_step;go_step;go_meet;exact ⟨_,rfl,rfl,Hb⟩
    clear e2;obtain ⟨t,rfl,I,Hb⟩:=hcut;have J:=hid (H.below Hb);clear cy cx hg HK H Hb;cases t
    . have hr:r < 0:=by simpa using I.out
      have al:=hid (HU.2 hr);clear HU Hq hr Hs;go_wp2_with fail;go_roundw
      case rel=> exact ⟨i,h,g1,aD,by omega,g4,by omega,rfl,rfl,al,J⟩
      case measure=> simp [intOf];omega
    . have hr:¬ r < 0:=by simpa using I.out
      have al:=hid (HU.1 hr);clear HU Hq hr Hs;go_wp2_with fail;go_roundw
      case rel=> exact ⟨h+1,j,by omega,by omega,g3,by omega,g5,by go_num,rfl,al,J⟩
      case measure=> simp [intOf];omega
  . obtain rfl:i=j:=by omega
    obtain ⟨l1,l2,l3⟩:=HL.out;obtain ⟨L,O⟩:=Hs.done HC.ord HX HY;obtain ⟨u1,u2,hu,ai,aC⟩:=split2 X (i - a) (by omega);obtain ⟨D,G,hv,aB,aA⟩:=split2 Y (A - i) (by omega);have Hj:Hid (∀U W2,AscC (cc c) U->AscC (cc c) W2->StEq (cc c) (u1++D) U->StEq (cc c) (u2++G) W2->AscC (cc c) (U++W2)/\StEq (cc c) (X++Y) (U++W2)):=by
     intro U W2 a1 a2 e1 e2;have hX:=HX.out;have hY:=HY.out;subst hu hv;refine merge_join HC.ord hX hY ?_ ?_ a1 a2 e1 e2
     . have:u2=(u1++u2).drop (i - a):=by rw [<-ai];simp
       have h2:D=(D++G).take (A - a - (i - a)):=by rw [show A - a - (i - a)=D.length by omega];simp
       rw [this,h2];exact L
     . have:u1=(u1++u2).take (i - a):=by rw [<-ai];simp
       have h2:G=(D++G).drop (A - a - (i - a)):=by rw [show A - a - (i - a)=D.length by omega];simp
       rw [this,h2];exact O
    have ac:=HX.out;have ab:=HY.out;rw [hu] at ac;rw [hv] at ab;have ax:=hid ac.left;have aw:=hid ac.right;have av:=hid ab.left;have au:=hid ab.right;have HM:Hid ((∀x∈u1++D,x∈d0)/\(∀x∈u2++G,x∈d0)):=by have:=M.out;rw [hu,hv] at this;refine hid ⟨λ x hx=> this x ?_,λ x hx=> this x ?_⟩ <;> (simp only [mem_append] at hx ⊢;rcases hx with hx | hx <;> simp [hx])
    obtain ⟨F,ap⟩:∃F:Nat,F+i=A+m:=⟨A+m - i,by omega⟩
    have C:=hid (show P.length=a/\a+u1.length=i/\u1.length+u2.length=X.length/\i+u2.length=m/\m+D.length=F/\i+D.length=A/\F+G.length=b by omega);have J:Hid (Arr w0 B g n cp (P++u1++u2++D++(G++S)) wr):=by have:=H.out;rw [hu,hv] at this;exact hid (by simpa only [append_assoc] using this)
    have k1:i<=m:=by omega
    have k2:m<=F:=by omega
    have k3:A<=F:=by omega
    have k4:F<=b:=by omega
    have k5:i<=A:=by omega
    have aF:=hid ap;clear l1 l2 l3 L O hu hv ai aC aB aA ac ab H Hs HL HX HY M ap g2 hlt;go_upto_region 38 with (fail)
    go_cut [24] from 175 to 177 (λ z wx=> z=qi F/\wx=wr)
    case first=> as_aux_lemma=>
     go_wp2_with fail;go_meet;exact ⟨by have:=aF.out;congr 1;omega,rfl⟩
    obtain ⟨rfl,rfl⟩:=hcut;go_upto_region 39 with (fail)
    go_cut [185] from 178 to 185 (λ z wx=> ∃t:Bool,z=.bool t/\Hid (t=true↔i < m/\m < F)/\wx=wc)
    case first=> as_aux_lemma=>
     by_cases L:i < m
     . by_cases O:m < F
       . go_wp2_with fail
         go_meet;exact ⟨true,rfl,hid ⟨λ _=> ⟨L,O⟩,λ _=> rfl⟩,rfl⟩
       . go_wp2_with fail
         go_meet;exact ⟨false,rfl,hid ⟨λ h=> (by cases h),λ h=> absurd h.2 O⟩,rfl⟩
     . go_wp2_with fail
       go_meet;exact ⟨false,rfl,hid ⟨λ h=> (by cases h),λ h=> absurd h.1 L⟩,rfl⟩
    obtain ⟨t,rfl,I,rfl⟩:=hcut;go_upto_if 185 with (fail)
    go_cut [] from 178 to 191 (λ wx=> Hid (Arr w0 B g n cp (P++u1++D++u2++(G++S)) wx))
    case first=> as_aux_lemma=>
     cases t
     . go_wp2_with fail
       go_meet;have:=I.out;have hn:¬ (i < m/\m < F):=λ h=> by have:=this.2 h;cases this
       have:=C.out;by_cases L:i < m
       . have e:D=[]:=length_eq_zero_iff.1 (by omega)
         have:=J.out;rw [e] at this ⊢;exact hid (by simpa using this)
       . have e:u2=[]:=length_eq_zero_iff.1 (by omega)
         have:=J.out;rw [e] at this ⊢;exact hid (by simpa using this)
     . have HR:=hid (rotate_calls w0 B g n cp (P++u1) u2 D (G++S) (.func (.func K) #[] cap) wc i m F (by rw [length_append];have:=C.out;omega) (by rw [length_append];have:=C.out;omega) (by rw [length_append];have:=C.out;omega) (by have:=I.1 rfl;have:=C.out;omega) (by have:=I.1 rfl;have:=C.out;omega) J (by unfold maxLen;omega))
       go_wp2_with fail;(with_reducible refine HR.out.mono ?_);rintro e w1 ⟨rfl,h1⟩;have H1:=hid h1;clear h1;go_wp2_with fail;go_meet;exact H1
    clear I J t
    rename Hid (Arr w0 B g n cp (P++u1++D++u2++(G++S)) _)=> HA2
    go_upto_region 41 with (fail)
    go_cut [199] from 192 to 199 (λ z wx=> ∃t:Bool,z=.bool t/\Hid (t=true↔a < i/\i < A)/\wx=wc)
    case first=> as_aux_lemma=>
     by_cases L:a < i
     . by_cases O:i < A
       . go_wp2_with fail
         go_meet;exact ⟨true,rfl,hid ⟨λ _=> ⟨L,O⟩,λ _=> rfl⟩,rfl⟩
       . go_wp2_with fail
         go_meet;exact ⟨false,rfl,hid ⟨λ h=> (by cases h),λ h=> absurd h.2 O⟩,rfl⟩
     . go_wp2_with fail
       go_meet;exact ⟨false,rfl,hid ⟨λ h=> (by cases h),λ h=> absurd h.1 L⟩,rfl⟩
    obtain ⟨t,rfl,I,rfl⟩:=hcut;go_upto_if 199 with (fail)
    go_cut [] from 192 to 205 (λ wx=> Hid (∃W,AscC (cc c) W/\StEq (cc c) (u1++D) W/\Arr w0 B g n cp (P++W++u2++G++S) wx))
    case first=> as_aux_lemma=>
     cases t
     . go_wp2_with fail
       go_meet;have:=I.out;have hn:¬ (a < i/\i < A):=λ h=> by have:=this.2 h;cases this
       have:=C.out;refine hid ⟨u1++D,?_,StEq.refl _,by have:=HA2.out;simpa only [append_assoc] using this⟩;by_cases L:a < i
       . have e:D=[]:=length_eq_zero_iff.1 (by omega)
         rw [e,append_nil];exact ax
       . have e:u1=[]:=length_eq_zero_iff.1 (by omega)
         rw [e,nil_append];exact av
     . have HR:=hid (IH.out P u1 D (u2++(G++S)) wc a i A (by omega) C.1 C.2.1 (by have:=C.out;omega) (by have:=I.1 rfl;have:=C.out;omega) (by have:=I.1 rfl;have:=C.out;omega) HM.1 ax av (by have:=HA2.out;simpa only [append_assoc] using this))
       go_wp2_with fail;(with_reducible refine HR.out.mono ?_);rintro e w1 ⟨rfl,W,h1,h2,h3⟩;have H1:=hid (show ∃W,AscC (cc c) W/\StEq (cc c) (u1++D) W/\Arr w0 B g n cp (P++W++u2++G++S) w1 from ⟨W,h1,h2,by simpa only [append_assoc] using h3⟩);clear h1 h2 h3;go_wp2_with fail;go_meet;exact H1
    clear I HA2 t
    rename Hid (∃W,AscC (cc c) W/\StEq (cc c) (u1++D) W/\Arr w0 B g n cp (P++W++u2++G++S) _)=> HA3
    obtain ⟨U,aq,ak,ar⟩:=HA3.out;have ag:=hid aq;have af:=hid ak;have ah:=hid ar;have aE:Hid ((P++U).length=A):=by have h1:=(ak.perm HC.ord).length_eq;have:=C.out;rw [length_append] at h1;exact hid (by rw [length_append];omega)
    clear aq ak ar HA3;go_upto_region 43 with (fail)
    go_cut [213] from 206 to 213 (λ z wx=> ∃t:Bool,z=.bool t/\Hid (t=true↔A < F/\F < b)/\wx=wc)
    case first=> as_aux_lemma=>
     by_cases L:A < F
     . by_cases O:F < b
       . go_wp2_with fail
         go_meet;exact ⟨true,rfl,hid ⟨λ _=> ⟨L,O⟩,λ _=> rfl⟩,rfl⟩
       . go_wp2_with fail
         go_meet;exact ⟨false,rfl,hid ⟨λ h=> (by cases h),λ h=> absurd h.2 O⟩,rfl⟩
     . go_wp2_with fail
       go_meet;exact ⟨false,rfl,hid ⟨λ h=> (by cases h),λ h=> absurd h.1 L⟩,rfl⟩
    obtain ⟨t,rfl,I,rfl⟩:=hcut;cases t
    . go_wp2_with fail
      go_end0;have:=I.out;have hn:¬ (A < F/\F < b):=λ h=> by have:=this.2 h;cases this
      have:=C.out;have ha:AscC (cc c) (u2++G):=by
       by_cases L:A < F
       . have e:G=[]:=length_eq_zero_iff.1 (by omega)
         rw [e,append_nil];exact aw
       . have e:u2=[]:=length_eq_zero_iff.1 (by omega)
         rw [e,nil_append];exact au
      obtain ⟨j1,j2⟩:=Hj.out U (u2++G) ag ha af (StEq.refl _);exact ⟨rfl,_,j1,j2,by have:=ah.out;simpa only [append_assoc] using this⟩
    . have HR:=hid (IH.out (P++U) u2 G S wc A F b (by omega) aE (by have:=C.out;omega) (by have:=C.out;omega) (by have:=I.1 rfl;have:=C.out;omega) (by have:=I.1 rfl;have:=C.out;omega) HM.2 aw au ah)
      go_wp2_with fail;(with_reducible refine HR.out.mono ?_);rintro e w1 ⟨rfl,W,h1,h2,h3⟩;have H1:=hid (show ∃Z,AscC (cc c) Z/\StEq (cc c) (X++Y) Z/\Arr w0 B g n cp (P++Z++S) w1 from by obtain ⟨j1,j2⟩:=Hj.out U W ag h1 af h2;exact ⟨_,j1,j2,by simpa only [append_assoc] using h3⟩);clear h1 h2 h3;go_wp2_with fail;go_end0;exact ⟨rfl,H1⟩
theorem symMerge_calls (K:FuncId) (cap:Array Value) (c:Rw->Rw->Int) (d0:List Cel) (w0:World) (B g n cp:Nat) (hC:CmpOk K cap c d0 w0 g) (hmx:n<=1099511627776):∀N,SymLaw N K cap c d0 w0 B g n cp:=by
 intro N
 induction N with
 | zero=> intro P X Y S w a m b h;omega
 | succ N ih=>
  intro P X Y S w a m b J A hm D hX I o H G F;have q:SymLaw (b - a) K cap c d0 w0 B g n cp:=λ P' X' Y' S' w' a' m' b' h=> ih P' X' Y' S' w' a' m' b' (by omega)
  match X,hX with
  | [x],_=>
   have C:a+1=m:=hm;exact symA_calls K cap c d0 w0 B g n cp P Y S x w a m b A C D hC (by simpa using o) G F hmx
  | x::x'::X',_=>
   match Y,I with
   | [y],_=> exact symB_calls K cap c d0 w0 B g n cp P (x::x'::X') S y w a m b A hm D (by simp) hC (λ z hz=> o z (mem_append.2 (Or.symm ((mem_cons.1 hz).imp_left λ h=> mem_singleton.2 h)))) H F hmx
   | y::y'::Y',_=> exact symC_calls K cap c d0 w0 B g n cp P (x::x'::X') (y::y'::Y') S w a m b A hm D (by simp) (by simp) hC o H G F hmx (hid q)
theorem addr_add (g o j:Nat):(⟨g,o,none⟩:Addr).add j=⟨g,o+j,none⟩:=by unfold Addr.add;split <;> simp_all
theorem rsort_calls (os:List Od) (L:List Rw) (m:Nat) (s so:Value) (w:World) (hs:RowsAt w L s) (ho:OrdsAt w os so) (hm:∀r∈L,r.length=m) (hf:OrdsFit os m) (hlen:L.length < 1099511627776):
 Calls Tryz.prog 31 #[s,so] w λ e w'=> ∃u,e=.returned u/\RowsOwn w' w.heap.size (sortL os L) u/\Below w.heap.size w w':=by
 obtain ⟨a,n,c,rfl,hn,aN⟩:=hs.shape;obtain ⟨ao,no,co,rfl,aM,aO⟩:=ho.shape;have HS:=hid hs;have HO:=hid ho;have Hm:=hid hm;have HF:=hid hf;have Hn:=hid hn;have bc:n < 1099511627776:=by omega
 clear hs ho hm hf hn aN aO aM hlen;go_enter Tryz.func31,Tryz.ntmps31;go_wp2;go_loopw [5,6] (λ z5 z6 wr=> ∃i:Nat,i<=n/\z6=qi i/\Hid (RowsOwn wr w.heap.size (sortL os (L.take i)) z5/\Below w.heap.size w wr)) (λ _ z _=> n - (intOf z).toNat)
 case atStart=> exact ⟨0,zero_le _,rfl,hid ⟨RowsOwn.nil _ _,zi⟩⟩
 case round=>
  rename_i v5 _ _
  obtain ⟨i,hi,rfl,T⟩:=hrel;by_cases hlt:i < n
  . have aj:i < L.length:=by have:=Hn.out;omega
    obtain ⟨b,o,rfl⟩:=HS.has i hlt;obtain ⟨ax,nx,cx,ag,af⟩:=HS.row i aj;have aR:=hid (sortL_snoc os L i aj);have aT:=hid (Hm.out _ (getElem_mem aj));have aV:=hid (sortL_length os (L.take i));have aU:=hid (show (L.take i).length=i by rw [length_take,min_eq_left (by omega)]);have aS:=hid (show ∀r∈sortL os (L.take i),r.length=m from λ r hr=> Hm.out r (List.mem_of_mem_take ((sortL_spec os _).2.mem_iff.1 hr)));generalize L[i]=X at *;generalize sortL os (L.take i)=M at *;have aD:M.length=i:=by rw [aV.out,aU.out]
    obtain ⟨am,cm,ai⟩:=T.1.shape;rw [aD] at ai;subst ai;have ab:=hid aD;clear aj aD;go_wp2;go_loopw [7] (λ z7 wr=> ∃k:Nat,k<=i/\z7=qi k/\Hid (∀y∈M.take k,0<=ordC os X y)/\Hid (RowsOwn wr w.heap.size M (qs am i cm)/\Below w.heap.size w wr)) (λ z _=> i - (intOf z).toNat)
    case atStart=> exact ⟨0,zero_le _,rfl,hid (by simp),T⟩
    case round=>
     clear T;obtain ⟨k,hk,rfl,ad,T⟩:=hrel;obtain ⟨hc,hx,V⟩:=ag.out _ T.2;have Hx:=hid hx;clear hx;go_upto_region 6 with (fail)
     go_cut [31] from 15 to 31 (λ z wx=> ∃q:Bool,z=.bool q/\Hid ((q=true->k < i/\∀y∈M.take (k+1),0<=ordC os X y)/\(q=false->insO os X M=M.take k++[X]++M.drop k))/\Hid (Below wr.heap.size wr wx))
     case first=>
      by_cases az:k < i
      . have ac:k < M.length:=by have:=ab.out;omega
        have aC:=T.1.at
        obtain ⟨bm,om,rfl⟩:=aC.has k az;obtain ⟨ay,ny,cy,aK,-⟩:=aC.row k ac;obtain ⟨bf,D,bg⟩:=aK.out _ zi;have ly:=aS.out _ (getElem_mem ac);have HK:=hid (λ w' (hb:Below wr.heap.size wr w')=> before_calls os X M[k] _ _ _ m w' (Hx.mono hb) (D.mono hb) (HO.mono (T.2.trans (hb.mono T.2.size))) aT ly HF);have HQ:=hid (show (0<=ordC os X M[k]->∀y∈M.take (k+1),0<=ordC os X y)/\(ordC os X M[k] < 0->insO os X M=M.take k++[X]++M.drop k) from ⟨λ h y D=> by
         rw [take_succ_eq_append_getElem ac] at D;rcases mem_append.1 D with D | D
         . exact ad.out y D
         . rw [mem_singleton.1 D];exact h,λ h=> insO_at os X M k (λ y D=> Int.not_lt.2 (ad.out y D)) (λ y D=> by
         rw [getElem?_eq_getElem ac] at D;rw [<-Option.some.inj D];exact h)⟩)
        clear D ly aK aC;generalize M[k]=Y at *;clear ac;have i1:(0:Int)<=k:=by omega
        have i2:(k:Int) < i:=by omega
        have i3:(0:Int)<=i:=by omega
        have i4:(i:Int) < n:=by omega
        generalize ordC os X Y=r at *;go_region_held3 (λ w'=> Below wr.heap.size wr w'/\∀b o,b < wr.heap.size->w'.cell? ⟨b,o,none⟩=wr.cell? ⟨b,o,none⟩)
         (first | assumption | exact S_of (Below.drew zi) | exact S_step (by assumption) (by assumption))
         (first | (go_at_call 61;(with_reducible refine (HK.out _ (by first | assumption | exact And.left (by assumption))).mono ?_);rintro e w1 ⟨rfl,bh⟩))
        all_goals
         rename_i hH
         have ah:=hid hH.1;clear hH;go_step;go_step;go_meet;exact ⟨_,rfl,hid ⟨λ h=> ⟨az,HQ.1 (by simpa using h)⟩,λ h=> HQ.2 (by simpa using h)⟩,ah⟩
      . obtain rfl:k=i:=by omega
        have HQ:=hid (show insO os X M=M.take k++[X]++M.drop k from insO_at os X M k (λ y D=> Int.not_lt.2 (ad.out y D)) (λ y D=> by rw [List.getElem?_eq_none (by have:=ab.out;omega)] at D;cases D));have hd:decide ((k:Int) < k)=false:=by simp
        go_quiet (fail);go_step;go_step;go_meet;exact ⟨false,rfl,hid ⟨λ h=> (by cases h),λ _=> HQ⟩,hid ⟨rfl,rfl,rfl,lr,λ _ _=> rfl⟩⟩
     obtain ⟨q,rfl,Hq,ah⟩:=hcut;have J:=hid (show RowsOwn wc w.heap.size M (qs am i cm)/\Below w.heap.size w wc from ⟨T.1.mono ah,T.2.trans (ah.mono T.2.size)⟩);clear hc V Hx T ah;cases q
     . have HI:=hid (Hq.2 rfl)
       clear Hq ad;obtain ⟨i0,ii,ar,aq,ap⟩:=info_parts Tryz.info60';have be:(k:Int)<=i:=by omega
       have bd:(0:Int)<=k:=by omega
       go_upto_region 8 with (fail)
       go_cut [8] from 34 to 38 (λ z wx=> ∃(A:Addr) (c8:Nat) (ys:List Value),z=qs (some A) (i - k) c8/\Hid (RowsOwn wx w.heap.size M (qs am i cm)/\Below w.heap.size w wx/\RowVs wx (M.drop k) ys/\(∀y∈ys,Far wx w.heap.size y)/\(∀j u,ys[j]? =some u->wx.cell? (A.add j)=some u)/\(∀g,am=some ⟨g,0,none⟩->A.block≠g)))
       case first=>
        have H:=World.ownsRow_lit (e:=60) (size:=1) wc #[] 0 lr (by simp) (by simp);obtain ⟨xs,h1,h2,h3⟩:=J.1;have aa:=J.2.size;have V:=(Below.refl wc.heap.size wc).alloc lr (.cells #[] 60);have an:=hid V;have O:=hid aa;have H3:=hid h3;rcases h1.2 with ⟨e,e'⟩ | ⟨g,cap,aQ,e,aA,hg,aw,aB,av,au⟩
        . injection e with e1 e2 e3
          subst e1 e2 e3;obtain rfl:k=0:=by omega
          have hM:M=[]:=length_eq_zero_iff.1 ab;have HM:=hid hM;clear h1 h2 h3 e' aa V hM;go_wp2_with (at_builtin;refine wpList_append_own_none rfl _ _ 41 rfl wc.heap.size 60 i0 1 Tryz.underlying41 ii _ 0 [] rfl H rfl ?_);go_meet;refine ⟨⟨wc.heap.size,0,none⟩,0,[],rfl,hid ⟨J.1.mono an,J.2.trans (an.mono O),by rw [HM.out];exact .nil,by simp,by simp,by simp⟩⟩
        . injection e with e1 e2 e3
          have ak:g < wc.heap.size:=(Array.getElem?_eq_some_iff.1 hg).1;subst e1;have aG:i<=cm:=by rw [e3];omega
          obtain ⟨ys,y1,y2,y3⟩:=J.1.behind (k:=k);have aE:ys.length=(i - k) * 1:=by rw [y1.length,List.length_drop,ab.out];omega
          have Y1:=hid (show (∀j u,ys[j]? =some u->(wc.alloc (.cells #[] 60)).cell? ⟨g,k+j,none⟩=some u) from λ j u C=> (an.cell (p:=⟨g,k+j,none⟩) ak).trans (y3 j u C));have Y2:=hid y1;have Y3:=hid y2;have bj:=hid aA;have aW:=hid ak;have aI:=hid aE;have aJ:=hid y1.one';have G:Hid (∀v' w',w'.ownsRow wc.heap.size 60 1 v' (0+(i - k)) ([]++ys)->(wc.alloc (.cells #[] 60)).grownBy w' (some wc.heap.size)->¬ v'=q0->∃(A:Addr) (c8:Nat) (ys:List Value),v'=qs (some A) (i - k) c8/\Hid (RowsOwn w' w.heap.size M (qs (some ⟨g,0,none⟩) i cm)/\Below w.heap.size w w'/\RowVs w' (M.drop k) ys/\(∀y∈ys,Far w' w.heap.size y)/\(∀j u,ys[j]? =some u->w'.cell? (A.add j)=some u)/\(∀g',some (⟨g,0,none⟩:Addr)=some ⟨g',0,none⟩->A.block≠g'))):=by
           refine hid λ v' w' K o2 U=> ?_;have al:Below wc.heap.size wc w':=an.grown o2 (by simp) (λ j C=> by injection C with C;omega);rcases K.2 with ⟨q1,q2⟩ | ⟨g',aH,ba,q1,q2,q3,q4,q5,q6,q7⟩
           . exact absurd q1 U
           . refine ⟨⟨g',0,none⟩,aH,ys,by rw [q1,zero_add],hid ⟨J.1.mono al,J.2.trans (al.mono O),Y2.mono al,Y2.far Y3 al,λ j u C=> ?_,λ g2 hg2=> ?_⟩⟩
             . exact K.cells (by rw [q1];rfl) j u (by simpa using C)
             . injection hg2 with hg2
               injection hg2 with hg2;show g'≠g2;have:=aW.out;omega
          have aP:(k:Int)<=cm:=by omega
          clear h1 h2 h3 aa V hg aA ak aw aB av au y1 y2 y3 aE e2 e3;by_cases hik:k=i
          . subst hik
            have aL:ys=[]:=length_eq_zero_iff.1 (by have:=aI.out;omega);subst aL;by_cases aF:cm=k
            . subst aF
              go_wp2_with (at_builtin;go_loud (refine wpList_append_own _ rfl _ _ 41 rfl wc.heap.size 60 i0 (q0) 1 24 Tryz.underlying41 ii ar aq ap rfl (by decide) _ 0 [] rfl H ⟨g,0,none⟩ 0 0 [] rfl rfl (by intro j u C;simp at C) (by simp) (by unfold maxLen;omega) (by omega) (by simp) ?_));intro v' w' K o2 U;have HR:=hid (G.out v' w' (by first | exact K | (rw [Nat.sub_self];exact K) | (rw [zero_add,nil_append];exact K)) o2 (by first | exact U | exact λ h=> absurd (U.1 h).1 (by simp)));clear K o2 U G;go_wp2_with fail;go_meet;exact HR
            . go_wp2_with (at_builtin;go_loud (refine wpList_append_own _ rfl _ _ 41 rfl wc.heap.size 60 i0 (q0) 1 24 Tryz.underlying41 ii ar aq ap rfl (by decide) _ 0 [] rfl H ⟨g,k,none⟩ 0 _ [] rfl rfl (by intro j u C;simp at C) (by simp) (by unfold maxLen;omega) (by omega) (by simp) ?_))
              intro v' w' K o2 U;have HR:=hid (G.out v' w' (by first | exact K | (rw [Nat.sub_self];exact K) | (rw [zero_add,nil_append];exact K)) o2 (by first | exact U | exact λ h=> absurd (U.1 h).1 (by simp)));clear K o2 U G;go_wp2_with fail;go_meet;exact HR
          . have aF:¬ cm=k:=by omega
            have aZ:¬ i - k=0:=by omega
            go_wp2_with (at_builtin;go_loud (refine wpList_append_own _ rfl _ _ 41 rfl wc.heap.size 60 i0 (q0) 1 24 Tryz.underlying41 ii ar aq ap rfl (by decide) _ 0 [] rfl H ⟨g,k,none⟩ (i - k) _ ys rfl aI.out (by intro j u C;have:=Y1.out j u C;rw [addr_add];exact this) aJ (by unfold maxLen;omega) (by omega) (by simp) ?_));intro v' w' K o2 U;have HR:=hid (G.out v' w' (by first | exact K | (rw [Nat.sub_self];exact K) | (rw [zero_add,nil_append];exact K)) o2 (by first | exact U | exact λ h=> absurd (U.1 h).1 (by simp)));clear K o2 U G;go_wp2_with fail;go_meet;exact HR
       obtain ⟨A,c8,ys,rfl,F⟩:=hcut;clear J;go_upto_region 9 with (fail)
       obtain ⟨hc,hx,V⟩:=ag.out _ F.2.1;have Hx:=hid hx;have bi:=hid (af.out wc);have aa:=F.2.1.size;have O:=hid aa;have HN:=hid (show sortL os (L.take (i+1))=M.take k++[X]++M.drop k by rw [aR.out,HI.out]);have ae:=hid (show (M.take k).length=k/\(M.drop k).length=i - k by rw [length_take,List.length_drop,ab.out,min_eq_left hk];exact ⟨rfl,rfl⟩);clear hx aa;have i1:(0:Int)<=i:=by omega
       have i2:(i:Int) < n:=by omega
       rcases F.1 with ⟨xs,h1,h2,h3⟩
       rcases h1.2 with ⟨e,e'⟩ | ⟨g,cap,aQ,e,aA,hg,aw,aB,av,au⟩
       . injection e with e1 e2 e3
         subst e1 e2 e3;obtain rfl:k=0:=by omega
         rw [add_zero] at hc;have hM:M=[]:=length_eq_zero_iff.1 ab;have aY:=hid (show M.take 0++[X]++M.drop 0=[X] by rw [hM];rfl);have HT:=hid (λ w' (hb:Below wc.heap.size wc w')=> RowsOwn.nil w' w.heap.size);have aX:=hid (show ∀W w1,Below wc.heap.size wc W->W.grownBy w1 none->True from λ _ _ _ _=> trivial);have I:=hid (show ∀W,Below wc.heap.size wc W->RowVs W [X] [qs ax nx cx]/\(∀y∈[qs ax nx cx],Far W w.heap.size y)/\w.heap.size<=W.heap.size/\Below w.heap.size w W from λ W hb=> ⟨.one (Hx.mono hb),by intro y D;rw [mem_singleton.1 D];exact af.out W,le_trans O hb.size,F.2.1.trans (hb.mono O)⟩);clear h1 h2 h3 e' hM;go_region_law (first | (refine step_rows rfl (.tmp 41) (.tmp 46) rfl w.heap.size [] [X] _ rfl (HT.out _ (by first | exact zi.alloc lr _ | exact zi.drew.alloc lr _ | exact (zi.alloc lr _).drew)) _ _ 1 [qs ax nx cx] rfl rfl (by intro j u C;match j,C with | 0,C=> (simp at C;subst C;simp [Addr.add])) (I.out _ (by first | exact zi.alloc lr _ | exact zi.drew.alloc lr _ | exact (zi.alloc lr _).drew)).1 (I.out _ (by first | exact zi.alloc lr _ | exact zi.drew.alloc lr _ | exact (zi.alloc lr _).drew)).2.1 (by simp) (I.out _ (by first | exact zi.alloc lr _ | exact zi.drew.alloc lr _ | exact (zi.alloc lr _).drew)).2.2.1 ?_;intro v1 w1 a1 a2 a3;have A2:=hid ((I.out _ (by first | exact zi.alloc lr _ | exact zi.drew.alloc lr _ | exact (zi.alloc lr _).drew)).2.2.2.trans a2);have A3:=hid (aX.out _ _ (by first | exact zi.alloc lr _ | exact zi.drew.alloc lr _ | exact (zi.alloc lr _).drew) a3);clear a2 a3;have A1:=hid a1;clear a1) | (refine step_rows rfl (.tmp 47) (.tmp 48) rfl w.heap.size ([X]) [] _ rfl A1 A _ 0 [] rfl rfl (by intro j u C;simp at C) .nil (by simp) (by simp) A2.size ?_;intro v2 w2 a1 a2 a3;have A4:=hid (show RowsOwn w2 w.heap.size (sortL os (L.take (0+1))) v2/\Below w.heap.size w w2 from ⟨by rw [HN.out,aY.out];exact a1,A2.trans a2⟩);clear a1 a2 a3 A1 A2 A3));go_wp2;go_roundw
         case rel=> exact ⟨0+1,by omega,by go_num,A4⟩
         case measure=> simp [intOf];omega
       . injection e with e1 e2 e3
         have ak:g < wc.heap.size:=(Array.getElem?_eq_some_iff.1 hg).1;subst e1;have aG:i<=cm:=by rw [e3];omega
         have aP:(k:Int)<=cm:=by omega
         have HT:=hid (λ w' (hb:Below wc.heap.size wc w')=> (F.1.take hk).mono hb);have HY:=hid (show ∀W w1,Below wc.heap.size wc W->W.grownBy w1 (some g)->RowVs w1 (M.drop k) ys/\(∀y∈ys,Far w1 w.heap.size y)/\∀j u,ys[j]? =some u->w1.cell? (A.add j)=some u from λ W w1 hb hgr=> by
          obtain ⟨bb,q1,q2,q3⟩:=HT.out W hb;have:=(F.2.2.1.mono hb).grown (F.2.2.1.far F.2.2.2.1 hb) q1 hgr;refine ⟨this.1,this.2,λ j u C=> ?_⟩;have h5:=F.2.2.2.2.1 j u C;have h6:=World.block_lt_of_cell? _ _ h5;have h7:(A.add j).block=A.block:=by unfold Addr.add;split <;> rfl
          exact hgr.cell ((hb.cell h6).trans h5) (by rw [h7];intro e;exact F.2.2.2.2.2 g rfl (Option.some.inj e)))
         have I:=hid (show ∀W,Below wc.heap.size wc W->RowVs W [X] [qs ax nx cx]/\(∀y∈[qs ax nx cx],Far W w.heap.size y)/\w.heap.size<=W.heap.size/\Below w.heap.size w W from λ W hb=> ⟨.one (Hx.mono hb),by intro y D;rw [mem_singleton.1 D];exact af.out W,le_trans O hb.size,F.2.1.trans (hb.mono O)⟩);clear h1 h2 h3 hg aw aB av au e2 e3;go_region_law (first | (refine step_rows rfl (.tmp 41) (.tmp 46) rfl w.heap.size (M.take k) [X] _ rfl (HT.out _ (by first | exact zi.alloc lr _ | exact zi.drew.alloc lr _ | exact (zi.alloc lr _).drew)) _ _ 1 [qs ax nx cx] rfl rfl (by intro j u C;match j,C with | 0,C=> (simp at C;subst C;simp [Addr.add])) (I.out _ (by first | exact zi.alloc lr _ | exact zi.drew.alloc lr _ | exact (zi.alloc lr _).drew)).1 (I.out _ (by first | exact zi.alloc lr _ | exact zi.drew.alloc lr _ | exact (zi.alloc lr _).drew)).2.1 (by have:=ae.out;omega) (I.out _ (by first | exact zi.alloc lr _ | exact zi.drew.alloc lr _ | exact (zi.alloc lr _).drew)).2.2.1 ?_;intro v1 w1 a1 a2 a3;have A2:=hid ((I.out _ (by first | exact zi.alloc lr _ | exact zi.drew.alloc lr _ | exact (zi.alloc lr _).drew)).2.2.2.trans a2);have A3:=hid (HY.out _ _ (by first | exact zi.alloc lr _ | exact zi.drew.alloc lr _ | exact (zi.alloc lr _).drew) a3);clear a2 a3;have A1:=hid a1;clear a1) | (refine step_rows rfl (.tmp 47) (.tmp 48) rfl w.heap.size (M.take k++[X]) (M.drop k) _ rfl A1 A _ (i - k) ys rfl ae.2.symm A3.2.2 A3.1 A3.2.1 (by rw [length_append];have:=ae.out;simp;omega) A2.size ?_;intro v2 w2 a1 a2 a3;have A4:=hid (show RowsOwn w2 w.heap.size (sortL os (L.take (i+1))) v2/\Below w.heap.size w w2 from ⟨by rw [HN.out];exact a1,A2.trans a2⟩);clear a1 a2 a3 A1 A2 A3));go_wp2;go_roundw
         case rel=> exact ⟨i+1,by omega,by go_num,A4⟩
         case measure=> simp [intOf];omega
     . have HI:=hid (Hq.1 rfl)
       have az:=HI.1;clear Hq ad;go_wp2;go_roundw
       case rel=> exact ⟨k+1,by omega,by go_num,hid HI.2,J⟩
       case measure=> simp [intOf];omega
  . obtain rfl:i=n:=by omega
    have HE:=hid T;rw [take_of_length_le (by have:=Hn.out;omega)] at HE;clear T;obtain ⟨am,cm,ai⟩:=HE.1.shape;subst ai;go_wp2;go_ret;exact ⟨_,rfl,HE⟩
end
end Go.Proofs.YtcomoomndgbckaaGreat
