/- Part 1 of the proof. -/
import Derived.Test.YtcomoomndgbckaaGreatY00
set_option maxHeartbeats 16000000
set_option maxRecDepth 100000
open Go Go.RowKit
open Go.Lib (hid)
open List (getElem_mem getElem_cons_zero length_append nil_append append_assoc length_take mem_cons mem_singleton cons_append mem_append take_succ_eq_append_getElem drop_eq_getElem_cons take_of_length_le length_nil length_cons append_nil mem_iff_getElem take_append_drop length_eq_zero_iff drop_of_length_le getElem?_append_right)
open Nat (le_refl zero_le le_succ lt_succ_self lt_of_lt_of_le add_zero zero_mul le_of_lt min_eq_left)
namespace Go.Proofs.YtcomoomndgbckaaGreat
noncomputable section
theorem below_drewN {B:Nat} (w:World) (n:Nat):Below B w (w.drewN n):=⟨rfl,rfl,rfl,lr,λ _ _=> rfl⟩
def SortsTo (w0:World) (B g n cp:Nat) (c:Rw->Rw->Int) (P X S:List Cel) (e:Ending) (w':World):Prop:=e=.returned (.tuple #[])/\∃Z,AscC (cc c) Z/\StEq (cc c) X Z/\Arr w0 B g n cp (P++Z++S) w'
theorem sink_done {c:Rw->Rw->Int} (hc:Ord3 (cc c)) {l r:List Cel} {x:Cel} (h:AscC (cc c) (l++r)) (hr:∀y∈r,cc c x y < 0) (hl:l=[]\/∃A y,l=A++[y]/\¬ cc c x y < 0):
 AscC (cc c) (l++[x]++r)/\StEq (cc c) ((l++r)++[x]) (l++[x]++r):=by
 refine ⟨(h.left.app (List.pairwise_singleton _ _) λ a o b hb=> ?_).app h.right λ a o b hb=> ?_,?_⟩
 . rw [mem_singleton.1 hb]
   rcases hl with rfl | ⟨A,y,rfl,C⟩
   . cases o
   . rcases mem_append.1 o with q | q
     . exact hc.trans _ _ _ (h.left.cross a q y (by simp)) (hc.le C)
     . rw [mem_singleton.1 q];exact hc.le C
 . rcases mem_append.1 o with o | o
   . exact h.cross a o b hb
   . rw [mem_singleton.1 o];have:=hr b hb;omega
 . have h1:StEq (cc c) (r++[x]) ([x]++r):=StEq.swap hc λ a o b hb=> by rw [mem_singleton.1 hb];exact hr a o
   have:=(StEq.refl (c:=cc c) l).app h1
   rwa [<-append_assoc,<-append_assoc] at this
theorem insertion_calls (K:FuncId) (cap:Array Value) (c:Rw->Rw->Int) (d0:List Cel) (w0:World) (B g n cp:Nat) (P X S:List Cel) (w:World) (a b:Nat) (hp:P.length=a) (hb:a+X.length=b)
 (hC:CmpOk K cap c d0 w0 g) (hmem:∀x∈X,x∈d0) (F:Arr w0 B g n cp (P++X++S) w) (hmx:n<=1099511627776):
 Calls Tryz.prog 95 #[qs (some ⟨g,0,none⟩) n cp,qi a,qi b,.func (.func K) #[] cap] w (SortsTo w0 B g n cp c P X S):=by
 have aa:=F.len;simp only [length_append] at aa;have b1:b<=n:=by omega
 have b2:a<=b:=by omega
 have HL:=hid (show P.length=a/\a+X.length=b from ⟨hp,hb⟩);have I:=hid F;have HC:=hid hC;have M:=hid hmem;have eg:=hC.enter;clear F aa hp hb hC hmem;by_cases hnil:a=b
 . have H:X=[]:=length_eq_zero_iff.1 (by have:=HL.out;omega)
   have HX:=hid H;subst hnil;clear H HC M;have aq:¬ (a:Int)+1 < a:=by omega
   go_enter Tryz.func95,Tryz.ntmps95;go_wp2;go_loopw [8] (λ z8 wr=> z8=qi ((a:Int)+1)/\wr=w) (λ _ _=> 0)
   case atStart=> exact ⟨rfl,rfl⟩
   case round=>
    obtain ⟨rfl,rfl⟩:=hrel;go_wp2;go_end0;exact ⟨rfl,[],List.Pairwise.nil,by rw [HX.out];exact StEq.refl _,by have:=I.out;rwa [HX.out] at this⟩
 . go_enter Tryz.func95,Tryz.ntmps95
   have ar:a < b:=by omega
   go_wp2;go_loopg [8] (b - a) (λ gk z8 wr=> ∃i k:Nat,i=a+k/\1<=k/\i<=b/\z8=qi i/\gk+k=b - a+1/\Hid (∃W R,X=(X.take k)++R/\AscC (cc c) W/\StEq (cc c) (X.take k) W/\Arr w0 B g n cp (P++W++R++S) wr))
   case atStart=>
    refine ⟨a+1,1,rfl,lr,ar,by go_num,by omega,?_⟩;refine hid ⟨X.take 1,X.drop 1,(take_append_drop 1 X).symm,?_,StEq.refl _,?_⟩
    . match X with
      | []=> exact List.Pairwise.nil
      | x::X=> exact List.pairwise_singleton _ _
    . have:=I.out
      rw [<-take_append_drop 1 X] at this;simpa only [append_assoc] using this
   case round=>
    clear I;obtain ⟨i,k,ac,ay,aB,rfl,T,Hs⟩:=hrel;obtain ⟨W,R,s1,s2,s3,V⟩:=Hs.out;have ao:=hid s2;have an:=hid s3;have I:=hid V;have av:Hid (W.length=k):=hid (by have:=(s3.perm HC.ord).length_eq;rw [length_take,min_eq_left (by have:=HL.out;omega)] at this;omega);by_cases aq:i < b
    . have ab:k < X.length:=by have:=HL.out;omega
      obtain ⟨x,H⟩:=gx (X[k])
      have hR:R=x::X.drop (k+1):=by rw [<-H,<-drop_eq_getElem_cons ab];have:=s1;exact (List.append_cancel_left ((take_append_drop k X).trans this)).symm
      have HN:=hid (show X.take (k+1)=X.take k++[x]/\X=X.take (k+1)++X.drop (k+1)/\x∈d0/\(∀y∈W,y∈d0) from ⟨by rw [take_succ_eq_append_getElem ab,H],(take_append_drop _ _).symm,M.out _ (by rw [<-H];exact getElem_mem _),λ y hy=> M.out y (List.mem_of_mem_take (s3.mem HC.ord hy))⟩);rw [hR] at V;have ap:=hid V;generalize X.drop (k+1)=R' at *;have L:=hid T;have C:=hid ac;clear s1 s2 s3 V I hR H ab Hs T ac;have D:Hid (∀l r wx,W=l++r->(∀y∈r,cc c x y < 0)->(l=[]\/∃A y,l=A++[y]/\0<=cc c x y)->Arr w0 B g n cp (P++l++x::r++R'++S) wx->Hid (∃W R,X=(X.take (k+1))++R/\AscC (cc c) W/\StEq (cc c) (X.take (k+1)) W/\Arr w0 B g n cp (P++W++R++S) wx)):=by refine hid λ l r wx h1 h2 h3 h4=> ?_;have hW:=ao.out;have hE:=an.out;rw [h1] at hW hE;obtain ⟨e1,e2⟩:=sink_done HC.ord hW h2 (h3.imp_right λ ⟨A,y,e,h⟩=> ⟨A,y,e,Int.not_lt.2 h⟩);refine hid ⟨l++[x]++r,R',HN.2.1,e1,?_,by simpa only [append_assoc,cons_append,nil_append] using h4⟩;rw [HN.1];exact (hE.app (StEq.refl _)).trans e2
      go_wp2;go_loopw [9] (λ z9 wr=> ∃j:Nat,a<=j/\j<=i/\z9=qi j/\Hid (∃l r,W=l++r/\a+l.length=j/\(∀y∈r,cc c x y < 0)/\Arr w0 B g n cp (P++l++x::r++R'++S) wr)) (λ z9 _=> (intOf z9).toNat)
      case atStart=> exact ⟨i,by have:=C.out;omega,lr,rfl,hid ⟨W,[],by simp,by have:=av.out;have:=C.out;omega,by simp,by have:=ap.out;simpa using this⟩⟩
      case round=>
       clear ap;obtain ⟨j,aD,aA,rfl,Hs⟩:=hrel;obtain ⟨l,r,s1,s2,s3,V⟩:=Hs.out;have I:=hid V;have Hl:=hid s2;have HW:=hid s1;have Hr:=hid s3;clear Hs s1 s2 s3 V;have az:(j:Int) < n:=by omega
       by_cases hja:a < j
       . obtain ⟨A,y,J⟩:∃A y,l=A++[y]:=by
          rcases List.eq_nil_or_concat l with h | ⟨A,y,h⟩
          . have:=Hl.out;rw [h] at this;simp at this;omega
          . exact ⟨A,y,by rw [h,List.concat_eq_append]⟩
         have lj:(P++A).length+1=j:=by have:=Hl.out;rw [J] at this;simp at this;rw [length_append];have:=HL.out;omega
         obtain ⟨G,O⟩:∃G,G+1=j:=⟨j - 1,by omega⟩
         have lP:(P++A).length=G:=by omega
         have al:P++l++x::r++R'++S=(P++A)++y::[]++x::(r++R'++S):=by rw [J];simp only [append_assoc,cons_append,nil_append]
         have F:=I.out;rw [al] at F;have hy:((P++A)++y::[]++x::(r++R'++S))[G]? =some y:=by rw [append_assoc,getElem?_append_right (by rw [lP];exact lr),lP];simp
         have H:((P++A)++y::[]++x::(r++R'++S))[j]? =some x:=by rw [append_assoc,getElem?_append_right (by rw [lP];omega),lP,<-O];simp
         have hs:=swp_at (P:=P++A) (Q:=[]) (S:=r++R'++S) (x:=y) (y:=x);rw [lP,length_nil,add_zero,O] at hs;have cy:=F.cell hy;have cx:=F.cell H;have hg:=F.lt;have HK:=hid (λ w' (hb:Below wr.heap.size wr w')=> HC.call x HN.2.2.1 y (HN.2.2.2 y (by rw [HW.out,J];simp)) w' (grownBy_bel F.gr hb));have ag:Hid (∀w',Below wr.heap.size wr w'->Arr w0 B g n cp (P++A++x::(y::r)++R'++S) ((w'.setCell ⟨g,G,none⟩ (qs x.a x.n x.c)).setCell ⟨g,j,none⟩ (qs y.a y.n y.c))/\Arr w0 B g n cp (P++A++x::(y::r)++R'++S) ((w'.setCell ⟨g,j,none⟩ (qs y.a y.n y.c)).setCell ⟨g,G,none⟩ (qs x.a x.n x.c))):=by refine hid λ w' hb=> ?_;have ak:=F.below hb;have aj:=ak.swap hy H;have ad:=ak.swap H hy;rw [swp_comm] at ad;rw [hs] at aj ad;rw [show P++A++x::(y::r)++R'++S=(P++A)++x::[]++y::(r++R'++S) by simp only [append_assoc,cons_append,nil_append]];exact ⟨aj,ad⟩
         have ah:=hid (λ w' (hb:Below wr.heap.size wr w')=> (⟨(F.below hb).cell hy,(F.below hb).cell H,(F.below hb).free G,(F.below hb).free j,(F.below hb).lt⟩:_/\_/\_/\_/\_));have ae:=hid J;have aE:=hid lP;have i1:(a:Int) < j:=by omega
         have i3:(0:Int)<=(G:Int):=by omega
         have i4:IntKind.i64.wrap ((j:Int) - 1)=G:=by rw [show (j:Int) - 1=G by omega];exact IntWalk.i64_in _ (by omega)
         have i5:(G:Int) < n:=by omega
         have af:=hid O;generalize hr':c x.r y.r=rr at *;have am:=hid hr';clear F hy H hs al lP lj J hr' O;go_upto_region 4 with (fail)
         go_cut [34] from 18 to 34 (λ z wx=> ∃q:Bool,z=.bool q/\Hid (q=decide (rr < 0))/\Hid (Below wr.heap.size wr wx))
         case first=>
          go_region_held3 (λ w'=> Below wr.heap.size wr w'/\∀b o,b < wr.heap.size->w'.cell? ⟨b,o,none⟩=wr.cell? ⟨b,o,none⟩)
           (first | assumption | exact S_of (Below.drew zi) | exact S_step (by assumption) (by assumption))
           (first | ((with_reducible refine (HK.out _ (by first | assumption | exact And.left (by assumption))).mono ?_);rintro e w1 ⟨rfl,aC⟩))
          all_goals
           rename_i hH
           have U:=hid hH.1;clear hH;go_step;go_step;go_meet;exact ⟨_,rfl,rfl,U⟩
         obtain ⟨q,rfl,Hq,U⟩:=hcut;cases q
         . have HR:=hid (D.out l r wc HW Hr (.inr ⟨A,y,ae,(by have:=Hq.out;show 0<=c x.r y.r;rw [am.out];simpa using this)⟩) (I.below U))
           clear D HK ag ah U I cx cy hg Hq i4;have i6:(i:Int)+1<=9223372036854775807:=by omega
           go_wp2;go_roundg (gk - 1)
           case rel=> exact ⟨i+1,k+1,by have:=C.out;omega,by omega,by omega,by go_num,by have:=L.out;have:=C.out;omega,HR⟩
           case measure=> have:=L.out;have:=C.out;omega
         . have au:Hid (cc c x y < 0):=hid (by have:=Hq.out;show c x.r y.r < 0;rw [am.out];simpa using this)
           obtain ⟨d1,d2,d3,d4,d5⟩:=ah.out wc U;have H2:=ag.out wc.drew U.drew;have H3:=hid H2.1;have H4:=hid H2.2;clear H2 D HK ag ah I cx cy hg Hq i4;have i6:(j:Int) - 1=G:=by have:=af.out;omega
           go_wp2;go_region;go_wp2;go_roundw
           case rel=> exact ⟨G,by omega,by have:=af.out;omega,by first | rfl | (congr 1;omega),hid ⟨A,y::r,by rw [HW.out,ae.out];simp,by have h1:=Hl.out;rw [ae.out] at h1;simp at h1;have:=af.out;omega,by
            intro z hz;rcases mem_cons.1 hz with rfl | hz
            . exact au
            . exact Hr.out z hz,by first | exact H3 | exact H4⟩⟩
           case measure=> simp [intOf];omega
       . have ai:l=[]:=length_eq_zero_iff.1 (by have:=Hl.out;omega)
         have hd:decide ((a:Int) < j)=false:=by simp;omega
         have aw:¬ (a:Int) < j:=by omega
         go_upto_region 4 with (fail)
         go_cut [34] from 18 to 34 (λ z wx=> z=.bool false/\Hid (Below wr.heap.size wr wx))
         case first=>
          go_quiet (fail);go_step;go_step;go_meet;exact ⟨rfl,hid (below_drewN _ _)⟩
         obtain ⟨rfl,U⟩:=hcut;have HR:=hid (D.out l r wc HW Hr (.inl ai) (I.below U));clear D I ai U;have i6:(i:Int)+1<=9223372036854775807:=by omega
         go_wp2;go_roundg (gk - 1)
         case rel=> exact ⟨i+1,k+1,by have:=C.out;omega,by omega,by omega,by go_num,by have:=L.out;have:=C.out;omega,HR⟩
         case measure=> have:=L.out;have:=C.out;omega
    . have hR:Hid (R=[]/\X.take k=X):=by
       have h1:X.take k=X:=take_of_length_le (by have:=HL.out;omega);refine hid ⟨?_,h1⟩;have:=congrArg List.length s1;rw [h1,length_append] at this;exact length_eq_zero_iff.1 (by omega)
      clear s1 s2 s3 V Hs;have L:=hid T;have ax:¬ (i:Int) < b:=by omega
      clear T ac;go_wp2;go_end0;exact ⟨rfl,W,ao,by have:=an.out;rwa [hR.2] at this,by have:=I.out;rwa [hR.1,append_nil] at this⟩
def BoolP (P:Prop) (w:World) (e:Ending) (w':World):Prop:=∃b:Bool,e=.returned (.bool b)/\(b=true->P)/\Below w.heap.size w w'
theorem bIns_calls (nm:ByteArray) (ca:Option Addr) (cn cc:Nat) (k2 k3 k4:Value) (l:List Int) (la:Option Addr) (lc:Nat) (w:World) (hl:NosAt w l (qs la l.length lc)):
 Calls Tryz.prog 73 #[.agg #[qt nm,qs ca cn cc,k2,k3,k4],qs la l.length lc] w (BoolP (∀x∈l,0<=x/\x < cn) w):=by
 have L:=hid hl;have hm:l.length<=2000000000000:=by obtain ⟨_,_,e,h⟩:=hl.shape;exact h
 obtain ⟨n,F⟩:=gx l.length
 have I:=hid F;rw [F] at L hm ⊢;clear hl F;have T:=hid (λ o=> (Below.refl w.heap.size w).alloc lr o);have O:=hid (VarIs.new w #[qt nm,qs ca cn cc,k2,k3,k4] 108);go_enter Tryz.func73,Tryz.ntmps73;go_wp2;go_loopw [5] (λ z wr=> ∃k:Nat,k<=n/\z=qi k/\Hid (∀j (h:j < l.length),j < k->0<=l[j]/\l[j] < cn)/\Hid (Below (w.heap.size+1) (w.alloc (.cells #[qt nm,qs ca cn cc,k2,k3,k4] 108)) wr)) (λ z _=> n - (intOf z).toNat)
 case atStart=> exact ⟨0,zero_le _,rfl,λ j _ h=> by omega,zi⟩
 case round=>
  obtain ⟨k,V,rfl,K,D⟩:=hrel;have q:=hid ((T.out _).trans (D.mono (le_succ _)));obtain ⟨U,J,-⟩:=O.below D (lt_succ_self _);by_cases hlt:k < n
  . have C:k < l.length:=by rw [I.out];exact hlt
    have A:=L.mono NoE.mono q;rw [<-I.out] at A;obtain ⟨b,o,rfl,M,c0⟩:=NosAt.cell A k C;have H:Hid (∀x,l[k]=x->(0<=x/\x < cn)->∀j (h:j < l.length),j < k+1->0<=l[j]/\l[j] < cn):=λ x e h j G hjk=> by
     by_cases e2:j=k
     . subst e2;rw [e];exact h
     . exact K.out j G (by omega)
    have c1:=J 1;simp only [q2a] at c1;replace H:=hid (H.out _ rfl);generalize l[k]=x at *;clear A C J;go_wp2;by_cases hx:x < 0
    . go_quiet (fail)
      go_wp2;go_ret;exact ⟨false,rfl,(λ h=> (by cases h)),q.trans ((below_drewN _ _).mono q.size)⟩
    . go_quiet (fail)
      by_cases hc:(cn:Int)<=x
      . go_wp2
        go_ret;exact ⟨false,rfl,(λ h=> (by cases h)),q.trans ((below_drewN _ _).mono q.size)⟩
      . go_wp2
        go_roundw
        case rel=> exact ⟨k+1,by omega,by go_num,H.out ⟨by omega,by omega⟩,D.trans ((below_drewN _ _).mono (by have:=D.size;simp at this;exact this))⟩
        case measure=> simp [intOf];omega
  . obtain rfl:k=n:=by omega
    go_wp2;go_ret;exact ⟨true,rfl,(λ _ x hx=> (by obtain ⟨j,G,rfl⟩:=mem_iff_getElem.1 hx;exact K.out j G (by have:=I.out;omega))),q⟩
theorem bInts_calls (l m:List Int) (la ma:Option Addr) (lc mc:Nat) (w:World) (hl:NosAt w l (qs la l.length lc)) (hm:NosAt w m (qs ma m.length mc)):
 Calls Tryz.prog 130 #[qs la l.length lc,qs ma m.length mc] w (BoolP True w):=by
 have O:=hid hl;have M:=hid hm;have h1:l.length<=2000000000000:=by obtain ⟨_,_,e,h⟩:=hl.shape;exact h
 obtain ⟨n,I⟩:=gx l.length
 obtain ⟨J,q⟩:=gx m.length
 have L:=hid I;have H:=hid q;rw [I] at O h1 ⊢;rw [q] at M ⊢;clear hl hm I q;go_enter Tryz.func130,Tryz.ntmps130;by_cases he:(n:Int)=J
 . obtain rfl:n=J:=by omega
   clear he;go_wp2;go_loopw [5] (λ z wr=> ∃k:Nat,k<=n/\z=qi k/\Hid (Below w.heap.size w wr)) (λ z _=> n - (intOf z).toNat)
   case atStart=> exact ⟨0,zero_le _,rfl,zi⟩
   case round=>
    obtain ⟨k,V,rfl,D⟩:=hrel;by_cases hlt:k < n
    . have G:k < l.length:=by rw [L.out];exact hlt
      have F:k < m.length:=by rw [H.out];exact hlt
      have C:=O.mono NoE.mono D;have A:=M.mono NoE.mono D;rw [<-L.out] at C;rw [<-H.out] at A;obtain ⟨b,o,rfl,T,c0⟩:=NosAt.cell C k G;obtain ⟨b2,U,rfl,K,c2⟩:=NosAt.cell A k F;generalize l[k]=x at *;generalize m[k]=y at *;clear C A G F;go_wp2;go_quiet (fail);by_cases hx:x=y
      . subst hx
        go_wp2;go_roundw
        case rel=> exact ⟨k+1,by omega,by go_num,D.trans ((below_drewN _ _).mono D.size)⟩
        case measure=> simp [intOf];omega
      . go_wp2
        go_ret;exact ⟨false,rfl,(λ h=> (by cases h)),D.trans ((below_drewN _ _).mono D.size)⟩
    . obtain rfl:k=n:=by omega
      go_wp2;go_ret;exact ⟨true,rfl,(λ _=> trivial),D⟩
 . go_wp2
   go_ret;exact ⟨false,rfl,(λ h=> (by cases h)),zi⟩
theorem bTexts_calls (l m:List ByteArray) (la ma:Option Addr) (lc mc:Nat) (w:World) (hl:NmsAt w l (qs la l.length lc)) (hm:NmsAt w m (qs ma m.length mc)):
 Calls Tryz.prog 128 #[qs la l.length lc,qs ma m.length mc] w (BoolP True w):=by
 have U:=hid hl;have T:=hid hm;have h1:l.length<=2000000000000:=by obtain ⟨_,_,e,h⟩:=hl.shape;exact h
 obtain ⟨n,J⟩:=gx l.length
 obtain ⟨K,A⟩:=gx m.length
 have O:=hid J;have I:=hid A;rw [J] at U h1 ⊢;rw [A] at T ⊢;clear hl hm J A;go_enter Tryz.func128,Tryz.ntmps128;by_cases he:(n:Int)=K
 . obtain rfl:n=K:=by omega
   clear he;go_wp2;go_loopw [5] (λ z wr=> ∃k:Nat,k<=n/\z=qi k/\Hid (Below w.heap.size w wr)) (λ z _=> n - (intOf z).toNat)
   case atStart=> exact ⟨0,zero_le _,rfl,zi⟩
   case round=>
    obtain ⟨k,hk,rfl,F⟩:=hrel;by_cases hlt:k < n
    . have H:k < l.length:=by rw [O.out];exact hlt
      have G:k < m.length:=by rw [I.out];exact hlt
      have D:=U.mono NmE.mono F;have C:=T.mono NmE.mono F;rw [<-O.out] at D;rw [<-I.out] at C;obtain ⟨b,o,rfl,V,c0⟩:=NmsAt.cell D k H;obtain ⟨b2,W,rfl,M,c2⟩:=NmsAt.cell C k G;generalize l[k]=x at *;generalize m[k]=y at *;clear D C H G;go_wp2;go_quiet (fail);obtain ⟨q,L⟩:=gx ((x.toList==y.toList))
      rw [L];clear L;cases q with
      | true=>
       go_wp2;go_roundw
       case rel=> exact ⟨k+1,by omega,by go_num,F.trans ((below_drewN _ _).mono F.size)⟩
       case measure=> simp [intOf];omega
      | false=>
       go_wp2;go_ret;exact ⟨false,rfl,(λ h=> (by cases h)),F.trans ((below_drewN _ _).mono F.size)⟩
    . obtain rfl:k=n:=by omega
      go_wp2;go_ret;exact ⟨true,rfl,(λ _=> trivial),F⟩
 . go_wp2
   go_ret;exact ⟨false,rfl,(λ h=> (by cases h)),zi⟩
def FindP (n:Nat) (w:World) (e:Ending) (w':World):Prop:=∃(k:Int) (q:Bool),e=.returned (.tuple #[qi k,.bool q])/\(q=true->0<=k/\k < n)/\Below w.heap.size w w'
theorem bFind_calls (l:List Tb) (la:Option Addr) (lc:Nat) (nm:ByteArray) (w:World) (hl:SchAt w l (qs la l.length lc)):Calls Tryz.prog 118 #[qs la l.length lc,qt nm] w (FindP l.length w):=by
 have G:=hid hl;have h1:l.length<=2000000000000:=by obtain ⟨_,_,e,h⟩:=hl.shape;exact h
 obtain ⟨n,D⟩:=gx l.length
 have F:=hid D;rw [D] at G h1 ⊢;clear hl D;go_enter Tryz.func118,Tryz.ntmps118;go_wp2;go_loopw [6] (λ z wr=> ∃k:Nat,k<=n/\z=qi k/\Hid (Below w.heap.size w wr)) (λ z _=> n - (intOf z).toNat)
 case atStart=> exact ⟨0,zero_le _,rfl,zi⟩
 case round=>
  obtain ⟨k,I,rfl,C⟩:=hrel;by_cases hlt:k < n
  . have A:k < l.length:=by rw [F.out];exact hlt
    have q:=G.mono TbE.mono C;rw [<-F.out] at q;obtain ⟨b,o,_,_,_,_,_,_,_,_,rfl,H,c0,-⟩:=SchAt.cell q k A;generalize l[k].name=x at *;clear q A;go_wp2
    . go_ret2
      exact ⟨k,true,rfl,(λ _=> (by omega)),C⟩
    . go_roundw
      case rel=> exact ⟨k+1,by omega,by go_num,C⟩
      case measure=> simp [intOf];omega
  . obtain rfl:k=n:=by omega
    go_wp2;go_ret2;exact ⟨0,false,rfl,(λ h=> (by cases h)),C⟩
theorem bColn_calls (nm:ByteArray) (l:List Cl) (ca:Option Addr) (cc:Nat) (k2 k3 k4:Value) (nm2:ByteArray) (w:World) (hl:LsAt 6 ClE w l (qs ca l.length cc)):Calls Tryz.prog 86 #[.agg #[qt nm,qs ca l.length cc,k2,k3,k4],qt nm2] w (FindP l.length w):=by
 have H:=hid hl;have h1:l.length<=2000000000000:=by obtain ⟨_,_,e,h⟩:=hl.shape;exact h
 obtain ⟨n,D⟩:=gx l.length
 have G:=hid D;rw [D] at H h1 ⊢;have K:=hid (λ o=> (Below.refl w.heap.size w).alloc lr o);have J:=hid (VarIs.new w #[qt nm,qs ca n cc,k2,k3,k4] 108);clear hl D;go_enter Tryz.func86,Tryz.ntmps86;go_wp2;go_loopw [6] (λ z wr=> ∃k:Nat,k<=n/\z=qi k/\Hid (Below (w.heap.size+1) (w.alloc (.cells #[qt nm,qs ca n cc,k2,k3,k4] 108)) wr)) (λ z _=> n - (intOf z).toNat)
 case atStart=> exact ⟨0,zero_le _,rfl,zi⟩
 case round=>
  obtain ⟨k,L,rfl,F⟩:=hrel;have A:=hid ((K.out _).trans (F.mono (le_succ _)));have c1:=(J.below F (lt_succ_self _)).a1;by_cases hlt:k < n
  . have C:k < l.length:=by rw [G.out];exact hlt
    have q:=H.mono ClE.mono A;rw [<-G.out] at q;obtain ⟨b,o,rfl,I,c0,-⟩:=ClAt.cell q k C;generalize l[k].name=x at *;clear q C;go_wp2
    . go_ret2
      exact ⟨k,true,rfl,(λ _=> (by omega)),A⟩
    . go_roundw
      case rel=> exact ⟨k+1,by omega,by go_num,F⟩
      case measure=> simp [intOf];omega
  . obtain rfl:k=n:=by omega
    go_wp2;go_ret2;exact ⟨0,false,rfl,(λ h=> (by cases h)),A⟩
def arity (op:Int):Int:=if op=1\/op=2 then 0 else if op=3\/op=9\/op=17\/op=20 then 1 else if (4<=op/\op<=8)\/(10<=op/\op<=16)\/op=18\/op=19 then 2 else -1
theorem aArgs_calls (op:Int) (w:World):Calls Tryz.prog 133 #[qi op] w λ e w'=> e=.returned (qi (arity op))/\w'=w:=by
 have key:∀n:Nat,n<=20->op=n->Calls Tryz.prog 133 #[qi op] w λ e w'=> e=.returned (qi (arity op))/\w'=w:=by
  intro n M e;subst e;have:n=0\/n=1\/n=2\/n=3\/n=4\/n=5\/n=6\/n=7\/n=8\/n=9\/n=10\/n=11\/n=12\/n=13\/n=14\/n=15\/n=16\/n=17\/n=18\/n=19\/n=20:=by omega
  rcases this with rfl | rfl | rfl | rfl | rfl | rfl | rfl | rfl | rfl | rfl | rfl | rfl | rfl | rfl | rfl | rfl | rfl | rfl | rfl | rfl | rfl <;>
  . go_enter Tryz.func133,Tryz.ntmps133
    go_wp2;go_ret;exact ⟨rfl,rfl⟩
 by_cases h:0<=op/\op<=20
 . exact key op.toNat (by omega) (by omega)
 . have h1:¬ op=1:=by omega
   have h2:¬ op=2:=by omega
   have h3:¬ op=3:=by omega
   have h4:¬ op=4:=by omega
   have W:¬ op=5:=by omega
   have V:¬ op=6:=by omega
   have U:¬ op=7:=by omega
   have T:¬ op=8:=by omega
   have O:¬ op=9:=by omega
   have L:¬ op=10:=by omega
   have K:¬ op=11:=by omega
   have J:¬ op=12:=by omega
   have I:¬ op=13:=by omega
   have H:¬ op=14:=by omega
   have G:¬ op=15:=by omega
   have F:¬ op=16:=by omega
   have D:¬ op=17:=by omega
   have C:¬ op=18:=by omega
   have A:¬ op=19:=by omega
   have q:¬ op=20:=by omega
   have o:arity op= -1:=by unfold arity;rw [if_neg (by omega),if_neg (by omega),if_neg (by omega)]
   rw [o];clear o h;go_enter Tryz.func133,Tryz.ntmps133;go_wp2;go_ret;exact ⟨rfl,rfl⟩
theorem aNumb_calls (n:Int) (w:World):Calls Tryz.prog 137 #[qi n] w (BoolP (0<=n/\n<=2147483648) w):=by
 by_cases h1:0<=n
 . go_enter Tryz.func137,Tryz.ntmps137
   go_wp2;go_ret;exact ⟨decide (n<=2147483648),rfl,(λ h=> ⟨h1,of_decide_eq_true h⟩),zi⟩
 . go_enter Tryz.func137,Tryz.ntmps137
   go_wp2;go_ret;exact ⟨false,rfl,(λ h=> (by cases h)),zi⟩
theorem aText_calls (s:ByteArray) (w:World) (hs:s.size<=2000000000000):Calls Tryz.prog 150 #[qt s] w (BoolP (s.size<=16) w):=by
 go_enter Tryz.func150,Tryz.ntmps150;go_wp2;go_loopw [3] (λ z wr=> ∃k:Nat,k<=s.size/\z=qi k/\Hid (Below w.heap.size w wr)) (λ z _=> s.size - (intOf z).toNat)
 case atStart=> exact ⟨0,zero_le _,rfl,zi⟩
 case round=>
  obtain ⟨k,A,rfl,o⟩:=hrel;by_cases hlt:k < s.size
  . go_upto_region 4 with (fail)
    go_cut [19] from 10 to 19 (λ z wx=> ∃q:Bool,z=.bool q/\wr=wx)
    case first=>
     go_wp2 <;> (go_meet;exact ⟨_,rfl,rfl⟩)
    obtain ⟨q,rfl,rfl⟩:=hcut;cases q with
    | true=>
     go_wp2;go_ret;exact ⟨false,rfl,(λ h=> (by cases h)),o⟩
    | false=>
     go_wp2;go_roundw
     case rel=> exact ⟨k+1,by omega,by go_num,o⟩
     case measure=> simp [intOf];omega
  . obtain rfl:k=s.size:=by omega
    go_wp2;go_ret;exact ⟨decide ((s.size:Int)<=16),rfl,(λ h=> by have:=of_decide_eq_true h;omega),o⟩
def minV (m:Vl) (l:Rw):Vl:=l.foldl (λ m v=> if cmpV v m < 0 then v else m) m
theorem minFunc_calls (m:Vl) (L:Rw) (s:Value) (w:World) (hs:ValsAt w (m::L) s):
 Calls Tryz.prog 46 #[s,.func (.func 40) #[] #[]] w λ e w'=> e=.returned (.agg #[qi (minV m L).kind,qi (minV m L).int,qt (minV m L).text])/\Below w.heap.size w w':=by
 obtain ⟨a,n,c,rfl,hn,hm⟩:=hs.shape;have HS:=hid hs;have Hn:=hid hn;have am:n<=9223372036854775807:=by unfold maxLen at hm;omega
 have ah:0 < n:=by rw [hn];simp
 obtain ⟨b,o,rfl⟩:=hs.has 0 ah;obtain ⟨c0,c1,c2⟩:=hs.cell 0 (by simp);rw [zero_mul,add_zero] at c0 c1 c2;have A:=hs.lt (i:=0) (by simp);simp only [getElem_cons_zero] at c0 c1 c2;clear hs hn hm;go_enter Tryz.func46,Tryz.ntmps46;go_wp2;have V4:=(VarIs.new w q0c 35).alloc (.cells #[qi m.kind,qi m.int,qt m.text] 35);have V5:=VarIs.new1 w (.cells q0c 35) #[qi m.kind,qi m.int,qt m.text] 35;have ab:Below w.heap.size w ((w.alloc (.cells q0c 35)).alloc (.cells #[qi m.kind,qi m.int,qt m.text] 35)):=(zi.alloc lr _).alloc (by simp) _;generalize (w.alloc (.cells q0c 35)).alloc (.cells #[qi m.kind,qi m.int,qt m.text] 35)=W0 at *;obtain ⟨B,hB⟩:=gx w.heap.size
 have HB:=hid hB;rw [hB] at V4 V5 ab ⊢;have I:=hid V4;have C:=hid V5;have ae:=hid ab;clear V4 V5 ab c0 c1 c2 A hB;go_loopg [6] (n - 1) (λ g z wr=> ∃(k:Nat) (x:Vl),z=qi k/\g+k=n/\1<=k/\Hid (minV m L=minV x (L.drop (k - 1)))/\Hid (Below B w wr/\VarIs wr B q0c/\VarIs wr (B+1) #[qi x.kind,qi x.int,qt x.text]))
 case atStart=> exact ⟨1,m,rfl,by omega,lr,rfl,ae,I,C⟩
 case round=>
  clear I C ae;obtain ⟨k,x,rfl,aa,an,Hx,Hw⟩:=hrel;obtain ⟨O,⟨v1,V,U⟩,⟨u1,u2,u3⟩⟩:=Hw.out;by_cases hkn:k < n
  . have M:k < (m::L).length:=by rw [<-Hn.out];exact hkn
    have W:=HS.mono (HB.out ▸ O);obtain ⟨c0,c1,c2⟩:=W.cell k M;have A:=W.lt M;have ak:(k:Int) < n:=by omega
    have HC:=hid (λ w'=> cmpV_calls (m::L)[k] x w');have hd:L.drop (k - 1)=(m::L)[k]::L.drop k:=by
     obtain ⟨k',rfl⟩:∃k',k=k'+1:=⟨k - 1,by omega⟩
     exact drop_eq_getElem_cons (by simpa using M)
    have D:minV x (L.drop (k - 1))=minV (if cmpV (m::L)[k] x < 0 then (m::L)[k] else x) (L.drop k):=by rw [hd];rfl
    have F:=hid D;have T:=hid aa;have aj:=hid O;clear hd D aa W O;generalize (m::L)[k]=y at *;have e0:=u2 0;have e1:=u2 1;have e2:=u2 2;simp only [q2a] at e0 e1 e2;clear M;go_upto_region 7 with (fail)
    go_cut [27] (λ z wx=> z=.bool (decide (cmpV y x < 0))/\Hid (Below wr.heap.size wr wx))
    case first=>
     go_region_held3 (λ w'=> Below wr.heap.size wr w'/\∀b o,b < wr.heap.size->w'.cell? ⟨b,o,none⟩=wr.cell? ⟨b,o,none⟩)
      (first | assumption | exact S_of (Below.drew zi) | exact S_step (by assumption) (by assumption))
      (first | (go_at_call 40;(with_reducible refine (HC.out _).mono ?_);rintro e w1 ⟨rfl,ao⟩))
     rename_i hH
     have H:=hid hH.1;clear hH;go_step;go_step;go_meet;exact ⟨rfl,H⟩
    obtain ⟨rfl,Hc⟩:=hcut;have q:=Hc.out;have ag:=hid (aj.trans (q.mono (le_of_lt v1)));have I:Hid (VarIs wc B q0c):=VarIs.below ⟨v1,V,U⟩ q v1;have C:Hid (VarIs wc (B+1) #[qi x.kind,qi x.int,qt x.text]):=VarIs.below ⟨u1,u2,u3⟩ q u1;replace c0:=(q.cell (p:=⟨b,o+k * 3,none⟩) A).trans c0;replace c1:=(q.cell (p:=⟨b,o+k * 3+1,none⟩) A).trans c1;replace c2:=(q.cell (p:=⟨b,o+k * 3+2,none⟩) A).trans c2;replace A:=lt_of_lt_of_le A q.size;clear q Hc e0 e1 e2 v1 V U u1 u2 u3 HC Hw;by_cases hlv:cmpV y x < 0
    . have ai:decide (cmpV y x < 0)=true:=by simp [hlv]
      obtain ⟨al,K,J⟩:=C.out;have f0:=K 0;have f1:=K 1;have f2:=K 2;have g0:=J 0;have g1:=J 1;have g2:=J 2;simp only [q2a] at f0 f1 f2;clear K J;have ac:Hid (minV m L=minV y (L.drop k)):=by show _=_;rw [Hx.out,F.out,if_pos hlv]
      have G:Hid (VarIs (((wc.setCell ⟨B+1,0,none⟩ (qi y.kind)).setCell ⟨B+1,1,none⟩ (qi y.int)).setCell ⟨B+1,2,none⟩ (qt y.text)) B q0c):=((I.setOther (by omega) 0 _).setOther (by omega) 1 _).setOther (by omega) 2 _;have af:Hid (VarIs (((wc.setCell ⟨B+1,0,none⟩ (qi y.kind)).setCell ⟨B+1,1,none⟩ (qi y.int)).setCell ⟨B+1,2,none⟩ (qt y.text)) (B+1) #[qi y.kind,qi y.int,qt y.text]):=((C.set 0 (by simp) _).set 1 (by simp) _).set 2 (by simp) _;have ad:Hid (Below B w (((wc.setCell ⟨B+1,0,none⟩ (qi y.kind)).setCell ⟨B+1,1,none⟩ (qi y.int)).setCell ⟨B+1,2,none⟩ (qt y.text))):=((ag.setCell (le_succ B) _).setCell (le_succ B) _).setCell (le_succ B) _;go_wp2;go_roundg (gk - 1)
      case rel=> exact ⟨k+1,y,by go_num,by have:=T.out;omega,by omega,ac,ad,G,af⟩
      case measure=> have:=T.out;omega
    . have ai:decide (cmpV y x < 0)=false:=by simp [hlv]
      have ac:Hid (minV m L=minV x (L.drop k)):=by show _=_;rw [Hx.out,F.out,if_neg hlv]
      go_wp2;go_roundg (gk - 1)
      case rel=> exact ⟨k+1,x,by go_num,by have:=T.out;omega,by omega,ac,ag,I,C⟩
      case measure=> have:=T.out;omega
  . obtain rfl:k=n:=by omega
    have hR:Hid (minV m L=x):=by show _=_;rw [Hx.out,drop_of_length_le (by have:=Hn.out;simp only [length_cons] at this;omega)];rfl
    have e0:=u2 0;have e1:=u2 1;have e2:=u2 2;have f0:=V 0;have f1:=V 1;have f2:=V 2;have g0:=U 0;have g1:=U 1;have g2:=U 2;simp only [q2a] at e0 e1 e2 f0 f1 f2;have G:Hid (VarIs (((wr.setCell ⟨B,0,none⟩ (qi x.kind)).setCell ⟨B,1,none⟩ (qi x.int)).setCell ⟨B,2,none⟩ (qt x.text)) B #[qi x.kind,qi x.int,qt x.text]):=(((⟨v1,V,U⟩:VarIs wr B _).set 0 (by simp) _).set 1 (by simp) _).set 2 (by simp) _;have ad:Hid (Below B w (((wr.setCell ⟨B,0,none⟩ (qi x.kind)).setCell ⟨B,1,none⟩ (qi x.int)).setCell ⟨B,2,none⟩ (qt x.text))):=((O.setCell (le_refl B) _).setCell (le_refl B) _).setCell (le_refl B) _;clear V U u2 u3 aa hkn;go_wp2;obtain ⟨-,r2,-⟩:=G.out;have r0:=r2 0;have r1:=r2 1;have r3:=r2 2;simp only [q2a] at r0 r1 r3;refine bodyPost_ret (v:=.agg #[qi x.kind,qi x.int,qt x.text]) (by simp [results,Tryz.results46,go_sem,r0,r1,r3]) rfl ?_;exact ⟨by rw [hR.out],by rw [HB.out];exact ad⟩
def maxV (m:Vl) (l:Rw):Vl:=l.foldl (λ m v=> if 0 < cmpV v m then v else m) m
theorem maxFunc_calls (m:Vl) (L:Rw) (s:Value) (w:World) (hs:ValsAt w (m::L) s):
 Calls Tryz.prog 47 #[s,.func (.func 40) #[] #[]] w λ e w'=> e=.returned (.agg #[qi (maxV m L).kind,qi (maxV m L).int,qt (maxV m L).text])/\Below w.heap.size w w':=by
 obtain ⟨a,n,c,rfl,hn,hm⟩:=hs.shape;have HS:=hid hs;have Hn:=hid hn;have am:n<=9223372036854775807:=by unfold maxLen at hm;omega
 have ah:0 < n:=by rw [hn];simp
 obtain ⟨b,o,rfl⟩:=hs.has 0 ah;obtain ⟨c0,c1,c2⟩:=hs.cell 0 (by simp);rw [zero_mul,add_zero] at c0 c1 c2;have A:=hs.lt (i:=0) (by simp);simp only [getElem_cons_zero] at c0 c1 c2;clear hs hn hm;go_enter Tryz.func47,Tryz.ntmps47;go_wp2;have V4:=(VarIs.new w q0c 35).alloc (.cells #[qi m.kind,qi m.int,qt m.text] 35);have V5:=VarIs.new1 w (.cells q0c 35) #[qi m.kind,qi m.int,qt m.text] 35;have ab:Below w.heap.size w ((w.alloc (.cells q0c 35)).alloc (.cells #[qi m.kind,qi m.int,qt m.text] 35)):=(zi.alloc lr _).alloc (by simp) _;generalize (w.alloc (.cells q0c 35)).alloc (.cells #[qi m.kind,qi m.int,qt m.text] 35)=W0 at *;obtain ⟨B,hB⟩:=gx w.heap.size
 have HB:=hid hB;rw [hB] at V4 V5 ab ⊢;have I:=hid V4;have C:=hid V5;have ae:=hid ab;clear V4 V5 ab c0 c1 c2 A hB;go_loopg [6] (n - 1) (λ g z wr=> ∃(k:Nat) (x:Vl),z=qi k/\g+k=n/\1<=k/\Hid (maxV m L=maxV x (L.drop (k - 1)))/\Hid (Below B w wr/\VarIs wr B q0c/\VarIs wr (B+1) #[qi x.kind,qi x.int,qt x.text]))
 case atStart=> exact ⟨1,m,rfl,by omega,lr,rfl,ae,I,C⟩
 case round=>
  clear I C ae;obtain ⟨k,x,rfl,aa,an,Hx,Hw⟩:=hrel;obtain ⟨O,⟨v1,V,U⟩,⟨u1,u2,u3⟩⟩:=Hw.out;by_cases hkn:k < n
  . have M:k < (m::L).length:=by rw [<-Hn.out];exact hkn
    have W:=HS.mono (HB.out ▸ O);obtain ⟨c0,c1,c2⟩:=W.cell k M;have A:=W.lt M;have ak:(k:Int) < n:=by omega
    have HC:=hid (λ w'=> cmpV_calls (m::L)[k] x w');have hd:L.drop (k - 1)=(m::L)[k]::L.drop k:=by
     obtain ⟨k',rfl⟩:∃k',k=k'+1:=⟨k - 1,by omega⟩
     exact drop_eq_getElem_cons (by simpa using M)
    have D:maxV x (L.drop (k - 1))=maxV (if 0 < cmpV (m::L)[k] x then (m::L)[k] else x) (L.drop k):=by rw [hd];rfl
    have F:=hid D;have T:=hid aa;have aj:=hid O;clear hd D aa W O;generalize (m::L)[k]=y at *;have e0:=u2 0;have e1:=u2 1;have e2:=u2 2;simp only [q2a] at e0 e1 e2;clear M;go_upto_region 7 with (fail)
    go_cut [27] (λ z wx=> z=.bool (decide (0 < cmpV y x))/\Hid (Below wr.heap.size wr wx))
    case first=>
     go_region_held3 (λ w'=> Below wr.heap.size wr w'/\∀b o,b < wr.heap.size->w'.cell? ⟨b,o,none⟩=wr.cell? ⟨b,o,none⟩)
      (first | assumption | exact S_of (Below.drew zi) | exact S_step (by assumption) (by assumption))
      (first | (go_at_call 40;(with_reducible refine (HC.out _).mono ?_);rintro e w1 ⟨rfl,ao⟩))
     rename_i hH
     have H:=hid hH.1;clear hH;go_step;go_step;go_meet;exact ⟨rfl,H⟩
    obtain ⟨rfl,Hc⟩:=hcut;have q:=Hc.out;have ag:=hid (aj.trans (q.mono (le_of_lt v1)));have I:Hid (VarIs wc B q0c):=VarIs.below ⟨v1,V,U⟩ q v1;have C:Hid (VarIs wc (B+1) #[qi x.kind,qi x.int,qt x.text]):=VarIs.below ⟨u1,u2,u3⟩ q u1;replace c0:=(q.cell (p:=⟨b,o+k * 3,none⟩) A).trans c0;replace c1:=(q.cell (p:=⟨b,o+k * 3+1,none⟩) A).trans c1;replace c2:=(q.cell (p:=⟨b,o+k * 3+2,none⟩) A).trans c2;replace A:=lt_of_lt_of_le A q.size;clear q Hc e0 e1 e2 v1 V U u1 u2 u3 HC Hw;by_cases hlv:0 < cmpV y x
    . have ai:decide (0 < cmpV y x)=true:=by simp [hlv]
      obtain ⟨al,K,J⟩:=C.out;have f0:=K 0;have f1:=K 1;have f2:=K 2;have g0:=J 0;have g1:=J 1;have g2:=J 2;simp only [q2a] at f0 f1 f2;clear K J;have ac:Hid (maxV m L=maxV y (L.drop k)):=by show _=_;rw [Hx.out,F.out,if_pos hlv]
      have G:Hid (VarIs (((wc.setCell ⟨B+1,0,none⟩ (qi y.kind)).setCell ⟨B+1,1,none⟩ (qi y.int)).setCell ⟨B+1,2,none⟩ (qt y.text)) B q0c):=((I.setOther (by omega) 0 _).setOther (by omega) 1 _).setOther (by omega) 2 _;have af:Hid (VarIs (((wc.setCell ⟨B+1,0,none⟩ (qi y.kind)).setCell ⟨B+1,1,none⟩ (qi y.int)).setCell ⟨B+1,2,none⟩ (qt y.text)) (B+1) #[qi y.kind,qi y.int,qt y.text]):=((C.set 0 (by simp) _).set 1 (by simp) _).set 2 (by simp) _;have ad:Hid (Below B w (((wc.setCell ⟨B+1,0,none⟩ (qi y.kind)).setCell ⟨B+1,1,none⟩ (qi y.int)).setCell ⟨B+1,2,none⟩ (qt y.text))):=((ag.setCell (le_succ B) _).setCell (le_succ B) _).setCell (le_succ B) _;go_wp2;go_roundg (gk - 1)
      case rel=> exact ⟨k+1,y,by go_num,by have:=T.out;omega,by omega,ac,ad,G,af⟩
      case measure=> have:=T.out;omega
    . have ai:decide (0 < cmpV y x)=false:=by simp [hlv]
      have ac:Hid (maxV m L=maxV x (L.drop k)):=by show _=_;rw [Hx.out,F.out,if_neg hlv]
      go_wp2;go_roundg (gk - 1)
      case rel=> exact ⟨k+1,x,by go_num,by have:=T.out;omega,by omega,ac,ag,I,C⟩
      case measure=> have:=T.out;omega
  . obtain rfl:k=n:=by omega
    have hR:Hid (maxV m L=x):=by show _=_;rw [Hx.out,drop_of_length_le (by have:=Hn.out;simp only [length_cons] at this;omega)];rfl
    have e0:=u2 0;have e1:=u2 1;have e2:=u2 2;have f0:=V 0;have f1:=V 1;have f2:=V 2;have g0:=U 0;have g1:=U 1;have g2:=U 2;simp only [q2a] at e0 e1 e2 f0 f1 f2;have G:Hid (VarIs (((wr.setCell ⟨B,0,none⟩ (qi x.kind)).setCell ⟨B,1,none⟩ (qi x.int)).setCell ⟨B,2,none⟩ (qt x.text)) B #[qi x.kind,qi x.int,qt x.text]):=(((⟨v1,V,U⟩:VarIs wr B _).set 0 (by simp) _).set 1 (by simp) _).set 2 (by simp) _;have ad:Hid (Below B w (((wr.setCell ⟨B,0,none⟩ (qi x.kind)).setCell ⟨B,1,none⟩ (qi x.int)).setCell ⟨B,2,none⟩ (qt x.text))):=((O.setCell (le_refl B) _).setCell (le_refl B) _).setCell (le_refl B) _;clear V U u2 u3 aa hkn;go_wp2;obtain ⟨-,r2,-⟩:=G.out;have r0:=r2 0;have r1:=r2 1;have r3:=r2 2;simp only [q2a] at r0 r1 r3;refine bodyPost_ret (v:=.agg #[qi x.kind,qi x.int,qt x.text]) (by simp [results,Tryz.results47,go_sem,r0,r1,r3]) rfl ?_;exact ⟨by rw [hR.out],by rw [HB.out];exact ad⟩
end
end Go.Proofs.YtcomoomndgbckaaGreat
