/- Part 12 of the proof: Gf, Gg, Gh, Gi -/
import Derived.Test.YtnefkkidfhmggaaGreatW11
import Derived.Deep.QuietTactic
import Derived.BigQuiet
set_option maxHeartbeats 16000000
set_option maxRecDepth 100000
namespace Go.Proofs.YtnefkkidfhmggaaGreat
open Go Go.RowKit
noncomputable section
structure SrB (c:Rw->Rw->Int) (y:Ri) (X:List Ri) (i j:Nat):Prop where
 lo:∀x∈X.take i,¬ cc c y x < 0
 hi:∀x∈X.drop j,cc c y x < 0
theorem SrB.up {c:Rw->Rw->Int} (hc:Ord3 (cc c)) {y:Ri} {X:List Ri} {i j h:Nat} (s:SrB c y X i j) (ha:AscC (cc c) X) (hh:h < X.length) (hl:¬ cc c y X[h] < 0):SrB c y X (h+1) j:=by
 refine ⟨λ x hx h2=> hl ?_,s.hi⟩;rw [List.take_succ_eq_append_getElem hh] at hx;rcases List.mem_append.1 hx with hx | hx
 · have:AscC (cc c) (X.take h++X[h]::X.drop (h+1)):=by rwa [<-List.drop_eq_getElem_cons hh,List.take_append_drop]
   exact hc.lt_le h2 (this.cross x hx X[h] (List.mem_cons_self ..))
 · rw [List.mem_singleton.1 hx] at h2;exact h2
theorem SrB.dn {c:Rw->Rw->Int} (hc:Ord3 (cc c)) {y:Ri} {X:List Ri} {i j h:Nat} (s:SrB c y X i j) (ha:AscC (cc c) X) (hh:h < X.length) (hl:cc c y X[h] < 0):SrB c y X i h:=by
 refine ⟨s.lo,λ x hx=> ?_⟩;rw [List.drop_eq_getElem_cons hh] at hx;rcases List.mem_cons.1 hx with rfl | hx
 · exact hl
 · have:AscC (cc c) (X.take h++(X[h]::X.drop (h+1))):=by rwa [<-List.drop_eq_getElem_cons hh,List.take_append_drop]
   exact hc.lt_le hl ((List.pairwise_cons.1 this.right).1 x hx)
theorem SrB.done {c:Rw->Rw->Int} (hc:Ord3 (cc c)) {y:Ri} {X:List Ri} {i:Nat} (s:SrB c y X i i) (ha:AscC (cc c) X):AscC (cc c) (X.take i++[y]++X.drop i)/\StEq (cc c) (X++[y]) (X.take i++[y]++X.drop i):=by
 have h:AscC (cc c) (X.take i++X.drop i):=by rwa [List.take_append_drop]
 refine ⟨(h.left.app (List.pairwise_singleton _ _) λ a ha b hb=> ?_).app h.right λ a ha b hb=> ?_,?_⟩
 · rw [List.mem_singleton.1 hb];exact hc.le (s.lo a ha)
 · rcases List.mem_append.1 ha with ha | ha
   · exact h.cross a ha b hb
   · rw [List.mem_singleton.1 ha];have:=s.hi b hb;omega
 · have h1:StEq (cc c) (X.drop i++[y]) ([y]++X.drop i):=StEq.swap hc λ a ha b hb=> by rw [List.mem_singleton.1 hb];exact s.hi a ha
   have:=(StEq.refl (c:=cc c) (X.take i)).app h1
   rwa [<-List.append_assoc,List.take_append_drop,<-List.append_assoc] at this
theorem symB_calls (K:FuncId) (cap:Array Value) (c:Rw->Rw->Int) (d0:List Ri) (w0:World) (B g n cp:Nat) (P X S:List Ri) (y:Ri) (w:World) (a m b:Nat) (hp:P.length=a) (hm:a+X.length=m) (hb:m+1=b) (hX2:2<=X.length)
 (hC:CmpOk K cap c d0 w0 g) (hmem:∀x∈y::X,x∈d0) (hX:AscC (cc c) X) (hA:Arr w0 B g n cp (P++X++[y]++S) w) (hmx:n<=1099511627776):
 Calls Tryz.prog 113 #[.slice (some ⟨g,0,none⟩) n cp, .int .i64 a, .int .i64 m, .int .i64 b, .func (.func K) #[] cap] w λ e w'=> e=.returned (.tuple #[])/\∃Z,AscC (cc c) Z/\StEq (cc c) (X++[y]) Z/\Arr w0 B g n cp (P++Z++S) w':=by
 have hlen:=hA.len;simp only [List.length_append,List.length_cons,List.length_nil] at hlen;have b1:b<=n:=by omega
 have b2:m<=b:=by omega
 have b3:a < m:=by omega
 have b4:m < n:=by omega
 have ht:((m:Int) - a==1)=false:=by simp;omega
 have ht2:((b:Int) - m==1)=true:=by simp;omega
 have HL:=Lib.hid (show P.length=a/\a+X.length=m/\m+1=b from ⟨hp,hm,hb⟩);have HA:=Lib.hid hA;have HC:=Lib.hid hC;have HX:=Lib.hid hX;have HMem:=Lib.hid hmem;have eg:=hC.enter;clear hA hlen hp hm hb hC hmem hX hX2;go_enter Tryz.func113,Tryz.ntmps113;go_wp2;go_loopw [14,15] (λ z10 z11 wr=> ∃i j:Nat,a<=i/\i<=j/\j<=m/\z10=.int .i64 i/\z11=.int .i64 j/\Hid (SrB c y X (i - a) (j - a))/\Hid (Arr w0 B g n cp (P++X++[y]++S) wr)) (λ z10 z11 _=> (intOf z11).toNat - (intOf z10).toNat)
 case atStart=> exact ⟨a,m,Nat.le_refl _,by omega,Nat.le_refl _,rfl,rfl,⟨by simp,by rw [List.drop_of_length_le (by have:=HL.out;omega)];simp⟩,HA⟩
 case round=>
  obtain ⟨i,j,hmi,hij,hjb,rfl,rfl,Hs,H⟩:=hrel;by_cases hlt:i < j
  · obtain ⟨h,hh⟩:∃h:Nat,h=(i+j) / 2:=⟨_,rfl⟩
    have hh1:i<=h:=by omega
    have hh2:h < j:=by omega
    have hk:h - a < X.length:=by have:=HL.out;omega
    have hget:(P++X++[y]++S)[h]? =some X[h - a]:=by have:=mid_get (P:=P) (u:=X) (S:=[y]++S) hk;rw [HL.out.1,show a+(h - a)=h by omega] at this;rw [List.append_assoc (P++X)];exact this
    have hgx:(P++X++[y]++S)[m]? =some y:=by have:=mid_get (P:=P++X) (u:=[y]) (S:=S) (i:=0) (by simp);rw [Nat.add_zero,List.length_append,HL.out.1,HL.out.2.1] at this;exact this
    obtain ⟨cx,cx'⟩:=H.out.cell hget;obtain ⟨cy,cy'⟩:=H.out.cell hgx;have hg:=H.out.lt;have hup:=λ hl=> Hs.out.up HC.out.ord HX.out hk (j:=j - a) hl;have hdn:=λ hl=> Hs.out.dn HC.out.ord HX.out hk (i:=i - a) hl;have HU:=Lib.hid (show (¬ cc c y X[h - a] < 0->SrB c y X (h+1 - a) (j - a))/\(cc c y X[h - a] < 0->SrB c y X (i - a) (h - a)) from ⟨λ hl=> by have:=hup hl;rwa [show h - a+1=h+1 - a by omega] at this,hdn⟩);have HK:=Lib.hid (λ w' (hb:Below wr.heap.size wr w')=> HC.out.call y (HMem.out _ (List.mem_cons_self ..)) X[h - a] (HMem.out _ (List.mem_cons_of_mem _ (List.getElem_mem _))) w' (grownBy_bel H.out.gr hb));clear hup hdn hget hgx;unfold cc at HU;generalize X[h - a]=x at *;generalize c y.r x.r=r at *;clear hk;have Hh:=Lib.hid hh;have i1:(0:Int)<=h:=by omega
    have i2:(h:Int) < n:=by omega
    have i3:(0:Int)<=m:=by omega
    have i4:(m:Int) < n:=by omega
    clear hh;go_upto_region 16 with (fail)
    go_cut [16] (λ z wx=> z=.int .i64 h/\wx=wr)
    case first=>
     go_wp2_with fail;go_meet;exact ⟨by have:=Hh.out;congr 1;omega,rfl⟩
    obtain ⟨rfl,rfl⟩:=hcut;go_upto_region 17 with (fail)
    go_cut [103] (λ z wx=> ∃q:Bool,z=.bool q/\Hid (q=!decide (r < 0))/\Hid (Below wc.heap.size wc wx))
    case first=>
     go_region_held3 (λ w'=> Below wc.heap.size wc w'/\∀b o,b < wc.heap.size->w'.cell? ⟨b,o,none⟩=wc.cell? ⟨b,o,none⟩)
      (first | assumption | exact S_of (Below.drew (Below.refl _ _)) | exact S_step (by assumption) (by assumption))
      (first | ((with_reducible refine (HK.out _ (by first | assumption | exact And.left (by assumption))).mono ?_);rintro e w1 ⟨rfl,hb1⟩))
     all_goals
      rename_i hH
      have Hb:=Lib.hid hH.1;clear hH;go_step;go_step;go_meet;exact ⟨_,rfl,rfl,Hb⟩
    obtain ⟨q,rfl,Hq,Hb⟩:=hcut;have HA1:=Lib.hid (H.out.below Hb.out);clear cy cx hg HK H Hb cy' cx';cases q
    · have hr:r < 0:=by simpa using Hq.out
      have Hs1:=Lib.hid (HU.out.2 hr);clear HU Hq hr Hs;go_wp2;go_roundw
      case rel=> exact ⟨i,h,hmi,hh1,by omega,rfl,rfl,Hs1,HA1⟩
      case measure=> simp [intOf];omega
    · have hr:¬ r < 0:=by simpa using Hq.out
      have Hs1:=Lib.hid (HU.out.1 hr);clear HU Hq hr Hs;go_wp2;go_roundw
      case rel=> exact ⟨h+1,j,by omega,by omega,hjb,by go_num,rfl,Hs1,HA1⟩
      case measure=> simp [intOf];omega
  · obtain rfl:i=j:=by omega
    obtain ⟨hs1,hs2⟩:=Hs.out.done HC.out.ord HX.out;have HZ:=Lib.hid hs1;have HE:=Lib.hid hs2;have HL2:=Lib.hid (show (P++X.take (i - a)).length=i/\(X.drop (i - a)).length=m - i by rw [List.length_append,List.length_take,Nat.min_eq_left (by have:=HL.out;omega),List.length_drop];have:=HL.out;omega);have HA1:Hid (Arr w0 B g n cp ((P++X.take (i - a))++X.drop (i - a)++[y]++S) wr):=by have:=H.out;rw [<-List.take_append_drop (i - a) X] at this;exact Lib.hid (by simpa only [List.append_assoc] using this)
    generalize X.take (i - a)=X1 at *;generalize X.drop (i - a)=X2 at *;clear hs1 hs2 Hs H HA HC HMem HX hlt hij;go_wp2;go_loopw [17] (λ z wr=> ∃k t:Nat,k=i+t/\k<=m/\z=.int .i64 k/\Hid (Arr w0 B g n cp ((P++X1)++X2.take t++[y]++X2.drop t++S) wr)) (λ z _=> (intOf z).toNat - i)
    case atStart=> exact ⟨m,m - i,by omega,Nat.le_refl _,rfl,Lib.hid (by rw [List.take_of_length_le (by rw [HL2.out.2];exact Nat.le_refl _),List.drop_of_length_le (by rw [HL2.out.2];exact Nat.le_refl _)];simpa using HA1.out)⟩
    case round=>
     clear HA1;obtain ⟨k,t,hkt,hkm,rfl,H⟩:=hrel;by_cases hlt:0 < t
     · obtain ⟨t',rfl⟩:∃t',t=t'+1:=⟨t - 1,by omega⟩
       have ht1:t' < X2.length:=by rw [HL2.out.2];omega
       obtain ⟨x,hy⟩:∃x,X2[t']=x:=⟨_,rfl⟩
       have e0:X2.drop t'=x::X2.drop (t'+1):=by rw [List.drop_eq_getElem_cons ht1,hy]
       have e1:X2.take (t'+1)=X2.take t'++[x]:=by rw [List.take_succ_eq_append_getElem ht1,hy]
       have eq0:(P++X1)++X2.take (t'+1)++[y]++X2.drop (t'+1)++S=(P++X1++X2.take t')++x::[]++y::(X2.drop (t'+1)++S):=by rw [e1];simp only [List.append_assoc,List.cons_append,List.nil_append]
       have hA:=H.out;rw [eq0] at hA;obtain ⟨k',rfl⟩:∃k',k=k'+1:=⟨k - 1,by omega⟩
       have lP:(P++X1++X2.take t').length=k':=by rw [List.length_append,List.length_take,HL2.out.1,HL2.out.2,Nat.min_eq_left (by omega)];omega
       have hs:=swp_at (P:=P++X1++X2.take t') (Q:=[]) (S:=X2.drop (t'+1)++S) (x:=x) (y:=y);rw [lP,List.length_nil,Nat.add_zero] at hs;have hx:((P++X1++X2.take t')++x::[]++y::(X2.drop (t'+1)++S))[k']? =some x:=by rw [List.append_assoc,List.getElem?_append_right (by rw [lP];exact Nat.le_refl _),lP];simp
       have hyy:((P++X1++X2.take t')++x::[]++y::(X2.drop (t'+1)++S))[k'+1]? =some y:=by rw [List.append_assoc,List.getElem?_append_right (by rw [lP];omega),lP];simp
       have hA2:=hA.drew.swap hx hyy;have hA3:=hA.drew.swap hyy hx;rw [swp_comm] at hA3;rw [hs] at hA2 hA3;have e2:(P++X1)++X2.take t'++[y]++X2.drop t'++S=(P++X1++X2.take t')++y::[]++x::(X2.drop (t'+1)++S):=by rw [e0];simp only [List.append_assoc,List.cons_append,List.nil_append]
       rw [<-e2] at hA2 hA3;have H2:=Lib.hid hA2;have H3:=Lib.hid hA3;obtain ⟨cx,cx'⟩:=hA.cell hx;obtain ⟨cy,cy'⟩:=hA.cell hyy;have fx:=hA.free (k' * 2);have fx':=hA.free (k' * 2+1);have fy:=hA.free ((k'+1) * 2);have fy':=hA.free ((k'+1) * 2+1);have hg:=hA.lt;have hki:(i:Int) < (k'+1:Nat):=by omega
       have hkn:(k':Int)+1 < n:=by omega
       clear hA hA2 hA3 e2 e1 e0 eq0 hx hyy hs lP hy ht1 H;have Hkt:=Lib.hid hkt;clear hkt;go_wp2;go_region;go_wp2;go_roundw
       case rel=> exact ⟨k',t',by have:=Hkt.out;omega,by omega,by go_num,by first | exact H2 | exact H3⟩
       case measure=> simp [intOf];omega
     · obtain rfl:t=0:=by omega
       obtain rfl:k=i:=by omega
       clear hkt;go_wp2;refine bodyPost_ret (v:=.tuple #[]) (results_none rfl _ _ _) rfl ?_;refine ⟨rfl,_,HZ.out,HE.out,?_⟩;have:=H.out;rw [List.take_zero,List.drop_zero] at this;simpa only [List.append_assoc,List.append_nil,List.nil_append] using this
structure SrC (c:Rw->Rw->Int) (X Y:List Ri) (k i j:Nat):Prop where
 lo:i=0\/Y.length<=k - i\/∃x y,1<=i/\X[i - 1]? =some x/\Y[k - i]? =some y/\¬ cc c y x < 0
 hi:X.length<=j\/k<=j\/∃x y,X[j]? =some x/\Y[k - (j+1)]? =some y/\j+1<=k/\cc c y x < 0
theorem asc_last {c:Ri->Ri->Int} {l:List Ri} (h:AscC c l) {i j:Nat} {x y:Ri} (hx:l[i]? =some x) (hy:l[j]? =some y) (hij:i<=j) (hc:Ord3 c):c x y<=0:=by
 obtain ⟨h1,rfl⟩:=List.getElem?_eq_some_iff.1 hx;obtain ⟨h2,rfl⟩:=List.getElem?_eq_some_iff.1 hy;by_cases e:i=j
 · subst e;rw [hc.self];exact Int.le_refl _
 · exact (List.pairwise_iff_getElem.1 h) i j h1 h2 (by omega)
theorem SrC.done {c:Rw->Rw->Int} (hc:Ord3 (cc c)) {X Y:List Ri} {k s:Nat} (h:SrC c X Y k s s) (hX:AscC (cc c) X) (hY:AscC (cc c) Y):
 (∀x∈X.drop s,∀y∈Y.take (k - s),cc c y x < 0)/\(∀x∈X.take s,∀y∈Y.drop (k - s),cc c x y<=0):=by
 constructor
 · intro x hx y hy
   obtain ⟨i,hi⟩:=List.mem_iff_getElem?.1 hx;obtain ⟨j,hj⟩:=List.mem_iff_getElem?.1 hy;rw [List.getElem?_drop] at hi;rw [List.getElem?_take] at hj;split at hj
   · have h1:=(List.getElem?_eq_some_iff.1 hi).1
     rcases h.hi with h2 | h2 | ⟨x',y',hx',hy',h2,h3⟩
     · omega
     · omega
     · exact hc.lt_le (hc.le_lt (asc_last hY hj hy' (by omega) hc) h3) (asc_last hX hx' hi (by omega) hc)
   · cases hj
 · intro x hx y hy
   obtain ⟨i,hi⟩:=List.mem_iff_getElem?.1 hx;obtain ⟨j,hj⟩:=List.mem_iff_getElem?.1 hy;rw [List.getElem?_drop] at hj;rw [List.getElem?_take] at hi;split at hi
   · have h1:=(List.getElem?_eq_some_iff.1 hj).1
     rcases h.lo with h2 | h2 | ⟨x',y',h2,hx',hy',h3⟩
     · omega
     · omega
     · exact hc.trans _ _ _ (asc_last hX hi hx' (by omega) hc) (hc.trans _ _ _ (hc.le h3) (asc_last hY hy' hj (by omega) hc))
   · cases hi
theorem merge_join {c:Rw->Rw->Int} (hc:Ord3 (cc c)) {u1 u2 v1 v2 W1 W2:List Ri} (hX:AscC (cc c) (u1++u2)) (hY:AscC (cc c) (v1++v2)) (h1:∀x∈u2,∀y∈v1,cc c y x < 0) (h2:∀x∈u1,∀y∈v2,cc c x y<=0)
 (a1:AscC (cc c) W1) (a2:AscC (cc c) W2) (e1:StEq (cc c) (u1++v1) W1) (e2:StEq (cc c) (u2++v2) W2):AscC (cc c) (W1++W2)/\StEq (cc c) ((u1++u2)++(v1++v2)) (W1++W2):=by
 refine ⟨a1.app a2 λ x hx y hy=> ?_,?_⟩
 · have hx':=e1.mem hc hx
   have hy':=e2.mem hc hy;rcases List.mem_append.1 hx' with hx' | hx' <;> rcases List.mem_append.1 hy' with hy' | hy'
   · exact hX.cross x hx' y hy'
   · exact h2 x hx' y hy'
   · have:=h1 y hy' x hx';omega
   · exact hY.cross x hx' y hy'
 · have h3:StEq (cc c) (u2++v1) (v1++u2):=StEq.swap hc h1
   have h4:=((StEq.refl (c:=cc c) u1).app h3).app (StEq.refl (c:=cc c) v2);have h5:=h4.trans (show StEq (cc c) _ (W1++W2) from by rw [show u1++(v1++u2)++v2=(u1++v1)++(u2++v2) by simp];exact e1.app e2)
   rwa [show u1++(u2++v1)++v2=(u1++u2)++(v1++v2) by simp] at h5
def MergesTo (w0:World) (B g n cp:Nat) (c:Rw->Rw->Int) (P X Y S:List Ri) (e:Ending) (w':World):Prop:=e=.returned (.tuple #[])/\∃Z,AscC (cc c) Z/\StEq (cc c) (X++Y) Z/\Arr w0 B g n cp (P++Z++S) w'
def SymLaw (N:Nat) (K:FuncId) (cap:Array Value) (c:Rw->Rw->Int) (d0:List Ri) (w0:World) (B g n cp:Nat):Prop:=
 ∀(P X Y S:List Ri) (w:World) (a m b:Nat),b - a < N->P.length=a->a+X.length=m->m+Y.length=b->0 < X.length->0 < Y.length->(∀x∈X++Y,x∈d0)->AscC (cc c) X->AscC (cc c) Y->Arr w0 B g n cp (P++X++Y++S) w->
  Calls Tryz.prog 113 #[.slice (some ⟨g,0,none⟩) n cp, .int .i64 a, .int .i64 m, .int .i64 b, .func (.func K) #[] cap] w (MergesTo w0 B g n cp c P X Y S)
theorem symC_calls (K:FuncId) (cap:Array Value) (c:Rw->Rw->Int) (d0:List Ri) (w0:World) (B g n cp:Nat) (P X Y S:List Ri) (w:World) (a m b:Nat) (hp:P.length=a) (hm:a+X.length=m) (hb:m+Y.length=b) (hX2:2<=X.length) (hY2:2<=Y.length)
 (hC:CmpOk K cap c d0 w0 g) (hmem:∀x∈X++Y,x∈d0) (hX:AscC (cc c) X) (hY:AscC (cc c) Y) (hA:Arr w0 B g n cp (P++X++Y++S) w) (hmx:n<=1099511627776)
 (IH:Hid (SymLaw (b - a) K cap c d0 w0 B g n cp)):
 Calls Tryz.prog 113 #[.slice (some ⟨g,0,none⟩) n cp, .int .i64 a, .int .i64 m, .int .i64 b, .func (.func K) #[] cap] w (MergesTo w0 B g n cp c P X Y S):=by
 have hlen:=hA.len;simp only [List.length_append] at hlen;have b1:b<=n:=by omega
 have b2:m+2<=b:=by omega
 have b3:a+2<=m:=by omega
 have ht:((m:Int) - a==1)=false:=by simp;omega
 have ht2:((b:Int) - m==1)=false:=by simp;omega
 have HL:=Lib.hid (show P.length=a/\a+X.length=m/\m+Y.length=b from ⟨hp,hm,hb⟩);have HA:=Lib.hid hA;have HC:=Lib.hid hC;have HX:=Lib.hid hX;have HY:=Lib.hid hY;have HMem:=Lib.hid hmem;have eg:=hC.enter;obtain ⟨md,hmd⟩:∃md,md=(a+b) / 2:=⟨_,rfl⟩
 have d1:a < md:=by omega
 have d2:md < b:=by omega
 have Hmd:=Lib.hid hmd;clear hA hlen hp hm hb hC hmem hX hY hX2 hY2 hmd;go_enter Tryz.func113,Tryz.ntmps113;go_upto_region 24 with (fail)
 go_cut [18] from 129 to 134 (λ z wx=> z=.int .i64 md/\wx=w)
 case first=> as_aux_lemma=>
  go_wp2_with fail;go_meet;exact ⟨by have:=Hmd.out;congr 1;omega,rfl⟩
 obtain ⟨rfl,rfl⟩:=hcut;go_upto_if 140 with (fail)
 have hs1:(md:Int)+m<=9223372036854775807:=by omega
 go_cut [20,21] from 138 to 146 (λ z20 z21 wx=> ∃i j:Nat,a<=i/\i<=j/\j<=m/\md+m<=i+b/\j<=md/\z20=.int .i64 i/\z21=.int .i64 j/\Hid (SrC c X Y (md - a) (i - a) (j - a))/\wx=wc)
 case first=> as_aux_lemma=>
  by_cases hgt:md < m
  · have hs2:(md:Int)+m - b<=9223372036854775807:=by omega
    have hs3:(b:Int)<=md+m:=by have:=Hmd.out;omega
    go_wp2_with fail;go_meet;refine ⟨md+m - b,md,by have:=Hmd.out;omega,by omega,by omega,by omega,Nat.le_refl _,by go_num,rfl,Lib.hid ⟨?_, .inr (.inl (Nat.le_refl _))⟩,rfl⟩;right;left;have:=HL.out;have:=Hmd.out;omega
  · go_wp2_with fail
    go_meet;refine ⟨a,m,Nat.le_refl _,by omega,Nat.le_refl _,by have:=Hmd.out;omega,by omega,rfl,rfl,Lib.hid ⟨.inl (by omega), .inl (by have:=HL.out;omega)⟩,rfl⟩
 obtain ⟨i0,j0,g1,g2,g3,g4,g5,rfl,rfl,Hs0,rfl⟩:=hcut;have hs2:(1:Int)<=md+m:=by omega
 go_upto_region 32 with (fail)
 obtain ⟨pp,hpp⟩:∃pp:Nat,pp+1=md+m:=⟨md+m - 1,by omega⟩
 have Hpp:=Lib.hid hpp;go_cut [22] from 147 to 148 (λ z wx=> z=.int .i64 pp/\wx=wc)
 case first=> as_aux_lemma=>
  clear hpp;go_wp2_with fail;go_meet;exact ⟨by have:=Hpp.out;congr 1;omega,rfl⟩
 obtain ⟨rfl,rfl⟩:=hcut;clear hpp hs2;go_wp2_with fail;go_loopw [20,21] (λ z20 z21 wr=> ∃i j:Nat,a<=i/\i<=j/\j<=m/\md+m<=i+b/\j<=md/\z20=.int .i64 i/\z21=.int .i64 j/\Hid (SrC c X Y (md - a) (i - a) (j - a))/\Hid (Arr w0 B g n cp (P++X++Y++S) wr)) (λ z20 z21 _=> (intOf z21).toNat - (intOf z20).toNat)
 case atStart=> exact ⟨i0,j0,g1,g2,g3,g4,g5,rfl,rfl,Hs0,HA⟩
 case round=>
  clear g1 g2 g3 g4 g5 Hs0 HA;obtain ⟨i,j,g1,g2,g3,g4,g5,rfl,rfl,Hs,H⟩:=hrel;by_cases hlt:i < j
  · as_aux_lemma=>
    obtain ⟨h,hh⟩:∃h:Nat,h=(i+j) / 2:=⟨_,rfl⟩
    have hh1:i<=h:=by omega
    have hh2:h < j:=by omega
    obtain ⟨q,hq⟩:∃q:Nat,q+h+1=md+m:=⟨md+m - 1 - h,by omega⟩
    have hx1:h - a < X.length:=by have:=HL.out;omega
    have hy1:q - m < Y.length:=by have:=HL.out;omega
    have hget:(P++X++Y++S)[h]? =some X[h - a]:=by have:=mid_get (P:=P) (u:=X) (S:=Y++S) hx1;rw [HL.out.1,show a+(h - a)=h by omega] at this;rw [List.append_assoc (P++X)];exact this
    have hgy:(P++X++Y++S)[q]? =some Y[q - m]:=by have:=mid_get (P:=P++X) (u:=Y) (S:=S) hy1;rw [List.length_append,HL.out.1,HL.out.2.1,show m+(q - m)=q by omega] at this;exact this
    obtain ⟨cx,cx'⟩:=H.out.cell hget;obtain ⟨cy,cy'⟩:=H.out.cell hgy;have hg:=H.out.lt;have HU:Hid ((¬ cc c Y[q - m] X[h - a] < 0->SrC c X Y (md - a) (h+1 - a) (j - a))/\(cc c Y[q - m] X[h - a] < 0->SrC c X Y (md - a) (i - a) (h - a))):=by
     refine Lib.hid ⟨λ hl=> ⟨.inr (.inr ⟨X[h - a],Y[q - m],by omega,?_,?_,hl⟩),Hs.out.hi⟩,λ hl=> ⟨Hs.out.lo, .inr (.inr ⟨X[h - a],Y[q - m],?_,?_,by omega,hl⟩)⟩⟩
     · rw [show h+1 - a - 1=h - a by omega];exact List.getElem?_eq_getElem hx1
     · rw [show md - a - (h+1 - a)=q - m by omega];exact List.getElem?_eq_getElem hy1
     · exact List.getElem?_eq_getElem hx1
     · rw [show md - a - (h - a+1)=q - m by omega];exact List.getElem?_eq_getElem hy1
    have HK:=Lib.hid (λ w' (hb:Below wr.heap.size wr w')=> HC.out.call Y[q - m] (HMem.out _ (List.mem_append.2 (.inr (List.getElem_mem _)))) X[h - a] (HMem.out _ (List.mem_append.2 (.inl (List.getElem_mem _)))) w' (grownBy_bel H.out.gr hb));clear hget hgy;unfold cc at HU;generalize X[h - a]=x at *;generalize Y[q - m]=y at *;generalize c y.r x.r=r at *;clear hx1 hy1;have Hh:=Lib.hid hh;have Hq:=Lib.hid hq;have e1:(pp:Int) - h=q:=by have:=Hpp.out;omega
    have i1:(0:Int)<=h:=by omega
    have i2:(h:Int) < n:=by omega
    have i3:(0:Int)<=q:=by omega
    have i4:(q:Int) < n:=by omega
    clear hh hq;have He:=Lib.hid e1;clear e1;go_upto_region 34 with (fail)
    go_cut [23] from 152 to 157 (λ z wx=> z=.int .i64 h/\wx=wr)
    case first=> as_aux_lemma=>
     go_wp2_with fail;go_meet;exact ⟨by have:=Hh.out;congr 1;omega,rfl⟩
    obtain ⟨rfl,rfl⟩:=hcut;go_upto_region 35 with (fail)
    have e2:IntKind.i64.wrap ((pp:Int) - h)=q:=by rw [He.out];exact IntWalk.i64_in _ (by omega)
    go_cut [171] from 158 to 171 (λ z wx=> ∃t:Bool,z=.bool t/\Hid (t=!decide (r < 0))/\Hid (Below wc.heap.size wc wx))
    case first=> as_aux_lemma=>
     go_region_held3 (λ w'=> Below wc.heap.size wc w'/\∀b o,b < wc.heap.size->w'.cell? ⟨b,o,none⟩=wc.cell? ⟨b,o,none⟩)
      (first | assumption | exact S_of (Below.drew (Below.refl _ _)) | exact S_step (by assumption) (by assumption))
      (first | ((with_reducible refine (HK.out _ (by first | assumption | exact And.left (by assumption))).mono ?_);rintro e w1 ⟨rfl,hb1⟩))
     all_goals
      rename_i hH
      have Hb:=Lib.hid hH.1;clear hH;go_step;go_step;go_meet;exact ⟨_,rfl,rfl,Hb⟩
    clear e2;obtain ⟨t,rfl,Ht,Hb⟩:=hcut;have HA1:=Lib.hid (H.out.below Hb.out);clear cy cx hg HK H Hb cy' cx';cases t
    · have hr:r < 0:=by simpa using Ht.out
      have Hs1:=Lib.hid (HU.out.2 hr);clear HU Hq hr Hs;go_wp2_with fail;go_roundw
      case rel=> exact ⟨i,h,g1,hh1,by omega,g4,by omega,rfl,rfl,Hs1,HA1⟩
      case measure=> simp [intOf];omega
    · have hr:¬ r < 0:=by simpa using Ht.out
      have Hs1:=Lib.hid (HU.out.1 hr);clear HU Hq hr Hs;go_wp2_with fail;go_roundw
      case rel=> exact ⟨h+1,j,by omega,by omega,g3,by omega,g5,by go_num,rfl,Hs1,HA1⟩
      case measure=> simp [intOf];omega
  · obtain rfl:i=j:=by omega
    obtain ⟨l1,l2,l3⟩:=HL.out;obtain ⟨q1,q2⟩:=Hs.out.done HC.out.ord HX.out HY.out;obtain ⟨u1,u2,hu,lu1,lu2⟩:=split2 X (i - a) (by omega);obtain ⟨v1,v2,hv,lv1,lv2⟩:=split2 Y (md - i) (by omega);have Hj:Hid (∀W1 W2,AscC (cc c) W1->AscC (cc c) W2->StEq (cc c) (u1++v1) W1->StEq (cc c) (u2++v2) W2->AscC (cc c) (W1++W2)/\StEq (cc c) (X++Y) (W1++W2)):=by
     intro W1 W2 a1 a2 e1 e2;have hX:=HX.out;have hY:=HY.out;subst hu hv;refine merge_join HC.out.ord hX hY ?_ ?_ a1 a2 e1 e2
     · have:u2=(u1++u2).drop (i - a):=by rw [<-lu1];simp
       have h2:v1=(v1++v2).take (md - a - (i - a)):=by rw [show md - a - (i - a)=v1.length by omega];simp
       rw [this,h2];exact q1
     · have:u1=(u1++u2).take (i - a):=by rw [<-lu1];simp
       have h2:v2=(v1++v2).drop (md - a - (i - a)):=by rw [show md - a - (i - a)=v1.length by omega];simp
       rw [this,h2];exact q2
    have HXs:=HX.out;have HYs:=HY.out;rw [hu] at HXs;rw [hv] at HYs;have Hu1:=Lib.hid HXs.left;have Hu2:=Lib.hid HXs.right;have Hv1:=Lib.hid HYs.left;have Hv2:=Lib.hid HYs.right;have HM:Hid ((∀x∈u1++v1,x∈d0)/\(∀x∈u2++v2,x∈d0)):=by have:=HMem.out;rw [hu,hv] at this;refine Lib.hid ⟨λ x hx=> this x ?_,λ x hx=> this x ?_⟩ <;> (simp only [List.mem_append] at hx ⊢;rcases hx with hx | hx <;> simp [hx])
    obtain ⟨en,hen⟩:∃en:Nat,en+i=md+m:=⟨md+m - i,by omega⟩
    have HLs:=Lib.hid (show P.length=a/\a+u1.length=i/\u1.length+u2.length=X.length/\i+u2.length=m/\m+v1.length=en/\i+v1.length=md/\en+v2.length=b by omega);have HA1:Hid (Arr w0 B g n cp (P++u1++u2++v1++(v2++S)) wr):=by have:=H.out;rw [hu,hv] at this;exact Lib.hid (by simpa only [List.append_assoc] using this)
    have k1:i<=m:=by omega
    have k2:m<=en:=by omega
    have k3:md<=en:=by omega
    have k4:en<=b:=by omega
    have k5:i<=md:=by omega
    have Hen:=Lib.hid hen;clear l1 l2 l3 q1 q2 hu hv lu1 lu2 lv1 lv2 HXs HYs H Hs HL HX HY HMem hen g2 hlt;go_upto_region 38 with (fail)
    go_cut [24] from 175 to 177 (λ z wx=> z=.int .i64 en/\wx=wr)
    case first=> as_aux_lemma=>
     go_wp2_with fail;go_meet;exact ⟨by have:=Hen.out;congr 1;omega,rfl⟩
    obtain ⟨rfl,rfl⟩:=hcut;go_upto_region 39 with (fail)
    go_cut [185] from 178 to 185 (λ z wx=> ∃t:Bool,z=.bool t/\Hid (t=true↔i < m/\m < en)/\wx=wc)
    case first=> as_aux_lemma=>
     by_cases q1:i < m
     · by_cases q2:m < en
       · go_wp2_with fail
         go_meet;exact ⟨true,rfl,Lib.hid ⟨λ _=> ⟨q1,q2⟩,λ _=> rfl⟩,rfl⟩
       · go_wp2_with fail
         go_meet;exact ⟨false,rfl,Lib.hid ⟨λ h=> (by cases h),λ h=> absurd h.2 q2⟩,rfl⟩
     · go_wp2_with fail
       go_meet;exact ⟨false,rfl,Lib.hid ⟨λ h=> (by cases h),λ h=> absurd h.1 q1⟩,rfl⟩
    obtain ⟨t,rfl,Ht,rfl⟩:=hcut;go_upto_if 185 with (fail)
    go_cut [] from 178 to 191 (λ wx=> Hid (Arr w0 B g n cp (P++u1++v1++u2++(v2++S)) wx))
    case first=> as_aux_lemma=>
     cases t
     · go_wp2_with fail
       go_meet;have:=Ht.out;have hn:¬ (i < m/\m < en):=λ h=> by have:=this.2 h;cases this
       have:=HLs.out;by_cases q1:i < m
       · have e:v1=[]:=List.length_eq_zero_iff.1 (by omega)
         have:=HA1.out;rw [e] at this ⊢;exact Lib.hid (by simpa using this)
       · have e:u2=[]:=List.length_eq_zero_iff.1 (by omega)
         have:=HA1.out;rw [e] at this ⊢;exact Lib.hid (by simpa using this)
     · have HR:=Lib.hid (rotate_calls w0 B g n cp (P++u1) u2 v1 (v2++S) (.func (.func K) #[] cap) wc i m en (by rw [List.length_append];have:=HLs.out;omega) (by rw [List.length_append];have:=HLs.out;omega) (by rw [List.length_append];have:=HLs.out;omega) (by have:=Ht.out.1 rfl;have:=HLs.out;omega) (by have:=Ht.out.1 rfl;have:=HLs.out;omega) HA1.out (by unfold maxLen;omega))
       go_wp2_with fail;(with_reducible refine HR.out.mono ?_);rintro e w1 ⟨rfl,h1⟩;have H1:=Lib.hid h1;clear h1;go_wp2_with fail;go_meet;exact H1
    clear Ht HA1 t
    rename Hid (Arr w0 B g n cp (P++u1++v1++u2++(v2++S)) _)=> HA2
    go_upto_region 41 with (fail)
    go_cut [199] from 192 to 199 (λ z wx=> ∃t:Bool,z=.bool t/\Hid (t=true↔a < i/\i < md)/\wx=wc)
    case first=> as_aux_lemma=>
     by_cases q1:a < i
     · by_cases q2:i < md
       · go_wp2_with fail
         go_meet;exact ⟨true,rfl,Lib.hid ⟨λ _=> ⟨q1,q2⟩,λ _=> rfl⟩,rfl⟩
       · go_wp2_with fail
         go_meet;exact ⟨false,rfl,Lib.hid ⟨λ h=> (by cases h),λ h=> absurd h.2 q2⟩,rfl⟩
     · go_wp2_with fail
       go_meet;exact ⟨false,rfl,Lib.hid ⟨λ h=> (by cases h),λ h=> absurd h.1 q1⟩,rfl⟩
    obtain ⟨t,rfl,Ht,rfl⟩:=hcut;go_upto_if 199 with (fail)
    go_cut [] from 192 to 205 (λ wx=> Hid (∃W,AscC (cc c) W/\StEq (cc c) (u1++v1) W/\Arr w0 B g n cp (P++W++u2++v2++S) wx))
    case first=> as_aux_lemma=>
     cases t
     · go_wp2_with fail
       go_meet;have:=Ht.out;have hn:¬ (a < i/\i < md):=λ h=> by have:=this.2 h;cases this
       have:=HLs.out;refine Lib.hid ⟨u1++v1,?_,StEq.refl _,by have:=HA2.out;simpa only [List.append_assoc] using this⟩;by_cases q1:a < i
       · have e:v1=[]:=List.length_eq_zero_iff.1 (by omega)
         rw [e,List.append_nil];exact Hu1.out
       · have e:u1=[]:=List.length_eq_zero_iff.1 (by omega)
         rw [e,List.nil_append];exact Hv1.out
     · have HR:=Lib.hid (IH.out P u1 v1 (u2++(v2++S)) wc a i md (by omega) HLs.out.1 HLs.out.2.1 (by have:=HLs.out;omega) (by have:=Ht.out.1 rfl;have:=HLs.out;omega) (by have:=Ht.out.1 rfl;have:=HLs.out;omega) HM.out.1 Hu1.out Hv1.out (by have:=HA2.out;simpa only [List.append_assoc] using this))
       go_wp2_with fail;(with_reducible refine HR.out.mono ?_);rintro e w1 ⟨rfl,W,h1,h2,h3⟩;have H1:=Lib.hid (show ∃W,AscC (cc c) W/\StEq (cc c) (u1++v1) W/\Arr w0 B g n cp (P++W++u2++v2++S) w1 from ⟨W,h1,h2,by simpa only [List.append_assoc] using h3⟩);clear h1 h2 h3;go_wp2_with fail;go_meet;exact H1
    clear Ht HA2 t
    rename Hid (∃W,AscC (cc c) W/\StEq (cc c) (u1++v1) W/\Arr w0 B g n cp (P++W++u2++v2++S) _)=> HA3
    obtain ⟨W1,W1a,W1e,W1A⟩:=HA3.out;have HW1a:=Lib.hid W1a;have HW1e:=Lib.hid W1e;have HW1A:=Lib.hid W1A;have HlW:Hid ((P++W1).length=md):=by have h1:=(W1e.perm HC.out.ord).length_eq;have:=HLs.out;rw [List.length_append] at h1;exact Lib.hid (by rw [List.length_append];omega)
    clear W1a W1e W1A HA3;go_upto_region 43 with (fail)
    go_cut [213] from 206 to 213 (λ z wx=> ∃t:Bool,z=.bool t/\Hid (t=true↔md < en/\en < b)/\wx=wc)
    case first=> as_aux_lemma=>
     by_cases q1:md < en
     · by_cases q2:en < b
       · go_wp2_with fail
         go_meet;exact ⟨true,rfl,Lib.hid ⟨λ _=> ⟨q1,q2⟩,λ _=> rfl⟩,rfl⟩
       · go_wp2_with fail
         go_meet;exact ⟨false,rfl,Lib.hid ⟨λ h=> (by cases h),λ h=> absurd h.2 q2⟩,rfl⟩
     · go_wp2_with fail
       go_meet;exact ⟨false,rfl,Lib.hid ⟨λ h=> (by cases h),λ h=> absurd h.1 q1⟩,rfl⟩
    obtain ⟨t,rfl,Ht,rfl⟩:=hcut;cases t
    · go_wp2_with fail
      go_end0;have:=Ht.out;have hn:¬ (md < en/\en < b):=λ h=> by have:=this.2 h;cases this
      have:=HLs.out;have ha:AscC (cc c) (u2++v2):=by
       by_cases q1:md < en
       · have e:v2=[]:=List.length_eq_zero_iff.1 (by omega)
         rw [e,List.append_nil];exact Hu2.out
       · have e:u2=[]:=List.length_eq_zero_iff.1 (by omega)
         rw [e,List.nil_append];exact Hv2.out
      obtain ⟨j1,j2⟩:=Hj.out W1 (u2++v2) HW1a.out ha HW1e.out (StEq.refl _);exact ⟨rfl,_,j1,j2,by have:=HW1A.out;simpa only [List.append_assoc] using this⟩
    · have HR:=Lib.hid (IH.out (P++W1) u2 v2 S wc md en b (by omega) HlW.out (by have:=HLs.out;omega) (by have:=HLs.out;omega) (by have:=Ht.out.1 rfl;have:=HLs.out;omega) (by have:=Ht.out.1 rfl;have:=HLs.out;omega) HM.out.2 Hu2.out Hv2.out HW1A.out)
      go_wp2_with fail;(with_reducible refine HR.out.mono ?_);rintro e w1 ⟨rfl,W,h1,h2,h3⟩;have H1:=Lib.hid (show ∃Z,AscC (cc c) Z/\StEq (cc c) (X++Y) Z/\Arr w0 B g n cp (P++Z++S) w1 from by obtain ⟨j1,j2⟩:=Hj.out W1 W HW1a.out h1 HW1e.out h2;exact ⟨_,j1,j2,by simpa only [List.append_assoc] using h3⟩);clear h1 h2 h3;go_wp2_with fail;go_end0;exact ⟨rfl,H1.out⟩
theorem symMerge_calls (K:FuncId) (cap:Array Value) (c:Rw->Rw->Int) (d0:List Ri) (w0:World) (B g n cp:Nat) (hC:CmpOk K cap c d0 w0 g) (hmx:n<=1099511627776):∀N,SymLaw N K cap c d0 w0 B g n cp:=by
 intro N
 induction N with
 | zero=> intro P X Y S w a m b h;omega
 | succ N ih=>
  intro P X Y S w a m b hN hp hm hb hX hY hmem aX aY hA;have ih':SymLaw (b - a) K cap c d0 w0 B g n cp:=λ P' X' Y' S' w' a' m' b' h=> ih P' X' Y' S' w' a' m' b' (by omega)
  match X,hX with
  | [x],_=>
   have hm':a+1=m:=hm;exact symA_calls K cap c d0 w0 B g n cp P Y S x w a m b hp hm' hb hC (by simpa using hmem) aY hA hmx
  | x::x'::X',_=>
   match Y,hY with
   | [y],_=> exact symB_calls K cap c d0 w0 B g n cp P (x::x'::X') S y w a m b hp hm hb (by simp) hC (λ z hz=> hmem z (List.mem_append.2 (Or.symm ((List.mem_cons.1 hz).imp_left λ h=> List.mem_singleton.2 h)))) aX hA hmx
   | y::y'::Y',_=> exact symC_calls K cap c d0 w0 B g n cp P (x::x'::X') (y::y'::Y') S w a m b hp hm hb (by simp) (by simp) hC hmem aX aY hA hmx (Lib.hid ih')
def SortsTo (w0:World) (B g n cp:Nat) (c:Rw->Rw->Int) (P X S:List Ri) (e:Ending) (w':World):Prop:=e=.returned (.tuple #[])/\∃Z,AscC (cc c) Z/\StEq (cc c) X Z/\Arr w0 B g n cp (P++Z++S) w'
theorem sink_done {c:Rw->Rw->Int} (hc:Ord3 (cc c)) {l r:List Ri} {x:Ri} (h:AscC (cc c) (l++r)) (hr:∀y∈r,cc c x y < 0) (hl:l=[]\/∃l' y,l=l'++[y]/\¬ cc c x y < 0):
 AscC (cc c) (l++[x]++r)/\StEq (cc c) ((l++r)++[x]) (l++[x]++r):=by
 refine ⟨(h.left.app (List.pairwise_singleton _ _) λ a ha b hb=> ?_).app h.right λ a ha b hb=> ?_,?_⟩
 · rw [List.mem_singleton.1 hb]
   rcases hl with rfl | ⟨l',y,rfl,hy⟩
   · cases ha
   · rcases List.mem_append.1 ha with ha' | ha'
     · exact hc.trans _ _ _ (h.left.cross a ha' y (by simp)) (hc.le hy)
     · rw [List.mem_singleton.1 ha'];exact hc.le hy
 · rcases List.mem_append.1 ha with ha | ha
   · exact h.cross a ha b hb
   · rw [List.mem_singleton.1 ha];have:=hr b hb;omega
 · have h1:StEq (cc c) (r++[x]) ([x]++r):=StEq.swap hc λ a ha b hb=> by rw [List.mem_singleton.1 hb];exact hr a ha
   have:=(StEq.refl (c:=cc c) l).app h1
   rwa [<-List.append_assoc,<-List.append_assoc] at this
theorem insertion_calls (K:FuncId) (cap:Array Value) (c:Rw->Rw->Int) (d0:List Ri) (w0:World) (B g n cp:Nat) (P X S:List Ri) (w:World) (a b:Nat) (hp:P.length=a) (hb:a+X.length=b)
 (hC:CmpOk K cap c d0 w0 g) (hmem:∀x∈X,x∈d0) (hA:Arr w0 B g n cp (P++X++S) w) (hmx:n<=1099511627776):
 Calls Tryz.prog 112 #[.slice (some ⟨g,0,none⟩) n cp, .int .i64 a, .int .i64 b, .func (.func K) #[] cap] w (SortsTo w0 B g n cp c P X S):=by
 have hlen:=hA.len;simp only [List.length_append] at hlen;have b1:b<=n:=by omega
 have b2:a<=b:=by omega
 have HL:=Lib.hid (show P.length=a/\a+X.length=b from ⟨hp,hb⟩);have HA:=Lib.hid hA;have HC:=Lib.hid hC;have HMem:=Lib.hid hmem;have eg:=hC.enter;clear hA hlen hp hb hC hmem;by_cases hnil:a=b
 · have hx:X=[]:=List.length_eq_zero_iff.1 (by have:=HL.out;omega)
   have HX:=Lib.hid hx;subst hnil;clear hx HC HMem;have hlt:¬ (a:Int)+1 < a:=by omega
   go_enter Tryz.func112,Tryz.ntmps112;go_wp2;go_loopw [8] (λ z8 wr=> z8=.int .i64 ((a:Int)+1)/\wr=w) (λ _ _=> 0)
   case atStart=> exact ⟨rfl,rfl⟩
   case round=>
    obtain ⟨rfl,rfl⟩:=hrel;go_wp2;go_end0;exact ⟨rfl,[],List.Pairwise.nil,by rw [HX.out];exact StEq.refl _,by have:=HA.out;rwa [HX.out] at this⟩
 · go_enter Tryz.func112,Tryz.ntmps112
   have hab:a < b:=by omega
   go_wp2;go_loopg [8] (b - a) (λ gk z8 wr=> ∃i k:Nat,i=a+k/\1<=k/\i<=b/\z8=.int .i64 i/\gk+k=b - a+1/\Hid (∃W R,X=(X.take k)++R/\AscC (cc c) W/\StEq (cc c) (X.take k) W/\Arr w0 B g n cp (P++W++R++S) wr))
   case atStart=>
    refine ⟨a+1,1,rfl,Nat.le_refl _,hab,by go_num,by omega,?_⟩;refine Lib.hid ⟨X.take 1,X.drop 1,(List.take_append_drop 1 X).symm,?_,StEq.refl _,?_⟩
    · match X with
      | []=> exact List.Pairwise.nil
      | x::X=> exact List.pairwise_singleton _ _
    · have:=HA.out
      rw [<-List.take_append_drop 1 X] at this;simpa only [List.append_assoc] using this
   case round=>
    clear HA;obtain ⟨i,k,hik,hk1,hib,rfl,hgk,Hs⟩:=hrel;obtain ⟨W,R,s1,s2,s3,s4⟩:=Hs.out;have HWa:=Lib.hid s2;have HWe:=Lib.hid s3;have HA:=Lib.hid s4;have HlW:Hid (W.length=k):=Lib.hid (by have:=(s3.perm HC.out.ord).length_eq;rw [List.length_take,Nat.min_eq_left (by have:=HL.out;omega)] at this;omega);by_cases hlt:i < b
    · have hkl:k < X.length:=by have:=HL.out;omega
      obtain ⟨x,hx⟩:∃x,X[k]=x:=⟨_,rfl⟩
      have hR:R=x::X.drop (k+1):=by rw [<-hx,<-List.drop_eq_getElem_cons hkl];have:=s1;exact (List.append_cancel_left ((List.take_append_drop k X).trans this)).symm
      have HN:=Lib.hid (show X.take (k+1)=X.take k++[x]/\X=X.take (k+1)++X.drop (k+1)/\x∈d0/\(∀y∈W,y∈d0) from ⟨by rw [List.take_succ_eq_append_getElem hkl,hx],(List.take_append_drop _ _).symm,HMem.out _ (by rw [<-hx];exact List.getElem_mem _),λ y hy=> HMem.out y (List.mem_of_mem_take (s3.mem HC.out.ord hy))⟩);rw [hR] at s4;have HA':=Lib.hid s4;generalize X.drop (k+1)=R' at *;have Hgk:=Lib.hid hgk;have Hik:=Lib.hid hik;clear s1 s2 s3 s4 HA hR hx hkl Hs hgk hik;have HEnd:Hid (∀l r wx,W=l++r->(∀y∈r,cc c x y < 0)->(l=[]\/∃l' y,l=l'++[y]/\0<=cc c x y)->Arr w0 B g n cp (P++l++x::r++R'++S) wx->Hid (∃W R,X=(X.take (k+1))++R/\AscC (cc c) W/\StEq (cc c) (X.take (k+1)) W/\Arr w0 B g n cp (P++W++R++S) wx)):=by refine Lib.hid λ l r wx h1 h2 h3 h4=> ?_;have hW:=HWa.out;have hE:=HWe.out;rw [h1] at hW hE;obtain ⟨e1,e2⟩:=sink_done HC.out.ord hW h2 (h3.imp_right λ ⟨l',y,e,h⟩=> ⟨l',y,e,Int.not_lt.2 h⟩);refine Lib.hid ⟨l++[x]++r,R',HN.out.2.1,e1,?_,by simpa only [List.append_assoc,List.cons_append,List.nil_append] using h4⟩;rw [HN.out.1];exact (hE.app (StEq.refl _)).trans e2
      go_wp2;go_loopw [9] (λ z9 wr=> ∃j:Nat,a<=j/\j<=i/\z9=.int .i64 j/\Hid (∃l r,W=l++r/\a+l.length=j/\(∀y∈r,cc c x y < 0)/\Arr w0 B g n cp (P++l++x::r++R'++S) wr)) (λ z9 _=> (intOf z9).toNat)
      case atStart=> exact ⟨i,by have:=Hik.out;omega,Nat.le_refl _,rfl,Lib.hid ⟨W,[],by simp,by have:=HlW.out;have:=Hik.out;omega,by simp,by have:=HA'.out;simpa using this⟩⟩
      case round=>
       clear HA';obtain ⟨j,haj,hji,rfl,Hs⟩:=hrel;obtain ⟨l,r,s1,s2,s3,s4⟩:=Hs.out;have HA:=Lib.hid s4;have Hl:=Lib.hid s2;have HW:=Lib.hid s1;have Hr:=Lib.hid s3;clear Hs s1 s2 s3 s4;have hjn:(j:Int) < n:=by omega
       by_cases hja:a < j
       · obtain ⟨l',y,hl'⟩:∃l' y,l=l'++[y]:=by
          rcases List.eq_nil_or_concat l with h | ⟨l',y,h⟩
          · have:=Hl.out;rw [h] at this;simp at this;omega
          · exact ⟨l',y,by rw [h,List.concat_eq_append]⟩
         have lj:(P++l').length+1=j:=by have:=Hl.out;rw [hl'] at this;simp at this;rw [List.length_append];have:=HL.out;omega
         obtain ⟨j',hj'⟩:∃j',j'+1=j:=⟨j - 1,by omega⟩
         have lP:(P++l').length=j':=by omega
         have eq0:P++l++x::r++R'++S=(P++l')++y::[]++x::(r++R'++S):=by rw [hl'];simp only [List.append_assoc,List.cons_append,List.nil_append]
         have hA:=HA.out;rw [eq0] at hA;have hy:((P++l')++y::[]++x::(r++R'++S))[j']? =some y:=by rw [List.append_assoc,List.getElem?_append_right (by rw [lP];exact Nat.le_refl _),lP];simp
         have hx:((P++l')++y::[]++x::(r++R'++S))[j]? =some x:=by rw [List.append_assoc,List.getElem?_append_right (by rw [lP];omega),lP,<-hj'];simp
         have hs:=swp_at (P:=P++l') (Q:=[]) (S:=r++R'++S) (x:=y) (y:=x);rw [lP,List.length_nil,Nat.add_zero,hj'] at hs;obtain ⟨cy,cy'⟩:=hA.cell hy;obtain ⟨cx,cx'⟩:=hA.cell hx;have hg:=hA.lt;have HK:=Lib.hid (λ w' (hb:Below wr.heap.size wr w')=> HC.out.call x HN.out.2.2.1 y (HN.out.2.2.2 y (by rw [HW.out,hl'];simp)) w' (grownBy_bel hA.gr hb));have HSw:Hid (∀w',Below wr.heap.size wr w'->Arr w0 B g n cp (P++l'++x::(y::r)++R'++S) ((((w'.setCell ⟨g,j' * 2,none⟩ (.int .i64 x.id)).setCell ⟨g,j' * 2+1,none⟩ (.slice x.a x.n x.c)).setCell ⟨g,j * 2,none⟩ (.int .i64 y.id)).setCell ⟨g,j * 2+1,none⟩ (.slice y.a y.n y.c))/\Arr w0 B g n cp (P++l'++x::(y::r)++R'++S) ((((w'.setCell ⟨g,j * 2,none⟩ (.int .i64 y.id)).setCell ⟨g,j * 2+1,none⟩ (.slice y.a y.n y.c)).setCell ⟨g,j' * 2,none⟩ (.int .i64 x.id)).setCell ⟨g,j' * 2+1,none⟩ (.slice x.a x.n x.c))):=by refine Lib.hid λ w' hb=> ?_;have hA':=hA.below hb;have hA2:=hA'.swap hy hx;have hA3:=hA'.swap hx hy;rw [swp_comm] at hA3;rw [hs] at hA2 hA3;rw [show P++l'++x::(y::r)++R'++S=(P++l')++x::[]++y::(r++R'++S) by simp only [List.append_assoc,List.cons_append,List.nil_append]];exact ⟨hA2,hA3⟩
         have HFr:=Lib.hid (λ w' (hb:Below wr.heap.size wr w')=> (⟨(hA.below hb).cell hy,(hA.below hb).cell hx,(hA.below hb).free (j' * 2),(hA.below hb).free (j' * 2+1),(hA.below hb).free (j * 2),(hA.below hb).free (j * 2+1),(hA.below hb).lt⟩:_/\_/\_/\_/\_/\_/\_));have Hl':=Lib.hid hl';have HlP:=Lib.hid lP;have i1:(a:Int) < j:=by omega
         have i3:(0:Int)<=(j':Int):=by omega
         have i4:IntKind.i64.wrap ((j:Int) - 1)=j':=by rw [show (j:Int) - 1=j' by omega];exact IntWalk.i64_in _ (by omega)
         have i5:(j':Int) < n:=by omega
         have Hj':=Lib.hid hj';generalize hr':c x.r y.r=rr at *;have Hrr:=Lib.hid hr';clear hA hy hx hs eq0 lP lj hl' hr' hj';go_upto_region 4 with (fail)
         go_cut [34] from 18 to 34 (λ z wx=> ∃q:Bool,z=.bool q/\Hid (q=decide (rr < 0))/\Hid (Below wr.heap.size wr wx))
         case first=>
          go_region_held3 (λ w'=> Below wr.heap.size wr w'/\∀b o,b < wr.heap.size->w'.cell? ⟨b,o,none⟩=wr.cell? ⟨b,o,none⟩)
           (first | assumption | exact S_of (Below.drew (Below.refl _ _)) | exact S_step (by assumption) (by assumption))
           (first | ((with_reducible refine (HK.out _ (by first | assumption | exact And.left (by assumption))).mono ?_);rintro e w1 ⟨rfl,hb1⟩))
          all_goals
           rename_i hH
           have Hb:=Lib.hid hH.1;clear hH;go_step;go_step;go_meet;exact ⟨_,rfl,rfl,Hb⟩
         obtain ⟨q,rfl,Hq,Hb⟩:=hcut;cases q
         · have HR:=Lib.hid (HEnd.out l r wc HW.out Hr.out (.inr ⟨l',y,Hl'.out,(by have:=Hq.out;show 0<=c x.r y.r;rw [Hrr.out];simpa using this)⟩) (HA.out.below Hb.out))
           clear HEnd HK HSw HFr Hb HA cx cy hg Hq i4 cx' cy';have i6:(i:Int)+1<=9223372036854775807:=by omega
           go_wp2;go_roundg (gk - 1)
           case rel=> exact ⟨i+1,k+1,by have:=Hik.out;omega,by omega,by omega,by go_num,by have:=Hgk.out;have:=Hik.out;omega,HR.out⟩
           case measure=> have:=Hgk.out;have:=Hik.out;omega
         · have Hxy:Hid (cc c x y < 0):=Lib.hid (by have:=Hq.out;show c x.r y.r < 0;rw [Hrr.out];simpa using this)
           obtain ⟨⟨d1,d1'⟩,⟨d2,d2'⟩,d3,d3',d4,d4',d5⟩:=HFr.out wc Hb.out;have H2:=HSw.out wc.drew Hb.out.drew;have H3:=Lib.hid H2.1;have H4:=Lib.hid H2.2;clear H2 HEnd HK HSw HFr HA cx cy hg Hq i4 cx' cy';have i6:(j:Int) - 1=j':=by have:=Hj'.out;omega
           go_wp2;go_region;go_wp2;go_roundw
           case rel=> exact ⟨j',by omega,by have:=Hj'.out;omega,by first | rfl | (congr 1;omega),Lib.hid ⟨l',y::r,by rw [HW.out,Hl'.out];simp,by have h1:=Hl.out;rw [Hl'.out] at h1;simp at h1;have:=Hj'.out;omega,by
            intro z hz;rcases List.mem_cons.1 hz with rfl | hz
            · exact Hxy.out
            · exact Hr.out z hz,by first | exact H3.out | exact H4.out⟩⟩
           case measure=> simp [intOf];omega
       · have hl0:l=[]:=List.length_eq_zero_iff.1 (by have:=Hl.out;omega)
         have hd:decide ((a:Int) < j)=false:=by simp;omega
         have hja2:¬ (a:Int) < j:=by omega
         go_upto_region 4 with (fail)
         go_cut [34] from 18 to 34 (λ z wx=> z=.bool false/\Hid (Below wr.heap.size wr wx))
         case first=>
          go_quiet (fail);go_step;go_step;go_meet;exact ⟨rfl,Lib.hid (below_drewN _ _)⟩
         obtain ⟨rfl,Hb⟩:=hcut;have HR:=Lib.hid (HEnd.out l r wc HW.out Hr.out (.inl hl0) (HA.out.below Hb.out));clear HEnd HA hl0 Hb;have i6:(i:Int)+1<=9223372036854775807:=by omega
         go_wp2;go_roundg (gk - 1)
         case rel=> exact ⟨i+1,k+1,by have:=Hik.out;omega,by omega,by omega,by go_num,by have:=Hgk.out;have:=Hik.out;omega,HR.out⟩
         case measure=> have:=Hgk.out;have:=Hik.out;omega
    · have hR:Hid (R=[]/\X.take k=X):=by
       have h1:X.take k=X:=List.take_of_length_le (by have:=HL.out;omega);refine Lib.hid ⟨?_,h1⟩;have:=congrArg List.length s1;rw [h1,List.length_append] at this;exact List.length_eq_zero_iff.1 (by omega)
      clear s1 s2 s3 s4 Hs;have Hgk:=Lib.hid hgk;have hib2:¬ (i:Int) < b:=by omega
      clear hgk hik;go_wp2;go_end0;exact ⟨rfl,W,HWa.out,by have:=HWe.out;rwa [hR.out.2] at this,by have:=HA.out;rwa [hR.out.1,List.append_nil] at this⟩
end
end Go.Proofs.YtnefkkidfhmggaaGreat
