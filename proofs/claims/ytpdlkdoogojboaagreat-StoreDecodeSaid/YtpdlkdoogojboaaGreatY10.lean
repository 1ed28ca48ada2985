/- Part 10 of the proof: Jl, Jm, Ti, Ea, Cp, Cs, P4, Cq, Bu, Bt, It, Iu -/
import Derived.Test.YtpdlkdoogojboaaGreatY09
import Derived.Test.YtpdlkdoogojboaaGreatY07
import Derived.Test.YtpdlkdoogojboaaGreatY00
import Derived.Test.YtpdlkdoogojboaaGreatY06
import Derived.OrdersIn
import Derived.OwnWalkIn
import Derived.TacticsInMore
import Derived.LoopIn
import Derived.LoopNIn
import Derived.Test.YtpdlkdoogojboaaGreatY05
import Derived.Test.YtpdlkdoogojboaaGreatY03
import Derived.Test.YtpdlkdoogojboaaGreatY02
import Derived.Test.YtpdlkdoogojboaaGreatY04
set_option maxHeartbeats 16000000
set_option maxRecDepth 100000
namespace Go.Proofs.YtpdlkdoogojboaaGreat
open Go Go.RowKit
noncomputable section
theorem src_sl {w:World} {v:Value} {x:List UInt8} {f:List Nat} (h:(slA 5 v (x.map u8C)).p w f):Go.Src Tryz.prog 1 52 v (x.map u8C).length (x.map u8C) w:=
 (SlX.of_sl (X:=[]) h (by simp)).src (e':=5) (by kernel_rfl) (by decide) (u8C_one x)
theorem St.litA {w0 w:World} {fp0:List Nat} {R:List Asn} (h:St w0 fp0 R w) (l:List UInt8) (hl:l.length<=maxLen):St w0 fp0 (slA 5 (.slice (some ⟨w.heap.size,0,none⟩) l.length l.length) (l.map u8C)::R) (w.alloc (.cells (l.map u8C).toArray 5)):=by
 refine h.addF (f:=[w.heap.size]) ⟨?_,rfl⟩ ((Below.refl _ _).alloc (Nat.le_refl _) _) (λ k hk=> by rw [List.mem_singleton.1 hk];exact Nat.le_refl _);have e:(l.map u8C).length=l.length:=List.length_map ..;have h:=World.ownsRow_lit (base:=0) (e:=5) (size:=1) w (l.map u8C).toArray l.length (Nat.zero_le _) hl (by simp);rw [e];exact h
theorem rowB_len {r:Rw} (hr:RowS r) (hc:r.length<=100000):(encR r).length<=209716100000:=by
 have h1:=encR_len hr;have:r.length * 2097161<=100000 * 2097161:=Nat.mul_le_mul_right _ hc;omega
theorem wRow_calls (b:Nat) (xs:List UInt8) (r:Rw) (rv:Value) (hr:RowS r) (hc:r.length<=100000) (hl:xs.length < 500000000000) (w0 w:World) (fp0:List Nat) (R:List Asn) (hS:St w0 fp0 (wrA b xs::R) w) (hrv:ValsAt w r rv):
 Calls Tryz.prog 60 #[.pointer (some ⟨b,0,none⟩),rv] w λ e w'=> e=.returned (.tuple #[])/\St w0 fp0 (wrA b (xs++rowB r)::R) w':=by
 have hel:=rowB_len hr hc;have HC:=Lib.hid (encodeRow_calls r rv hr hc w hrv);have HS:=Lib.hid hS;have HL:=Lib.hid hl;have HEL:=Lib.hid hel;clear hS hr hc hrv hl hel;go_enter Tryz.func60,Tryz.ntmps60;go_wp2_with fail;(with_reducible refine HC.out.mono ?_);rintro e w1 ⟨v,rfl,h1⟩;obtain ⟨_,hr⟩:=h1.has 0 rfl;obtain ⟨va,vn,vc,rfl⟩:=sl_shape hr;have hvn:vn=(encR r).length:=by obtain ⟨_,_,e, -⟩:=sl_get hr;obtain ⟨-,e, -⟩:=Value.slice.inj e;rw [e,List.length_map]
 have h2:=(newB HS.out h1).perm (List.Perm.swap _ _ _);have HN:=Lib.hid (wNumber_calls b xs vn (by unfold I64;have:=HEL.out;omega) (by have:=HL.out;omega) w0 w1 fp0 _ h2);have HVN:=Lib.hid hvn;clear HC HS h1 h2 hr hvn;go_wp2_with fail;(with_reducible refine HN.out.mono ?_);rintro e w2 ⟨rfl,h3⟩;obtain ⟨v,h4⟩:=St.wr.1 h3;obtain ⟨_,hr⟩:=h4.has 2 rfl;have HSRC:=Lib.hid (src_sl hr);obtain ⟨_,hb⟩:=h4.has 0 rfl;have c0:=(blk_get hb).1 0;have cl:=(blk_get hb).2.2;have f0:=(blk_get hb).2.1 0;simp only [List.getElem?_toArray,List.getElem?_cons_zero] at c0;have HS1:=Lib.hid (h4.perm (List.Perm.swap _ _ _));have HLN:Hid (((xs++numL vn).map u8C).length+((encR r).map u8C).length < 1099511627776):=by show _ < _;rw [List.length_map,List.length_map,List.length_append,numL_length];have:=HL.out;have:=HEL.out;omega
 clear h3 h4 hr hb HN
 go_wp2_with (first
  | (at_builtin;go_loud (refine wpList_appSl rfl _ _ _ _ rfl rfl rfl appBS HS1.out HSRC.out HLN.out ?_);intro v3 w3 h3;obtain ⟨_,hr⟩:=h3.out.has 0 rfl;obtain ⟨ya,yn,yc,rfl⟩:=sl_shape hr;obtain ⟨_,hb⟩:=h3.out.has 1 rfl;have c3:=(blk_get hb).1 0;have l3:=(blk_get hb).2.2;have f3:=(blk_get hb).2.1 0;simp only [List.getElem?_toArray,List.getElem?_cons_zero] at c3;clear hr hb))
 go_end0;refine ⟨rfl,?_⟩;have h4:=St.setB ((h3.out.snoc8 rfl).perm (List.Perm.swap _ _ _)) 0 (by simp) (.slice ya yn yc);have h5:=(St_re (L:=[_,_,_]) h4 [2,0,1] [] (by kernel_rfl)).drop;rw [HVN.out,List.append_assoc] at h5;exact St.wr.2 ⟨_,h5⟩
theorem wpOpIn_wide {P:Program} {n:Nat} {ops:Array Oper} {Q:Exit->Act->World->Prop} {i:Nat} {K:Act->World->Prop} {a:Act} {w:World} {o:Oper} (ho:ops[i]? =some o) (hw:Region.wanted o (yielded ops a.tmps)=true) (hnd:∀c,o.op≠.defer c)
 (h:o.wp P a w K (NoPanic Q)):wpOpIn Fence.wide n P ops Q i K a w:=by
 unfold wpOpIn;simp only [ho,hw,if_true];refine ⟨λ _ _=> trivial,?_⟩;rw [Oper.semAt_plain _ _ _ hnd];unfold Oper.wp at h;revert h;generalize (execOp a.eval o).run P w=r;intro h;cases r with
 | ok x w'=>
  cases x with
  | enter f args=>
   refine ⟨(λ hh=> by cases hh),callsIn_wide.2 (Calls.mono h (λ e w'' he=> ?_))⟩;cases e with
   | returned v=> exact he
   | panicked c=> exact (he:False).elim
   | outgrown=> exact he
  | row row args=>
   refine ⟨(λ hh=> by cases hh),λ c cs _=> ?_⟩;obtain ⟨v,w'',r,s⟩:=h c cs;exact ⟨v,w'',r,stepsIn_wide.2 s⟩
  | value v=> exact h
  | skip=> exact h
  | defer d=> exact h
  | _=> exact (h:False).elim
 | halt x w'=> cases x <;> exact (h:False).elim
theorem wpAnyIn_inv {F:Fence} {n:Nat} {P:Program} {ops:Array Oper} {Q:Exit->Act->World->Prop} {Inv:(Nat->Bool)->Act->World->Prop} (hf:forwardB ops=true)
 (hstep:∀(i:Nat) (o:Oper) (L:Nat->Bool) (a:Act) (w:World),ops[i]? =some o->L i=false->(∀e∈o.after,Region.binds .any e=true->L e.on=true)->Inv L a w->wpOpIn F n P ops Q i (λ a' w'=> Inv (λ j=> L j || decide (j=i)) a' w') a w)
 (hend:∀(L:Nat->Bool) (a:Act) (w:World),(∀i,i < ops.size->L i=true)->Inv L a w->Q .normal a w):
 ∀(fuel:Nat) (listed:Array Bool) (a:Act) (w:World),listed.size=ops.size->left listed<=fuel->Inv (λ j=> listed.getD j false) a w->wpAnyIn F n P .any ops Q fuel listed a w
 | 0,listed,a,w,hs,hl,hI=> by
  have hr:Region.ready .any ops listed=[]:=by
   rw [List.eq_nil_iff_forall_not_mem];intro j hj;obtain ⟨hun,oj,hoj,_⟩:=mem_ready.1 hj;have hlt:j < listed.size:=by have:=(Array.getElem?_eq_some_iff.1 hoj).1;omega
   have:0 < listed.toList.count false:=List.count_pos_iff.2 (by
    have hx:listed.toList[j]'(by simpa using hlt)=false:=by simpa [Array.getD,hlt] using hun
    rw [<-hx];exact List.getElem_mem _)
   unfold left at hl;omega
  exact wpAnyIn_done hr (hend _ _ _ (ready_nil hf hs hr) hI) 0
 | fuel+1,listed,a,w,hs,hl,hI=> by
  refine ⟨λ hr=> hend _ _ _ (ready_nil hf hs hr) hI,λ j hj=> ?_⟩;obtain ⟨hun,oj,hoj,hall⟩:=mem_ready.1 hj;have hlt:j < listed.size:=by have:=(Array.getElem?_eq_some_iff.1 hoj).1;omega
  have hun':listed.getD j false=false:=by simpa [Array.getD,hlt] using hun
  refine wpOpIn_mono (λ a' w' h'=> wpAnyIn_inv hf hstep hend fuel (listed.setIfInBounds j true) a' w' (by simpa using hs) ?_ ?_) (hstep j oj (λ j=> listed.getD j false) a w hoj hun' hall hI)
  · have:=left_set hlt hun'
    omega
  · have:(λ k=> (listed.setIfInBounds j true).getD k false)=λ k=> listed.getD k false || decide (k=j):=by
     funext k;by_cases hk:k=j
     · subst hk
       simp [Array.getD,hlt]
     · rw [getD_set_ne false (λ h=> hk h.symm)]
       simp [hk]
    rw [this];exact h'
theorem wpIn_region_inv {P:Program} {m id:Nat} {ops ops':Array Oper} {Q:Exit->Act->World->Prop} {a:Act} {w:World} (Inv:(Nat->Bool)->Act->World->Prop) (he:ops=ops') (hm:P.follows .mixedOrders=true) (hf:forwardB ops'=true)
 (h0:Inv (λ _=> false) a w.drew)
 (hstep:∀(i:Nat) (o:Oper) (L:Nat->Bool) (a:Act) (w:World),ops'[i]? =some o->L i=false->(∀e∈o.after,Region.binds .any e=true->L e.on=true)->Inv L a w->wpOpIn Fence.wide m P ops' Q i (λ a' w'=> Inv (λ j=> L j || decide (j=i)) a' w') a w)
 (hend:∀(L:Nat->Bool) (a:Act) (w:World),(∀i,i < ops'.size->L i=true)->Inv L a w->Q .normal a w):(Code.region id ops true).wpIn Fence.wide m P Q a w:=by
 subst he;refine wpIn_region_any hm (wpAnyIn_inv hf hstep hend _ _ _ _ (by simp) ?_ ?_)
 · unfold left
   exact Nat.le_trans List.count_le_length (by simp)
 · have:(λ j=> (Array.replicate ops.size false).getD j false)=λ _=> false:=by
    funext j;simp [Array.getD]
   rw [this];exact h0
theorem wpIn_region_tail {P:Program} {m id:Nat} {ops ops':Array Oper} {Q:Exit->Act->World->Prop} {a:Act} {w:World} (N:Nat) (ks:List Nat) (fs:List Ft) (he:ops=ops') (hm:P.follows .mixedOrders=true) (hN:0 < N/\N<=ops'.size)
 (hf:forwardB ops'=true) (hnd:(List.range N).all (λ i=> match ops'[i]? with | some o=> (match o.op with | .defer _=> false | _=> true) | none=> true)=true) (hc:coverN ops' N (fs.map λ f=> (f.i,f.d))=true) (ht:tailN ops' N=true) (hi:(fs.map (·.i)).Nodup) (hd:(fs.map (·.d)).Nodup) (hk:∀f∈fs,f.d∈ks/\f.d < a.tmps.size/\f.i < N)
 (hstep:∀f∈fs,∀(o:Oper) (a1:Act) (w1:World),ops'[f.i]? =some o->Below w.heap.size w w1->(∀d,d ∉ ks->a1.eval (.tmp d)=a.eval (.tmp d))->(∀g∈fs,waitsB ops' f.i g.i=true->g.p w1 (a1.eval (.tmp g.d)))->
  ∀K:Act->World->Prop,(∀v w2,Below w1.heap.size w1 w2->f.p w2 v->K (a1.put (some f.d) v) w2)->o.wp P a1 w1 K (NoPanic Q))
 (hend:∀a1 w1,FrameLike a a1 ks->Below w.heap.size w w1->(∀f∈fs,f.p w1 (a1.eval (.tmp f.d)))->wpListIn Fence.wide m P ops' Q (ops'.toList.drop N) a1 w1):(Code.region id ops true).wpIn Fence.wide m P Q a w:=by
 have cov:∀i,i < N->∃o,ops'[i]? =some o/\o.guard=none/\∃f∈fs,f.i=i/\o.dst=some f.d:=by
  intro i hiN;unfold coverN at hc;have h1:=List.all_eq_true.1 hc i (List.mem_range.2 hiN);split at h1
  · cases h1
  · rename_i o ho
    simp only [Bool.and_eq_true,Option.isNone_iff_eq_none,List.any_eq_true,List.mem_map] at h1;obtain ⟨h2,t,⟨f,hf,rfl⟩,h3⟩:=h1;exact ⟨o,ho,h2,f,hf,by simpa using h3.1,by simpa using h3.2⟩
 have tl:∀i,N<=i->i < ops'.size->∀j,j < i->((closOf ops').getD i []).elem j=true:=by
  intro i h1 h2 j h3;have h4:=List.all_eq_true.1 ht i (List.mem_range.2 h2);rcases Bool.or_eq_true_iff.1 h4 with h5 | h5
  · have:=of_decide_eq_true h5;omega
  · exact List.all_eq_true.1 h5 j (List.mem_range.2 h3)
 let J:(Nat->Bool)->Act->World->Prop:=λ L a1 w1=> Down ops' L/\
  (((∃j,j < N/\L j=false)/\FInv a ks fs w L a1 w1)\/((∀j,j < N->L j=true)/\∃i,N<=i/\i<=ops'.size/\(∀j,N<=j->j < ops'.size->(L j=true↔j < i))/\wpListIn Fence.wide m P ops' Q (ops'.toList.drop i) a1 w1))
 refine wpIn_region_inv J he hm hf ⟨λ _ _ _ h=> (nomatch h), .inl ⟨⟨0,hN.1,rfl⟩,FrameLike.refl _ _,Below.drew (Below.refl _ _),λ _ _ h=> (nomatch h)⟩⟩ ?_ ?_
 · rintro i o L a1 w1 ho hL hdep ⟨hdn,hI⟩
   have hsz:=(Array.getElem?_eq_some_iff.1 ho).1;have hdn':Down ops' λ j=> L j || decide (j=i):=by
    intro j o' ho' hj e he' hb;rcases Bool.or_eq_true_iff.1 hj with h | h
    · exact Bool.or_eq_true_iff.2 (.inl (hdn j o' ho' h e he' hb))
    · have:=of_decide_eq_true h
      subst this;rw [ho] at ho';cases ho';exact Bool.or_eq_true_iff.2 (.inl (hdep e he' hb))
   have hall:∀j,((closOf ops').getD i []).elem j=true->L j=true:=λ j hj=> clos_true hdn ho hdep j (List.elem_iff.1 hj);rcases hI with ⟨⟨j0,hj0,hj0'⟩,hI⟩ | ⟨hh,k,k1,k2,k3,k4⟩
   · have hiN:i < N:=by
      apply Classical.byContradiction;intro hn;have:=hall j0 (tl i (by omega) hsz j0 (by omega));rw [hj0'] at this;cases this
     obtain ⟨o',ho',hg,f,hfm,rfl,hdst⟩:=cov i hiN;rw [ho] at ho';obtain rfl:=Option.some.inj ho';have hw:Region.wanted o (yielded ops' a1.tmps)=true:=by simp [Region.wanted,hg]
     have hlate:∀j,N<=j->j < ops'.size->L j=false:=by
      intro j h1 h2;cases hj:L j with
      | false=> rfl
      | true=>
       have h3:=clos_true hdn (o:=ops'[j]) (Array.getElem?_eq_getElem h2) (λ e he' hb=> hdn j _ (Array.getElem?_eq_getElem h2) hj e he' hb) j0 (List.elem_iff.1 (tl j h1 h2 j0 (by omega)));rw [hj0'] at h3;cases h3
     refine wpOpIn_wide ho hw (λ c hc=> by have h9:=List.all_eq_true.1 hnd f.i (List.mem_range.2 hiN);rw [ho] at h9;simp only [hc] at h9;cases h9) (hstep f hfm o a1 w1 ho hI.below (λ d hd=> hI.frame.same d hd) (λ g hgm hwt=> hI.facts g hgm (dep_of ho hdep hwt)) _ (λ v w2 hb hp=> ?_));have hI2:FInv a ks fs w (λ j=> L j || decide (j=f.i)) (a1.put o.dst v) w2:=by
      rw [hdst];refine ⟨hI.frame.put (hk f hfm).1 v,hI.below.trans (hb.mono hI.below.size),λ g hgm hL'=> ?_⟩;by_cases e:g.i=f.i
      · have:=pair_nodup hi hgm hfm e
        subst this;rw [eval_put_same (by rw [hI.frame.size];exact (hk g hgm).2.1)];exact hp
      · have hne:g.d≠f.d:=λ e'=> e (by rw [pair_nodup_d hd hgm hfm e'])
        rw [eval_put_ne hne.symm];exact g.mono _ _ _ (hI.facts g hgm (by simpa [e] using hL')) hb
     rw [<-hdst];refine ⟨hdn',?_⟩;by_cases hdone:∃j,j < N/\(L j || decide (j=f.i))=false
     · exact .inl ⟨hdone,hI2⟩
     · refine .inr ⟨λ j hj=> ?_,N,Nat.le_refl _,hN.2,λ j h1 h2=> ?_,hend _ _ hI2.frame hI2.below λ g hgm=> hI2.facts g hgm ?_⟩
       · show (L j || decide (j=f.i))=true
         cases hx:(L j || decide (j=f.i)) with
         | true=> rfl
         | false=> exact (hdone ⟨j,hj,hx⟩).elim
       · show (L j || decide (j=f.i))=true↔_
         rw [hlate j h1 h2];simp;omega
       · show (L g.i || decide (g.i=f.i))=true
         cases hx:(L g.i || decide (g.i=f.i)) with
         | true=> rfl
         | false=> exact (hdone ⟨g.i,(hk g hgm).2.2,hx⟩).elim
   · have hiN:N<=i:=by
      apply Classical.byContradiction;intro hn;rw [hh i (by omega)] at hL;cases hL
     have hik:i=k:=by
      have h1:¬ i < k:=λ h=> by rw [(k3 i hiN hsz).2 h] at hL;cases hL
      apply Classical.byContradiction;intro hne;have hk':k < i:=by omega
      have h2:=hall k (tl i hiN hsz k hk');have:=(k3 k k1 (by omega)).1 h2;omega
     subst hik;have hdr:ops'.toList.drop i=o::ops'.toList.drop (i+1):=drop_head (by rw [Array.getElem?_toList];exact ho);rw [hdr] at k4;unfold wpOpIn;simp only [ho];unfold wpListIn at k4;have hnext:∀a2 w2,wpListIn Fence.wide m P ops' Q (ops'.toList.drop (i+1)) a2 w2->J (λ j=> L j || decide (j=i)) a2 w2:=λ a2 w2 h=> by refine ⟨hdn', .inr ⟨λ j hj=> by show (L j || decide (j=i))=true;rw [hh j hj];rfl,i+1,by omega,by omega,λ j h1 h2=> ?_,h⟩⟩;show (L j || decide (j=i))=true↔_;rw [Bool.or_eq_true_iff,k3 j h1 h2,decide_eq_true_iff];omega
     split
     · rename_i hw
       rw [if_pos hw] at k4;exact Oper.wpIn_mono hnext k4
     · rename_i hw
       rw [if_neg hw] at k4;exact ⟨k4.1,hnext _ _ k4.2⟩
 · rintro L a1 w1 hL ⟨_,⟨⟨j,hj,hj'⟩,_⟩ | ⟨_,i,h1,h2,h3,h4⟩⟩
   · rw [hL j (by omega)] at hj'
     cases hj'
   · have:i=ops'.size:=by
      apply Classical.byContradiction;intro hne;have:=(h3 i h1 (by omega)).1 (hL i (by omega));omega
     subst this;rw [List.drop_of_length_le (by simp)] at h4;exact h4
def SeqG {α:Type} (n:Nat) (P:Program) (g:Nat) (lb:Array Value) (sz:Nat) (G:α->Array Value->Asn) (Qr:World->Prop) (xs:List α) (L0:List Asn):Prop:=
 ∀(l:Nat) (R:List Asn) (J Jx:List α->List Asn) (w0:World) (fp0:List Nat) (W:World),St w0 fp0 (L0++R) W->
  (∀Own W1,St w0 fp0 ((L0++R)++Own) W1->St w0 fp0 (J []++Own) W1)->(∀pre Own W1,St w0 fp0 (J pre++Own) W1->Qr W1)->
  (∀pre x rest Own W1 args,xs=pre++x::rest->args.size=sz->St w0 fp0 (G x args::(J pre++Own)) W1->YieldAt Fence.wide (n - 1) P l args W1 λ e W'=>
   (e=.returned (.bool true)/\St w0 fp0 (J (pre++[x])++Own) W')\/(e=.returned (.bool false)/\St w0 fp0 (Jx (pre++[x])++Own) W'))->
  CallsIn Fence.wide n P g (#[.func (.yield l) #[] #[]]++lb) W λ e W'=> (∃v,e=.returned v)/\(St w0 fp0 (J xs) W'\/∃pre x rest,xs=pre++x::rest/\St w0 fp0 (Jx (pre++[x])) W')
theorem wp_rangeFunc_g {P:Program} {α:Type} {n:Nat} {g:Operand} {ps:Array Tmp} {assign body:Code} {Q:Exit->Act->World->Prop} {a:Act} {w w0:World} {fp0:List Nat} {gf:Nat} {lb:Array Value} (hg:a.eval g=.func (.func gf) #[] lb)
 (eg:∀args w,(callFunc gf args).run P w=.ok (.enter gf args) w)
 {G:α->Array Value->Asn} {Qr:World->Prop} {xs:List α} {L0:List Asn} (hseq:SeqG (n - 1) P gf lb ps.size G Qr xs L0)
 (I:List α->List Asn) (Ix:Code->List α->List Asn) (R:List Asn) (hS:St w0 fp0 (L0++R) w) (h0:∀Own W,St w0 fp0 ((L0++R)++Own) W->St w0 fp0 (I []++Own) W) (hqr:∀pre Own W,St w0 fp0 (I pre++Own) W->Qr W)
 (hround:∀(l:Nat) (pre:List α) (x:α) (rest:List α) (args:Array Value) (Own:List Asn) (W:World),xs=pre++x::rest->args.size=ps.size->St w0 fp0 ((G x args::I pre)++Own) W->
  assign.wpIn (Fence.wide.inRound l) (n - 1 - 1) P (Exit.then (λ a₁ W1=> St w0 fp0 ((G x args::I pre)++Own) W1/\∀Own2 W2,St w0 fp0 ((G x args::I pre)++Own2) W2->body.wpIn (Fence.wide.inRound l) (n - 1 - 1) P (bodySt w0 fp0 I Ix (pre++[x]) Own2) a₁ W2) (λ _ _ _=> False))
   { tmps:=(ps.zip args).foldl (λ t (p,v)=> t.setIfInBounds p v) a.tmps,defers:=[] } W)
 (hdone:∀(D:Nat) (W:World),St w0 fp0 (defA D::I xs) W->Q .normal { a with defers:={ target:=.collected D,args:=#[] }::a.defers } W)
 (hstop:∀(D:Nat) (c:Code) (pre:List α) (x:α) (rest:List α) (W:World),xs=pre++x::rest->St w0 fp0 (defA D::Ix c (pre++[x])) W->c.wp P Q { a with defers:={ target:=.collected D,args:=#[] }::a.defers } W):
 (Code.rangeFunc g ps assign body).wp P Q a w:=by
 refine (wpIn_wide (n:=n)).1 (wpIn_rangeFunc ?_);intro fn hfn;obtain ⟨D,hD⟩:∃D,w.heap.size=D:=⟨_,rfl⟩
 obtain ⟨rec,hrec⟩:∃rec:LoopState->Option Code->Loop,rec=λ st pe=> { state:=st,pending:=pe,fn,tmps:=a.tmps,params:=ps,assign,body,defers:=D }:=⟨_,rfl⟩
 obtain ⟨W1,hW1⟩:∃W1,(w.alloc (.deferred (some []))).alloc (.loop (rec .ready none))=W1:=⟨_,rfl⟩
 have hS1:St w0 fp0 (loopA (D+1) (rec .ready none)::defA D::(L0++R)) W1:=by rw [<-hW1,<-hD];exact hS.loop_new _
 have hbp:∀st pe,(rec st pe).params=ps:=by intro st pe;rw [hrec]
 have hbs:∀st pe,(rec st pe).state=st/\(rec st pe).pending=pe:=by intro st pe;rw [hrec];exact ⟨rfl,rfl⟩
 have hbr:∀st pe st' pe',{ rec st pe with state:=st',pending:=pe' }=rec st' pe':=by intro st pe st' pe';rw [hrec]
 have hbr1:∀st pe st',{ rec st pe with state:=st' }=rec st' pe:=by intro st pe st';rw [hrec]
 have hout:=run_enterLoop_outer (P:=P) (w:=w) fn a.tmps ps assign body;rw [hD] at hout;refine ⟨D+1,[{ target:=.collected D,args:=#[] }],W1,{ target:=.fn (.func gf) lb,args:=#[.func (.yield (D+1)) #[] #[]] },W1,gf,
  #[.func (.yield (D+1)) #[] #[]]++lb,W1,?_,?_,λ _ _=> trivial,?_,λ h=> (by cases h),?_⟩
 · rw [<-hW1,hrec]
   exact hout
 · simp only [resolve,hg]
   simp [go_sem]
 · simp [invoke,go_sem,eg]
 clear hout;obtain ⟨Bk,hBk⟩:∃Bk:LoopState->Option Code->List Asn,Bk=λ st pe=> [loopA (D+1) (rec st pe),defA D]:=⟨_,rfl⟩
 have hbk:∀st pe (A Own:List Asn) W,St w0 fp0 ((A++Bk st pe)++Own) W↔St w0 fp0 (loopA (D+1) (rec st pe)::(A++defA D::Own)) W:=by
  intro st pe A Own W;rw [hBk];have hp:((A++[loopA (D+1) (rec st pe),defA D])++Own).Perm (loopA (D+1) (rec st pe)::(A++defA D::Own)):=by classical refine List.perm_iff_count.2 λ a=> ?_;simp only [List.count_append,List.count_cons,List.count_nil];omega
  exact ⟨λ h=> h.perm hp,λ h=> h.perm hp.symm⟩
 refine (hseq (D+1) (R++Bk .ready none) (λ pre=> I pre++Bk .ready none) (λ pre=> [exA λ c=> starA (Ix c pre++Bk .done (some c))]) w0 fp0 W1 ?_ ?_ (λ pre Own W h=> hqr pre (Bk .ready none++Own) W (by simpa only [List.append_assoc] using h)) ?_).mono ?_
 · rw [<-List.append_assoc]
   have:=(hbk .ready none (L0++R) [] W1).2 (hS1.perm (by classical refine List.perm_iff_count.2 λ a=> ?_;simp only [List.count_append,List.count_cons,List.count_nil];omega));simpa using this
 · intro Own W h
   have h1:St w0 fp0 ((L0++R)++(Bk .ready none++Own)) W:=by simpa only [List.append_assoc] using h
   have:=h0 _ _ h1;simpa only [List.append_assoc] using this
 · intro pre x rest Own W args hxs hsz h
   have h1:=(hbk .ready none (G x args::I pre) Own W).1 (by simpa only [List.cons_append,List.append_assoc] using h);have hl:=h1.loop_has;have hy:=run_yield (P:=P) (args:=args) hl (by rw [hbp];exact hsz);rw [hrec] at hy;have h1':St w0 fp0 ((G x args::I pre)++(loopA (D+1) (rec .ready none)::defA D::Own)) W:=h1.perm (by classical refine List.perm_iff_count.2 λ a=> ?_;simp only [List.cons_append,List.count_append,List.count_cons];omega);refine ⟨fn,_,assign,body,hy,roundIn_of_wpIn hfn (wpIn_mono (hround _ pre x rest args _ W hxs hsz h1') ?_)⟩;rintro e0 a0 W0 hp0;have hn:e0=.normal:=by cases e0 <;> first | rfl | exact hp0.elim
   subst hn;obtain ⟨h1,hbody⟩:=hp0;have h1:St w0 fp0 (loopA (D+1) (rec .ready none)::((G x args::I pre)++defA D::Own)) W0:=h1.perm (by classical refine List.perm_iff_count.2 λ a=> ?_;simp only [List.cons_append,List.count_append,List.count_cons];omega);have hl:=h1.loop_has;have hb:=run_beginRound (P:=P) hl (hbs _ _).1;rw [hbr1] at hb;refine ⟨_,hb,?_⟩;have h2:=h1.loop (rec .busy none);have h3:St w0 fp0 ((G x args::I pre)++(loopA (D+1) (rec .busy none)::defA D::Own)) (W0.putObj (D+1) (.loop (rec .busy none))):=h2.perm (by classical refine List.perm_iff_count.2 λ a=> ?_;simp only [List.cons_append,List.count_append,List.count_cons];omega);refine wpIn_mono (hbody _ _ h3) ?_;have fin:∀(A:List Asn) (jump:Option Code) (W3:World),St w0 fp0 (A++(loopA (D+1) (rec .busy none)::defA D::Own)) W3->
    (Instr.endRound (D+1) jump).run P W3=.ok (.bool jump.isNone) (W3.putObj (D+1) (.loop (rec (if jump.isNone then .ready else .done) jump)))/\
    St w0 fp0 ((A++Bk (if jump.isNone then .ready else .done) jump)++Own) (W3.putObj (D+1) (.loop (rec (if jump.isNone then .ready else .done) jump))):=by
    intro A jump W3 h;have h4:St w0 fp0 (loopA (D+1) (rec .busy none)::(A++defA D::Own)) W3:=h.perm (by classical refine List.perm_iff_count.2 λ a=> ?_;simp only [List.count_append,List.count_cons];omega);have hr:=run_endRound (P:=P) jump h4.loop_has;rw [hbr] at hr;exact ⟨hr,(hbk _ _ A Own _).2 (h4.loop _)⟩
   have ex:∀(c:Code) (A:List Asn) W3,St w0 fp0 ((Ix c (pre++[x])++Bk .done (some c))++Own) W3->St w0 fp0 ([exA λ c=> starA (Ix c (pre++[x])++Bk .done (some c))]++Own) W3:=by intro c A W3 h;exact h.fold λ f hf=> ⟨c,hf⟩
   rintro e a3 W3 hp;cases e with
   | normal=>
    obtain ⟨hr,h4⟩:=fin _ none W3 hp;exact ⟨_,_,hr, .inl ⟨rfl,h4⟩⟩
   | ret=>
    obtain ⟨hr,h4⟩:=fin _ (some .ret) W3 hp;exact ⟨_,_,hr, .inr ⟨rfl,ex _ [] _ h4⟩⟩
   | exit id=>
    obtain ⟨hr,h4⟩:=fin _ (some (.exit id)) W3 hp;exact ⟨_,_,hr, .inr ⟨rfl,ex _ [] _ h4⟩⟩
   | goto t=>
    obtain ⟨hr,h4⟩:=fin _ (some (.goto t)) W3 hp;exact ⟨_,_,hr, .inr ⟨rfl,ex _ [] _ h4⟩⟩
   | panic ch=> exact hp.elim
   | outgrown=> exact hp.elim
 · rintro e W2 ⟨⟨v,rfl⟩,h | ⟨pre,x,rest,hxs,h⟩⟩
   · have h1:=(hbk .ready none (I xs) [] W2).1 (by rwa [List.append_nil])
     have hr:=run_endLoop (P:=P) h1.loop_has (by rw [(hbs _ _).1];simp);rw [(hbs _ _).2] at hr;refine ⟨none,_,hr,hdone D _ ?_⟩;exact (h1.loop _).drop.perm (by classical refine List.perm_iff_count.2 λ a=> ?_;simp only [List.count_append,List.count_cons,List.count_nil];omega)
   · obtain ⟨fp,⟨f,g',⟨c,hc⟩,hg',hd,rfl⟩,ht⟩:=h
     have h0':St w0 fp0 (Ix c (pre++[x])++Bk .done (some c)) W2:=by rw [show g'=[] from hg',List.append_nil] at ht;exact ⟨f,hc,ht⟩
     have h1:=(hbk .done (some c) (Ix c (pre++[x])) [] W2).1 (by rwa [List.append_nil]);have hr:=run_endLoop (P:=P) h1.loop_has (by rw [(hbs _ _).1];simp);rw [(hbs _ _).2] at hr;refine ⟨some c,_,hr,wpIn_wide.2 (hstop D c pre x rest _ hxs ?_)⟩;exact (h1.loop _).drop.perm (by classical refine List.perm_iff_count.2 λ a=> ?_;simp only [List.count_append,List.count_cons,List.count_nil];omega)
def itG (x:Ri) (args:Array Value):Asn:=exA λ q:Option Addr×Nat=> starA [pureA (args=#[.int .i64 x.id, .slice q.1 x.r.length q.2]),rowA 68 3 (.slice q.1 x.r.length q.2) x.r.length (flat x.r)]
theorem itG_in {w0 w:World} {fp0:List Nat} {R:List Asn} {x:Ri} {v:Value} (h:St w0 fp0 (rowA 68 3 v x.r.length (flat x.r)::R) w):St w0 fp0 (itG x #[.int .i64 x.id,v]::R) w:=by
 obtain ⟨_,hr⟩:=h.has 0 rfl;obtain ⟨a,c,rfl, -⟩:=row_shape hr;have h1:St w0 fp0 ([pureA (#[Value.int .i64 x.id, .slice a x.r.length c]=#[Value.int .i64 x.id, .slice a x.r.length c]),rowA 68 3 (.slice a x.r.length c) x.r.length (flat x.r)]++R) w:=St.pure.2 ⟨rfl,h⟩;exact h1.fold λ f hf=> ⟨(a,c),hf⟩
theorem itG_out {w0 w:World} {fp0:List Nat} {R:List Asn} {x:Ri} {args:Array Value} (h:St w0 fp0 (itG x args::R) w):∃a c,args=#[.int .i64 x.id, .slice a x.r.length c]/\St w0 fp0 (rowA 68 3 (.slice a x.r.length c) x.r.length (flat x.r)::R) w:=by
 obtain ⟨⟨a,c⟩,h1⟩:=St.exE h;have h2:=St.star.1 h1;obtain ⟨h3,h4⟩:=St.pure.1 h2;exact ⟨a,c,h3,h4⟩
def rowF (i d:Nat) (B n:Nat) (xs:List Value):Ft:=⟨i,d,λ w v=> ∃f,(rowA 68 3 v n xs).p w f/\∀k∈f,B<=k,λ _w _w' v ⟨f,h1,h2⟩ hb=> ⟨f,(rowA 68 3 v n xs).loc h1 (λ k hk=> hb.block k ((rowA 68 3 v n xs).lt h1 k hk)),h2⟩⟩
def oE3:Array Oper:=opsR Tryz.f133 3
def fE3 (l eb:Nat) (x:Ri) (B:Nat):List Ft:=[.const 0 12 (.func (.yield l) #[] #[]), .const 1 13 (.pointer (some ⟨eb,0,none⟩)), .const 2 14 (.int .i64 x.id), .const 3 15 (.pointer (some ⟨eb,1,none⟩)), .const 4 16 x.v,rowF 5 17 B x.r.length (flat x.r)]
theorem each_reg (l eb m:Nat) (x:Ri) {c:Code} {a:Act} {w:World} {Q:Exit->Act->World->Prop} (c1:isReg c=true) (c2:c=.region 3 oE3 true) (hsz:a.tmps.size=21) (h0:a.eval (.tmp 0)=.func (.yield l) #[] #[]) (h4:a.eval (.tmp 4)=.pointer (some ⟨eb,0,none⟩))
 (e0:w.cell? ⟨eb,0,none⟩=some (.int .i64 x.id)) (e1:w.cell? ⟨eb,1,none⟩=some x.v) (hr:ValsAt w x.r x.v) (hl:x.r.length < 1099511627776)
 (hend:∀v w1,Below w.heap.size w w1->(∃f,(rowA 68 3 v x.r.length (flat x.r)).p w1 f/\∀k∈f,w.heap.size<=k)->wpListIn Fence.wide m Tryz.prog oE3 Q (oE3.toList.drop 6) (putL a [(12, .func (.yield l) #[] #[]),(13, .pointer (some ⟨eb,0,none⟩)),(14, .int .i64 x.id),(15, .pointer (some ⟨eb,1,none⟩)),(16,x.v),(17,v)]) w1):c.wpIn Fence.wide m Tryz.prog Q a w:=by
 subst c2;have hebl:=World.block_lt_of_cell? w _ e0;refine wpIn_region_tail 6 [12,13,14,15,16,17] (fE3 l eb x w.heap.size) rfl (by kernel_rfl) (by rw [show oE3.size=8 by kernel_rfl];omega) (by kernel_rfl) (by kernel_rfl) (by kernel_rfl) (by kernel_rfl) (by simp [fE3,Ft.const,rowF]) (by simp [fE3,Ft.const,rowF]) (by intro f hf;simp only [fE3,List.mem_cons,List.not_mem_nil,or_false] at hf;rcases hf with rfl | rfl | rfl | rfl | rfl | rfl <;> simp [Ft.const,rowF,hsz]) ?_ ?_
 · intro f hf o a1 w1 ho hb hold hfacts K hK
   simp only [fE3,List.mem_cons,List.not_mem_nil,or_false] at hf;have D:∀g∈fE3 l eb x w.heap.size,waitsB oE3 f.i g.i=true->g.p w1 (a1.eval (.tmp g.d)):=hfacts;have z0:=eval_spell ((hold 0 (by simp)).trans h0);have z4:=eval_spell ((hold 4 (by simp)).trans h4);rcases hf with rfl | rfl | rfl | rfl | rfl | rfl
   · have hl:oE3[0]? =some ⟨some 12,Op.move (.tmp 0),_,_,_,none⟩:=rfl
     obtain rfl:=Option.some.inj (ho.symm.trans hl);exact wp_of_value (d:=12) (v:=.func (.yield l) #[] #[]) (w':=w1) rfl (by simp [go_sem,execOp,Act.eval,z0]) (hK _ _ (Below.refl _ _) rfl)
   · have hl:oE3[1]? =some ⟨some 13,Op.fieldAddr _ (.tmp 4) 0,_,_,_,none⟩:=rfl
     obtain rfl:=Option.some.inj (ho.symm.trans hl);exact wp_of_value (d:=13) (v:=.pointer (some ⟨eb,0,none⟩)) (w':=w1) rfl (by simp [go_sem,execOp,Act.eval,z4]) (hK _ _ (Below.refl _ _) rfl)
   · have hl:oE3[2]? =some ⟨some 14,Op.load _ (.tmp 13),_,_,_,none⟩:=rfl
     obtain rfl:=Option.some.inj (ho.symm.trans hl);have x13:a1.eval (.tmp 13)=.pointer (some ⟨eb,0,none⟩):=D (.const 1 13 _) (by simp [fE3]) (by kernel_rfl:waitsB oE3 2 1=true);exact wp_of_value (d:=14) (v:=.int .i64 x.id) (w':=w1) rfl (exec_load1 rfl (by kernel_rfl) x13 ((hb.cell (p:=⟨eb,0,none⟩) hebl).trans e0)) (hK _ _ (Below.refl _ _) rfl)
   · have hl:oE3[3]? =some ⟨some 15,Op.fieldAddr _ (.tmp 4) 1,_,_,_,none⟩:=rfl
     obtain rfl:=Option.some.inj (ho.symm.trans hl);exact wp_of_value (d:=15) (v:=.pointer (some ⟨eb,1,none⟩)) (w':=w1) rfl (by simp [go_sem,execOp,Act.eval,z4]) (hK _ _ (Below.refl _ _) rfl)
   · have hl:oE3[4]? =some ⟨some 16,Op.load _ (.tmp 15),_,_,_,none⟩:=rfl
     obtain rfl:=Option.some.inj (ho.symm.trans hl);have x15:a1.eval (.tmp 15)=.pointer (some ⟨eb,1,none⟩):=D (.const 3 15 _) (by simp [fE3]) (by kernel_rfl:waitsB oE3 4 3=true);exact wp_of_value (d:=16) (v:=x.v) (w':=w1) rfl (exec_load1 rfl (by kernel_rfl) x15 ((hb.cell (p:=⟨eb,1,none⟩) hebl).trans e1)) (hK _ _ (Below.refl _ _) rfl)
   · have hl':oE3[5]? =some ⟨some 17,Op.call ⟨Callee.value (Operand.func _),#[Operand.tmp 16],_⟩,_,_,_,none⟩:=rfl
     obtain rfl:=Option.some.inj (ho.symm.trans hl');have x16:a1.eval (.tmp 16)=x.v:=D (.const 4 16 _) (by simp [fE3]) (by kernel_rfl:waitsB oE3 5 4=true);have z16:=eval_spell x16;refine wp_of_call (d:=17) (f:=71) (args:=#[x.v]) rfl (by simp [go_sem,Act.eval,z16]) (cloneW (flat x.r) x.r.length x.v w1 (hr.mono hb).1 (one_flat _) hl) ?_;rintro e w2 ⟨v,f,rfl,h2,h3,h5⟩;exact ⟨_,rfl,hK _ _ h3 ⟨f,h2,λ k hk=> Nat.le_trans hb.size (h5 k hk)⟩⟩
 · intro a1 w1 hfr hb hall
   have g0:=hall (.const 0 12 (.func (.yield l) #[] #[])) (by simp [fE3]);have g1:=hall (.const 1 13 (.pointer (some ⟨eb,0,none⟩))) (by simp [fE3]);have g2:=hall (.const 2 14 (.int .i64 x.id)) (by simp [fE3]);have g3:=hall (.const 3 15 (.pointer (some ⟨eb,1,none⟩))) (by simp [fE3]);have g4:=hall (.const 4 16 x.v) (by simp [fE3]);have g5:=hall (rowF 5 17 w.heap.size x.r.length (flat x.r)) (by simp [fE3]);rw [frame_eq hfr (cons_eq g0 (cons_eq g1 (cons_eq g2 (cons_eq g3 (cons_eq g4 (cons_eq rfl rfl))))))];exact hend _ w1 hb g5
theorem each1_seq (f:Nat) (caps:Array Value) (cb:Nat) (its:List Ri) (LC:List Asn) (he:∀args w,(callFunc f args).run Tryz.prog w=.ok (.enter f args) w) (hlen:its.length < 1099511627776) (hrl:∀x∈its,x.r.length < 1099511627776)
 (hcol:∀(w0:World) (fp0:List Nat) (R:List Asn) (w:World),St w0 fp0 (blkA cb 171 #[.func (.func f) #[] caps]::(LC++R)) w->Calls Tryz.prog f caps w λ e w'=> ∃v,e=.returned v/\St w0 fp0 (rowA 212 2 v its.length (riV its)::blkA cb 171 #[.func (.func f) #[] caps]::(LC++R)) w') (n:Nat):
 SeqG n Tryz.prog 133 #[.pointer (some ⟨cb,0,none⟩)] 2 itG (λ W=> ∀x∈its,ValsAt W x.r x.v) its (blkA cb 171 #[.func (.func f) #[] caps]::LC):=by
 intro y R J Jx w0 fp0 W hS h0 hq hY;refine callsIn_wide.2 ?_;have hS':St w0 fp0 (blkA cb 171 #[.func (.func f) #[] caps]::(LC++R)) W:=hS;have HC:=Lib.hid (hcol w0 fp0 R W hS');have H0:Hid (∀v W,St w0 fp0 (rowA 212 2 v its.length (riV its)::blkA cb 171 #[.func (.func f) #[] caps]::(LC++R)) W->St w0 fp0 (J []++[rowA 212 2 v its.length (riV its)]) W):=λ v W h=> h0 [rowA 212 2 v its.length (riV its)] W (by have h1:St w0 fp0 ([rowA 212 2 v its.length (riV its)]++((blkA cb 171 #[.func (.func f) #[] caps]::LC)++R)) W:=h;exact h1.comm);have HQ:=Lib.hid hq;have HY:=Lib.hid hY;have HRL:=Lib.hid hrl;obtain ⟨N,hN⟩:∃N,its.length=N:=⟨_,rfl⟩
 have HN:=Lib.hid hN;rw [hN] at HC H0;obtain ⟨_,hb⟩:=hS'.has 0 rfl;have c0:=(blk_get hb).1 0;have cl:=(blk_get hb).2.2;simp only [List.getElem?_toArray,List.getElem?_cons_zero] at c0;have hn63:N<=9223372036854775807:=by omega
 clear hS hS' hcol h0 hq hY hrl hb hN hlen;go_enter Tryz.func133,Tryz.ntmps133;go_wp2_with fail;(with_reducible refine HC.out.mono ?_);rintro e w1 ⟨v,rfl,h1⟩;obtain ⟨_,hrow⟩:=h1.has 0 rfl;obtain ⟨ga,gc,hgv, -⟩:=row_shape hrow;subst hgv;have H2:=Lib.hid (H0.out _ _ h1);clear HC H0 h1 hrow c0 cl;go_wp2;go_loopg [8] N (λ g z wr=> ∃k:Nat,z=.int .i64 k/\g+k=N/\Hid (∃pre rest,its=pre++rest/\pre.length=k/\St w0 fp0 (J pre++[rowA 212 2 (.slice ga N gc) N (riV its)]) wr))
 case atStart=> exact ⟨0,rfl,rfl,⟨[],its,rfl,rfl,H2.out⟩⟩
 case round=>
  clear H2;obtain ⟨k,rfl,hgk,Hr⟩:=hrel;by_cases hk:k < N
  · obtain ⟨pre,rest,hxs,hpl,hs⟩:=Hr.out
    cases rest with
    | nil=>
     exfalso;have:=congrArg List.length hxs;rw [HN.out,List.append_nil] at this;omega
    | cons x rest=>
     obtain ⟨_,hrw⟩:=St.has (i:=0) (A:=rowA 212 2 (.slice ga N gc) N (riV its)) hs.comm rfl;have hkl:k < its.length:=by rw [HN.out];exact hk
     have hxk:its[k]=x:=by
      have:its[k]? =some x:=by rw [hxs,<-hpl];simp
      rw [List.getElem?_eq_getElem hkl] at this;exact Option.some.inj this
     have hsl:=row_sl hrw (by rw [riV_len,HN.out]);rw [<-HN.out] at hsl;obtain ⟨gb,go,gc',e0,q0,q1⟩:=ri_cells hsl k hkl;obtain ⟨rfl, -, -⟩:=Value.slice.inj e0;rw [hxk] at q0 q1;have hvr:=HQ.out pre _ wr hs x (by rw [hxs];simp);have hql:=World.block_lt_of_cell? wr _ q0;have Hs:=Lib.hid hs;have Hxs:=Lib.hid hxs;have Hpl:=Lib.hid hpl;have Hgk:=Lib.hid hgk;have HVR:=Lib.hid hvr;have Hxl:=Lib.hid (HRL.out x (by rw [hxs];simp));have hkn:(k:Int) < N:=by omega
     obtain ⟨xid,xa,xn,xc,xr⟩:=x;unfold Ri.v at q1;simp only at q0 q1;clear hs hxs hpl hrw hkl hxk hsl e0 hvr Hr hgk;go_upto_region 3 with (fail)
     generalize hW2:wr.alloc _=W2;have hb2:Below wr.heap.size wr W2:=by rw [<-hW2];exact (Below.refl _ _).alloc (Nat.le_refl _) _
     have d0:=World.cell?_alloc_new wr _ _ 0 |>.symm.trans (congrArg (λ w=> World.cell? w ⟨wr.heap.size,0,none⟩) hW2) |>.symm
     have d1:=World.cell?_alloc_new wr _ _ 1 |>.symm.trans (congrArg (λ w=> World.cell? w ⟨wr.heap.size,1,none⟩) hW2) |>.symm
     simp only [List.getElem?_toArray,List.getElem?_cons_zero,List.getElem?_cons_succ] at d0 d1;have HS2:=Lib.hid (Hs.out.mono hb2);have HV2:=Lib.hid (HVR.out.mono hb2);clear hW2 hb2 q0 q1 hql Hs HVR;refine (wpIn_wide (n:=n)).1 ?_;refine each_reg y wr.heap.size n ⟨xid,xa,xn,xc,xr⟩ rfl rfl rfl rfl rfl d0 d1 HV2.out Hxl.out λ v w2 hb3 ⟨f3,h3,h4⟩=> ?_;have HG:Hid (St w0 fp0 (itG ⟨xid,xa,xn,xc,xr⟩ #[.int .i64 xid,v]::(J pre++[rowA 212 2 (.slice (some ⟨gb,go,none⟩) N gc) N (riV its)])) w2):=by have h5:=St.add HS2.out hb3 h3 h4;refine itG_in (x:=⟨xid,xa,xn,xc,xr⟩) ?_;exact (show St w0 fp0 ((J pre++[rowA 212 2 (.slice (some ⟨gb,go,none⟩) N gc) N (riV its)])++[rowA 68 3 v xr.length (flat xr)]) w2 from h5).comm
     obtain ⟨fn,tmps,assign,body,hy,hR⟩:=HY.out pre ⟨xid,xa,xn,xc,xr⟩ rest _ w2 #[.int .i64 xid,v] Hxs.out rfl HG.out;have HR:=Lib.hid hR;have HSo:Hid (∀W' A,St w0 fp0 (A++[rowA 212 2 (.slice (some ⟨gb,go,none⟩) N gc) N (riV its)]) W'->St w0 fp0 A W'):=λ W' A h=> St.dropAll (A:=[rowA 212 2 (.slice (some ⟨gb,go,none⟩) N gc) N (riV its)]) h.comm;clear hR HG HS2 HV2 d0 d1 hb3;have hd:oE3.toList.drop 6=[⟨some 18, .call ⟨.value (.tmp 12),#[.tmp 14, .tmp 17],_⟩,_,_,_,none⟩,⟨some 19, .unOp .not _ (.tmp 18),_,_,_,none⟩]:=rfl;rw [hd];clear hd;simp only [putL,List.foldl,Act.put,List.setIfInBounds_toArray,List.set_cons_succ,List.set_cons_zero]
     gi_wp2
     refine ⟨λ h=> (by cases h),HR.out.mono ?_⟩;rintro e W' (⟨rfl,hs'⟩ | ⟨rfl,hs'⟩)
     · have Hs':=Lib.hid hs'
       clear hs' HR hy
       gi_wp2
       go_wp2;go_roundg (gk - 1)
       case rel=> exact ⟨k+1,by go_num,by have:=Hgk.out;omega,⟨pre++[⟨xid,xa,xn,xc,xr⟩],rest,by rw [Hxs.out];simp,by rw [List.length_append,Hpl.out];rfl,Hs'.out⟩⟩
       case measure=> have:=Hgk.out;omega
     · have Hs':=Lib.hid (HSo.out _ _ hs')
       clear hs' HR hy HSo
       gi_wp2
       go_wp2;refine bodyPost_ret (results_none rfl _ _ _) rfl ?_;exact ⟨⟨_,rfl⟩, .inr ⟨pre,_,rest,Hxs.out,Hs'.out⟩⟩
  · have hnk:k=N:=by omega
    have Hend:Hid (St w0 fp0 (J its) wr):=by
     obtain ⟨pre,rest,hxs,hpl,hs⟩:=Hr.out;have:rest=[]:=by have:=congrArg List.length hxs;rw [HN.out,List.length_append] at this;exact List.length_eq_zero_iff.1 (by omega)
     subst this;rw [List.append_nil] at hxs;have h2:St w0 fp0 ([rowA 212 2 (.slice ga N gc) N (riV its)]++J pre) wr:=hs.comm;rw [<-hxs] at h2;exact St.dropAll h2
    clear Hr HY HQ hgk hk HN HRL;subst hnk;go_wp2;go_end0;exact ⟨⟨_,rfl⟩, .inl Hend.out⟩
theorem rowE (β:Bool) [OkI β]:RowSpec Tryz.prog (tES β) (tE β) 2:=by
 cases β
 · exact rowSpec (z:=.agg #[.int .i64 0, .slice none 0 0]) (bytes:=32) (by kernel_rfl) (by kernel_rfl) rfl (by omega) (by omega)
 · exact rowSpec (z:=.agg #[.string ⟨#[]⟩, .int .i64 0]) (bytes:=24) (by kernel_rfl) (by kernel_rfl) rfl (by omega) (by omega)
theorem sqCo0 (β:Bool) [OkI β]:Sq (BCollect β) [1,1,1,0,4,4]:=by cases β <;> first | (exact absurd (OkI.ok (β:=true)) (by decide)) | exact isQ (by kernel_rfl)
def gCo4 (β:Bool) (b i nk ck n2 c2:Nat) (vs:Value) (ak a2:Option Addr):=rg Tryz.prog (BCollect β) 4 88 [(20,7)] [(9,nV i),(0,pV b 0)] (Vq 0 20 [Kn i,Kp b 0,Kp b 0,Kp b 0,Kv (.slice ak nk ck),Kn nk,Kv (.bool (decide (i<=nk)))]) [Bk b (tN β) [.slice ak nk ck,vs, .slice a2 n2 c2]]
theorem obCo4 (β:Bool) [OkI β] (b i nk ck n2 c2:Nat) (vs:Value) (ak a2:Option Addr)  (w0:World) (fp0:List Nat) (R:List Asn):(gCo4 β b i nk ck n2 c2 vs ak a2 w0 fp0 R).Ok 7:=by
 cases β <;> first | (exact absurd (OkI.ok (β:=true)) (by decide)) | exact Rg.ok _ 7 [4,6] ⟨.load _ 4 0 0, .leq _ 6 i nk,trivial⟩
theorem cdCo4 (β:Bool) [OkI β]:IsSq (BCollect β) [1,1,1,0,4,4,0] 4:=by cases β <;> first | (exact absurd (OkI.ok (β:=true)) (by decide)) | exact isq (by kernel_rfl)
theorem ccCo26 (β:Bool) [OkI β]:isCond (csnd (cfst (cbody (cbody (cfst (csnd (csnd (csnd (bodyC (BCollect β))))))))))=true/\ccond (csnd (cfst (cbody (cbody (cfst (csnd (csnd (csnd (bodyC (BCollect β))))))))))=.tmp 26:=by cases β <;> first | (exact absurd (OkI.ok (β:=true)) (by decide)) | exact ⟨kr (by kernel_rfl),kr (by kernel_rfl)⟩
theorem isSkipCo1 (β:Bool) [OkI β]:isSkip (cthen (csnd (cfst (cbody (cbody (cfst (csnd (csnd (csnd (bodyC (BCollect β)))))))))))=true:=by cases β <;> first | (exact absurd (OkI.ok (β:=true)) (by decide)) | exact kr (by kernel_rfl)
theorem sqCo2 (β:Bool) [OkI β]:Sq (BCollect β) [1,1,1,0,4,4,1]:=by cases β <;> first | (exact absurd (OkI.ok (β:=true)) (by decide)) | exact isQ (by kernel_rfl)
theorem isBlkCo3 (β:Bool) [OkI β]:isBlk (cfst (csnd (cbody (cbody (cfst (csnd (csnd (csnd (bodyC (BCollect β))))))))))=true:=by cases β <;> first | (exact absurd (OkI.ok (β:=true)) (by decide)) | exact kr (by kernel_rfl)
theorem sqCo4 (β:Bool) [OkI β]:Sq (BCollect β) [1,1,1,0,4,4,1,0,4]:=by cases β <;> first | (exact absurd (OkI.ok (β:=true)) (by decide)) | exact isQ (by kernel_rfl)
def gCo6 (β:Bool) (b nk ck n2 c2:Nat) (vs:Value) (ak a2:Option Addr):=rg Tryz.prog (BCollect β) 6 88 [(29,3)] [(0,pV b 0)] (Vq 0 29 [Kp b 0,Kv (.bool (n2==0)),Kv (.bool (!(n2==0)))]) [Bk b (tN β) [.slice ak nk ck,vs, .slice a2 n2 c2]]
theorem obCo6 (β:Bool) [OkI β] (b nk ck n2 c2:Nat) (vs:Value) (ak a2:Option Addr)  (w0:World) (fp0:List Nat) (R:List Asn):(gCo6 β b nk ck n2 c2 vs ak a2 w0 fp0 R).Ok 3:=by
 cases β <;> first | (exact absurd (OkI.ok (β:=true)) (by decide)) | exact Rg.ok _ 3 [1] ⟨.ask1 _ 1 0 (λ w fp h=> (leaf_calls b _ _ a2 n2 c2 w h).mono λ e w' ⟨h1,h2⟩=> ⟨h1,h2 ▸ Below.refl _ _⟩),trivial⟩
theorem cdCo6 (β:Bool) [OkI β]:IsSq (BCollect β) [1,1,1,0,4,4,1,0,4,0] 6:=by cases β <;> first | (exact absurd (OkI.ok (β:=true)) (by decide)) | exact isq (by kernel_rfl)
theorem ccCo31 (β:Bool) [OkI β]:isCond (csnd (cfst (cbody (cfst (csnd (cbody (cbody (cfst (csnd (csnd (csnd (bodyC (BCollect β)))))))))))))=true/\ccond (csnd (cfst (cbody (cfst (csnd (cbody (cbody (cfst (csnd (csnd (csnd (bodyC (BCollect β)))))))))))))=.tmp 31:=by cases β <;> first | (exact absurd (OkI.ok (β:=true)) (by decide)) | exact ⟨kr (by kernel_rfl),kr (by kernel_rfl)⟩
def gCo7 (β:Bool) (b gp i nk ck n2 c2 cb N0 N1:Nat) (vs v0 pl ph:Value) (ak:Option Addr) (zs e0 e1:List Value) (KD OL OH:Asn):=rgq Tryz.prog (BCollect β) 7 88 [(32,11),(1,1)] [(0,pV b 0),(9,nV i),(2,pl),(3,ph)] [(1,v0,11)] (Vq 0 32 [Kp b 0,Kp b 0,Kp b 2,Ks gp n2 c2,Kn i,Kp gp i,Kp cb 0,Kv v0,Kv pl,Kv ph,Vf.slice]++Vq 11 1 [Fv [42] λ g=> .slice (sa (g 42)) (sn (g 42)) (sc (g 42))]) [.gen [10] [42] λ L g=> match L 10 with | true=> rowA (tE β) 2 (g 42) N1 e1 | false=> rowA (tE β) 2 v0 N0 e0,Bk b (tN β) [.slice ak nk ck,vs,sV gp n2 c2], .sl (tP β) (sV gp n2 c2) zs [], .all (KD), .all (OL), .all (OH)]
theorem obCo7 (β:Bool) [OkI β] (b gp i nk ck n2 c2 cb N0 N1:Nat) (vs v0 pl ph:Value) (ak:Option Addr) (zs e0 e1:List Value) (KD OL OH:Asn) (hi:i < n2) (hzi:zs[i]? =some (ptrV cb)) (hrec:∀(w0:World) (fp0:List Nat) (R:List Asn) (w:World),St w0 fp0 ([rowA (tE β) 2 v0 N0 e0,KD,OL,OH]++R) w->Calls Tryz.prog (fCollect β) #[ptrV cb,v0,pl,ph] w λ e w'=> ∃a n c,e=.returned (.slice a n c)/\St w0 fp0 ([rowA (tE β) 2 (.slice a n c) N1 e1,KD,OL,OH]++R) w') (w0:World) (fp0:List Nat) (R:List Asn):(gCo7 β b gp i nk ck n2 c2 cb N0 N1 vs v0 pl ph ak zs e0 e1 KD OL OH w0 fp0 R).Ok 12:=by
 have h10:∀w,St w0 fp0 ([rowA (tE β) 2 v0 N0 e0,blkA b (tN β) #[.slice ak nk ck,vs, .slice (some ⟨gp,0,none⟩) n2 c2],slA (tP β) (.slice (some ⟨gp,0,none⟩) n2 c2) zs,KD,OL,OH]++R) w->Calls Tryz.prog (fCollect β) #[ptrV cb,v0,pl,ph] w λ e w'=> ∃v a n c,v=.slice a n c/\e=.returned v/\St w0 fp0 ([rowA (tE β) 2 v N1 e1,blkA b (tN β) #[.slice ak nk ck,vs, .slice (some ⟨gp,0,none⟩) n2 c2],slA (tP β) (.slice (some ⟨gp,0,none⟩) n2 c2) zs,KD,OL,OH]++R) w':=λ w h=> (hrec _ _ _ w (St_re (L:=[_,_,_,_,_,_]) h [0,3,4,5] [1,2] (by kernel_rfl))).mono λ e w' ⟨a,n,c,h1,h2⟩=> ⟨.slice a n c,a,n,c,rfl,h1,St_re (L:=[_,_,_,_,_,_]) h2 [0,4,5,1,2,3] [] (by kernel_rfl)⟩
 cases β <;> first | (exact absurd (OkI.ok (β:=true)) (by decide)) | exact Rg.ok _ 12 [3,5,6,10] ⟨.load _ 3 1 2, .index _ 5 gp n2 c2 i hi, .elem _ 6 2 i hzi, .callV _ 10 _ _ h10,trivial⟩
theorem cdCo7 (β:Bool) [OkI β]:IsRg (BCollect β) [1,1,1,0,4,4,1,0,4,0,1,2] 7:=by cases β <;> first | (exact absurd (OkI.ok (β:=true)) (by decide)) | exact irg (by kernel_rfl)
theorem isSkipCo5 (β:Bool) [OkI β]:isSkip (celse (csnd (cfst (cbody (cfst (csnd (cbody (cbody (cfst (csnd (csnd (csnd (bodyC (BCollect β))))))))))))))=true:=by cases β <;> first | (exact absurd (OkI.ok (β:=true)) (by decide)) | exact kr (by kernel_rfl)
theorem sqCo6 (β:Bool) [OkI β]:Sq (BCollect β) [1,1,1,0,4,4,1,0,4,1]:=by cases β <;> first | (exact absurd (OkI.ok (β:=true)) (by decide)) | exact isQ (by kernel_rfl)
theorem sqCo7 (β:Bool) [OkI β]:Sq (BCollect β) [1,1,1,0,4,4,1,0,4,1,0]:=by cases β <;> first | (exact absurd (OkI.ok (β:=true)) (by decide)) | exact isQ (by kernel_rfl)
def gCo8e (β:Bool) (b i nk ck n2 c2:Nat) (vs ph:Value) (ak a2:Option Addr):=rg Tryz.prog (BCollect β) 8 88 [(43,25)] [(9,nV i),(0,pV b 0),(3,ph)] (Vq 0 43 [Kn i,Kp b 0,Kp b 0,Kp b 0,Kv (.slice ak nk ck),Kn nk,Kv (.bool true),Kv (.bool true),Kv undef,Kv undef,Kv undef,Kv undef,Kv undef,Kv undef,Kv undef,Kv undef,Kv undef,Kv undef,Kv undef,Kv undef,Kv undef,Kv undef,Kv undef,Kv undef,Kv (.bool true)]) [Bk b (tN β) [.slice ak nk ck,vs, .slice a2 n2 c2]]
theorem obCo8e (β:Bool) [OkI β] (b i nk ck n2 c2:Nat) (vs ph:Value) (ak a2:Option Addr) (hin:i=nk) (w0:World) (fp0:List Nat) (R:List Asn):(gCo8e β b i nk ck n2 c2 vs ph ak a2 w0 fp0 R).Ok 25:=by
 cases β <;> first | (exact absurd (OkI.ok (β:=true)) (by decide)) | exact Rg.ok _ 25 [4,6,8,9,10,11,12,13,14,15,16,17,18,19,20,21,22,23] ⟨.load _ 4 0 0, .eqlT _ 6 i nk hin, .skip _ 8, .skip _ 9, .skip _ 10, .skip _ 11, .skip _ 12, .skip _ 13, .skip _ 14, .skip _ 15, .skip _ 16, .skip _ 17, .skip _ 18, .skip _ 19, .skip _ 20, .skip _ 21, .skip _ 22, .skip _ 23,trivial⟩
theorem cdCo8e (β:Bool) [OkI β]:IsRg (BCollect β) [1,1,1,0,4,4,1,0,4,1,0,0] 8:=by cases β <;> first | (exact absurd (OkI.ok (β:=true)) (by decide)) | exact irg (by kernel_rfl)
def gCo8n (β:Bool) (b i nk ck n2 c2:Nat) (vs:Value) (ak a2:Option Addr):=rg Tryz.prog (BCollect β) 8 88 [(43,25)] [(9,nV i),(0,pV b 0),(3, .pointer none)] (Vq 0 43 [Kn i,Kp b 0,Kp b 0,Kp b 0,Kv (.slice ak nk ck),Kn nk,Kv (.bool false),Kv (.bool false),Kv (.pointer none),Kv (.bool false),Kv (.bool false),Kv undef,Kv undef,Kv undef,Kv undef,Kv undef,Kv undef,Kv undef,Kv undef,Kv undef,Kv undef,Kv undef,Kv undef,Kv (.bool false),Kv (.bool false)]) [Bk b (tN β) [.slice ak nk ck,vs, .slice a2 n2 c2]]
theorem obCo8n (β:Bool) [OkI β] (b i nk ck n2 c2:Nat) (vs:Value) (ak a2:Option Addr) (hin:i≠nk) (w0:World) (fp0:List Nat) (R:List Asn):(gCo8n β b i nk ck n2 c2 vs ak a2 w0 fp0 R).Ok 25:=by
 cases β <;> first | (exact absurd (OkI.ok (β:=true)) (by decide)) | exact Rg.ok _ 25 [4,6,11,12,13,14,15,16,17,18,19,20,21,22] ⟨.load _ 4 0 0, .eqlF _ 6 i nk hin, .skip _ 11, .skip _ 12, .skip _ 13, .skip _ 14, .skip _ 15, .skip _ 16, .skip _ 17, .skip _ 18, .skip _ 19, .skip _ 20, .skip _ 21, .skip _ 22,trivial⟩
theorem cdCo8n (β:Bool) [OkI β]:IsRg (BCollect β) [1,1,1,0,4,4,1,0,4,1,0,0] 8:=by cases β <;> first | (exact absurd (OkI.ok (β:=true)) (by decide)) | exact irg (by kernel_rfl)
def gCo8k (β:Bool) (b hb gk i nk ck n2 c2:Nat) (vs hh:Value) (r:Int) (k:Ky) (a2:Option Addr) (xs:List Value):=rg Tryz.prog (BCollect β) 8 88 [(43,25)] [(9,nV i),(0,pV b 0),(3,pV hb 0)] (Vq 0 43 [Kn i,Kp b 0,Kp b 0,Kp b 0,Ks gk nk ck,Kn nk,Kv (.bool false),Kv (.bool false),Kp hb 0,Kv (.bool true),Kv (.bool true),Kp b 0,Kp b 0,Kp b 0,Ks gk nk ck,Kn i,Kp gk i,Kv (encK k),Kp hb 0,Kp hb 0,Kv hh,Kv (.int .i64 r),Kv (.bool (decide (0<=r))),Kv (.bool (decide (0<=r))),Kv (.bool (decide (0<=r)))]) [Bk b (tN β) [sV gk nk ck,vs, .slice a2 n2 c2], .sl (tK β) (sV gk nk ck) xs [],Bk hb (tK β) [hh]]
theorem obCo8k (β:Bool) [OkI β] (b hb gk i nk ck n2 c2:Nat) (vs hh:Value) (r:Int) (k:Ky) (a2:Option Addr) (xs:List Value) (hin:i≠nk) (hi:i < nk) (hki:xs[i]? =some (encK k)) (hcmp:∀w,Calls Tryz.prog (fCmp β) #[encK k,hh] w λ e w'=> e=.returned (.int .i64 r)/\Below w.heap.size w w') (w0:World) (fp0:List Nat) (R:List Asn):(gCo8k β b hb gk i nk ck n2 c2 vs hh r k a2 xs w0 fp0 R).Ok 25:=by
 have hc2:∀w fp,(blkA hb (tK β) #[hh]).p w fp->Calls Tryz.prog (fCmp β) #[encK k,hh] w λ e w'=> e=.returned (.int .i64 r)/\Below w.heap.size w w':=λ w _ _=> hcmp w;cases β <;> first | (exact absurd (OkI.ok (β:=true)) (by decide)) | exact Rg.ok _ 25 [4,6,14,16,17,20,21,22] ⟨.load _ 4 0 0, .eqlF _ 6 i nk hin, .load _ 14 0 0, .index _ 16 gk nk ck i hi, .elem _ 17 1 i hki, .load _ 20 2 0, .ask1 _ 21 2 hc2, .geqI _ 22 r 0,trivial⟩
theorem cdCo8k (β:Bool) [OkI β]:IsRg (BCollect β) [1,1,1,0,4,4,1,0,4,1,0,0] 8:=by cases β <;> first | (exact absurd (OkI.ok (β:=true)) (by decide)) | exact irg (by kernel_rfl)
theorem ccCo67 (β:Bool) [OkI β]:isCond (csnd (cfst (csnd (cbody (cfst (csnd (cbody (cbody (cfst (csnd (csnd (csnd (bodyC (BCollect β))))))))))))))=true/\ccond (csnd (cfst (csnd (cbody (cfst (csnd (cbody (cbody (cfst (csnd (csnd (csnd (bodyC (BCollect β))))))))))))))=.tmp 67:=by cases β <;> first | (exact absurd (OkI.ok (β:=true)) (by decide)) | exact ⟨kr (by kernel_rfl),kr (by kernel_rfl)⟩
def gCo9 (β:Bool) (v1:Value):=rg Tryz.prog (BCollect β) 9 88 [(68,1),(8,1)] [(1,v1)] (Vq 0 68 [Kv v1]++Vq 1 8 [Kv v1]) []
theorem obCo9 (β:Bool) [OkI β] (v1:Value)  (w0:World) (fp0:List Nat) (R:List Asn):(gCo9 β v1 w0 fp0 R).Ok 2:=by
 cases β <;> first | (exact absurd (OkI.ok (β:=true)) (by decide)) | exact Rg.ok _ 2 [] trivial
theorem cdCo9 (β:Bool) [OkI β]:IsSq (BCollect β) [1,1,1,0,4,4,1,0,4,1,0,1,2] 9:=by cases β <;> first | (exact absurd (OkI.ok (β:=true)) (by decide)) | exact isq (by kernel_rfl)
theorem isRetCo8 (β:Bool) [OkI β]:isRet (csnd (cthen (csnd (cfst (csnd (cbody (cfst (csnd (cbody (cbody (cfst (csnd (csnd (csnd (bodyC (BCollect β))))))))))))))))=true:=by cases β <;> first | (exact absurd (OkI.ok (β:=true)) (by decide)) | exact kr (by kernel_rfl)
theorem isSkipCo9 (β:Bool) [OkI β]:isSkip (celse (csnd (cfst (csnd (cbody (cfst (csnd (cbody (cbody (cfst (csnd (csnd (csnd (bodyC (BCollect β)))))))))))))))=true:=by cases β <;> first | (exact absurd (OkI.ok (β:=true)) (by decide)) | exact kr (by kernel_rfl)
def gCo10 (β:Bool) (b gk gv cv i nk ck n2 c2 N1:Nat) (v1:Value) (k:Ky) (v:Va) (a2:Option Addr) (xs ys e1:List Value):=rgq Tryz.prog (BCollect β) 10 88 [(69,18),(1,1)] [(0,pV b 0),(9,nV i)] [(1,v1,18)] (Vq 0 69 [Kv v1,Kp b 0,Kp b 0,Kp b 0,Ks gk nk ck,Kn i,Kp gk i,Kv (encK k),Kp b 0,Kp b 0,Kp b 1,Ks gv ys.length cv,Kn i,Kp gv i,Kv (encV v),Kv (.agg #[encK k,encV v]),Vf.box,Vf.slice]++Vq 18 1 [Fv [86] λ g=> .slice (sa (g 86)) (sn (g 86)) (sc (g 86))]) [.new 16 [85] λ g=> boxsA (tE β) (g 85) [encK k,encV v].toArray, .gen [17] [86] λ L g=> match L 17 with | true=> rowA (tE β) 2 (g 86) (N1+1) (e1++[encK k,encV v]) | false=> rowA (tE β) 2 v1 N1 e1,Bk b (tN β) [sV gk nk ck,sV gv ys.length cv, .slice a2 n2 c2], .sl (tK β) (sV gk nk ck) xs [], .sl (tV β) (sV gv ys.length cv) ys []]
theorem obCo10 (β:Bool) [OkI β] (b gk gv cv i nk ck n2 c2 N1:Nat) (v1:Value) (k:Ky) (v:Va) (a2:Option Addr) (xs ys e1:List Value) (hi:i < nk) (hj:i < ys.length) (hki:xs[i]? =some (encK k)) (hvi:ys[i]? =some (encV v)) (hN1:N1+1 < 1099511627776) (w0:World) (fp0:List Nat) (R:List Asn):(gCo10 β b gk gv cv i nk ck n2 c2 N1 v1 k v a2 xs ys e1 w0 fp0 R).Ok 19:=by
 have h1:∀u∈[encK k,encV v],u.oneCell'=true:=by
  intro u hu;rcases List.mem_cons.1 hu with rfl | hu
  · exact encK_one k
  · rw [List.mem_singleton.1 hu];exact encV_one v
 cases k <;> cases v <;> cases β <;> first | (exact absurd (OkI.ok (β:=true)) (by decide)) | exact Rg.ok _ 19 [4,6,7,11,13,14,16,17] ⟨.load _ 4 2 0, .index _ 6 gk nk ck i hi, .elem _ 7 3 i hki, .load _ 11 2 1, .index _ 13 gv ys.length cv i hj, .elem _ 14 4 i hvi, .boxs _ 16 0, .appE _ 17 0 1 (rowE _) hN1 rfl h1,trivial⟩
theorem cdCo10 (β:Bool) [OkI β]:IsRg (BCollect β) [1,1,1,0,4,4,1,0,4,1,1] 10:=by cases β <;> first | (exact absurd (OkI.ok (β:=true)) (by decide)) | exact irg (by kernel_rfl)
def gCo5 (β:Bool) (i:Nat):=rgq Tryz.prog (BCollect β) 5 88 [(27,2),(9,1)] [] [(9,nV i,2)] (Vq 0 27 [Kn i,Kn (i+1)]++Vq 2 9 [Kn (i+1)]) []
theorem obCo5 (β:Bool) [OkI β] (i:Nat) (hi:i+1 < 1099511627777) (w0:World) (fp0:List Nat) (R:List Asn):(gCo5 β i w0 fp0 R).Ok 3:=by
 cases β <;> first | (exact absurd (OkI.ok (β:=true)) (by decide)) | exact Rg.ok _ 3 [1] ⟨.add _ 1 (i) (1) ((i+1:Nat):Int),trivial⟩
theorem cdCo5 (β:Bool) [OkI β]:IsRg (BCollect β) [1,1,1,0,4,4,1,1] 5:=by cases β <;> first | (exact absurd (OkI.ok (β:=true)) (by decide)) | exact irg (by kernel_rfl)
theorem col_round (β:Bool) [OkI β] (b i nk ck n2 c2 cb N0 N1:Nat) (vs v0 pl ph hh:Value) (r:Int) (k:Ky) (v:Va) (ak a2:Option Addr) (xs ys zs e0 e1:List Value) (KD OL OH:Asn) (hnk:nk=xs.length) (hxy:ys.length=xs.length) (hlx:xs.length < 1099511627776) (hn2:n2=zs.length) (hlz:zs.length < 1099511627776) (hN1:N1+1 < 1099511627776) (hik:i<=nk)
 (hky:i < nk->xs[i]? =some (encK k)) (hvy:i < nk->ys[i]? =some (encV v)) (hz:n2≠0->zs[i]? =some (ptrV cb))
 (hX:n2=0->N1=N0/\e1=e0)
 (hrec:n2≠0->∀(w0:World) (fp0:List Nat) (R:List Asn) (w:World),St w0 fp0 ([rowA (tE β) 2 v0 N0 e0,KD,OL,OH]++R) w->Calls Tryz.prog (fCollect β) #[ptrV cb,v0,pl,ph] w λ e w'=> ∃a n c,e=.returned (.slice a n c)/\St w0 fp0 ([rowA (tE β) 2 (.slice a n c) N1 e1,KD,OL,OH]++R) w')
 (hph:ph=.pointer none\/∃hb,ph=.pointer (some ⟨hb,0,none⟩)/\OH=blkA hb (tK β) #[hh])
 (hcmp:ph≠.pointer none->∀w,Calls Tryz.prog (fCmp β) #[encK k,hh] w λ e w'=> e=.returned (.int .i64 r)/\Below w.heap.size w w') (w0 w:World) (fp0:List Nat) (R:List Asn) (A0:Act) (Q:Exit->Act->World->Prop)
 (hStop:(i=nk\/(i < nk/\ph≠.pointer none/\0<=r))->∀(v1:Value) A w',Knows 88 A [(8,v1)]->St w0 fp0 ([rowA (tE β) 2 v1 N1 e1,blkA b (tN β) #[.slice ak nk ck,vs, .slice a2 n2 c2],slA (tK β) (.slice ak nk ck) xs,slA (tV β) (vs) ys,slA (tP β) (.slice a2 n2 c2) zs,KD,OL,OH]++R) w'->Q .ret A w')
 (hNext:i < nk->(ph=.pointer none\/(ph≠.pointer none/\r < 0))->∀(v2:Value) A w',Knows 88 A [(0, .pointer (some ⟨b,0,none⟩)),(1,v2),(2,pl),(3,ph),(9, .int .i64 ((i+1:Nat):Int))]->St w0 fp0 ([rowA (tE β) 2 v2 (N1+1) (e1++[encK k,encV v]),blkA b (tN β) #[.slice ak nk ck,vs, .slice a2 n2 c2],slA (tK β) (.slice ak nk ck) xs,slA (tV β) (vs) ys,slA (tP β) (.slice a2 n2 c2) zs,KD,OL,OH]++R) w'->Q .normal A w')
 (K0:Knows 88 A0 [(0, .pointer (some ⟨b,0,none⟩)),(1,v0),(2,pl),(3,ph),(9, .int .i64 i)]) (hS:St w0 fp0 ([rowA (tE β) 2 v0 N0 e0,blkA b (tN β) #[.slice ak nk ck,vs, .slice a2 n2 c2],slA (tK β) (.slice ak nk ck) xs,slA (tV β) (vs) ys,slA (tP β) (.slice a2 n2 c2) zs,KD,OL,OH]++R) w):(cbody (cbody (cfst (csnd (csnd (csnd (bodyC (BCollect β)))))))).wp Tryz.prog Q A0 w:=by
 refine wp_seqJ (sqCo0 β) (λ A w=> Knows 88 A [(0,pV b 0),(2,pl),(3,ph),(9,nV i),(1,v0)]/\St w0 fp0 ([rowA (tE β) 2 v0 N0 e0,blkA b (tN β) #[.slice ak nk ck,vs, .slice a2 n2 c2],slA (tK β) (.slice ak nk ck) xs,slA (tV β) (vs) ys,slA (tP β) (.slice a2 n2 c2) zs,KD,OL,OH]++R) w) ?_ ?_
 · skip
   refine wp_seqT (cdCo4 β).sq ?_;refine wp_regT (obCo4 β b i nk ck n2 c2 vs ak a2  _ _ _) (by kernel_rfl) (cdCo4 β).cd (K0.sub (by kernel_rfl)) (St_re hS [1] [0,2,3,4,5,6,7] (by kernel_rfl)) λ A1 w1 N1 H1=> ?_;have S1:St w0 fp0 ([blkA b (tN β) #[.slice ak nk ck,vs, .slice a2 n2 c2],rowA (tE β) 2 v0 N0 e0,slA (tK β) (.slice ak nk ck) xs,slA (tV β) (vs) ys,slA (tP β) (.slice a2 n2 c2) zs,KD,OL,OH]++R) w1:=H1;have K1:Knows 88 A1 [(0,pV b 0),(1,v0),(2,pl),(3,ph),(9,nV i),(26, .bool (decide (i<=nk)))]:=N1.knows K0 (by kernel_rfl);refine wp_condK (ccCo26 β) K1 (by rfl) (λ hq=> ?_) (λ hq=> ?_)
   · skip
     refine wp_skipT (isSkipCo1 β) ?_;exact ⟨K1.sub (by kernel_rfl),(St_re S1 [1,0,2,3,4,5,6,7] [] (by kernel_rfl))⟩
   · skip
     exact absurd hik (by simpa using hq)
 · rintro A2 w2 ⟨K2,S2⟩
   refine wp_seqJ (sqCo2 β) (λ A w=> ∃(v2:Value) (hin:i < nk) (hgo:(ph=.pointer none\/(ph≠.pointer none/\r < 0))),Knows 88 A [(0,pV b 0),(1,v2),(2,pl),(3,ph),(9,nV i)]/\St w0 fp0 ([rowA (tE β) 2 v2 (N1+1) (e1++[encK k,encV v]),blkA b (tN β) #[.slice ak nk ck,vs, .slice a2 n2 c2],slA (tK β) (.slice ak nk ck) xs,slA (tV β) (vs) ys,slA (tP β) (.slice a2 n2 c2) zs,KD,OL,OH]++R) w) ?_ ?_
   · skip
     refine wp_blkT (isBlkCo3 β) ?_;refine wp_seqJ (sqCo4 β) (λ A w=> ∃(v1:Value),Knows 88 A [(0,pV b 0),(2,pl),(3,ph),(9,nV i),(1,v1)]/\St w0 fp0 ([rowA (tE β) 2 v1 N1 e1,blkA b (tN β) #[.slice ak nk ck,vs, .slice a2 n2 c2],slA (tK β) (.slice ak nk ck) xs,slA (tV β) (vs) ys,slA (tP β) (.slice a2 n2 c2) zs,KD,OL,OH]++R) w) ?_ ?_
     · skip
       refine wp_seqT (cdCo6 β).sq ?_;refine wp_regT (obCo6 β b nk ck n2 c2 vs ak a2  _ _ _) (by kernel_rfl) (cdCo6 β).cd (K2.sub (by kernel_rfl)) (St_re S2 [1] [0,2,3,4,5,6,7] (by kernel_rfl)) λ A3 w3 N3 H3=> ?_;have S3:St w0 fp0 ([blkA b (tN β) #[.slice ak nk ck,vs, .slice a2 n2 c2],rowA (tE β) 2 v0 N0 e0,slA (tK β) (.slice ak nk ck) xs,slA (tV β) (vs) ys,slA (tP β) (.slice a2 n2 c2) zs,KD,OL,OH]++R) w3:=H3;have K3:Knows 88 A3 [(0,pV b 0),(2,pl),(3,ph),(9,nV i),(1,v0),(31, .bool (!(n2==0)))]:=N3.knows K2 (by kernel_rfl);refine wp_condK (ccCo31 β) K3 (by rfl) (λ hq=> ?_) (λ hq=> ?_)
       · skip
         have hn0:n2≠0:=by simpa using hq
         have hzi:=hz hn0;have hzl:i < zs.length:=(List.getElem?_eq_some_iff.1 hzi).1;obtain ⟨_,q5⟩:=St.has S3 4 rfl;obtain ⟨gp,cp,ep,hpc, -⟩:=sl_some q5 (by omega);obtain ⟨rfl, -,rfl⟩:=Value.slice.inj ep;refine wp_regT (obCo7 β b gp i nk ck n2 c2 cb N0 N1 vs v0 pl ph ak zs e0 e1 KD OL OH (by omega) hzi (hrec hn0) _ _ _) (by kernel_rfl) (cdCo7 β).cd (K3.sub (by kernel_rfl)) (St_re S3 [1,0,4,5,6,7] [2,3] (by kernel_rfl)) λ A4 w4 N4 H4=> ?_;have S4:St w0 fp0 ([rowA (tE β) 2 (slots A4 42) N1 e1,blkA b (tN β) #[.slice ak nk ck,vs,sV gp n2 c2],slA (tP β) (sV gp n2 c2) zs,KD,OL,OH,slA (tK β) (.slice ak nk ck) xs,slA (tV β) (vs) ys]++R) w4:=H4;have K4:Knows 88 A4 [(0,pV b 0),(2,pl),(3,ph),(9,nV i),(31, .bool (!(n2==0)))]:=N4.knows K3 (by kernel_rfl);obtain ⟨a1,n1,c1,e42⟩:∃a n c,slots A4 42=.slice a n c:=⟨_,_,_,N4.val 10 rfl⟩
         rw [e42] at S4;have e1s:slots A4 1=.slice a1 n1 c1:=by have this:slots A4 1=.slice (sa (slots A4 42)) (sn (slots A4 42)) (sc (slots A4 42)):=N4.val 11 rfl;rw [e42] at this;exact this
         have K4:=K4.add 1 (.slice a1 n1 c1) e1s;exact ⟨.slice a1 n1 c1,K4.sub (by kernel_rfl),(St_re S4 [0,1,6,7,2,3,4,5] [] (by kernel_rfl))⟩
       · skip
         refine wp_skipT (isSkipCo5 β) ?_;have hn0:n2=0:=by simpa using hq
         obtain ⟨e3,e4⟩:=hX hn0;obtain rfl:=e3.symm;obtain rfl:=e4.symm;exact ⟨v0,K3.sub (by kernel_rfl),(St_re S3 [1,0,2,3,4,5,6,7] [] (by kernel_rfl))⟩
     · rintro A5 w5 ⟨v1,K5,S5⟩
       refine wp_seqJ (sqCo6 β) (λ A w=> ∃(hin:i < nk) (hgo:(ph=.pointer none\/(ph≠.pointer none/\r < 0))),Knows 88 A [(0,pV b 0),(2,pl),(3,ph),(9,nV i),(1,v1)]/\St w0 fp0 ([rowA (tE β) 2 v1 N1 e1,blkA b (tN β) #[.slice ak nk ck,vs, .slice a2 n2 c2],slA (tK β) (.slice ak nk ck) xs,slA (tV β) (vs) ys,slA (tP β) (.slice a2 n2 c2) zs,KD,OL,OH]++R) w) ?_ ?_
       · skip
         refine wp_seqJ (sqCo7 β) (λ A w=> ∃(st:Bool) (hst:st=true->(i=nk\/(i < nk/\ph≠.pointer none/\0<=r))) (hgo2:st=false->i < nk/\(ph=.pointer none\/(ph≠.pointer none/\r < 0))),Knows 88 A [(0,pV b 0),(2,pl),(3,ph),(9,nV i),(1,v1),(67, .bool st)]/\St w0 fp0 ([rowA (tE β) 2 v1 N1 e1,blkA b (tN β) #[.slice ak nk ck,vs, .slice a2 n2 c2],slA (tK β) (.slice ak nk ck) xs,slA (tV β) (vs) ys,slA (tP β) (.slice a2 n2 c2) zs,KD,OL,OH]++R) w) ?_ ?_
         · skip
           by_cases hin:i=nk
           · skip
             refine wp_regT (obCo8e β b i nk ck n2 c2 vs ph ak a2 hin _ _ _) (by kernel_rfl) (cdCo8e β).cd (K5.sub (by kernel_rfl)) (St_re S5 [1] [0,2,3,4,5,6,7] (by kernel_rfl)) λ A6 w6 N6 H6=> ?_;have S6:St w0 fp0 ([blkA b (tN β) #[.slice ak nk ck,vs, .slice a2 n2 c2],rowA (tE β) 2 v1 N1 e1,slA (tK β) (.slice ak nk ck) xs,slA (tV β) (vs) ys,slA (tP β) (.slice a2 n2 c2) zs,KD,OL,OH]++R) w6:=H6;have K6:Knows 88 A6 [(0,pV b 0),(2,pl),(3,ph),(9,nV i),(1,v1),(67, .bool true)]:=N6.knows K5 (by kernel_rfl);exact ⟨true,λ _=> .inl hin,λ h=> (by cases h),K6.sub (by kernel_rfl),(St_re S6 [1,0,2,3,4,5,6,7] [] (by kernel_rfl))⟩
           · skip
             have hin2:i < nk:=by omega
             rcases hph with rfl | ⟨hb,rfl,rfl⟩
             · skip
               refine wp_regT (obCo8n β b i nk ck n2 c2 vs ak a2 hin _ _ _) (by kernel_rfl) (cdCo8n β).cd (K5.sub (by kernel_rfl)) (St_re S5 [1] [0,2,3,4,5,6,7] (by kernel_rfl)) λ A7 w7 N7 H7=> ?_;have S7:St w0 fp0 ([blkA b (tN β) #[.slice ak nk ck,vs, .slice a2 n2 c2],rowA (tE β) 2 v1 N1 e1,slA (tK β) (.slice ak nk ck) xs,slA (tV β) (vs) ys,slA (tP β) (.slice a2 n2 c2) zs,KD,OL,OH]++R) w7:=H7;have K7:Knows 88 A7 [(0,pV b 0),(2,pl),(3, .pointer none),(9,nV i),(1,v1),(67, .bool false)]:=N7.knows K5 (by kernel_rfl);exact ⟨false,λ h=> (by cases h),λ _=> ⟨hin2, .inl rfl⟩,K7.sub (by kernel_rfl),(St_re S7 [1,0,2,3,4,5,6,7] [] (by kernel_rfl))⟩
             · skip
               have hki:=hky hin2;obtain ⟨_,q2⟩:=St.has S5 2 rfl;obtain ⟨gk,cp,ep,hkc, -⟩:=sl_some q2 (by omega);obtain ⟨rfl, -,rfl⟩:=Value.slice.inj ep;refine wp_regT (obCo8k β b hb gk i nk ck n2 c2 vs hh r k a2 xs hin hin2 hki (hcmp (by simp)) _ _ _) (by kernel_rfl) (cdCo8k β).cd (K5.sub (by kernel_rfl)) (St_re S5 [1,2,7] [0,3,4,5,6] (by kernel_rfl)) λ A8 w8 N8 H8=> ?_;have S8:St w0 fp0 ([blkA b (tN β) #[sV gk nk ck,vs, .slice a2 n2 c2],slA (tK β) (sV gk nk ck) xs,blkA hb (tK β) #[hh],rowA (tE β) 2 v1 N1 e1,slA (tV β) (vs) ys,slA (tP β) (.slice a2 n2 c2) zs,KD,OL]++R) w8:=H8;have K8:Knows 88 A8 [(0,pV b 0),(2,pl),(3,pV hb 0),(9,nV i),(1,v1),(67, .bool (decide (0<=r)))]:=N8.knows K5 (by kernel_rfl);exact ⟨decide (0<=r),λ h=> .inr ⟨hin2,by simp,by simpa using h⟩,λ h=> ⟨hin2, .inr ⟨by simp,by simpa using h⟩⟩,K8.sub (by kernel_rfl),(St_re S8 [3,0,1,4,5,6,7,2] [] (by kernel_rfl))⟩
         · rintro A9 w9 ⟨st,hst,hgo2,K9,S9⟩
           refine wp_condK (ccCo67 β) K9 (by rfl) (λ hq=> ?_) (λ hq=> ?_)
           · skip
             have hs2:=hst hq;refine wp_seqT (cdCo9 β).sq ?_;refine wp_regT (obCo9 β v1  _ _ _) (by kernel_rfl) (cdCo9 β).cd (K9.sub (by kernel_rfl)) (St_re S9 [] [0,1,2,3,4,5,6,7] (by kernel_rfl)) λ A10 w10 N10 H10=> ?_;have S10:St w0 fp0 ([rowA (tE β) 2 v1 N1 e1,blkA b (tN β) #[.slice ak nk ck,vs, .slice a2 n2 c2],slA (tK β) (.slice ak nk ck) xs,slA (tV β) (vs) ys,slA (tP β) (.slice a2 n2 c2) zs,KD,OL,OH]++R) w10:=H10;have K10:Knows 88 A10 [(0,pV b 0),(2,pl),(3,ph),(9,nV i),(1,v1),(67, .bool st),(8,v1)]:=N10.knows K9 (by kernel_rfl);refine wp_retT (isRetCo8 β) ?_;exact hStop hs2 _ _ _ (K10.sub (by kernel_rfl)) (St_re S10 [0,1,2,3,4,5,6,7] [] (by kernel_rfl))
           · skip
             refine wp_skipT (isSkipCo9 β) ?_;obtain ⟨hin,hgo⟩:=hgo2 hq;exact ⟨hin,hgo,K9.sub (by kernel_rfl),(St_re S9 [0,1,2,3,4,5,6,7] [] (by kernel_rfl))⟩
       · rintro A11 w11 ⟨hin,hgo,K11,S11⟩
         have hki:=hky hin;have hvi:=hvy hin;obtain ⟨_,q2⟩:=St.has S11 2 rfl;obtain ⟨_,q3⟩:=St.has S11 3 rfl;obtain ⟨gk,cp,ep,hkc, -⟩:=sl_some q2 (by omega);obtain ⟨rfl, -,rfl⟩:=Value.slice.inj ep;obtain ⟨gv,cv,rfl,hvc, -⟩:=sl_some q3 (by omega);refine wp_regT (obCo10 β b gk gv cv i nk ck n2 c2 N1 v1 k v a2 xs ys e1 hin (by omega) hki hvi hN1 _ _ _) (by kernel_rfl) (cdCo10 β).cd (K11.sub (by kernel_rfl)) (St.emp.2 (St_re S11 [0,1,2,3] [4,5,6,7] (by kernel_rfl))) λ A12 w12 N12 H12=> ?_;have S12:St w0 fp0 ([rowA (tE β) 2 (slots A12 86) (N1+1) (e1++[encK k,encV v]),blkA b (tN β) #[sV gk nk ck,sV gv ys.length cv, .slice a2 n2 c2],slA (tK β) (sV gk nk ck) xs,slA (tV β) (sV gv ys.length cv) ys,slA (tP β) (.slice a2 n2 c2) zs,KD,OL,OH]++R) w12:=(St.drop H12)
         have K12:Knows 88 A12 [(0,pV b 0),(2,pl),(3,ph),(9,nV i)]:=N12.knows K11 (by kernel_rfl);obtain ⟨a3,n3,c3,e86⟩:∃a n c,slots A12 86=.slice a n c:=⟨_,_,_,N12.val 17 rfl⟩
         rw [e86] at S12;have e1s:slots A12 1=.slice a3 n3 c3:=by have this:slots A12 1=.slice (sa (slots A12 86)) (sn (slots A12 86)) (sc (slots A12 86)):=N12.val 18 rfl;rw [e86] at this;exact this
         have K12:=K12.add 1 (.slice a3 n3 c3) e1s;exact ⟨.slice a3 n3 c3,hin,hgo,K12.sub (by kernel_rfl),(St_re S12 [0,1,2,3,4,5,6,7] [] (by kernel_rfl))⟩
   · rintro A13 w13 ⟨v2,hin,hgo,K13,S13⟩
     refine wp_regT (obCo5 β i (by omega) _ _ _) (by kernel_rfl) (cdCo5 β).cd (K13.sub (by kernel_rfl)) (St_re S13 [] [0,1,2,3,4,5,6,7] (by kernel_rfl)) λ A14 w14 N14 H14=> ?_;have S14:St w0 fp0 ([rowA (tE β) 2 v2 (N1+1) (e1++[encK k,encV v]),blkA b (tN β) #[.slice ak nk ck,vs, .slice a2 n2 c2],slA (tK β) (.slice ak nk ck) xs,slA (tV β) (vs) ys,slA (tP β) (.slice a2 n2 c2) zs,KD,OL,OH]++R) w14:=H14;have K14:Knows 88 A14 [(0,pV b 0),(1,v2),(2,pl),(3,ph),(9,nV (i+1))]:=N14.knows K13 (by kernel_rfl);exact hNext hin hgo _ _ _ (K14.sub (by kernel_rfl)) (St_re S14 [0,1,2,3,4,5,6,7] [] (by kernel_rfl))
theorem entCs (β:Bool) [OkI β]:Tryz.prog.funcs[fCollect β]? =some (BCollect β)/\(BCollect β).body=some (bodyC (BCollect β))/\(BCollect β).ntmps=88:=by cases β <;> first | (exact absurd (OkI.ok (β:=true)) (by decide)) | exact ⟨kr (by kernel_rfl),kr (by kernel_rfl),kr (by kernel_rfl)⟩
def gCs0 (β:Bool)  :=rg Tryz.prog (BCollect β) 0 88 [(8,1)] [] (Vq 0 8 [Kv (.slice none 0 0)]) []
theorem obCs0 (β:Bool) [OkI β]   (w0:World) (fp0:List Nat) (R:List Asn):(gCs0 β  w0 fp0 R).Ok 1:=by
 cases β <;> first | (exact absurd (OkI.ok (β:=true)) (by decide)) | exact Rg.ok _ 1 [] trivial
theorem cdCs0 (β:Bool) [OkI β]:IsSq (BCollect β) [] 0:=by cases β <;> first | (exact absurd (OkI.ok (β:=true)) (by decide)) | exact isq (by kernel_rfl)
def gCs1 (β:Bool)  :=rg Tryz.prog (BCollect β) 1 88 [(9,1)] [] (Vq 0 9 [Kn 0]) []
theorem obCs1 (β:Bool) [OkI β]   (w0:World) (fp0:List Nat) (R:List Asn):(gCs1 β  w0 fp0 R).Ok 1:=by
 cases β <;> first | (exact absurd (OkI.ok (β:=true)) (by decide)) | exact Rg.ok _ 1 [] trivial
theorem cdCs1 (β:Bool) [OkI β]:IsSq (BCollect β) [1] 1:=by cases β <;> first | (exact absurd (OkI.ok (β:=true)) (by decide)) | exact isq (by kernel_rfl)
theorem sqCs0 (β:Bool) [OkI β]:Sq (BCollect β) [1,1]:=by cases β <;> first | (exact absurd (OkI.ok (β:=true)) (by decide)) | exact isQ (by kernel_rfl)
def gCs2n (β:Bool)  :=rg Tryz.prog (BCollect β) 2 88 [(10,2)] [(2, .pointer none)] (Vq 0 10 [Kv (.pointer none),Kv (.bool false)]) []
theorem obCs2n (β:Bool) [OkI β]   (w0:World) (fp0:List Nat) (R:List Asn):(gCs2n β  w0 fp0 R).Ok 2:=by
 cases β <;> first | (exact absurd (OkI.ok (β:=true)) (by decide)) | exact Rg.ok _ 2 [] trivial
theorem cdCs2n (β:Bool) [OkI β]:IsSq (BCollect β) [1,1,0] 2:=by cases β <;> first | (exact absurd (OkI.ok (β:=true)) (by decide)) | exact isq (by kernel_rfl)
theorem ccCs11 (β:Bool) [OkI β]:isCond (csnd (cfst (csnd (csnd (bodyC (BCollect β))))))=true/\ccond (csnd (cfst (csnd (csnd (bodyC (BCollect β))))))=.tmp 11:=by cases β <;> first | (exact absurd (OkI.ok (β:=true)) (by decide)) | exact ⟨kr (by kernel_rfl),kr (by kernel_rfl)⟩
theorem isSkipCs1 (β:Bool) [OkI β]:isSkip (celse (csnd (cfst (csnd (csnd (bodyC (BCollect β)))))))=true:=by cases β <;> first | (exact absurd (OkI.ok (β:=true)) (by decide)) | exact kr (by kernel_rfl)
def gCs2k (β:Bool) (lb:Nat):=rg Tryz.prog (BCollect β) 2 88 [(10,2)] [(2,pV lb 0)] (Vq 0 10 [Kp lb 0,Kv (.bool true)]) []
theorem obCs2k (β:Bool) [OkI β] (lb:Nat)  (w0:World) (fp0:List Nat) (R:List Asn):(gCs2k β lb w0 fp0 R).Ok 2:=by
 cases β <;> first | (exact absurd (OkI.ok (β:=true)) (by decide)) | exact Rg.ok _ 2 [] trivial
theorem cdCs2k (β:Bool) [OkI β]:IsSq (BCollect β) [1,1,0] 2:=by cases β <;> first | (exact absurd (OkI.ok (β:=true)) (by decide)) | exact isq (by kernel_rfl)
def gCs3 (β:Bool) (b i0 lb:Nat) (ks vs ps kk:Value) (q:Bool) (xs:List Value):=rg Tryz.prog (BCollect β) 3 88 [(13,5),(12,1),(18,2),(9,1)] [(0,pV b 0),(2,pV lb 0)] (Vq 0 13 [Kp b 0,Kp lb 0,Kp lb 0,Kv kk,Kv (.tuple #[nV i0, .bool q])]++Vq 5 12 [Kv (.tuple #[nV i0, .bool q])]++Vq 6 18 [Kn i0,Kv (.bool q)]++Vq 8 9 [Kn i0]) [Bk b (tN β) [ks,vs,ps], .sl (tK β) (ks) xs [],Bk lb (tK β) [kk]]
theorem obCs3 (β:Bool) [OkI β] (b i0 lb:Nat) (ks vs ps kk:Value) (q:Bool) (xs:List Value) (hf:∀w fp fp',(blkA b (tN β) #[ks,vs,ps]).p w fp->(slA (tK β) ks xs).p w fp'->Calls Tryz.prog (fFind β) #[ptrV b,kk] w λ e w'=> e=.returned (.tuple #[.int .i64 i0, .bool q])/\Below w.heap.size w w') (w0:World) (fp0:List Nat) (R:List Asn):(gCs3 β b i0 lb ks vs ps kk q xs w0 fp0 R).Ok 9:=by
 cases β <;> first | (exact absurd (OkI.ok (β:=true)) (by decide)) | exact Rg.ok _ 9 [3,4] ⟨.load _ 3 2 0, .ask2 _ 4 0 1 hf,trivial⟩
theorem cdCs3 (β:Bool) [OkI β]:IsRg (BCollect β) [1,1,0,1,2] 3:=by cases β <;> first | (exact absurd (OkI.ok (β:=true)) (by decide)) | exact irg (by kernel_rfl)
theorem sqCs2 (β:Bool) [OkI β]:Sq (BCollect β) [1,1,1]:=by cases β <;> first | (exact absurd (OkI.ok (β:=true)) (by decide)) | exact isQ (by kernel_rfl)
def gCs11 (β:Bool) (v1:Value):=rg Tryz.prog (BCollect β) 11 88 [(87,1),(8,1)] [(1,v1)] (Vq 0 87 [Kv v1]++Vq 1 8 [Kv v1]) []
theorem obCs11 (β:Bool) [OkI β] (v1:Value)  (w0:World) (fp0:List Nat) (R:List Asn):(gCs11 β v1 w0 fp0 R).Ok 2:=by
 cases β <;> first | (exact absurd (OkI.ok (β:=true)) (by decide)) | exact Rg.ok _ 2 [] trivial
theorem cdCs11 (β:Bool) [OkI β]:IsSq (BCollect β) [1,1,1,1] 11:=by cases β <;> first | (exact absurd (OkI.ok (β:=true)) (by decide)) | exact isq (by kernel_rfl)
theorem isRetCs3 (β:Bool) [OkI β]:isRet (csnd (csnd (csnd (csnd (csnd (bodyC (BCollect β)))))))=true:=by cases β <;> first | (exact absurd (OkI.ok (β:=true)) (by decide)) | exact kr (by kernel_rfl)
theorem resCs (β:Bool) [OkI β]:(BCollect β).results=#[.tmp 8]:=by cases β <;> first | (exact absurd (OkI.ok (β:=true)) (by decide)) | exact kr (by kernel_rfl)
theorem col_flat (β:Bool) [OkI β] (b i0 lb:Nat) (ks vs ps v0 pl ph kk:Value) (q:Bool) (xs:List Value) (OL X:Asn) (Y:Value->Asn) (hpl:(pl=.pointer none/\i0=0)\/(pl=.pointer (some ⟨lb,0,none⟩)/\OL=blkA lb (tK β) #[kk]))
 (hfind:pl≠.pointer none->∀w fp fp',(blkA b (tN β) #[ks,vs,ps]).p w fp->(slA (tK β) ks xs).p w fp'->Calls Tryz.prog (fFind β) #[ptrV b,kk] w λ e w'=> e=.returned (.tuple #[.int .i64 i0, .bool q])/\Below w.heap.size w w') (w0 w:World) (fp0:List Nat) (R:List Asn) (Rr:Ending->World->Prop)
 (HL:∀(Q:Exit->Act->World->Prop) (A:Act) (w:World),Knows 88 A [(0, .pointer (some ⟨b,0,none⟩)),(1,v0),(2,pl),(3,ph),(9, .int .i64 i0)]->St w0 fp0 ([blkA b (tN β) #[ks,vs,ps],slA (tK β) (ks) xs,OL,X]++R) w->
  (∀(v1:Value) (A:Act) (w:World),Knows 88 A [(1,v1)]->St w0 fp0 ([Y v1]++R) w->Q .normal A w)->(∀(v1:Value) (A:Act) (w:World),Knows 88 A [(8,v1)]->Rr (.returned v1) w->Q .ret A w)->(cfst (csnd (csnd (csnd (bodyC (BCollect β)))))).wp Tryz.prog Q A w)
 (hE:∀v1 w',St w0 fp0 ([Y v1]++R) w'->Rr (.returned v1) w')
 (hS:St w0 fp0 ([blkA b (tN β) #[ks,vs,ps],slA (tK β) (ks) xs,OL,X]++R) w):Calls Tryz.prog (fCollect β) #[ptrV b,v0,pl,ph] w Rr:=by
 refine calls_T [(0,pV b 0),(1,v0),(2,pl),(3,ph)] (entCs β) (by simp) (by kernel_rfl) λ A0 K0=> ?_;refine wp_seqT (cdCs0 β).sq ?_;refine wp_regT (obCs0 β   _ _ _) (by kernel_rfl) (cdCs0 β).cd (K0.sub (by kernel_rfl)) (St_re hS [] [0,1,2,3] (by kernel_rfl)) λ A1 w1 N1 H1=> ?_;have S1:St w0 fp0 ([blkA b (tN β) #[ks,vs,ps],slA (tK β) (ks) xs,OL,X]++R) w1:=H1;have K1:Knows 88 A1 [(0,pV b 0),(1,v0),(2,pl),(3,ph),(8, .slice none 0 0)]:=N1.knows K0 (by kernel_rfl);refine wp_seqT (cdCs1 β).sq ?_;refine wp_regT (obCs1 β   _ _ _) (by kernel_rfl) (cdCs1 β).cd (K1.sub (by kernel_rfl)) (St_re S1 [] [0,1,2,3] (by kernel_rfl)) λ A2 w2 N2 H2=> ?_;have S2:St w0 fp0 ([blkA b (tN β) #[ks,vs,ps],slA (tK β) (ks) xs,OL,X]++R) w2:=H2;have K2:Knows 88 A2 [(0,pV b 0),(1,v0),(2,pl),(3,ph),(8, .slice none 0 0),(9,nV 0)]:=N2.knows K1 (by kernel_rfl);refine wp_seqJ (sqCs0 β) (λ A w=> Knows 88 A [(0,pV b 0),(1,v0),(2,pl),(3,ph),(9,nV i0)]/\St w0 fp0 ([blkA b (tN β) #[ks,vs,ps],slA (tK β) (ks) xs,OL,X]++R) w) ?_ ?_
 · skip
   rcases hpl with ⟨rfl,rfl⟩ | ⟨rfl,rfl⟩
   · skip
     refine wp_seqT (cdCs2n β).sq ?_;refine wp_regT (obCs2n β   _ _ _) (by kernel_rfl) (cdCs2n β).cd (K2.sub (by kernel_rfl)) (St_re S2 [] [0,1,2,3] (by kernel_rfl)) λ A3 w3 N3 H3=> ?_;have S3:St w0 fp0 ([blkA b (tN β) #[ks,vs,ps],slA (tK β) (ks) xs,OL,X]++R) w3:=H3;have K3:Knows 88 A3 [(0,pV b 0),(1,v0),(2, .pointer none),(3,ph),(8, .slice none 0 0),(9,nV 0),(11, .bool false)]:=N3.knows K2 (by kernel_rfl);refine wp_condK (ccCs11 β) K3 (by rfl) (λ hq=> ?_) (λ hq=> ?_)
     · skip
       cases hq
     · skip
       refine wp_skipT (isSkipCs1 β) ?_;exact ⟨K3.sub (by kernel_rfl),(St_re S3 [0,1,2,3] [] (by kernel_rfl))⟩
   · skip
     have hf:=hfind (by simp);refine wp_seqT (cdCs2k β).sq ?_;refine wp_regT (obCs2k β lb  _ _ _) (by kernel_rfl) (cdCs2k β).cd (K2.sub (by kernel_rfl)) (St_re S2 [] [0,1,2,3] (by kernel_rfl)) λ A4 w4 N4 H4=> ?_;have S4:St w0 fp0 ([blkA b (tN β) #[ks,vs,ps],slA (tK β) (ks) xs,blkA lb (tK β) #[kk],X]++R) w4:=H4;have K4:Knows 88 A4 [(0,pV b 0),(1,v0),(2,pV lb 0),(3,ph),(8, .slice none 0 0),(9,nV 0),(11, .bool true)]:=N4.knows K2 (by kernel_rfl);refine wp_condK (ccCs11 β) K4 (by rfl) (λ hq=> ?_) (λ hq=> ?_)
     · skip
       refine wp_regT (obCs3 β b i0 lb ks vs ps kk q xs hf _ _ _) (by kernel_rfl) (cdCs3 β).cd (K4.sub (by kernel_rfl)) (St_re S4 [0,1,2] [3] (by kernel_rfl)) λ A5 w5 N5 H5=> ?_;have S5:St w0 fp0 ([blkA b (tN β) #[ks,vs,ps],slA (tK β) (ks) xs,blkA lb (tK β) #[kk],X]++R) w5:=H5;have K5:Knows 88 A5 [(0,pV b 0),(1,v0),(2,pV lb 0),(3,ph),(8, .slice none 0 0),(11, .bool true),(9,nV i0)]:=N5.knows K4 (by kernel_rfl);exact ⟨K5.sub (by kernel_rfl),(St_re S5 [0,1,2,3] [] (by kernel_rfl))⟩
     · skip
       cases hq
 · rintro A6 w6 ⟨K6,S6⟩
   refine wp_seqT (sqCs2 β) ?_;refine HL _ _ _ K6 S6 (λ v1 A w K S=> ?_) λ v1 A w K hr=> ?_
   · skip
     show (csnd (csnd (csnd (csnd (bodyC (BCollect β)))))).wp Tryz.prog (bodyPost Tryz.prog (BCollect β) Rr) A w;refine wp_seqT (cdCs11 β).sq ?_;refine wp_regT (obCs11 β v1  _ _ _) (by kernel_rfl) (cdCs11 β).cd (K.sub (by kernel_rfl)) (St_re S [] [0] (by kernel_rfl)) λ A7 w7 N7 H7=> ?_;have S7:St w0 fp0 ([Y v1]++R) w7:=H7;have K7:Knows 88 A7 [(1,v1),(8,v1)]:=N7.knows K (by kernel_rfl);refine wp_retT (isRetCs3 β) ?_;refine post_T K7 (res1 (resCs β) K7 (by rfl)) ?_;exact hE v1 _ S7
   · skip
     exact post_T K (res1 (resCs β) K (by rfl)) (hr)
end
end Go.Proofs.YtpdlkdoogojboaaGreat
noncomputable section
namespace Go.Proofs.YtpdlkdoogojboaaGreat
open T
section
variable {κ ν:Type}
def kidL:Nat->T κ ν->Nat->M κ ν
 | 0,_,_=> []
 | h+1,x,i=> match x.cs[i]? with
  | some c=> toL h c
  | none=> []
def partL:Nat->T κ ν->Nat->M κ ν
 | 0,x,i=> x.es.take i
 | h+1,x,i=> pre (toL h) (x.es.take i) (x.cs.take i)
theorem pre_snoc (f:T κ ν->M κ ν):∀(A:M κ ν) (C:List (T κ ν)) (a:κ×ν) (c:T κ ν),A.length=C.length->pre f (A++[a]) (C++[c])=pre f A C++f c++[a]
 | [],[],a,c,_=> by simp [pre]
 | x::A,y::C,a,c,h=> by rw [List.cons_append,List.cons_append,pre,pre,pre_snoc f A C a c (by simpa using h)];simp
 | [],_::_,_,_,h=> by simp at h
 | _::_,[],_,_,h=> by simp at h
theorem part_zero (h:Nat) (x:T κ ν):partL h x 0=[]:=by
 cases h <;> simp [partL,pre]
theorem part_succ {o h lo hi:Nat} {x:T κ ν} (hb:Body o h lo hi x) {i:Nat} {y:κ×ν} (hy:x.es[i]? =some y):partL h x (i+1)=partL h x i++kidL h x i++[y]:=by
 obtain ⟨hi',hy'⟩:=List.getElem?_eq_some_iff.1 hy;cases h with
 | zero=> simp only [partL,kidL,List.append_nil];rw [List.take_succ_eq_append_getElem hi',hy']
 | succ h=>
  have h3:=hb.2.2.1;have hc:i < x.cs.length:=by omega
  simp only [partL,kidL,List.getElem?_eq_getElem hc];rw [List.take_succ_eq_append_getElem hi',List.take_succ_eq_append_getElem hc,hy',pre_snoc _ _ _ _ _ (by simp;omega)]
theorem part_rest {o h lo hi:Nat} {x:T κ ν} (hb:Body o h lo hi x) {i:Nat} {y:κ×ν} (hy:x.es[i]? =some y):∃rest,toL h x=partL h x i++kidL h x i++y::rest:=by
 obtain ⟨hi',hy'⟩:=List.getElem?_eq_some_iff.1 hy;cases h with
 | zero=> exact ⟨x.es.drop (i+1),by simp only [partL,kidL,List.append_nil,toL];exact split_at hy⟩
 | succ h=>
  have h3:=hb.2.2.1;obtain ⟨c,hc⟩:∃c,x.cs[i]? =some c:=⟨_,List.getElem?_eq_getElem (by omega)⟩
  obtain ⟨d,hd⟩:∃d,x.cs[i+1]? =some d:=⟨_,List.getElem?_eq_getElem (by omega)⟩
  obtain ⟨t1,t2,t3⟩:=two_at hc hd hy;refine ⟨toL h d++post (toL h) (x.es.drop (i+1)) (x.cs.drop (i+2)),?_⟩;simp only [partL,kidL,hc]
  conv=> lhs;rw [<-T.eta x,t1,t2]
  rw [toL_two h _ _ _ _ _ _ _ t3];simp
theorem part_end {o h lo hi:Nat} {x:T κ ν} (hb:Body o h lo hi x):toL h x=partL h x x.es.length++kidL h x x.es.length:=by
 cases h with
 | zero=> simp [partL,kidL,toL]
 | succ h=>
  have h3:=hb.2.2.1;obtain ⟨es,cs⟩:=x;simp only [es_node,cs_node] at h3;obtain ⟨C,c,rfl⟩:=snoc_of (ne_nil (l:=cs) (by omega));have hl:es.length=C.length:=by simp at h3;omega
  rw [toL_last h _ _ _ hl];have e1:(C++[c])[es.length]? =some c:=by rw [hl];simp
  have e2:(C++[c]).take es.length=C:=by rw [hl];simp
  simp only [partL,kidL,es_node,cs_node,e1,e2,List.take_length]
end
section
variable {κ ν:Type} [KOrd κ]
def inR (lo hi:Option κ) (e:κ×ν):Bool:=(match lo with | none=> true | some k=> !decide (ltK e.1 k)) && (match hi with | none=> true | some k=> decide (ltK e.1 k))
def selM (lo hi:Option κ) (l:M κ ν):M κ ν:=l.filter (inR lo hi)
theorem selM_append (lo hi:Option κ) (l m:M κ ν):selM lo hi (l++m)=selM lo hi l++selM lo hi m:=List.filter_append _ _
theorem selM_all (l:M κ ν):selM none none l=l:=by
 unfold selM;rw [List.filter_eq_self];intro a _;rfl
def startI (lo:Option κ) (es:M κ ν):Nat:=match lo with | none=> 0 | some k=> posK es k
theorem startI_le (lo:Option κ) (es:M κ ν):startI lo es<=es.length:=by
 unfold startI;cases lo with
 | none=> exact Nat.zero_le _
 | some k=> exact posK_le es k
theorem posK_ge {es:M κ ν} (ha:AscM es) {k:κ} {i:Nat} (h:posK es k<=i) {y:κ×ν} (hy:es[i]? =some y):¬ ltK y.1 k:=by
 obtain ⟨hi,hy'⟩:=List.getElem?_eq_some_iff.1 hy;have hp:posK es k < es.length:=by omega
 have h0:=posK_head (es:=es) (k:=k) (List.drop_eq_getElem_cons hp);by_cases e:posK es k=i
 · subst e;rw [<-hy'];exact h0
 · intro hlt
   apply h0;have:=(List.pairwise_iff_getElem.1 ha) (posK es k) i hp hi (by omega);rw [hy'] at this;exact ltK_trans this hlt
theorem sel_start {o h lob hib:Nat} {x:T κ ν} (hb:Body o h lob hib x) (ha:AscM (toL h x)) (lo hi:Option κ):selM lo hi (partL h x (startI lo x.es))=[]:=by
 cases lo with
 | none=> rw [show startI none x.es=0 from rfl,part_zero];rfl
 | some k=>
  have hle:=posK_le x.es k;have hall:AllLt (partL h x (posK x.es k)) k:=by
   cases h with
   | zero=> exact posK_lt x.es k
   | succ h=>
    refine pre_lt (posK_lt x.es k) ?_;have h3:=hb.2.2.1;obtain ⟨c,hc⟩:∃c,x.cs[posK x.es k]? =some c:=⟨_,List.getElem?_eq_getElem (by omega)⟩
    have hl1:(x.es.take (posK x.es k)).length=(x.cs.take (posK x.es k)).length:=by simp;omega
    have hxe:toL (h+1) x=pre (toL h) (x.es.take (posK x.es k)) (x.cs.take (posK x.es k))++toL h c++post (toL h) (x.es.drop (posK x.es k)) (x.cs.drop (posK x.es k+1)):=by rw [<-toL_split h _ _ _ _ _ hl1,List.take_append_drop,<-split_at hc,T.eta]
    rw [hxe] at ha;exact (AscM.append.1 (AscM.append.1 ha).1).1
  unfold selM;rw [List.filter_eq_nil_iff];intro a ha';have:=hall a ha';simp [inR,this]
theorem sel_stop {l:M κ ν} {y:κ×ν} {rest:M κ ν} (ha:AscM (l++y::rest)) {lo:Option κ} {k:κ} (hk:¬ ltK y.1 k):selM lo (some k) (l++y::rest)=selM lo (some k) l:=by
 obtain ⟨_,_,_,h4,_⟩:=ha.mid;rw [selM_append];have:selM lo (some k) (y::rest)=[]:=by
  unfold selM;rw [List.filter_eq_nil_iff];intro a hm;have hn:¬ ltK a.1 k:=by
   rcases List.mem_cons.1 hm with rfl | hm
   · exact hk
   · exact λ h=> hk (ltK_trans (h4 a hm) h)
  simp [inR,hn]
 rw [this,List.append_nil]
theorem sel_take {es:M κ ν} (ha:AscM es) {lo hi:Option κ} {i:Nat} (h:startI lo es<=i) {y:κ×ν} (hy:es[i]? =some y) (hh:∀k,hi=some k->ltK y.1 k):selM lo hi [y]=[y]:=by
 have h1:inR lo hi y=true:=by
  unfold inR;cases lo with
  | none=>
   cases hi with
   | none=> rfl
   | some k=> simp [hh k rfl]
  | some k0=>
   have:=posK_ge ha (show posK es k0<=i from h) hy;cases hi with
   | none=> simp [this]
   | some k=> simp [this,hh k rfl]
 unfold selM;rw [List.filter_cons,if_pos h1];rfl
end
end Go.Proofs.YtpdlkdoogojboaaGreat
end
namespace Go.Proofs.YtpdlkdoogojboaaGreat
open Go Go.RowKit
noncomputable section
section
variable {β:Bool} [OkI β]
def entsV (l:MM):List Value:=l.flatMap λ e=> [encK e.1,encV e.2]
def entA (β:Bool) (v:Value) (l:MM):Asn:=rowA (tE β) 2 v l.length (entsV l)
theorem entsV_snoc (l:MM) (e:Ky×Va):entsV (l++[e])=entsV l++[encK e.1,encV e.2]:=by simp [entsV]
def optP (b:Nat):Option Ky->Value
 | none=> .pointer none
 | some _=> .pointer (some ⟨b,0,none⟩)
def optB (β:Bool) (b:Nat):Option Ky->Asn
 | none=> emp
 | some k=> blkA b (tK β) #[encK k]
def ColT (β:Bool) (lo hi:Option Ky) (lb hb h:Nat) (x:TT) (b:Nat):Prop:=∀(v0:Value) (l:MM) (w0 w:World) (fp0:List Nat) (R:List Asn),l.length+(toL h x).length+1 < 1099511627776->St w0 fp0 ([entA β v0 l,treeA β h x b,optB β lb lo,optB β hb hi]++R) w->
 Calls Tryz.prog (fCollect β) #[ptrV b,v0,optP lb lo,optP hb hi] w λ e w'=> ∃a n c,e=.returned (.slice a n c)/\St w0 fp0 ([entA β (.slice a n c) (l++selM lo hi (toL h x)),treeA β h x b,optB β lb lo,optB β hb hi]++R) w'
theorem part_len {o h lo hi:Nat} {x:TT} (hb:Body o h lo hi x) {i:Nat} (hi':i<=x.es.length):(partL h x i).length+(kidL h x i).length<=(toL h x).length:=by
 by_cases e:i < x.es.length
 · obtain ⟨rest,hr⟩:=part_rest hb (List.getElem?_eq_getElem e)
   rw [hr];simp only [List.length_append];omega
 · have e2:i=x.es.length:=by omega
   rw [part_end hb,e2,List.length_append];exact Nat.le_refl _
theorem col_loop {o h:Nat} (ho':o<=1024) (x:TT) (b:Nat) (lo hi:Option Ky) (lb hb:Nat) (hokh:∀k,hi=some k->k.ok β) (l:MM) (lob:Nat) (hbd:Body o h lob (o - 1) x) (ha:AscM (toL h x)) (hok:OkL β (toL h x)) (hlen:l.length+(toL h x).length+1 < 1099511627776) (bs:List Nat) (hl:bs.length=x.cs.length) (ks vs ps:Value) (w0:World) (fp0:List Nat) (R:List Asn)
 (HREC:∀(h' i:Nat) (c:TT) (cb:Nat),h=h'+1->x.cs[i]? =some c->bs[i]? =some cb->ColT β lo hi lb hb h' c cb) (Q:Exit->Act->World->Prop)
 (hQ:∀(v1:Value) (A:Act) (w:World),Knows 88 A [(8,v1)]->St w0 fp0 ([entA β v1 (l++selM lo hi (toL h x)),blkA b (tN β) #[ks,vs,ps],slA (tK β) ks (keysV x.es),slA (tV β) vs (valsV x.es),slA (tP β) ps (bs.map ptrV),starA (List.zipWith (kidA β h) x.cs bs),optB β lb lo,optB β hb hi]++R) w->Q .ret A w):
 ∀(g i:Nat) (v0:Value) (A:Act) (w:World),g+i=x.es.length->startI lo x.es<=i->Knows 88 A [(0, .pointer (some ⟨b,0,none⟩)),(1,v0),(2,optP lb lo),(3,optP hb hi),(9, .int .i64 i)]->
  St w0 fp0 ([entA β v0 (l++selM lo hi (partL h x i)),blkA b (tN β) #[ks,vs,ps],slA (tK β) ks (keysV x.es),slA (tV β) vs (valsV x.es),slA (tP β) ps (bs.map ptrV),starA (List.zipWith (kidA β h) x.cs bs),optB β lb lo,optB β hb hi]++R) w->
  Code.rounds Tryz.prog (cbody (cbody (cfst (csnd (csnd (csnd (bodyC (BCollect β)))))))) Q (g+1) A w
 | g,i,v0,A,w,hg,hsi,K,hS=> by
  rw [rounds_succ];obtain ⟨_,q1⟩:=hS.has 2 rfl;obtain ⟨_,q3⟩:=hS.has 4 rfl;obtain ⟨ak,ck,rfl, -⟩:=sl_get q1;obtain ⟨pa,pc,rfl, -⟩:=sl_get q3;have hes:x.es.length<=1023:=by have:=hbd.hi;omega
  have hae:AscM x.es:=asc_es ha;obtain ⟨y,hy,hyo⟩:∃y:Ky×Va,(i < x.es.length->x.es[i]? =some y)/\∀kh,hi=some kh->y.1.ok β:=by
   by_cases e:i < x.es.length
   · exact ⟨x.es[i],λ _=> List.getElem?_eq_getElem e,λ _ _=> hok.es _ (List.getElem_mem e)⟩
   · cases hi with
     | none=> exact ⟨(.int 0, .int 0),λ h=> absurd h e,λ _ h=> nomatch h⟩
     | some kh=> exact ⟨(kh, .int 0),λ h=> absurd h e,λ _ _=> hokh kh rfl⟩
  obtain ⟨r,hr⟩:∃r:Int,∀kh,hi=some kh->r=KOrd.cmp y.1 kh:=by
   cases hi with
   | none=> exact ⟨0,λ _ h=> nomatch h⟩
   | some kh=> exact ⟨KOrd.cmp y.1 kh,λ _ e=> by cases e;rfl⟩
  obtain ⟨hh,hhh⟩:∃hh:Value,∀kh,hi=some kh->hh=encK kh:=by
   cases hi with
   | none=> exact ⟨.int .i64 0,λ _ h=> nomatch h⟩
   | some kh=> exact ⟨encK kh,λ _ e=> by cases e;rfl⟩
  obtain ⟨cb,hcb⟩:∃cb,bs.length≠0->bs[i]? =some cb:=by
   by_cases h0:bs.length=0
   · exact ⟨0,λ hh=> absurd h0 hh⟩
   · have:i < bs.length:=by
      rcases hbd.kids with ⟨_,e⟩ | ⟨_,_,e,_⟩
      · rw [hl,e] at h0;exact absurd rfl h0
      · omega
     exact ⟨_,λ _=> List.getElem?_eq_getElem this⟩
  have hpl:=part_len hbd (i:=i) (by omega);have hsl:(l++selM lo hi (partL h x i++kidL h x i)).length<=l.length+(toL h x).length:=by rw [List.length_append];have:(selM lo hi (partL h x i++kidL h x i)).length<=(partL h x i++kidL h x i).length:=List.length_filter_le _ _;rw [List.length_append] at this;omega
  have hbl:bs.length<=1025:=by
   rcases hbd.kids with ⟨_,e⟩ | ⟨_,_,e,_⟩
   · rw [hl,e];simp
   · omega
  refine col_round β b i _ ck _ pc cb _ (l++selM lo hi (partL h x i++kidL h x i)).length vs v0 (optP lb lo) (optP hb hi) hh r y.1 y.2 ak pa (keysV x.es) (valsV x.es) (bs.map ptrV) _ (entsV (l++selM lo hi (partL h x i++kidL h x i))) _ (optB β lb lo) (optB β hb hi) rfl (by rw [keysV_length,valsV_length]) (by rw [keysV_length];omega) rfl (by rw [List.length_map];omega) (by omega) (by rw [keysV_length];omega)
   (λ e=> by rw [keysV_length] at e;simp [keysV,hy e]) (λ e=> by rw [keysV_length] at e;simp [valsV,hy e]) (λ e=> by rw [List.length_map] at e;rw [List.getElem?_map,hcb e];rfl)
   (λ e=> ?_) (λ e w0 fp0 R w hs=> ?_) ?_ (λ e w=> ?_) w0 w fp0 R A _ (λ hst v1 A w' K' h2=> ?_) (λ hin hgo v2 A w' K' h2=> ?_) K hS
  · rw [List.length_map] at e
    have hk:kidL h x i=[]:=by
     rcases hbd.kids with ⟨rfl,_⟩ | ⟨_,rfl,e2,_⟩
     · rfl
     · omega
    rw [hk,List.append_nil];exact ⟨rfl,rfl⟩
  · rw [List.length_map] at e
    rcases hbd.kids with ⟨_,e2⟩ | ⟨h',rfl,e2,hk⟩
    · rw [hl,e2] at e;exact absurd rfl e
    · obtain ⟨c,hc⟩:∃c,x.cs[i]? =some c:=⟨_,List.getElem?_eq_getElem (by omega)⟩
      have hkl:kidL (h'+1) x i=toL h' c:=by simp only [kidL,hc]
      rw [hkl] at hpl;have hpf:(selM lo hi (partL (h'+1) x i)).length<=(partL (h'+1) x i).length:=List.length_filter_le _ _;have h3:=(St.kidout hl hc (hcb e)).1 (St_re (L:=[_,_,_,_]) hs [1,0,2,3] [] (by kernel_rfl));refine (HREC h' i c cb rfl hc (hcb e) v0 (l++selM lo hi (partL (h'+1) x i)) w0 w fp0 (restA β h' i (i+1) x.cs bs::R) (by rw [List.length_append];omega) (St_re (L:=[_,_,_,_,_]) h3 [2,0,3,4,1] [] (by kernel_rfl))).mono λ e9 w' ⟨a,n,c',h4,h5⟩=> ⟨a,n,c',h4,?_⟩
      rw [hkl,selM_append,<-List.append_assoc];have h6:=(St.kidout hl hc (hcb e)).2 (St_re (L:=[_,_,_,_,_]) h5 [1,4,0,2,3] [] (by kernel_rfl));exact St_re (L:=[_,_,_,_]) h6 [1,0,2,3] [] (by kernel_rfl)
  · cases hi with
    | none=> exact .inl rfl
    | some kh=> exact .inr ⟨hb,rfl,by rw [hhh kh rfl];rfl⟩
  · cases hi with
    | none=> exact absurd rfl e
    | some kh=>
     rw [hhh kh rfl,hr kh rfl];exact (cmp_calls β y.1 kh (hyo kh rfl) (hokh kh rfl) w).mono λ e w' ⟨h1,h2⟩=> ⟨h1,h2 ▸ Below.refl _ _⟩
  · refine hQ v1 A w' K' ?_
    have hE:l++selM lo hi (partL h x i++kidL h x i)=l++selM lo hi (toL h x):=by
     rw [keysV_length] at hst;rcases hst with e | ⟨e,e2,e3⟩
     · rw [part_end hbd,<-e]
     · cases hi with
       | none=> exact absurd rfl e2
       | some kh=>
        obtain ⟨rest,hr2⟩:=part_rest hbd (hy e);rw [hr kh rfl] at e3;rw [hr2] at ha ⊢;rw [sel_stop ha (λ hlt=> by have hlt2:KOrd.cmp y.1 kh < 0:=hlt;omega)]
    rw [hE] at h2;exact h2
  · rw [keysV_length] at hin
    obtain ⟨g',rfl⟩:∃g',g=g'+1:=⟨g - 1,by omega⟩
    refine col_loop ho' x b lo hi lb hb hokh l lob hbd ha hok hlen bs hl _ vs _ w0 fp0 R HREC Q hQ g' (i+1) v2 A w' (by omega) (by omega) K' ?_;have hE:l++selM lo hi (partL h x (i+1))=(l++selM lo hi (partL h x i++kidL h x i))++[y]:=by
     rw [part_succ hbd (hy hin),selM_append,<-List.append_assoc];congr 1;refine sel_take hae hsi (hy hin) λ kh e=> ?_;subst e;rcases hgo with e2 | ⟨_,e3⟩
     · exact absurd e2 (by simp [optP])
     · have:=hr kh rfl
       rw [this] at e3;exact e3
    rw [hE];unfold entA;rw [entsV_snoc,List.length_append];exact h2
theorem lpCo (β:Bool) [OkI β]:isBlk (cfst (csnd (csnd (csnd (bodyC (BCollect β))))))=true/\isLoop (cbody (cfst (csnd (csnd (csnd (bodyC (BCollect β)))))))=true:=by cases β <;> first | (exact absurd (OkI.ok (β:=true)) (by decide)) | exact ⟨kr (by kernel_rfl),kr (by kernel_rfl)⟩
theorem collect_calls {o:Nat} (ho':o<=1024) (lo hi:Option Ky) (lb hb:Nat) (hokl:∀k,lo=some k->k.ok β) (hokh:∀k,hi=some k->k.ok β):∀(h lob:Nat) (x:TT) (b:Nat),Body o h lob (o - 1) x->AscM (toL h x)->OkL β (toL h x)->ColT β lo hi lb hb h x b
 | h,lob,x,b,hbd,ha,hok=> by
  intro v0 l w0 w fp0 R hlen hS;obtain ⟨p1,p2⟩:=lpCo β;have hes:x.es.length<=o - 1:=hbd.hi;have hae:AscM x.es:=asc_es ha;obtain ⟨ks,vs,ps,bs,hl,h1⟩:=St.openNT (St_re (L:=[_,_,_,_]) hS [1,0,2,3] [] (by kernel_rfl));have h2:=St_re (L:=[_,_,_,_,_,_,_,_]) h1 [0,1,6] [5,2,3,4,7] (by kernel_rfl);obtain ⟨kk,q,hkq⟩:∃(kk:Value) (q:Bool),∀k,lo=some k->kk=encK k/\q=hasK x.es k:=by
   cases lo with
   | none=> exact ⟨.int .i64 0,false,λ _ h=> nomatch h⟩
   | some k=> exact ⟨encK k,hasK x.es k,λ _ e=> by cases e;exact ⟨rfl,rfl⟩⟩
  refine col_flat β b (startI lo x.es) lb ks vs ps v0 (optP lb lo) (optP hb hi) kk q (keysV x.es) (optB β lb lo) emp (λ _=> pureA False) ?_ (λ hne=> ?_) w0 w fp0 _ _ (λ Q A w K S hQn hQr=> ?_) (λ v1 w' h3=> absurd (St.pure.1 h3).1 id) (St_re (L:=[_,_,_,_]) (St.emp.2 h2) [1,2,3,0] [] (by kernel_rfl))
  · cases lo with
    | none=> exact .inl ⟨rfl,rfl⟩
    | some k=> exact .inr ⟨rfl,by rw [(hkq k rfl).1];rfl⟩
  · cases lo with
    | none=> exact absurd rfl hne
    | some k=>
     obtain ⟨rfl,rfl⟩:=hkq k rfl;exact λ w fp fp' hbk hkk'=> find_calls b ks vs _ x.es k hok.es (hokl k rfl) w hbk ⟨_,hkk'⟩ hae (by omega)
  · refine wp_blkT p1 (wp_loopT (x.es.length - startI lo x.es+1) p2 (col_loop ho' x b lo hi lb hb hokh l lob hbd ha hok hlen bs hl ks vs ps w0 fp0 R ?_ _ (λ v1 A w' K' h3=> ?_) _ (startI lo x.es) v0 A w (by have:=startI_le lo x.es;omega) (Nat.le_refl _) K ?_))
    · intro h' i c cb e hc hcb
      subst e;obtain ⟨_,_,k3,k4⟩:=hbd;exact collect_calls ho' lo hi lb hb hokl hokh h' _ c cb (k4 c (List.mem_of_getElem? hc)) (asc_kid1 k3 hc ha) (hok.kid k3 hc)
    · refine hQr v1 A w' K' ?_
      obtain ⟨_,hr⟩:=h3.has 0 rfl;obtain ⟨a,c,rfl,_⟩:=row_shape hr;refine ⟨a,_,c,rfl,?_⟩;have h4:=St.shutNT (es:=x.es) (cs:=x.cs) (bs:=bs) (ks:=ks) (vs:=vs) (ps:=ps) hl (St_re (L:=[_,_,_,_,_,_,_,_]) h3 [1,2,3,4,5,0,6,7] [] (by kernel_rfl));rw [T.eta] at h4;exact St_re (L:=[_,_,_,_]) h4 [1,0,2,3] [] (by kernel_rfl)
    · rw [sel_start hbd ha,List.append_nil]
      exact St_re (L:=[_,_,_,_,_,_,_,_]) (St.emp.1 (St_re (L:=[_,_,_,_]) S [3,0,1,2] [] (by kernel_rfl))) [3,0,1,4,5,6,2,7] [] (by kernel_rfl)
end
def tTP (β:Bool):Nat:=match β with | false=> 110 | true=> 150
def tKP (β:Bool):Nat:=match β with | false=> 265 | true=> 299
def gBt0 (β:Bool) (bt bl bh tb rb N:Nat) (pl ph oo nn:Value) (X1:Value->Asn) (T0 OL OH:Asn) (w0:World) (fp0:List Nat) (R:List Asn):Rg where
 P:=Tryz.prog
 ops:=opsR (BBetw1 β) 0
 nt:=27
 ks:=[7,8,9,10,11,12,13,14,15]
 inp:=[(1, .pointer (some ⟨bt,0,none⟩)),(2, .pointer (some ⟨bl,0,none⟩)),(3, .pointer (some ⟨bh,0,none⟩))]
 vals:=[.is 0 7 (.pointer (some ⟨tb,0,none⟩)), .is 1 8 (.pointer (some ⟨tb,0,none⟩)), .is 2 9 (.pointer (some ⟨tb,0,none⟩)), .is 3 10 (.pointer (some ⟨rb,0,none⟩)), .is 4 11 (pl), .is 5 12 (ph),⟨6,13,[13],λ g=> .slice (sa (g 13)) N (sc (g 13))⟩, .is 7 14 (.int .i64 N), .is 8 15 (.int .i64 ((0:Nat):Int))]
 pcs:=[.gen [6] [13] λ L g=> match L 6 with | true=> X1 (g 13) | false=> emp, .blk bt (tTP β) [⟨.pointer (some ⟨tb,0,none⟩),[]⟩], .blk bl (tKP β) [⟨pl,[]⟩], .blk bh (tKP β) [⟨ph,[]⟩], .blk tb (tT β) [⟨.pointer (some ⟨rb,0,none⟩),[]⟩,⟨oo,[]⟩,⟨nn,[]⟩], .all (T0), .all (OL), .all (OH)]
 w0:=w0
 fp0:=fp0
 R:=R
theorem obBt0 (β:Bool) [OkI β] (bt bl bh tb rb N:Nat) (pl ph oo nn:Value) (X1:Value->Asn) (T0 OL OH:Asn) (hrec:∀(w0:World) (fp0:List Nat) (R:List Asn) (w:World),St w0 fp0 ([T0,OL,OH]++R) w->Calls Tryz.prog (fCollect β) #[ptrV rb, .slice none 0 0,pl,ph] w λ e w'=> ∃v a c,v=.slice a N c/\e=.returned v/\St w0 fp0 ([X1 v,T0,OL,OH]++R) w') (w0:World) (fp0:List Nat) (R:List Asn):(gBt0 β bt bl bh tb rb N pl ph oo nn X1 T0 OL OH w0 fp0 R).Ok 9:=by
 have h6:∀w,St w0 fp0 ([emp,blkA bt (tTP β) #[.pointer (some ⟨tb,0,none⟩)],blkA bl (tKP β) #[pl],blkA bh (tKP β) #[ph],blkA tb (tT β) #[.pointer (some ⟨rb,0,none⟩),oo,nn],T0,OL,OH]++R) w->Calls Tryz.prog (fCollect β) #[ptrV rb, .slice none 0 0,pl,ph] w λ e w'=> ∃v a c,v=.slice a N c/\e=.returned v/\St w0 fp0 ([X1 v,blkA bt (tTP β) #[.pointer (some ⟨tb,0,none⟩)],blkA bl (tKP β) #[pl],blkA bh (tKP β) #[ph],blkA tb (tT β) #[.pointer (some ⟨rb,0,none⟩),oo,nn],T0,OL,OH]++R) w':=λ w h=> (hrec _ _ _ w (St_re (L:=[_,_,_,_,_,_,_]) (St.emp.1 h) [4,5,6] [0,1,2,3] (by kernel_rfl))).mono λ e w' ⟨v,a,c,h0,h1,h2⟩=> ⟨v,a,c,h0,h1,St_re (L:=[_,_,_,_,_,_,_,_]) h2 [0,4,5,6,7,1,2,3] [] (by kernel_rfl)⟩
 cases β <;> first | (exact absurd (OkI.ok (β:=true)) (by decide)) | exact ⟨kr (by kernel_rfl),kr (by kernel_rfl), .load _ 0 1 0, .pure _ 1, .pure _ 2, .load _ 3 4 0, .load _ 4 2 0, .load _ 5 3 0, .callN _ 6 N _ _ h6, .pure _ 7, .pure _ 8,trivial⟩
section
variable {β:Bool} [OkI β]
theorem entsV_at (l:MM) (i:Nat) (h:i < l.length):(entsV l)[i * 2]? =some (encK l[i].1)/\(entsV l)[i * 2+1]? =some (encV l[i].2):=by
 induction l generalizing i with
 | nil=> simp at h
 | cons x l ih=>
  have e:entsV (x::l)=encK x.1::encV x.2::entsV l:=rfl;cases i with
  | zero=> exact ⟨rfl,rfl⟩
  | succ i=>
   have:=ih i (by simpa using h);rw [e,show (i+1) * 2=i * 2+1+1 by omega,show i * 2+1+1+1=(i * 2+1)+1+1 by omega];simpa using this
def betL (β:Bool) (o h:Nat) (l:MM) (tb bt bl bh lb hb:Nat) (lo hi:Option Ky):List Asn:=
 [objA β o h l tb,blkA bt (tTP β) #[.pointer (some ⟨tb,0,none⟩)],blkA bl (tKP β) #[optP lb lo],blkA bh (tKP β) #[optP hb hi],optB β lb lo,optB β hb hi]
theorem betw1_seq {o h:Nat} (ho':o<=1024) (lo hi:Option Ky) (lb hb:Nat) (hokl:∀k,lo=some k->k.ok β) (hokh:∀k,hi=some k->k.ok β) (l:MM) (hok:OkL β l) (tb bt bl bh:Nat) (hlen:l.length+1 < 1099511627776) (n:Nat):
 SeqSt n Tryz.prog (fBetw1 β) #[.pointer (some ⟨bt,0,none⟩), .pointer (some ⟨bl,0,none⟩), .pointer (some ⟨bh,0,none⟩)] (λ e:Ky×Va=> #[encK e.1,encV e.2]) (selM lo hi l) (betL β o h l tb bt bl bh lb hb lo hi):=by
 intro y R J Jx w0 fp0 W hS h0 hY;refine callsIn_wide.2 ?_;obtain ⟨x,rb,hg,hS1⟩:=St.openOT (show St w0 fp0 (objA β o h l tb::(blkA bt (tTP β) #[.pointer (some ⟨tb,0,none⟩)]::blkA bl (tKP β) #[optP lb lo]::blkA bh (tKP β) #[optP hb hi]::optB β lb lo::optB β hb hi::R)) W from hS);obtain ⟨g1,g2,g3⟩:=hg;have hsel:(selM lo hi l).length < 1099511627776:=Nat.lt_of_le_of_lt (List.length_filter_le _ _) (by omega);obtain ⟨sel,hsl⟩:∃sel,selM lo hi l=sel:=⟨_,rfl⟩
 have hcol:=collect_calls (β:=β) ho' lo hi lb hb hokl hokh h _ x rb g1 g2 (by rw [g3];exact hok);have HREG:=Lib.hid (obBt0 β bt bl bh tb rb sel.length (optP lb lo) (optP hb hi) (.int .i64 o) (.int .i64 l.length) (λ v=> entA β v sel) (treeA β h x rb) (optB β lb lo) (optB β hb hi) (λ w0 fp0 R w hs=> by refine (hcol (.slice none 0 0) [] w0 w fp0 R (by rw [g3];simp;omega) (St.nilR (tE β) 2 hs)).mono λ e w' ⟨a,n,c,h1,h2⟩=> ?_;rw [g3,List.nil_append,hsl] at h2;obtain ⟨_,hr⟩:=h2.has 0 rfl;obtain ⟨a',c',e1,_⟩:=row_shape hr;obtain ⟨rfl,rfl,rfl⟩:=Value.slice.inj e1;exact ⟨_,_,_,rfl,h1,h2⟩) w0 fp0 R);have HS1:=Lib.hid (St.emp.2 (St_re (L:=[_,_,_,_,_,_,_]) hS1 [2,3,4,1,0,5,6] [] (by kernel_rfl)));have H0:Hid (∀v W,St w0 fp0 ([entA β v sel,blkA bt (tTP β) #[.pointer (some ⟨tb,0,none⟩)],blkA bl (tKP β) #[optP lb lo],blkA bh (tKP β) #[optP hb hi],blkA tb (tT β) #[.pointer (some ⟨rb,0,none⟩), .int .i64 o, .int .i64 l.length],treeA β h x rb,optB β lb lo,optB β hb hi]++R) W->St w0 fp0 (J []++[entA β v sel]) W):=by intro v W hs;refine h0 _ _ ?_;have h1:=St.shutOT ⟨g1,g2,g3⟩ (St_re (L:=[_,_,_,_,_,_,_,_]) hs [5,4,1,2,3,6,7,0] [] (by kernel_rfl));have h2:=St_re (L:=[_,_,_,_,_,_,_]) h1 [6,0,1,2,3,4,5] [] (by kernel_rfl);exact St.comm (A:=[entA β v sel]) h2
 have HOK:Hid (∀e∈sel,e.1.ok β):=by intro e he;rw [<-hsl] at he;exact hok e (List.mem_filter.1 he).1
 have HY:=Lib.hid hY;rw [hsl] at HY hsel ⊢;clear hS hS1 g1 g2 g3 hlen ho' hsl hY h0 hcol hokl hokh hok;have HW:Hid (∀(c:Code) (a:Act) (Q:Exit->Act->World->Prop),isReg c=true->cops c=opsR (BBetw1 β) 0->a.tmps.size=27->a.defers=[]->a.eval (.tmp 1)=.pointer (some ⟨bt,0,none⟩)->a.eval (.tmp 2)=.pointer (some ⟨bl,0,none⟩)->a.eval (.tmp 3)=.pointer (some ⟨bh,0,none⟩)->
  (∀(u7 u8 u9 u10 u11 u12:Value) (ga:Option Addr) (gc:Nat) (w1:World),St w0 fp0 (J []++[entA β (.slice ga sel.length gc) sel]) w1->Q .normal (putL a [(7,u7),(8,u8),(9,u9),(10,u10),(11,u11),(12,u12),(13, .slice ga sel.length gc),(14, .int .i64 sel.length),(15, .int .i64 0)]) w1)->c.wp Tryz.prog Q a W):=by
  intro c a Q c1 c2 c3 c4 c5 c6 c7 hQ;refine wp_regT HREG.out (by kernel_rfl) ⟨c1,c2⟩ ⟨c3,c4,λ p hp=> ?_⟩ HS1.out λ A1 w1 N1 H1=> ?_
  · simp only [gBt0,List.map_nil,List.append_nil,List.mem_cons,List.not_mem_nil,or_false] at hp
    rcases hp with rfl | rfl | rfl
    · exact c5
    · exact c6
    · exact c7
  have e13:slots A1 13=.slice (sa (slots A1 13)) sel.length (sc (slots A1 13)):=N1.val 6 rfl;have e14:slots A1 14=.int .i64 sel.length:=N1.val 7 rfl;have e15:slots A1 15=.int .i64 0:=N1.val 8 rfl;have H1':St w0 fp0 ([entA β (slots A1 13) sel,blkA bt (tTP β) #[.pointer (some ⟨tb,0,none⟩)],blkA bl (tKP β) #[optP lb lo],blkA bh (tKP β) #[optP hb hi],blkA tb (tT β) #[.pointer (some ⟨rb,0,none⟩), .int .i64 o, .int .i64 l.length],treeA β h x rb,optB β lb lo,optB β hb hi]++R) w1:=H1;have h2:=H0.out _ _ H1';rw [e13] at h2;have:=hQ (slots A1 7) (slots A1 8) (slots A1 9) (slots A1 10) (slots A1 11) (slots A1 12) _ _ w1 h2;rw [<-e13,<-e14,<-e15] at this;rw [show A1=putL a [(7,slots A1 7),(8,slots A1 8),(9,slots A1 9),(10,slots A1 10),(11,slots A1 11),(12,slots A1 12),(13,slots A1 13),(14,slots A1 14),(15,slots A1 15)] from N1.frame.eq];exact this
 clear HREG HS1 H0;obtain ⟨E,hE⟩:∃E:Value->Asn,(λ v=> entA β v sel)=E:=⟨_,rfl⟩
 have HROW:Hid (∀v w f,(E v).p w f->∃a c,v=.slice a sel.length c/\∀i,i < sel.length * 2->∃g,a=some ⟨g,0,none⟩/\g < w.heap.size/\w.cell? ⟨g,i,none⟩=(entsV sel)[i]? /\∀j,w.frozen? ⟨g,j,none⟩=false):=by intro v w f hf;rw [<-hE] at hf;obtain ⟨a,c,e1, -, -,e2⟩:=row_shape (show (rowA (tE β) 2 v sel.length (entsV sel)).p w f from hf);exact ⟨a,c,e1,e2⟩
 replace HW:Hid (∀(c:Code) (a:Act) (Q:Exit->Act->World->Prop),isReg c=true->cops c=opsR (BBetw1 β) 0->a.tmps.size=27->a.defers=[]->a.eval (.tmp 1)=.pointer (some ⟨bt,0,none⟩)->a.eval (.tmp 2)=.pointer (some ⟨bl,0,none⟩)->a.eval (.tmp 3)=.pointer (some ⟨bh,0,none⟩)->
  (∀(u7 u8 u9 u10 u11 u12:Value) (ga:Option Addr) (gc:Nat) (w1:World),St w0 fp0 (J []++[E (.slice ga sel.length gc)]) w1->Q .normal (putL a [(7,u7),(8,u8),(9,u9),(10,u10),(11,u11),(12,u12),(13, .slice ga sel.length gc),(14, .int .i64 sel.length),(15, .int .i64 0)]) w1)->c.wp Tryz.prog Q a W):=by
  rw [<-hE];exact HW
 clear hE HOK;cases β
 case' false=> go_enter Tryz.func198,Tryz.ntmps198
 case' true=> first | (exact absurd (OkI.ok (β:=true)) (by decide)) | go_enter Tryz.func198,Tryz.ntmps198
 all_goals
  go_upto_region 0 with (fail)
  refine HW.out _ _ _ rfl (by kernel_rfl) rfl rfl rfl rfl rfl λ u7 u8 u9 u10 u11 u12 ga gc w1 h2=> ?_;have H2:=Lib.hid h2;clear h2 HW;simp only [putL,List.foldl,Act.put,List.setIfInBounds_toArray,List.set_cons_succ,List.set_cons_zero];obtain ⟨N,hN⟩:∃N,sel.length=N:=⟨_,rfl⟩
  have HN:=Lib.hid hN;rw [hN] at H2 hsel HROW ⊢;clear hN;go_wp2;go_loopg [15] N (λ g z wr=> ∃k:Nat,z=.int .i64 k/\g+k=N/\Hid (∃pre rest,sel=pre++rest/\pre.length=k/\St w0 fp0 (J pre++[E (.slice ga N gc)]) wr))
  case atStart=> exact ⟨0,rfl,rfl,⟨[],sel,rfl,rfl,H2.out⟩⟩
  case round=>
   obtain ⟨k,rfl,hgk,Hr⟩:=hrel;by_cases hk:k < N
   · obtain ⟨pre,rest,hxs,hpl,hs⟩:=Hr.out
     cases rest with
     | nil=>
      exfalso;have:=congrArg List.length hxs;rw [HN.out,List.append_nil] at this;omega
     | cons x rest=>
      obtain ⟨_,hrw⟩:=St.has (i:=0) (A:=E (.slice ga N gc)) hs.comm rfl;have hkl:k < sel.length:=by rw [HN.out];exact hk
      have hxk:sel[k]=x:=by
       have:sel[k]? =some x:=by rw [hxs,<-hpl];simp
       rw [List.getElem?_eq_getElem hkl] at this;exact Option.some.inj this
      obtain ⟨ga',gc',e0,hcell⟩:=HROW.out _ _ _ hrw;injection e0 with e1 e2 e3;subst e1;obtain ⟨gb,hga,hgl,hc0, -⟩:=hcell (k * 2) (by omega);obtain ⟨gb',hga', -,hc1, -⟩:=hcell (k * 2+1) (by omega);subst hga;obtain rfl:gb'=gb:=by injection hga' with h;injection h with h;exact h.symm
      rw [(entsV_at sel k hkl).1,hxk] at hc0;rw [(entsV_at sel k hkl).2,hxk] at hc1;have HYx:Hid (∀W',St w0 fp0 (J pre++[E (.slice (some ⟨gb',0,none⟩) N gc)]) W'->YieldAt Fence.wide (n - 1) Tryz.prog y #[encK x.1,encV x.2] W' λ e W'=>
       (e=.returned (.bool true)/\St w0 fp0 (J (pre++[x])++[E (.slice (some ⟨gb',0,none⟩) N gc)]) W')\/(e=.returned (.bool false)/\St w0 fp0 (Jx (pre++[x])++[E (.slice (some ⟨gb',0,none⟩) N gc)]) W')):=
       λ W' h=> HY.out pre x rest _ W' hxs h
      have Hs:=Lib.hid hs;have Hxs:=Lib.hid hxs;have Hpl:=Lib.hid hpl;have hkn:(k:Int) < N:=by omega
      clear hs hxs hpl hrw hkl hxk hcell hga' Hr e2 e3;have Hgk:=Lib.hid hgk;clear hgk;obtain ⟨xk,exk⟩:∃xk,x.1=xk:=⟨_,rfl⟩
      obtain ⟨xv,exv⟩:∃xv,x.2=xv:=⟨_,rfl⟩
      rw [exk] at hc0;rw [exv] at hc1;rw [exk,exv] at HYx;clear exk exv;cases xk <;> cases xv
      all_goals
       simp only [encK,encV] at hc0 hc1 HYx;go_upto_region 3 with (fail)
       generalize hW2:wr.alloc _=W2;have hb2:Below wr.heap.size wr W2:=by rw [<-hW2];exact (Below.refl _ _).alloc (Nat.le_refl _) _
       have d0:=World.cell?_alloc_new wr _ _ 0 |>.symm.trans (congrArg (λ w=> World.cell? w ⟨wr.heap.size,0,none⟩) hW2) |>.symm
       have d1:=World.cell?_alloc_new wr _ _ 1 |>.symm.trans (congrArg (λ w=> World.cell? w ⟨wr.heap.size,1,none⟩) hW2) |>.symm
       simp only [List.getElem?_toArray,List.getElem?_cons_zero,List.getElem?_cons_succ] at d0 d1;have dl:wr.heap.size < W2.heap.size:=by rw [<-hW2];simp
       have HSo:Hid (∀W' A,St w0 fp0 (A++[E (.slice (some ⟨gb',0,none⟩) N gc)]) W'->St w0 fp0 A W'):=λ W' A h=> St.dropAll (A:=[E (.slice (some ⟨gb',0,none⟩) N gc)]) h.comm;obtain ⟨fn,tmps,assign,body,hy,hR⟩:=HYx.out W2 (Hs.out.mono hb2);have HR:=Lib.hid hR;clear hb2 hR hW2 hc0 hc1 hgl H2 HYx Hs HY;generalize wr.heap.size=eb at *;refine (wpIn_wide (n:=n)).1 ?_
       gi_wp2
       refine ⟨λ h=> (by cases h),HR.out.mono ?_⟩;rintro e W' (⟨rfl,hs'⟩ | ⟨rfl,hs'⟩)
       · have Hs':=Lib.hid hs'
         clear hs' HR hy d0 d1 dl
         gi_wp2
         go_wp2;go_roundg (N - (k+1))
         case rel=> exact ⟨k+1,by go_num,by omega,⟨pre++[x],rest,by rw [Hxs.out];simp,by rw [List.length_append,Hpl.out];rfl,Hs'.out⟩⟩
         case measure=> have:=Hgk.out;omega
       · have Hs':=Lib.hid (HSo.out _ _ hs')
         clear hs' HR hy d0 d1 dl HSo
         gi_wp2
         go_wp2;refine bodyPost_ret (results_none rfl _ _ _) rfl ?_;exact ⟨⟨_,rfl⟩, .inr ⟨pre,x,rest,Hxs.out,Hs'.out⟩⟩
   · have hnk:k=N:=by omega
     have Hend:Hid (St w0 fp0 (J sel) wr):=by
      obtain ⟨pre,rest,hxs,hpl,hs⟩:=Hr.out;have:rest=[]:=by have:=congrArg List.length hxs;rw [HN.out,List.length_append] at this;exact List.length_eq_zero_iff.1 (by omega)
      subst this;rw [List.append_nil] at hxs;rw [hxs];exact St.dropAll (A:=[E (.slice ga N gc)]) (by rw [<-hxs] at hs ⊢;exact hs.comm)
     clear Hr HY H2 hgk hk HN hsel;subst hnk;go_wp2;go_end0;exact ⟨⟨_,rfl⟩, .inl Hend.out⟩
end
section
variable {β:Bool} [OkI β]
def iterL (β:Bool) (tb bt bl bh lb hb:Nat) (lo hi:Option Ky):List Asn:=
 [blkA bt (tTP β) #[.pointer (some ⟨tb,0,none⟩)],blkA bl (tKP β) #[optP lb lo],blkA bh (tKP β) #[optP hb hi]]
def iterF (β:Bool) (bt bl bh:Nat):Value:=.func (.func (fBetw1 β)) #[] #[.pointer (some ⟨bt,0,none⟩), .pointer (some ⟨bl,0,none⟩), .pointer (some ⟨bh,0,none⟩)]
theorem between_calls (tb lb hb:Nat) (lo hi:Option Ky) (w0 w:World) (fp0:List Nat) (R:List Asn) (hS:St w0 fp0 R w):
 Calls Tryz.prog (fBetween β) #[.pointer (some ⟨tb,0,none⟩),optP lb lo,optP hb hi] w λ e w'=> ∃bt bl bh,e=.returned (iterF β bt bl bh)/\St w0 fp0 (iterL β tb bt bl bh lb hb lo hi++R) w':=by
 have HS:Hid (St w0 fp0 (iterL β tb w.heap.size (w.heap.size+1) (w.heap.size+1+1) lb hb lo hi++R) (((w.alloc (.cells #[.pointer (some ⟨tb,0,none⟩)] (tTP β))).alloc (.cells #[optP lb lo] (tKP β))).alloc (.cells #[optP hb hi] (tKP β)))):=by have h1:=((hS.newblk (tTP β) #[.pointer (some ⟨tb,0,none⟩)]).newblk (tKP β) #[optP lb lo]).newblk (tKP β) #[optP hb hi];simp only [World.size_alloc] at h1;exact St_re (L:=[_,_,_]) h1 [2,1,0] [] (by kernel_rfl)
 clear hS;cases lo <;> cases hi
 all_goals
  cases β
  case' false=> go_enter Tryz.func169,Tryz.ntmps169
  case' true=> first | (exact absurd (OkI.ok (β:=true)) (by decide)) | go_enter Tryz.func237,Tryz.ntmps237
  all_goals
   dsimp only [optP,tTP,tKP] at HS ⊢;go_wp2;go_ret;exact ⟨_,_,_,rfl,HS.out⟩
end
theorem All_calls (tb:Nat) (w0 w:World) (fp0:List Nat) (R:List Asn) (hS:St w0 fp0 R w):
 Calls Tryz.prog 134 #[.pointer (some ⟨tb,0,none⟩)] w λ e w'=> ∃bt bl bh,e=.returned (iterF false bt bl bh)/\St w0 fp0 (iterL false tb bt bl bh 0 0 none none++R) w':=by
 have HC:=Lib.hid (between_calls (β:=false) tb 0 0 none none w0 w fp0 R hS);clear hS;unfold iterF at *;dsimp only [fBetween,optP] at HC;go_enter Tryz.func134,Tryz.ntmps134;go_wp2_with fail;(with_reducible refine HC.out.mono ?_);rintro e w1 ⟨bt,bl,bh,rfl,hs⟩;have HS:=Lib.hid hs;clear hs HC;go_wp2;go_ret;exact ⟨_,_,_,rfl,HS.out⟩
end
end Go.Proofs.YtpdlkdoogojboaaGreat
