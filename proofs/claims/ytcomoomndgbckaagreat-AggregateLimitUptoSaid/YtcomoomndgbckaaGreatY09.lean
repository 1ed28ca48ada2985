/- Part 9 of the proof. -/
import Derived.Test.YtcomoomndgbckaaGreatY06
set_option maxHeartbeats 16000000
set_option maxRecDepth 100000
open Go Go.RowKit
open Go.Lib (hid)
open List (getElem_mem getElem_cons_zero getElem_cons_succ length_append mem_cons mem_singleton mem_append mem_of_getElem? map_append drop_eq_getElem_cons take_of_length_le sizeOf_lt_of_mem)
open Nat (zero_le le_succ lt_succ_self le_trans add_zero zero_add zero_mul one_mul)
namespace Go.Proofs.YtcomoomndgbckaaGreat
noncomputable section
section
open Go.Sort
mutual
def Ex.bulk:Ex->Nat
 | .mk _ t n _ v args=> 1+t.size+n.size+v.text.size+Ex.bulkL args
def Ex.bulkL:List Ex->Nat
 | []=> 0
 | e::l=> Ex.bulk e+Ex.bulkL l
end
theorem bulk_mem {A:Ex} {args:List Ex} (h:A∈args):A.bulk<=Ex.bulkL args:=by
 induction args with
 | nil=> cases h
 | cons x l ih=>
  simp only [Ex.bulkL];rcases mem_cons.1 h with rfl | h
  . omega
  . have:=ih h
    omega
def PrAt (E:Ex) (least:Int) (N:Nat):Prop:=∀(a:Option Addr) (n c:Nat) (w:World),ArgsAt w E.args (qs a n c)->
 Calls Tryz.prog 115 #[.agg #[qi E.op,qt E.table,qt E.name,qi E.index,qi E.v.kind,qi E.v.int,qt E.v.text,qs a n c],qi least] w (SizeS N w)
theorem pr_key (E:Ex) (hF:Fm E) (hsub:∀A∈E.args,∀least,PrAt A least (30 * A.bulk)) (hz:30 * E.bulk<=1152921504606846976) (least:Int) (N:Nat) (hN:30 * E.bulk<=N+2) (hc:least<=1\/(PrAt E 1 (30 * E.bulk - 2)/\30 * E.bulk<=N)):PrAt E least N:=by
 intro a n c w ha;obtain ⟨op,tb,nm,ix,⟨vk,vi,vt⟩,args⟩:=E;cases hF with
 | mk _ _ _ _ _ _ har hs hlit hk=>
 simp only [Ex.op,Ex.table,Ex.name,Ex.index,Ex.v,Ex.args] at ha hsub ⊢;have HA:=hid ha;have HN:=hid hN;have HZ:=hid hz;have HC:=hid hc;have ak:=hid har;have aL:=hid hlit;have af:=hid hsub;have aO:vt.size<=2000000000000->True:=λ _=> trivial;have HL:=hid λ w=> aLvl_calls (.mk op tb nm ix ⟨vk,vi,vt⟩ args) a n c w;have HB:Hid (30+30 * tb.size+30 * nm.size+30 * vt.size+30 * Ex.bulkL args=30 * (Ex.mk op tb nm ix ⟨vk,vi,vt⟩ args).bulk):=by show _=_;simp only [Ex.bulk];omega
 have Hv:=hid (VarIs.new w #[qi op,qt tb,qt nm,qi ix,qi vk,qi vi,qt vt,qs a n c] 37);have K:Hid (∀o,Below w.heap.size w (w.alloc o)):=λ o=> zi.alloc lr o;clear ha hN hz hc har hs hlit hk hsub;go_enter Tryz.func115,Tryz.ntmps115;go_wp2_with fail;refine (HL.out _).mono ?_;rintro e w1 ⟨l,rfl,hl,F⟩;have D:Hid (Below (w.heap.size+1) (w.alloc (.cells #[qi op,qt tb,qt nm,qi ix,qi vk,qi vi,qt vt,qs a n c] 37)) w1):=by have h1:=F;simp only [World.size_alloc] at h1;exact h1
 clear F HL;by_cases hle:l < least
 . obtain ⟨HP,aQ⟩:Hid (PrAt (.mk op tb nm ix ⟨vk,vi,vt⟩ args) 1 (30 * (Ex.mk op tb nm ix ⟨vk,vi,vt⟩ args).bulk - 2))/\Hid (30 * (Ex.mk op tb nm ix ⟨vk,vi,vt⟩ args).bulk<=N):=by
    rcases HC.out with h | h
    . omega
    . exact h
   as_aux_lemma=>
    obtain ⟨v1,C,-⟩:=Hv.below D (lt_succ_self _);have c0:=C 0;have c1:=C 1;have c2:=C 2;have c3:=C 3;have c4:=C 4;have c5:=C 5;have L:=C 6;have I:=C 7;simp only [q2a] at c0 c1 c2 c3 c4 c5 L I;clear C;have HQ:=hid λ w h=> HP.out a n c w h;simp only [Ex.op,Ex.table,Ex.name,Ex.index,Ex.v,Ex.args] at HQ;have aX:=hid (HA.mono ((K.out _).trans (D.mono (le_succ _))));go_wp2_with fail;refine (HQ.out _ aX).mono ?_;rintro e w2 ⟨x,rfl,hx,F⟩;have al:x.size+10<=4611686018427387904:=by have:=HZ.out;omega
    have HX:=hid hx;have J:=hid (D.trans (F.mono (by have:=D.size;simp at this ⊢;omega)));clear F;clear c0 c1 c2 c3 c4 c5 L I v1;go_wp2;go_ret;exact ⟨_,rfl,(by show _<=_;simp only [ByteArray.size_append];have h1:=HX.out;have h2:=aQ.out;have h3:=HB.out;show 1+_+1<=_;omega),(K.out _).trans (J.mono (le_succ _))⟩
 have br:vt.size<=2000000000000000000:=by have:=HZ.out;have:=HB.out;omega
 clear HC;by_cases h1:op=1
 . as_aux_lemma=>
    subst h1;have G:Hid (30 * (Ex.mk 1 tb nm ix ⟨vk,vi,vt⟩ args).bulk=30+30 * tb.size+30 * nm.size+30 * vt.size+30 * Ex.bulkL args):=by show _=_;simp only [Ex.bulk];omega
    rcases aL.out rfl with ⟨e1,-,-⟩ | ⟨e1,e2,-⟩ | ⟨e1,-,e2⟩
    . simp only at e1
      subst e1;obtain ⟨v1,C,-⟩:=Hv.below D (lt_succ_self _);have c0:=C 0;have c1:=C 1;have c2:=C 2;have c3:=C 3;have c4:=C 4;have c5:=C 5;have L:=C 6;have I:=C 7;simp only [q2a] at c0 c1 c2 c3 c4 c5 L I;clear C;go_wp2;go_ret;exact ⟨_,rfl,(by have h1:=HN.out;have h2:=G.out;show 4<=_;omega),(K.out _).trans (D.mono (le_succ _))⟩
    . try simp only at e1 e2
      subst e1;obtain ⟨v1,C,-⟩:=Hv.below D (lt_succ_self _);have c0:=C 0;have c1:=C 1;have c2:=C 2;have c3:=C 3;have c4:=C 4;have c5:=C 5;have L:=C 6;have I:=C 7;simp only [q2a] at c0 c1 c2 c3 c4 c5 L I;clear C;go_wp2_with fail;refine (aNum_calls' vi _ (by omega) (by omega)).mono ?_;rintro e w2 ⟨x,rfl,hx,F⟩;have J:=hid (D.trans (F.mono (by have:=D.size;simp at this ⊢;omega)));clear F;clear c0 c1 c2 c3 c4 c5 L I v1;go_wp2;go_ret;exact ⟨_,rfl,(by have h1:=HN.out;have h2:=G.out;show _<=_;omega),(K.out _).trans (J.mono (le_succ _))⟩
    . try simp only at e1 e2
      subst e1;obtain ⟨v1,C,-⟩:=Hv.below D (lt_succ_self _);have c0:=C 0;have c1:=C 1;have c2:=C 2;have c3:=C 3;have c4:=C 4;have c5:=C 5;have L:=C 6;have I:=C 7;simp only [q2a] at c0 c1 c2 c3 c4 c5 L I;clear C;go_wp2_with fail;refine (aQuo_calls vt _ (by omega)).mono ?_;rintro e w2 ⟨x,rfl,hx,F⟩;have J:=hid (D.trans (F.mono (by have:=D.size;simp at this ⊢;omega)));clear F;clear c0 c1 c2 c3 c4 c5 L I v1;go_wp2;go_ret;exact ⟨_,rfl,(by have h1:=HN.out;have h2:=G.out;show _<=_;omega),(K.out _).trans (J.mono (le_succ _))⟩
 by_cases h2:op=2
 . as_aux_lemma=>
    subst h2;have G:Hid (30 * (Ex.mk 2 tb nm ix ⟨vk,vi,vt⟩ args).bulk=30+30 * tb.size+30 * nm.size+30 * vt.size+30 * Ex.bulkL args):=by show _=_;simp only [Ex.bulk];omega
    have hz:tb.size+nm.size+10<=4611686018427387904:=by have:=HZ.out;have:=G.out;omega
    obtain ⟨v1,C,-⟩:=Hv.below D (lt_succ_self _);have c0:=C 0;have c1:=C 1;have c2:=C 2;have c3:=C 3;have c4:=C 4;have c5:=C 5;have L:=C 6;have I:=C 7;simp only [q2a] at c0 c1 c2 c3 c4 c5 L I;clear C;by_cases he:tb=⟨#[]⟩
    . subst he
      go_wp2;go_ret;exact ⟨_,rfl,(by have h1:=HN.out;have h2:=G.out;show _<=_;omega),(K.out _).trans (D.mono (le_succ _))⟩
    . have aP:¬ tb.toList=[]:=mt (λ h=> empty_of'' h) he
      have bs:tb.toList.isEmpty=false:=List.isEmpty_eq_false_iff.2 aP;go_wp2;go_ret;exact ⟨_,rfl,(by show _<=_;simp only [ByteArray.size_append];have h1:=HN.out;have h2:=G.out;show _+1+_<=_;omega),(K.out _).trans (D.mono (le_succ _))⟩
 by_cases h3:op=3
 . as_aux_lemma=>
    subst h3;obtain ⟨A,rfl⟩:∃A,args=[A]:=by
     have:=ak.out
     match args,this with
     | [A],_=> exact ⟨A,rfl⟩
     | [],h=> simp [arity] at h
     | _::_::_,h=> simp [arity] at h;omega
    obtain ⟨b,o,rfl⟩:=HA.addr (k:=0) (by simp);have ag:n=1:=by obtain ⟨_,_,_,e,h,-⟩:=HA.shape;cases e;simpa using h
    subst ag;have G:Hid (30 * (Ex.mk 3 tb nm ix ⟨vk,vi,vt⟩ [A]).bulk=30+30 * tb.size+30 * nm.size+30 * vt.size+30 * A.bulk):=by show _=_;simp only [Ex.bulk,Ex.bulkL];omega
    have ae:Hid (30 * A.bulk+40<=4611686018427387904):=by show _<=_;have:=HZ.out;have:=G.out;omega
    obtain ⟨v1,C,-⟩:=Hv.below D (lt_succ_self _);have c0:=C 0;have c1:=C 1;have c2:=C 2;have c3:=C 3;have c4:=C 4;have c5:=C 5;have L:=C 6;have I:=C 7;simp only [q2a] at c0 c1 c2 c3 c4 c5 L I;clear C;obtain ⟨s0,H,ab,aa,W,V,U,T,O,M⟩:=(HA.mono ((K.out _).trans (D.mono (le_succ _)))).cell 0 (by simp);simp only [getElem_cons_zero,zero_mul,add_zero] at ab aa W V U T O M H;obtain ⟨aj,ah,ai,rfl,-,-⟩:=H.shape;have HP:=hid λ w h=> af.out A (by simp) 8 aj ah ai w h;go_wp2_with fail;refine (HP.out _ H).mono ?_;rintro e w2 ⟨x,rfl,hx,F⟩;have al:x.size+40<=4611686018427387904:=by have:=ae.out;omega
    have HX:=hid hx;have J:=hid (D.trans (F.mono (by have:=D.size;simp at this ⊢;omega)));clear F;clear c0 c1 c2 c3 c4 c5 L I v1 ab aa W V U T O M;go_wp2;go_ret;exact ⟨_,rfl,(by show _<=_;simp only [ByteArray.size_append];have h1:=HN.out;have h2:=G.out;have h3:=HX.out;show 1+_<=_;omega),(K.out _).trans (J.mono (le_succ _))⟩
 by_cases h9:op=9
 . as_aux_lemma=>
    subst h9;obtain ⟨A,rfl⟩:∃A,args=[A]:=by
     have:=ak.out
     match args,this with
     | [A],_=> exact ⟨A,rfl⟩
     | [],h=> simp [arity] at h
     | _::_::_,h=> simp [arity] at h;omega
    obtain ⟨b,o,rfl⟩:=HA.addr (k:=0) (by simp);have ag:n=1:=by obtain ⟨_,_,_,e,h,-⟩:=HA.shape;cases e;simpa using h
    subst ag;have G:Hid (30 * (Ex.mk 9 tb nm ix ⟨vk,vi,vt⟩ [A]).bulk=30+30 * tb.size+30 * nm.size+30 * vt.size+30 * A.bulk):=by show _=_;simp only [Ex.bulk,Ex.bulkL];omega
    have ae:Hid (30 * A.bulk+40<=4611686018427387904):=by show _<=_;have:=HZ.out;have:=G.out;omega
    obtain ⟨v1,C,-⟩:=Hv.below D (lt_succ_self _);have c0:=C 0;have c1:=C 1;have c2:=C 2;have c3:=C 3;have c4:=C 4;have c5:=C 5;have L:=C 6;have I:=C 7;simp only [q2a] at c0 c1 c2 c3 c4 c5 L I;clear C;obtain ⟨s0,H,ab,aa,W,V,U,T,O,M⟩:=(HA.mono ((K.out _).trans (D.mono (le_succ _)))).cell 0 (by simp);simp only [getElem_cons_zero,zero_mul,add_zero] at ab aa W V U T O M H;obtain ⟨aj,ah,ai,rfl,-,-⟩:=H.shape;have HP:=hid λ w h=> af.out A (by simp) 1 aj ah ai w h;go_wp2_with fail;refine (HP.out _ H).mono ?_;rintro e w2 ⟨x,rfl,hx,F⟩;have al:x.size+40<=4611686018427387904:=by have:=ae.out;omega
    have HX:=hid hx;have J:=hid (D.trans (F.mono (by have:=D.size;simp at this ⊢;omega)));clear F;clear c0 c1 c2 c3 c4 c5 L I v1 ab aa W V U T O M;go_wp2;go_ret;exact ⟨_,rfl,(by show _<=_;simp only [ByteArray.size_append];have h1:=HN.out;have h2:=G.out;have h3:=HX.out;show 7+_+1<=_;omega),(K.out _).trans (J.mono (le_succ _))⟩
 by_cases h17:op=17
 . as_aux_lemma=>
    subst h17;obtain ⟨A,rfl⟩:∃A,args=[A]:=by
     have:=ak.out
     match args,this with
     | [A],_=> exact ⟨A,rfl⟩
     | [],h=> simp [arity] at h
     | _::_::_,h=> simp [arity] at h;omega
    obtain ⟨b,o,rfl⟩:=HA.addr (k:=0) (by simp);have ag:n=1:=by obtain ⟨_,_,_,e,h,-⟩:=HA.shape;cases e;simpa using h
    subst ag;have G:Hid (30 * (Ex.mk 17 tb nm ix ⟨vk,vi,vt⟩ [A]).bulk=30+30 * tb.size+30 * nm.size+30 * vt.size+30 * A.bulk):=by show _=_;simp only [Ex.bulk,Ex.bulkL];omega
    have ae:Hid (30 * A.bulk+40<=4611686018427387904):=by show _<=_;have:=HZ.out;have:=G.out;omega
    obtain ⟨v1,C,-⟩:=Hv.below D (lt_succ_self _);have c0:=C 0;have c1:=C 1;have c2:=C 2;have c3:=C 3;have c4:=C 4;have c5:=C 5;have L:=C 6;have I:=C 7;simp only [q2a] at c0 c1 c2 c3 c4 c5 L I;clear C;obtain ⟨s0,H,ab,aa,W,V,U,T,O,M⟩:=(HA.mono ((K.out _).trans (D.mono (le_succ _)))).cell 0 (by simp);simp only [getElem_cons_zero,zero_mul,add_zero] at ab aa W V U T O M H;obtain ⟨aj,ah,ai,rfl,-,-⟩:=H.shape;have HP:=hid λ w h=> af.out A (by simp) 5 aj ah ai w h;go_wp2_with fail;refine (HP.out _ H).mono ?_;rintro e w2 ⟨x,rfl,hx,F⟩;have al:x.size+40<=4611686018427387904:=by have:=ae.out;omega
    have HX:=hid hx;have J:=hid (D.trans (F.mono (by have:=D.size;simp at this ⊢;omega)));clear F;clear c0 c1 c2 c3 c4 c5 L I v1 ab aa W V U T O M;go_wp2;go_ret;exact ⟨_,rfl,(by show _<=_;simp only [ByteArray.size_append];have h1:=HN.out;have h2:=G.out;have h3:=HX.out;show _+8<=_;omega),(K.out _).trans (J.mono (le_succ _))⟩
 by_cases h20:op=20
 . as_aux_lemma=>
    subst h20;obtain ⟨A,rfl⟩:∃A,args=[A]:=by
     have:=ak.out
     match args,this with
     | [A],_=> exact ⟨A,rfl⟩
     | [],h=> simp [arity] at h
     | _::_::_,h=> simp [arity] at h;omega
    obtain ⟨b,o,rfl⟩:=HA.addr (k:=0) (by simp);have ag:n=1:=by obtain ⟨_,_,_,e,h,-⟩:=HA.shape;cases e;simpa using h
    subst ag;have G:Hid (30 * (Ex.mk 20 tb nm ix ⟨vk,vi,vt⟩ [A]).bulk=30+30 * tb.size+30 * nm.size+30 * vt.size+30 * A.bulk):=by show _=_;simp only [Ex.bulk,Ex.bulkL];omega
    have ae:Hid (30 * A.bulk+40<=4611686018427387904):=by show _<=_;have:=HZ.out;have:=G.out;omega
    obtain ⟨v1,C,-⟩:=Hv.below D (lt_succ_self _);have c0:=C 0;have c1:=C 1;have c2:=C 2;have c3:=C 3;have c4:=C 4;have c5:=C 5;have L:=C 6;have I:=C 7;simp only [q2a] at c0 c1 c2 c3 c4 c5 L I;clear C;obtain ⟨s0,H,ab,aa,W,V,U,T,O,M⟩:=(HA.mono ((K.out _).trans (D.mono (le_succ _)))).cell 0 (by simp);simp only [getElem_cons_zero,zero_mul,add_zero] at ab aa W V U T O M H;obtain ⟨aj,ah,ai,rfl,-,-⟩:=H.shape;have HP:=hid λ w h=> af.out A (by simp) 3 aj ah ai w h;go_wp2_with fail;refine (HP.out _ H).mono ?_;rintro e w2 ⟨x,rfl,hx,F⟩;have al:x.size+40<=4611686018427387904:=by have:=ae.out;omega
    have HX:=hid hx;have J:=hid (D.trans (F.mono (by have:=D.size;simp at this ⊢;omega)));clear F;clear c0 c1 c2 c3 c4 c5 L I v1 ab aa W V U T O M;go_wp2;go_ret;exact ⟨_,rfl,(by show _<=_;simp only [ByteArray.size_append];have h1:=HN.out;have h2:=G.out;have h3:=HX.out;show 4+_<=_;omega),(K.out _).trans (J.mono (le_succ _))⟩
 as_aux_lemma=>
  obtain ⟨A,B,rfl⟩:∃A B,args=[A,B]:=by
   have:=ak.out;have ay:arity op=2:=by
    have h0:0<=(args.length:Int):=by omega
    rw [this] at h0;unfold arity at h0 ⊢;rw [if_neg (by omega),if_neg (by omega)] at h0 ⊢;split at h0 <;> first | (rw [if_pos (by assumption)]) | omega
   match args,this with
   | [A,B],_=> exact ⟨A,B,rfl⟩
   | [],h=> rw [ay] at h;simp at h
   | [_],h=> rw [ay] at h;simp at h
   | _::_::_::_,h=> rw [ay] at h;simp at h;omega
  obtain ⟨p,hp,rfl⟩:∃p:Nat,(4<=p/\p<=19)/\op=p:=by
   have:=ak.out;unfold arity at this;rw [if_neg (by omega),if_neg (by omega)] at this;split at this
   . exact ⟨op.toNat,by omega,by omega⟩
   . simp at this
  obtain ⟨b,o,rfl⟩:=HA.addr (k:=0) (by simp);have ag:n=2:=by obtain ⟨_,_,_,e,h,-⟩:=HA.shape;cases e;simpa using h
  subst ag;have G:Hid (30 * (Ex.mk p tb nm ix ⟨vk,vi,vt⟩ [A,B]).bulk=30+30 * tb.size+30 * nm.size+30 * vt.size+30 * A.bulk+30 * B.bulk):=by show _=_;simp only [Ex.bulk,Ex.bulkL];omega
  have aW:=hid λ l a n c w h=> af.out A (by simp) l a n c w h;have aV:=hid λ l a n c w h=> af.out B (by simp) l a n c w h;have aH:=hid λ w=> aLvl_calls (.mk p tb nm ix ⟨vk,vi,vt⟩ [A,B]) (some ⟨b,o,none⟩) 2 c w;have ae:Hid (30 * A.bulk+30 * B.bulk+60<=4611686018427387904):=by show _<=_;have:=HZ.out;have:=G.out;omega
  have aI:p < 20:=by omega
  have aS:=hid λ w=> aSign_calls p w aI;clear aO;obtain ⟨v1,C,-⟩:=Hv.below D (lt_succ_self _);have c0:=C 0;have c1:=C 1;have c2:=C 2;have c3:=C 3;have c4:=C 4;have c5:=C 5;have L:=C 6;have I:=C 7;simp only [q2a] at c0 c1 c2 c3 c4 c5 L I;clear C;go_upto_region 22 with (fail)
  refine wp_region_segs [([0,2],1),([],3)] [4,5,6] [] (by kernel_rfl) (by kernel_rfl) ?_;simp only [q2c,wpSegs];have ao:=cell_regrown (w:=w1.drew) c0;have ax:=cell_regrown (w:=w1.drew) c1;have aw:=cell_regrown (w:=w1.drew) c2;have av:=cell_regrown (w:=w1.drew) c3;have au:=cell_regrown (w:=w1.drew) c4;have ar:=cell_regrown (w:=w1.drew) c5;have aq:=cell_regrown (w:=w1.drew) L;have an:=cell_regrown (w:=w1.drew) I;clear c0 c1 c2 c3 c4 c5 L I v1;have am:Hid (Below (w.heap.size+1) (w.alloc (.cells #[qi (p:Nat),qt tb,qt nm,qi ix,qi vk,qi vi,qt vt,qs (some ⟨b,o,none⟩) 2 c] 37)) w1.drew):=D.drew
  repeat (quiet_step (fail))
  refine wpQuiet_nil ?_;refine ⟨rfl,λ wy hby=> ?_⟩;go_simp;simp only [uponV];refine (aH.out _).mono ?_;rintro e w2 ⟨l1,rfl,-,F⟩;refine ⟨_,rfl,F,?_⟩;have J:=hid ((am.trans (hby.mono (by have:=am.size;simp at this ⊢ <;> omega))).trans (F.mono (le_trans (by have:=am.size;simp at this ⊢ <;> omega) hby.size)));clear F hby ao ax aw av au ar aq an;obtain ⟨v1,C,-⟩:=Hv.below J (lt_succ_self _);have c0:=C 0;have c1:=C 1;have c2:=C 2;have c3:=C 3;have c4:=C 4;have c5:=C 5;have L:=C 6;have I:=C 7;simp only [q2a] at c0 c1 c2 c3 c4 c5 L I;clear C;have ao:=cell_regrown (w:=w2) c0;have ax:=cell_regrown (w:=w2) c1;have aw:=cell_regrown (w:=w2) c2;have av:=cell_regrown (w:=w2) c3;have au:=cell_regrown (w:=w2) c4;have ar:=cell_regrown (w:=w2) c5;have aq:=cell_regrown (w:=w2) L;have an:=cell_regrown (w:=w2) I;clear c0 c1 c2 c3 c4 c5 L I v1
  repeat (quiet_step (fail))
  refine wpQuiet_nil ?_;refine ⟨rfl,λ wy hby=> ?_⟩;go_simp;simp only [uponV];refine (aH.out _).mono ?_;rintro e w3 ⟨l2,rfl,-,F⟩;refine ⟨_,rfl,F,?_⟩;have aN:=hid ((J.trans (hby.mono (by have:=J.size;simp at this ⊢ <;> omega))).trans (F.mono (le_trans (by have:=J.size;simp at this ⊢ <;> omega) hby.size)));clear F hby ao ax aw av au ar aq an;go_simp
  repeat (quiet_step (fail))
  refine wpQuiet_nil ?_;intro wz aJ;have ad:=hid (aN.trans (aJ.mono (by have:=aN.size;simp at this ⊢ <;> omega)));clear aJ;simp only [wpList];go_upto_region 23 with (fail)
  go_cut [88] from 86 to 88 (λ z wx=> ∃q:Bool,z=.bool q/\Hid (Below (w.heap.size+1) (w.alloc (.cells #[qi (p:Nat),qt tb,qt nm,qi ix,qi vk,qi vi,qt vt,qs (some ⟨b,o,none⟩) 2 c] 37)) wx))
  case first=>
   obtain ⟨v1,C,-⟩:=Hv.below ad (lt_succ_self _);have c0:=C 0;have c1:=C 1;have c2:=C 2;have c3:=C 3;have c4:=C 4;have c5:=C 5;have L:=C 6;have I:=C 7;simp only [q2a] at c0 c1 c2 c3 c4 c5 L I;clear C;go_wp2_with fail;refine (aH.out _).mono ?_;rintro e w4 ⟨l3,rfl,-,F⟩;have aM:=hid (ad.trans (F.mono (by have:=ad.size;simp at this ⊢;omega)));clear F;clear c0 c1 c2 c3 c4 c5 L I v1;by_cases h4:l3=4
   . subst h4
     go_wp2;go_meet;exact ⟨_,rfl,aM⟩
   . go_wp2
     go_meet;exact ⟨_,rfl,aM⟩
  clear ad;obtain ⟨q,rfl,ad⟩:=hcut;go_step;go_cut [5] from 5 to 5 (λ z wx=> ∃x:Int,z=qi x/\wc=wx)
  case first=>
   cases q <;> (go_wp2;go_meet;exact ⟨_,rfl,rfl⟩)
  obtain ⟨x5,rfl,rfl⟩:=hcut;go_upto_region 25 with (fail)
  refine wp_region_segs [([0,1,2,3,4,7,8,12,13,14,15,16],5),([6],9),([10,11],17)] [18,19] [] (by kernel_rfl) (by kernel_rfl) ?_;simp only [q2c,wpSegs];obtain ⟨v1,C,-⟩:=Hv.below ad (lt_succ_self _);have c0:=C 0;have I:=C 7;simp only [q2a] at c0 I;clear C;obtain ⟨s0,H,ab,aa,W,V,U,T,O,M⟩:=(HA.mono ((K.out _).trans (ad.mono (le_succ _)))).cell 0 (by simp);simp only [getElem_cons_zero,zero_mul,add_zero] at ab aa W V U T O M H;obtain ⟨aj,ah,ai,rfl,-,-⟩:=H.shape;obtain ⟨s1,ap,aG,aF,aE,aD,aC,aB,aA,az⟩:=(HA.mono ((K.out _).trans (ad.mono (le_succ _)))).cell 1 (by simp);simp only [getElem_cons_zero,getElem_cons_succ,one_mul] at aG aF aE aD aC aB aA az ap;obtain ⟨bq,bo,bp,rfl,-,-⟩:=ap.shape;have ao:=cell_regrown (w:=wc.drew) c0;have an:=cell_regrown (w:=wc.drew) I;have bn:=cell_regrown (w:=wc.drew) ab;have bm:=cell_regrown (w:=wc.drew) aa;have bl:=cell_regrown (w:=wc.drew) W;have bk:=cell_regrown (w:=wc.drew) V;have bj:=cell_regrown (w:=wc.drew) U;have bi:=cell_regrown (w:=wc.drew) T;have bh:=cell_regrown (w:=wc.drew) O;have bg:=cell_regrown (w:=wc.drew) M;have bf:=cell_regrown (w:=wc.drew) aG;have be:=cell_regrown (w:=wc.drew) aF;have bd:=cell_regrown (w:=wc.drew) aE;have bc:=cell_regrown (w:=wc.drew) aD;have bb:=cell_regrown (w:=wc.drew) aC;have ba:=cell_regrown (w:=wc.drew) aB;have aZ:=cell_regrown (w:=wc.drew) aA;have aY:=cell_regrown (w:=wc.drew) az;clear c0 I v1 ab aa W V U T O M aG aF aE aD aC aB aA az;have aU:=hid H;have aT:=hid ap;clear H ap
  repeat (quiet_step (fail))
  refine wpQuiet_nil ?_;refine ⟨rfl,λ wy hby=> ?_⟩;go_simp;simp only [uponV];refine (aW.out _ _ _ _ _ (aU.mono (show Below wc.heap.size wc wy from zi.drew.trans hby))).mono ?_;rintro e w5 ⟨x,rfl,hx,F⟩;refine ⟨_,rfl,F,?_⟩;have al:x.size+60<=4611686018427387904:=by have:=ae.out;omega
  have HX:=hid hx;have ac:=hid ((show Below wc.heap.size wc wy from zi.drew.trans hby).trans (F.mono (show wc.heap.size<=wy.heap.size from hby.size)));clear F hby hx;have n1:¬ 9223372036854775807 < x.size+1:=by omega
  go_simp
  repeat (quiet_step (fail))
  refine wpQuiet_nil ?_;refine ⟨rfl,λ wy hby=> ?_⟩;go_simp;simp only [uponV];refine (aS.out _).mono ?_;rintro e w6 ⟨y,rfl,hy,F⟩;refine ⟨_,rfl,F,?_⟩;replace ac:=hid ((ac.trans (hby.mono ac.size)).trans (F.mono (le_trans ac.size hby.size)));clear F hby;have n2:¬ 9223372036854775807 < x.size+1+y.size:=by omega
  have n3:¬ 9223372036854775807 < x.size+1+y.size+1:=by omega
  go_simp
  repeat (quiet_step (fail))
  refine wpQuiet_nil ?_;refine ⟨rfl,λ wy hby=> ?_⟩;go_simp;simp only [uponV];refine (aV.out _ _ _ _ _ (aT.mono (ac.trans (hby.mono ac.size)))).mono ?_;rintro e w7 ⟨z,rfl,hz,F⟩;refine ⟨_,rfl,F,?_⟩;replace ac:=hid ((ac.trans (hby.mono ac.size)).trans (F.mono (le_trans ac.size hby.size)));clear F hby;have n4:¬ 9223372036854775807 < x.size+1+y.size+1+z.size:=by have:=ae.out;have:=HX.out;omega
  go_simp
  repeat (quiet_step (fail))
  refine wpQuiet_nil ?_;intro w8 aK;have aR:=hid (ad.trans ((ac.trans (aK.mono ac.size)).mono (by have:=ad.size;simp at this ⊢ <;> omega)));simp only [wpList];clear aK;go_wp2;go_ret;exact ⟨_,rfl,(by show _<=_;simp only [ByteArray.size_append];have h1:=HN.out;have h2:=G.out;have h3:=HX.out;show _+1+_+1+_<=_;omega),(K.out _).trans (aR.mono (le_succ _))⟩
theorem aPrint_calls (m:Nat):∀E:Ex,SizeOf.sizeOf E<=m->Fm E->30 * E.bulk<=1152921504606846976->∀o,PrAt E o (30 * E.bulk):=by
 induction m with
 | zero=> intro E h;cases E;simp at h
 | succ m ih=>
  intro E hm C F o;have q:∀A∈E.args,∀o,PrAt A o (30 * A.bulk):=by
   obtain ⟨op,G,nm,H,v,args⟩:=E;intro A D o;have h1:=sizeOf_lt_of_mem D;have I:=bulk_mem D;cases C with
   | mk _ _ _ _ _ _ har q hlit hk=>
   simp only [Ex.args,Ex.bulk] at *;exact ih A (by simp at hm;omega) (q A D) (by omega) o
  exact pr_key E C q F o _ (by omega) (.inr ⟨pr_key E C q F 1 _ (by omega) (.inl (by omega)),lr⟩)
end
theorem Tryz.info9':(Tryz.prog.info? 9).map (λ i=> (i.zero,i.size,i.bytes))=some (some (qt ⟨#[]⟩),1,16):=by kernel_rfl
theorem one_str (x:ByteArray):∀u∈[qt x],u.oneCell'=true:=by
 intro u h;rw [mem_singleton.1 h];rfl
theorem Bl.made {α:Type} {t:TypeId} {sz:Nat} {E:World->α->List Value->Prop} {B:Nat} {X:Nat->Prop} {w:World} (hB:B<=w.heap.size):Bl t sz E B X (w.alloc (.cells #[] t)) [] (qs (some ⟨w.heap.size,0,none⟩) 0 0):=
 ⟨[],World.ownsRow_made w #[] 0 hB (by unfold maxLen;omega) (by simp),λ i h=> absurd h (by simp)⟩
theorem bulk_pos (E:Ex):1<=E.bulk:=by
 cases E;simp only [Ex.bulk];omega
theorem bulkL_take (l:List Ex) (k:Nat) (h:k < l.length):Ex.bulkL (l.take (k+1))=Ex.bulkL (l.take k)+l[k].bulk:=by
 induction l generalizing k with
 | nil=> simp at h
 | cons x l ih=>
  cases k with
  | zero=> simp [Ex.bulkL]
  | succ k=>
   simp only [List.take_succ_cons,Ex.bulkL,getElem_cons_succ];rw [ih k (by simpa using h)];omega
theorem bulkL_le (l:List Ex) (k:Nat):Ex.bulkL (l.take k)<=Ex.bulkL l:=by
 induction l generalizing k with
 | nil=> simp
 | cons x l ih=>
  cases k with
  | zero=> simp [Ex.bulkL]
  | succ k=>
   simp only [List.take_succ_cons,Ex.bulkL];have:=ih k;omega
theorem nmB_snoc (l:List ByteArray) (x:ByteArray):nmB (l++[x])=nmB l+(x.size+2):=by
 unfold nmB;rw [map_append,List.sum_append];simp
theorem wpList_pushG {α:Type} {t:TypeId} {sz:Nat} {E:World->α->List Value->Prop} {B:Nat} {X:Nat->Prop} {w:World} {xs:List α} {v:Value} {P:Program} {ops:Array Oper} {rest:List Oper} {o:Oper} {a:Act} {Q:Exit->Act->World->Prop} (hgd:o.guard=none) (s x:Operand) (ts:TypeId)
 (ho:o.op=.call { callee:=.builtin .append,args:=#[s,x],argTypes:=#[ts,ts] })
 (i:TypeInfo) (z:Value) (bytes:Nat) (ht:P.underlying ts=some (.slice t)) (hi:P.info? t=some i) (hz:i.zero=some z)
 (hsize:i.size=sz) (hby:i.bytes=bytes) (hzs:z.cells.size=sz) (hsz:0 < sz) (hbs:bytes<=50000)
 (hs:a.eval s=v) (h1:Bl t sz E B X w xs v) (y:α) (news:List Value) (g:Nat) (hx:a.eval x=.slice (some ⟨g,0,none⟩) 1 1) (hc:∀j,w.cell? ⟨g,j,none⟩=news.toArray[j]?) (hl:news.length=sz) (hone:∀u∈news,u.oneCell'=true)
 (hE:Ind (λ k=> X k\/v.ownBlock=some k) w λ w=> E w y news) (hlen:xs.length<=1000000000) (hB:B<=w.heap.size) (hX:∀k,X k->k < B)
 (h:∀q w',Hid (Bl t sz E B X w' (xs++[y]) q)->Hid (Below B w w')->Hid (w.grownBy w' v.ownBlock)->Hid (∀k,q.ownBlock=some k->v.ownBlock=some k\/w.heap.size<=k)->wpList P ops Q rest (a.put o.dst q) w'):
 wpList P ops Q (o::rest) a w:=by
 obtain ⟨cs,F,-⟩:=id h1;refine wpList_append_block _ hgd s x ts ho B t i z sz bytes ht hi hz hsize hby hzs hsz v _ cs hs F ⟨g,0,none⟩ 1 1 news hx (by omega) (λ j u hj=> ?_) hone (by decide) (by unfold maxLen;omega) ?_ hB ?_
 . rw [Addr.add_lit,zero_add,hc j]
   simpa using hj
 . have:=Nat.mul_le_mul (show xs.length+1<=1000000001 by omega) hbs
   omega
 intro q w' A C D;refine h q w' (h1.app (ys:=[y]) F A C D (λ i hi=> ?_) (λ k hk=> by have:=hX k hk;omega)) (h1.grown C hB) C D;obtain rfl:i=0:=by simpa using hi
 rw [zero_mul,List.drop_zero,take_of_length_le (by omega)];exact hE
theorem wpList_pushT {ops:Array Oper} {rest:List Oper} {o:Oper} {a:Act} {Q:Exit->Act->World->Prop} {w:World} (hgd:o.guard=none) (s x:Operand) (ho:o.op=.call { callee:=.builtin .append,args:=#[s,x],argTypes:=#[127,127] })
 {B:Nat} {ss:List ByteArray} {v:Value} (hs:a.eval s=v) (h1:Bl 9 1 NmE B (λ _=> False) w ss v) {y:ByteArray} {g:Nat} (hx:a.eval x=qs (some ⟨g,0,none⟩) 1 1) (hc:VarIs w g #[qt y]) (hlen:ss.length<=1000000000) (hB:B<=w.heap.size)
 (h:∀v' w',Hid (Bl 9 1 NmE B (λ _=> False) w' (ss++[y]) v')->Hid (Below B w w')->wpList Tryz.prog ops Q rest (a.put o.dst v') w'):wpList Tryz.prog ops Q (o::rest) a w:=by
 obtain ⟨F,D,C,A,q⟩:=info_parts Tryz.info9';exact wpList_pushG hgd s x 127 ho F (qt ⟨#[]⟩) 16 Tryz.underlying127 D C A q rfl (by decide) (by decide) hs h1 y [qt y] g hx hc.cell rfl (one_str y) (Ind.triv λ _=> rfl) hlen hB (λ _ h=> h.elim) λ v' w' h2 h3 _ _=> h v' w' h2 h3
theorem wpList_pushS {ops:Array Oper} {rest:List Oper} {o:Oper} {a:Act} {Q:Exit->Act->World->Prop} {w:World} (hgd:o.guard=none) (s x:Operand) (ho:o.op=.call { callee:=.builtin .append,args:=#[s,x],argTypes:=#[127,127] })
 {B:Nat} {ss:List ByteArray} {v:Value} (hs:a.eval s=v) (h1:Bl 9 1 NmE B (λ _=> False) w ss v) {y:ByteArray} (hx:a.eval x=qs (some ⟨w.heap.size,0,none⟩) 1 1) (hlen:ss.length<=1000000000) (hB:B<=w.heap.size)
 (h:∀v' w',Hid (Bl 9 1 NmE B (λ _=> False) w' (ss++[y]) v')->Hid (Below B w w')->wpList Tryz.prog ops Q rest (a.put o.dst v') w'):wpList Tryz.prog ops Q (o::rest) a (w.alloc (.cells #[qt y] 9)):=by
 obtain ⟨F,D,C,A,q⟩:=info_parts Tryz.info9';exact wpList_push hgd s x 127 ho F (qt ⟨#[]⟩) 16 Tryz.underlying127 D C A q rfl (by decide) (by decide) hs h1 y [qt y] 9 hx rfl (one_str y) (Ind.triv λ _=> rfl) hlen hB (λ _ h=> h.elim) λ v' w' h2 h3 _ _=> h v' w' h2 h3
theorem aExprs_calls (l:List Ex) (la:Option Addr) (ln lc:Nat) (w:World) (hl:ArgsAt w l (qs la ln lc)) (hF:∀e∈l,Fm e) (hz:Ex.bulkL l<=10000000000000000) (hn9:ln<=100000000):Calls Tryz.prog 113 #[qs la ln lc] w (SizeS (32 * Ex.bulkL l) w):=by
 have HL:=hid hl;have HF:=hid hF;have HZ:=hid hz;obtain ⟨U,h1⟩:l.length=ln/\ln<=2000000000000:=by obtain ⟨_,_,_,e,h,h'⟩:=hl.shape;cases e;exact ⟨h.symm,h'⟩
 have HN:=hid U;clear hl hF hz U;go_enter Tryz.func113,Tryz.ntmps113;go_wp2;go_loopw [3,4] (λ v z wr=> ∃(k:Nat) (ss:List ByteArray),k<=ln/\z=qi k/\Hid (ss.length=k)/\Hid (nmB ss<=32 * Ex.bulkL (l.take k))/\Hid (Bl 9 1 NmE w.heap.size (λ _=> False) wr ss v)/\Hid (Below w.heap.size w wr)) (λ _ z _=> ln - (intOf z).toNat)
 case atStart=> exact ⟨0,[],zero_le _,rfl,rfl,zero_le _,Bl.made lr,zi.alloc lr _⟩
 case round=>
  obtain ⟨k,ss,hk,rfl,D,V,O,I⟩:=hrel
  rename_i v _
  by_cases hlt:k < ln
  . have q:k < l.length:=by rw [HN.out];exact hlt
    obtain ⟨b,o,rfl⟩:=HL.addr q;obtain ⟨s',C,d0,d1,d2,d3,d4,d5,d6,d7⟩:=(HL.mono I).cell k q;obtain ⟨sa,sn,sc,rfl,-,-⟩:=C.shape;have W:=hid (bulkL_take l k q);have HM:=hid (bulkL_le l (k+1));have HE:=hid (HF.out _ (getElem_mem q));generalize l[k]=E' at *;have HP:=hid (aPrint_calls _ E' lr HE (by have:=W.out;have:=HM.out;have:=HZ.out;omega) 1 sa sn sc _ C);clear C q;go_wp2_with fail;refine HP.mono ?_;rintro e w1 ⟨x,rfl,G,F⟩;have K:=hid G;have M:=hid (O.below F);have A:=hid (I.trans (F.mono I.size));clear F G d0 d1 d2 d3 d4 d5 d6 d7;go_wp2_with (at_builtin;go_loud (refine wpList_pushS rfl _ _ rfl rfl M.out rfl ?c0 ?c1 ?_))
    case c0=> have:=D.out;omega
    case c1=> exact A.size
    intro v' w' L H;have J:=hid (A.trans H);clear H;go_wp2;go_roundw
    case rel=> exact ⟨k+1,ss++[x],by omega,by go_num,(by show _=_;rw [length_append,D.out];rfl),(by show _<=_;rw [nmB_snoc,W.out];have:=K.out;have:=V.out;have:=bulk_pos E';omega),L,J⟩
    case measure=> simp [intOf];omega
  . obtain rfl:ln=k:=by omega
    have HS:=hid (O.at (by have:=D.out;omega));obtain ⟨va,vc,rfl⟩:=O.shape;have T:nmB ss<=32 * Ex.bulkL l:=by have:=V.out;have:=bulkL_le l ln;omega
    have HC:=hid (aComma_calls ss va vc _ HS (by have:=HZ.out;omega));have HQ:=hid T;clear T;go_wp2_with fail;refine HC.mono ?_;rintro e w1 ⟨x,rfl,G,F⟩;have K:=hid (le_trans G HQ);have A:=hid (I.trans (F.mono I.size));clear F G;go_wp2;go_ret;exact ⟨_,rfl,K,A⟩
theorem all_snoc {α:Type} {p:α->Prop} {l:List α} {y:α} (h:∀x∈l,p x) (hy:p y):∀x∈l++[y],p x:=λ x o=> by
 rcases mem_append.1 o with o | o
 . exact h x o
 . rw [mem_singleton.1 o];exact hy
def bigS:Nat:=1000000000000000
theorem aItems_calls (l:List Itm) (la:Option Addr) (lc:Nat) (w:World) (hl:LsAt 9 ItE w l (qs la l.length lc)) (hF:∀x∈l,ItF x) (hz:∀x∈l,x.e.bulk<=2000000) (hn9:l.length<=2000000):Calls Tryz.prog 142 #[qs la l.length lc] w (SizeS bigS w):=by
 have HL:=hid hl;have HF:=hid hF;have HZ:=hid hz;obtain ⟨n,hn⟩:=gx l.length
 have HN:=hid hn;rw [hn] at HL hn9 ⊢;clear hl hF hz hn;by_cases h0:n=0
 . subst h0
   go_enter Tryz.func142,Tryz.ntmps142;go_wp2;go_ret;exact ⟨_,rfl,Nat.le_of_ble_eq_true (by kernel_rfl),zi⟩
 have aj:0 < n:=by omega
 have ai:((n:Int)==0)=false:=by simp [h0]
 go_enter Tryz.func142,Tryz.ntmps142;go_wp2;go_loopw [3,4] (λ v z wr=> ∃(k:Nat) (ss:List ByteArray),k<=n/\z=qi k/\Hid (ss.length=k)/\Hid (∀x∈ss,x.size<=100000000)/\Hid (Bl 9 1 NmE w.heap.size (λ _=> False) wr ss v)/\Hid (Below w.heap.size w wr)) (λ _ z _=> n - (intOf z).toNat)
 case atStart=> exact ⟨0,[],zero_le _,rfl,rfl,(λ x h=> by cases h),Bl.made lr,zi.alloc lr _⟩
 case round=>
  obtain ⟨k,ss,hk,rfl,D,Hm,HB,Hb⟩:=hrel
  rename_i v _
  by_cases hlt:k < n
  . have O:k < l.length:=by rw [HN.out];exact hlt
    have M:=HL.mono ItE.mono Hb;rw [<-HN.out] at M;obtain ⟨b,o,a,m,c,rfl,A,H,d0,d1,d2,d3,d4,d5,d6,d7,d8⟩:=ItAt.cell M k O;have HE:=hid (HF.out _ (getElem_mem O));have HY:=hid (HZ.out _ (getElem_mem O));rw [HN.out] at M;generalize l[k]=y at *;obtain ⟨T,E'⟩:=y;simp only at d0 d1 d2 d3 d4 d5 d6 d7 d8 H HE HY;have ae:=hid H;have HP:=hid λ h w hs=> aPrint_calls _ E' lr h (by have:=HY.out;omega) 1 a m c w hs;obtain ⟨ad,ac⟩:=HE.1;clear M O H;go_upto_region 7 with (fail)
    go_cut [5] from 16 to 23 (λ z wx=> ∃x:ByteArray,z=qt x/\x.size<=10/\Hid (Below wr.heap.size wr wx))
    case first=>
     have U:T=0\/T=1\/T=2\/T=3\/T=4\/T=5:=by simp only at ad ac;omega
     have hB:Hid (∀o,Below wr.heap.size wr (wr.alloc o)):=λ o=> zi.alloc lr o;rcases U with rfl | rfl | rfl | rfl | rfl | rfl <;> (go_wp2;go_meet;exact ⟨_,rfl,by decide,hB.out _⟩)
    obtain ⟨x5,rfl,ah,q⟩:=hcut;have G:=hid (Hb.trans (q.mono Hb.size));have aa:=hid (HB.below q);have ab:=hid (ae.mono q);replace d0:=(q.cell (p:=⟨b,o+k * 9,none⟩) A).trans d0;replace d1:=(q.cell (p:=⟨b,o+k * 9+1,none⟩) A).trans d1;replace d2:=(q.cell (p:=⟨b,o+k * 9+2,none⟩) A).trans d2;replace d3:=(q.cell (p:=⟨b,o+k * 9+3,none⟩) A).trans d3;replace d4:=(q.cell (p:=⟨b,o+k * 9+4,none⟩) A).trans d4;replace d5:=(q.cell (p:=⟨b,o+k * 9+5,none⟩) A).trans d5;replace d6:=(q.cell (p:=⟨b,o+k * 9+6,none⟩) A).trans d6;replace d7:=(q.cell (p:=⟨b,o+k * 9+7,none⟩) A).trans d7;replace d8:=(q.cell (p:=⟨b,o+k * 9+8,none⟩) A).trans d8;by_cases h0:T=0
    . subst h0
      have V:Hid (Fm E'):=by
       rcases HE.2 with h | h
       . exact absurd (show (0:Int)=1 from h.1) (by decide)
       . exact h.2
      go_wp2_with fail;refine (HP.out V _ ab).mono ?_;rintro e w1 ⟨x,rfl,H,L⟩;have HX:=hid H;have W:=hid (aa.below L);have F:=hid (G.trans (L.mono G.size));clear L H d0 d1 d2 d3 d4 d5 d6 d7 d8;go_wp2_with (at_builtin;go_loud (refine wpList_pushS rfl _ _ rfl rfl W.out rfl ?c0 ?c1 ?_))
      case c0=> have:=D.out;omega
      case c1=> exact F.size
      intro v' w' K C;have J:=hid (F.trans C);have HM:Hid (∀y∈ss++[x],y.size<=100000000):=λ y I=> by
       rcases mem_append.1 I with I | I
       . exact Hm.out y I
       . rw [mem_singleton.1 I]
         have:=HX.out;have:=HY.out;omega
      clear C;go_wp2;go_roundw
      case rel=> exact ⟨k+1,ss++[x],by omega,by go_num,(by show _=_;rw [length_append,D.out];rfl),HM,K,J⟩
      case measure=> simp [intOf];omega
    by_cases h1:T=1
    . subst h1
      go_wp2_with (at_builtin;go_loud (refine wpList_pushS rfl _ _ rfl rfl aa.out rfl ?c0 ?c1 ?_))
      case c0=> have:=D.out;omega
      case c1=> exact G.size
      intro v' w' K C;have J:=hid (G.trans C);have HM:Hid (∀y∈ss++[⟨#[67,79,85,78,84,40,42,41]⟩],y.size<=100000000):=λ y I=> by
       rcases mem_append.1 I with I | I
       . exact Hm.out y I
       . rw [mem_singleton.1 I]
         decide
      clear C d0 d1 d2 d3 d4 d5 d6 d7 d8;go_wp2;go_roundw
      case rel=> exact ⟨k+1,_,by omega,by go_num,(by show _=_;rw [length_append,D.out];rfl),HM,K,J⟩
      case measure=> simp [intOf];omega
    have V:Hid (Fm E'):=by
     rcases HE.2 with h | h
     . exact absurd h.1 h1
     . exact h.2
    go_wp2_with fail;refine (HP.out V _ ab).mono ?_;rintro e w1 ⟨x,rfl,H,L⟩;have af:x.size<=60000000:=by have:=HY.out;omega
    have HX:=hid H;have W:=hid (aa.below L);have F:=hid (G.trans (L.mono G.size));clear L H d0 d1 d2 d3 d4 d5 d6 d7 d8;go_wp2_with (at_builtin;go_loud (refine wpList_pushS rfl _ _ rfl rfl W.out rfl ?c0 ?c1 ?_))
    case c0=> have:=D.out;omega
    case c1=> exact F.size
    intro v' w' K C;have J:=hid (F.trans C);clear C;go_wp2;go_roundw
    case rel=> exact ⟨k+1,_,by omega,by go_num,(by show _=_;rw [length_append,D.out];rfl),all_snoc Hm (by simp only [ByteArray.size_append];show _+1+_+1<=_;omega),K,J⟩
    case measure=> simp [intOf];omega
  . obtain rfl:n=k:=by omega
    have HS:=hid (HB.at (by have:=D.out;omega));obtain ⟨va,vc,rfl⟩:=HB.shape;have hq:nmB ss<=bigS:=by unfold bigS;have h1:=nmB_unif ss _ Hm;have h2:=Nat.mul_le_mul_right (100000000+2) (show ss.length<=2000000 by have:=D.out;omega);omega
    have HC:=hid (aComma_calls ss va vc _ HS (by unfold bigS at hq;omega));have HQ:=hid hq;clear hq;go_wp2_with fail;refine HC.mono ?_;rintro e w1 ⟨x,rfl,H,L⟩;have HX:=hid (le_trans H HQ);have F:=hid (Hb.trans (L.mono Hb.size));clear L H;go_wp2;go_ret;exact ⟨_,rfl,HX,F⟩
theorem bTypes_calls (tn un:ByteArray) (tl ul:List Cl) (ta ua:Option Addr) (tc uc:Nat) (t2 t3 t4 u2 u3 u4:Value) (l m:List Int) (la ma:Option Addr) (lc mc:Nat) (w:World) (ht:LsAt 6 ClE w tl (qs ta tl.length tc)) (hu:LsAt 6 ClE w ul (qs ua ul.length uc)) (hl:NosAt w l (qs la l.length lc)) (hm:NosAt w m (qs ma m.length mc))
 (hlm:l.length<=m.length) (hlr:∀x∈l,0<=x/\x < tl.length) (hmr:∀x∈m,0<=x/\x < ul.length):
 Calls Tryz.prog 131 #[.agg #[qt tn,qs ta tl.length tc,t2,t3,t4],.agg #[qt un,qs ua ul.length uc,u2,u3,u4],qs la l.length lc,qs ma m.length mc] w (BoolP True w):=by
 have HT:=hid ht;have HU:=hid hu;have HL:=hid hl;have HM:=hid hm;have ae:=hid hlr;have ad:=hid hmr;have h1:l.length<=2000000000000:=by obtain ⟨_,_,e,h⟩:=hl.shape;exact h
 obtain ⟨n,hn⟩:=gx l.length
 obtain ⟨n2,K⟩:=gx m.length
 obtain ⟨U,J⟩:=gx tl.length
 obtain ⟨T,I⟩:=gx ul.length
 have HN:=hid hn;have ac:=hid K;have ab:=hid J;have aa:=hid I;rw [hn] at h1 hlm ⊢;rw [K] at hlm ⊢;rw [J,I];clear ht hu hl hm hlr hmr hn K J I;have HB:=hid (λ o o'=> ((Below.refl w.heap.size w).alloc lr o).alloc (by simp) o');have D:=hid ((VarIs.new w #[qt tn,qs ta U tc,t2,t3,t4] 108).alloc (.cells #[qt un,qs ua T uc,u2,u3,u4] 108));have C:=hid (VarIs.new (w.alloc (.cells #[qt tn,qs ta U tc,t2,t3,t4] 108)) #[qt un,qs ua T uc,u2,u3,u4] 108);go_enter Tryz.func131,Tryz.ntmps131;go_upto_region 1 with (fail)
 obtain ⟨w1,H⟩:=gx ((w.alloc (.cells #[qt tn,qs ta U tc,t2,t3,t4] 108)).alloc (.cells #[qt un,qs ua T uc,u2,u3,u4] 108))
 have V:=hid (H ▸ HB.out _ _);simp only [World.size_alloc] at C;rw [H] at D C ⊢;have G:=D.lt;have F:=C.lt;obtain ⟨b1,O⟩:=gx w.heap.size
 have af:=hid O;rw [O] at D C G F ⊢;clear H O;go_wp2;go_loopw [9] (λ z wr=> ∃k:Nat,k<=n/\z=qi k/\Hid (Below w1.heap.size w1 wr)) (λ z _=> n - (intOf z).toNat)
 case atStart=> exact ⟨0,zero_le _,rfl,zi⟩
 case round=>
  obtain ⟨k,hk,rfl,W⟩:=hrel;have A:=hid (V.trans (W.mono (by have:=af.out;omega)));by_cases hlt:k < n
  . have M:k < l.length:=by rw [HN.out];exact hlt
    have L:k < m.length:=by rw [ac.out];omega
    obtain ⟨b,o,e1,aj,c0⟩:=NosAt.cell (HL.mono NoE.mono A) k M;obtain ⟨b2,o2,e2,ai,c2⟩:=NosAt.cell (HM.mono NoE.mono A) k L;subst e1 e2;have r1:=ae.out _ (getElem_mem M);have r2:=ad.out _ (getElem_mem L);generalize l[k]=x at *;generalize m[k]=y at *;obtain ⟨xn,rfl⟩:=Int.eq_ofNat_of_zero_le r1.1;obtain ⟨yn,rfl⟩:=Int.eq_ofNat_of_zero_le r2.1;obtain ⟨b3,o3,e3,ah,-,d0,-⟩:=ClAt.cell (HT.mono ClE.mono A) xn (by omega);obtain ⟨b4,o4,e4,ag,-,d2,-⟩:=ClAt.cell (HU.mono ClE.mono A) yn (by omega);subst e3 e4;have i1:xn < U:=by have:=ab.out;omega
    have i2:yn < T:=by have:=aa.out;omega
    generalize Cl.type _=xt at d0;generalize Cl.type _=yt at d2;obtain ⟨v1,v2,-⟩:=D.below W G;obtain ⟨v3,v4,-⟩:=C.below W F;have f1:=v2 1;have f2:=v4 1;simp only [q2a] at f1 f2;have i3:(xn:Int) < U:=by omega
    have i4:(yn:Int) < T:=by omega
    have i5:(k:Int) < n2:=by omega
    clear v2 v4 M L r1 r2;go_wp2;go_quiet (fail);obtain ⟨q,hq⟩:=gx ((xt !=yt))
    rw [hq];clear hq;cases q with
    | true=>
     go_wp2;go_ret;exact ⟨false,rfl,(λ h=> (by cases h)),A.trans ((below_drewN _ _).mono A.size)⟩
    | false=>
     go_wp2;go_roundw
     case rel=> exact ⟨k+1,by omega,by go_num,W.trans ((below_drewN _ _).mono W.size)⟩
     case measure=> simp [intOf];omega
  . obtain rfl:k=n:=by omega
    go_wp2;go_ret;exact ⟨true,rfl,(λ _=> trivial),A⟩
def oRs:Array Oper:=((Tryz.f11.body).bind λ c=> opsOf c 5).getD #[]
theorem keeps_below {w w':World} (h:Below w.heap.size w w'):KeepsOthers w w':=⟨h.size,λ k _ hk _=> (h.block k (Array.getElem?_eq_some_iff.1 hk).1).trans hk⟩
theorem inv_stored {P:Program} {ops:Array Oper} {Q:Exit->Act->World->Prop} {K:Act->World->Prop} {i:Nat} {a:Act} {w w':World} {o:Oper} (ho:ops[i]? =some o) (hw:Region.wanted o (yielded ops a.tmps)=true) (hd:o.dst=none)
 (hc:(execOp a.eval o).run P w=.ok .skip w') (h:K a w'):wpOp P ops Q i K a w:=by
 unfold wpOp;simp only [ho,hw,if_true,Oper.wp,hc,Oper.upon,hd];exact .inl h
structure RsE (W:World) (B bt:Nat) (M:List Rw) (R:Rw) (v:Value) (L:Nat->Bool) (g:Nat->Value) (w:World):Prop where
 keep:KeepsOthers W w
 below:Below B W w
 box:L 5=false->Boxed w bt 41 v
 own:L 4=false->RowsOwn w B M v
 src:L 4=false->∀s,ValsAt W R s->ValsAt w R s
 x:L 2=true->L 4=false->ValsAt w R (g 17)/\Far w B (g 17)
 y:L 3=true->L 4=false->∃gb c y,g 18=qs (some ⟨gb,0,none⟩) 1 c/\w.cell? ⟨gb,0,none⟩=some y/\ValsAt w R y/\Far w B y
 z:L 4=true->L 5=false->RowsOwn w B (M++[R]) (g 19)
 r:L 5=true->∃v',Boxed w bt 41 v'/\RowsOwn w B (M++[R]) v'
theorem rRs {l n:Nat} {Q:Exit->Act->World->Prop} {a:Act} {w:World} (B bt:Nat) (M:List Rw) (R:Rw) (v s:Value) (hsz:a.tmps.size=62) (h5:a.eval (.tmp 5)=.pointer (some ⟨bt,0,none⟩)) (h6:a.eval (.tmp 6)=s)
 (hq:∀a w,¬ Q .outgrown a w) (hbox:Boxed w bt 41 v) (hown:RowsOwn w B M v) (hs:ValsAt w R s) (hB:B<=bt) (hBw:B<=w.heap.size) (hR:R.length < 1099511627776) (hM:M.length+1<=1099511627776)
 (ops:Array Oper) (hops:ops=oRs) (hQ:∀a1 G,KeepsOthers w G->Below B w G->(∃v',Boxed G bt 41 v'/\RowsOwn G B (M++[R]) v')->Q .normal a1 G):(Code.region 5 ops true).wpIn (Fence.wide.inRound l) n Tryz.prog Q a w:=by
 subst hops;have W:oRs.size=6:=by kernel_rfl
 have hE:Looks (RsE w B bt M R v) [2,3,4,5] [17,18,19]:=by intro L L' g g' G I hg h;have l2:=I 2 (by decide);have l3:=I 3 (by decide);have l4:=I 4 (by decide);have l5:=I 5 (by decide);have ap:=hg 17 (by decide);have ao:=hg 18 (by decide);have an:=hg 19 (by decide);obtain ⟨q1,q2,q3,q4,q5,q6,q7,q8,q9⟩:=h;rw [l2,l4,ap] at q6;rw [l3,l4,ao] at q7;rw [l4,l5,an] at q8;rw [l5] at q3 q9;rw [l4] at q4 q5;exact ⟨q1,q2,q3,q4,q5,q6,q7,q8,q9⟩
 have ae:(([(0,15,v),(1,16,s)]:List (Nat×Nat×Value)).map (·.1)).Nodup:=by show List.Nodup [0,1];decide
 have ad:(([(0,15,v),(1,16,s)]:List (Nat×Nat×Value)).map (·.2.1)).Nodup:=by show List.Nodup [15,16];decide
 refine wpIn_region_vals (ops':=oRs) [15,16,17,18,19] [(0,15,v),(1,16,s)] (RsE w B bt M R v) rfl (by kernel_rfl) (by kernel_rfl) (by kernel_rfl) hq
  ⟨KeepsOthers.drew w,Below.drew zi,λ _=> hbox,λ _=> hown.mono (Below.drew zi),λ _ s hs=> hs.mono (Below.drew zi),λ h=> (by cases h),λ h=> (by cases h),λ h=> (by cases h),λ h=> (by cases h)⟩ ?_ ?_
 . intro U o L a1 G ho I A D
   have ar:U < 6:=by have:=(Array.getElem?_eq_some_iff.1 ho).1;omega
   have T:a1.tmps.size=62:=D.frame.size.trans hsz;have q:=D.eff;rcases (by omega:U=0\/U=1\/U=2\/U=3\/U=4\/U=5) with rfl | rfl | rfl | rfl | rfl | rfl
   . have hl:oRs[0]? =some ⟨some 15,Op.load _ (Operand.tmp 5),_,_,_,none⟩:=rfl
     obtain rfl:=Option.some.inj (ho.symm.trans hl);have x5:=D.old 5 (.pointer (some ⟨bt,0,none⟩)) (by decide) h5;have F:L 4=false:=D.no I (by kernel_rfl:waitsB oRs 4 0=true);have H:L 5=false:=D.no F (by kernel_rfl:waitsB oRs 5 4=true);have hc:=(q.box H).cell;obtain ⟨sa,sn,sc,rfl⟩:∃sa sn sc,v=qs sa sn sc:=by obtain ⟨a,n,c,h,-⟩:=(q.own F).at.shape;exact ⟨a,n,c,h⟩
     exact D.read hE 0 15 _ ho rfl rfl A (by decide) (by rw [hsz];decide) (by decide) (by decide) (vals_at ae ad 0 rfl) (by simp [go_sem,execOp,Act.eval,x5,hc])
   . have hl:oRs[1]? =some ⟨some 16,Op.move (Operand.tmp 6),_,_,_,none⟩:=rfl
     obtain rfl:=Option.some.inj (ho.symm.trans hl);have x6:=D.old 6 s (by decide) h6;exact D.read hE 1 16 s ho rfl rfl A (by decide) (by rw [hsz];decide) (by decide) (by decide) (vals_at ae ad 1 rfl) (by simp [go_sem,execOp,Act.eval,x6])
   . have hl:oRs[2]? =some ⟨some 17,Op.call ⟨Callee.value (Operand.func _),#[Operand.tmp 16],_⟩,_,_,_,none⟩:=rfl
     obtain rfl:=Option.some.inj (ho.symm.trans hl);have aj:=D.val 1 16 s (mem_of_getElem? (i:=1) rfl) (dep_of ho A (by kernel_rfl:waitsB oRs 2 1=true));have e3:L 3=false:=D.no I (by kernel_rfl:waitsB oRs 3 2=true);have F:L 4=false:=D.no e3 (by kernel_rfl:waitsB oRs 4 3=true);have H:L 5=false:=D.no F (by kernel_rfl:waitsB oRs 5 4=true);have e2:L 2=false:=I;refine inv_call ho rfl (f:=26) (by simp [go_sem,Act.eval,aj]) (clone_calls R s G (q.src F s hs) hR) ?_;rintro e w2 ⟨v2,rfl,ac,C⟩;refine ⟨_,rfl,D.put 2 17 _ ho A (by decide) (by intro t ht;exact vals_ne2 rfl rfl (by decide:2 ∉ [0,1]) (by decide:17 ∉ [15,16]) ht) ?_⟩;exact ⟨q.keep.trans (keeps_below C),q.below.trans (C.mono (le_trans hBw q.below.size)),λ _=> (C.block bt (q.box H).lt).trans (q.box H),λ _=> (q.own F).mono C,λ _ s hs=> (q.src F s hs).mono C,
      λ _ _=> by rw [eval_put_same (by rw [T];decide:17 < a1.tmps.size)];exact ⟨ac.vals,ac.far⟩,λ h=> by simp [e3] at h,λ h=> by simp [F] at h,λ h=> by simp [H] at h⟩
   . have hl:oRs[3]? =some ⟨some 18,Op.buildSlice _ 1 #[(0,Operand.tmp 17)],_,_,_,none⟩:=rfl
     obtain rfl:=Option.some.inj (ho.symm.trans hl);have e2:L 2=true:=dep_of ho A (by kernel_rfl:waitsB oRs 3 2=true);have F:L 4=false:=D.no I (by kernel_rfl:waitsB oRs 4 3=true);have H:L 5=false:=D.no F (by kernel_rfl:waitsB oRs 5 4=true);obtain ⟨J,V⟩:=q.x e2 F;obtain ⟨vx,K⟩:=gx (a1.eval (.tmp 17))
     have ai:=eval_spell K;rw [K] at J V;obtain ⟨xa,xn,xc,rfl,-,-⟩:=J.shape;have C:Below G.heap.size G (G.alloc (.cells #[qs xa xn xc] 60)):=zi.alloc lr _;refine inv_value (v:=qs (some ⟨G.heap.size,0,none⟩) 1 1) (w':=G.alloc (.cells #[qs xa xn xc] 60)) ho rfl (by simp [go_sem,execOp,Act.eval,ai]) ?_;refine D.put 3 18 _ ho A (by decide) (by intro t ht;exact vals_ne2 rfl rfl (by decide:3 ∉ [0,1]) (by decide:18 ∉ [15,16]) ht) ?_;exact ⟨q.keep.trans (keeps_below C),q.below.trans (C.mono (le_trans hBw q.below.size)),λ _=> (q.box H).alloc _,λ _=> (q.own F).mono C,λ _ s hs=> (q.src F s hs).mono C,
      λ _ _=> by rw [eval_put_ne (by decide:18≠17),K];exact ⟨J.mono C,V.mono J C⟩,
      λ _ _=> ⟨G.heap.size,1,qs xa xn xc,eval_put_same (by rw [T];decide:18 < a1.tmps.size),by simp,J.mono C,V.mono J C⟩,λ h=> by simp [F] at h,λ h=> by simp [H] at h⟩
   . have hl:oRs[4]? =some ⟨some 19,Op.call ⟨Callee.builtin Builtin.append,#[Operand.tmp 15,Operand.tmp 18],#[41,41]⟩,_,_,_,none⟩:=rfl
     have eo:=Option.some.inj (ho.symm.trans hl);have af:o.guard=none:=by rw [eo]
     have al:o.op=Op.call ⟨Callee.builtin Builtin.append,#[Operand.tmp 15,Operand.tmp 18],#[41,41]⟩:=by rw [eo]
     have ag:o.dst=some 19:=by rw [eo]
     have ab:Region.wanted o (yielded oRs a1.tmps)=true:=by simp [Region.wanted,af]
     clear eo;have e3:L 3=true:=dep_of ho A (by kernel_rfl:waitsB oRs 4 3=true);have e0:L 0=true:=dep_of ho A (by kernel_rfl:waitsB oRs 4 0=true);have F:L 4=false:=I;have H:L 5=false:=D.no I (by kernel_rfl:waitsB oRs 5 4=true);have ak:a1.eval (.tmp 15)=v:=D.vals (0,15,v) (mem_of_getElem? (i:=0) rfl) e0;obtain ⟨gb,c,y,y1,y2,y3,y4⟩:=q.y e3 F;have am:=le_trans hBw q.below.size;refine inv_step ho ab λ K' hK'=> ?_;have O:∀(hh:∀v' w',RowsOwn w' B (M++[R]) v'->Below B G w'->G.grownBy w' v.ownBlock->K' (a1.put o.dst v') w'),if Region.wanted o (yielded oRs a1.tmps)=true then Oper.wp Tryz.prog o a1 G K' (NoPanic Q) else True:=
      λ hh=> step_rows af (.tmp 15) (.tmp 18) al B M [R] v ak (q.own F) ⟨gb,0,none⟩ c 1 [y] y1 rfl
       (λ j u hj=> by match j,hj with | 0,hj=> simp at hj;subst hj;simpa [Addr.add] using y2) (.one y3) (by simpa using y4) hM am hh
     simp only [ab,if_true] at O;refine O λ v' w' ho' hb' hg'=> hK'.out _ _ ?_;rw [ag];refine D.put 4 19 _ ho A (by decide) (by intro t ht;exact vals_ne2 rfl rfl (by decide:4 ∉ [0,1]) (by decide:19 ∉ [15,16]) ht) ?_;have aa:some bt≠v.ownBlock:=by obtain ⟨xs,o1,-⟩:=q.own F;exact (q.box H).not_row (by decide) o1
     refine ⟨q.keep.trans (KeepsOthers.of_grownBy hg' λ j ob ej hj=> ?_),q.below.trans hb',λ _=> (q.box H).kept hg' aa,λ h=> by simp at h,λ h=> by simp at h,λ _ h=> by simp at h,λ _ h=> by simp at h,λ _ _=> by rw [eval_put_same (by rw [T];decide:19 < a1.tmps.size)];exact ho',λ h=> by simp [H] at h⟩;obtain ⟨aq,fr,e⟩:=(q.own F).type ej;rw [e] at hj;cases hj;rfl
   . have hl:oRs[5]? =some ⟨none,Op.store _ (Operand.tmp 5) (Operand.tmp 19),_,_,_,none⟩:=rfl
     obtain rfl:=Option.some.inj (ho.symm.trans hl);have x5:=D.old 5 (.pointer (some ⟨bt,0,none⟩)) (by decide) h5;have F:L 4=true:=dep_of ho A (by kernel_rfl:waitsB oRs 5 4=true);have H:L 5=false:=I;have hz:=q.z F H;obtain ⟨vx,K⟩:=gx (a1.eval (.tmp 19))
     have ah:=eval_spell K;rw [K] at hz;obtain ⟨xa,xn,xc,rfl,-⟩:=hz.at.shape;have hc:=(q.box H).cell;have hf:=(q.box H).frozen;have aa:some bt≠(qs xa xn xc).ownBlock:=by obtain ⟨xs,o1,-⟩:=hz;exact (q.box H).not_row (by decide) o1
     refine inv_stored (w':=G.setCell ⟨bt,0,none⟩ (qs xa xn xc)) ho rfl rfl (by simp [go_sem,execOp,Act.eval,x5,ah,hc,hf]) ?_;refine D.step 5 ho A (by intro t ht;exact vals_ne1 rfl (by decide:5 ∉ [0,1]) ht) ?_;refine ⟨q.keep.trans (KeepsOthers.setCell _ _ _),q.below.trans (zi.setCell (p:=⟨bt,0,none⟩) hB _),λ h=> by simp at h,λ h=> by simp [F] at h,λ h=> by simp [F] at h,λ _ h=> by simp [F] at h,λ _ h=> by simp [F] at h,λ _ h=> by simp at h,λ _=> ⟨_,(q.box H).set _,?_⟩⟩;refine hz.kept (grownBy_setCell' G bt _) λ k hk=> ?_;injection hk with hk;subst hk;refine ⟨hB,aa.symm,λ aq fr e=> ?_⟩;have:=(show G.heap[bt]? =_ from q.box H).symm.trans e;simp at this
 . intro L a1 G I D
   exact hQ a1 G D.eff.keep D.eff.below (D.eff.r (I 5 (by rw [W];decide)))
end
end Go.Proofs.YtcomoomndgbckaaGreat
noncomputable section
namespace Go.Proofs.YtcomoomndgbckaaGreat
open Go.RowKit
theorem same_calls (L M:List Rw) (s t:Value) (w:World) (hs:RowsAt w L s) (ht:RowsAt w M t):
 Calls Tryz.prog 10 #[s,t] w λ e w'=> e=.returned (.bool (decide (L=M)))/\Below w.heap.size w w':=by
 obtain ⟨a,n,c,rfl,hn,hm⟩:=hs.shape;obtain ⟨a',n',c',rfl,O,W⟩:=ht.shape;unfold maxLen at hm W;have Hs:=hid hs;have Ht:=hid ht;have Hn:=hid hn;have I:=hid O;clear hs ht hn O;by_cases hne:n=n'
 . subst hne
   have ac:((n:Int) !=(n:Int))=false:=by simp
   go_enter Tryz.func10,Tryz.ntmps10;go_wp2;go_loopw [5] (λ i wr=> ∃k:Nat,k<=n/\i=qi k/\Hid (decide (L=M)=decide (L.drop k=M.drop k))/\Hid (Below w.heap.size w wr)) (λ i _=> n - (intOf i).toNat)
   case atStart=> exact ⟨0,zero_le _,rfl,rfl,zi⟩
   case round=>
    obtain ⟨k,hk,rfl,He,V⟩:=hrel;by_cases hlt:k < n
    . have H:k < L.length:=by have:=Hn.out;omega
      have G:k < M.length:=by have:=I.out;omega
      obtain ⟨b,o,rfl⟩:=Hs.has k hlt;obtain ⟨ax,nx,cx,J,-⟩:=Hs.row k H;obtain ⟨b',o',rfl⟩:=Ht.has k hlt;obtain ⟨ay,ny,cy,D,-⟩:=Ht.row k G;have Hd:Hid (L.drop k=L[k]::L.drop (k+1)):=drop_eq_getElem_cons H;have U:Hid (M.drop k=M[k]::M.drop (k+1)):=drop_eq_getElem_cons G;obtain ⟨hc,hx,ab⟩:=J.out _ V;obtain ⟨aa,K,T⟩:=D.out _ V;have HC:=hid (λ w' (hb:Below wr.heap.size wr w')=> rsame_calls L[k] M[k] _ _ w' (hx.mono hb) (K.mono hb));clear hx K;generalize L[k]=X at *;generalize M[k]=Y at *;have i1:(0:Int)<=k:=by omega
      have i2:(k:Int) < n:=by omega
      clear H G;go_upto_region 6 with (fail)
      go_cut [26] (λ z wx=> ∃q:Bool,z=.bool q/\Hid (q=!decide (X=Y))/\Hid (Below w.heap.size w wx))
      case first=>
       go_region_held3 (λ w'=> Below wr.heap.size wr w'/\∀b o,b < wr.heap.size->w'.cell? ⟨b,o,none⟩=wr.cell? ⟨b,o,none⟩)
        (first | assumption | exact S_of (Below.drew zi) | exact S_step (by assumption) (by assumption))
        (first | (go_at_call 19;(with_reducible refine (HC.out _ (by first | assumption | exact And.left (by assumption))).mono ?_);rintro e w1 ⟨rfl,ad⟩))
       all_goals
        rename_i hH
        have F:=hid (V.trans (hH.1.mono V.size));clear hH;go_wp2_with fail;go_meet;exact ⟨_,rfl,rfl,F⟩
      obtain ⟨q,rfl,Hq,F⟩:=hcut;clear hc aa i1 i2 ab T;cases q
      . have h0:X=Y:=by simpa using Hq.out
        have A:Hid (decide (L=M)=decide (L.drop (k+1)=M.drop (k+1))):=by show _=_;rw [He.out,Hd.out,U.out,h0];simp
        clear h0;go_wp2;go_roundw
        case rel=> exact ⟨k+1,by omega,by go_num,A,F⟩
        case measure=> simp [intOf];omega
      . have h0:¬ X=Y:=by simpa using Hq.out
        have A:Hid (decide (L=M)=false):=by show _=_;rw [He.out,Hd.out,U.out];simp [h0]
        clear h0;go_wp2;go_ret;exact ⟨by rw [A.out];rfl,F⟩
    . obtain rfl:k=n:=by omega
      have C:Hid (decide (L=M)=true):=by show _=_;rw [He.out,List.drop_eq_nil_iff.2 (by have:=Hn.out;omega),List.drop_eq_nil_iff.2 (by have:=I.out;omega)];simp
      go_wp2;go_ret;exact ⟨by rw [C.out];rfl,V⟩
 . have ac:((n:Int) !=(n':Int))=true:=by simp;omega
   have C:Hid (decide (L=M)=false):=by show _=_;rw [decide_eq_false_iff_not];intro h;have h1:=Hn.out;have h2:=I.out;rw [h] at h1;omega
   clear hne;go_enter Tryz.func10,Tryz.ntmps10;go_wp2;go_ret;exact ⟨by rw [C.out];rfl,zi⟩
end Go.Proofs.YtcomoomndgbckaaGreat
end
