/- Part 20 of the proof. -/
import Derived.Test.YtcomoomndgbckaaGreatY15
import Derived.Test.YtcomoomndgbckaaGreatY16
import Derived.Test.YtcomoomndgbckaaGreatY18
set_option maxHeartbeats 16000000
set_option maxRecDepth 100000
open Go Go.RowKit
open Go.Lib (hid)
open List (getElem?_cons_zero getElem?_cons_succ getElem_mem length_append nil_append map_cons append_assoc length_take mem_cons map_nil mem_singleton cons_append mem_append length_map take_succ_eq_append_getElem mem_of_getElem? getElem?_eq_getElem map_append take_of_length_le take_length length_nil length_cons append_nil mem_iff_getElem take_append_drop length_eq_zero_iff not_mem_nil getD_eq_getElem?_getD all_eq_true take_append_getElem mem_cons_of_mem)
open Nat (le_refl zero_le le_succ lt_succ_self le_trans lt_of_lt_of_le add_zero zero_add zero_mul le_of_lt min_eq_left)
namespace Go.Proofs.YtcomoomndgbckaaGreat
noncomputable section
def DivOk (E:Ex):Prop:=E.cols=false/\∃d,Ex.value [] E=some d/\d.kind=1/\1<=d.int/\d.int<=1000
theorem cDiv_calls (E:Ex) (L:List Int) (t:Int) (hE:VT L t E) (a:Option Addr) (n c:Nat) (w:World) (hs:ArgsAt w E.args (qs a n c)):
 Calls Tryz.prog 144 #[.agg #[qi E.op,qt E.table,qt E.name,qi E.index,qi E.v.kind,qi E.v.int,qt E.v.text,qs a n c]] w (BoolP (DivOk E) w):=by
 have HC:=hid λ w h=> rcolumns_calls _ E lr a n c w h;have HS:=hid hs;have ad:=hid hE;obtain ⟨op,I⟩:=gx E.op
 obtain ⟨tb,H⟩:=gx E.table
 obtain ⟨nm,J⟩:=gx E.name
 obtain ⟨ix,K⟩:=gx E.index
 obtain ⟨vk,F⟩:=gx E.v.kind
 obtain ⟨vi,G⟩:=gx E.v.int
 obtain ⟨vt,D⟩:=gx E.v.text
 have T:Hid (E.cols=false->∃v,Ex.value [] E=some v/\∀w,ArgsAt w E.args (qs a n c)->Calls Tryz.prog 59 #[.agg #[qi op,qt tb,qt nm,qi ix,qi vk,qi vi,qt vt,qs a n c],q0] w λ e w'=> e=.returned v.val/\Below w.heap.size w w'):=λ hc=> by obtain ⟨v,h1,-,V⟩:=rv_all (R:=[]) (.inr hc) hE;refine ⟨v,h1,λ w h=> ?_⟩;have:=V a n c (q0) w h .mt;rw [I,H,J,K,F,G,D] at this;exact this
 rw [I,H,J,K,F,G,D] at HC ⊢;have Hv:=hid (VarIs.new w #[qi op,qt tb,qt nm,qi ix,qi vk,qi vi,qt vt,qs a n c] 37);have O:Hid (∀o,Below w.heap.size w (w.alloc o)):=λ o=> zi.alloc lr o;clear hs hE I H J K F G D;go_enter Tryz.func144,Tryz.ntmps144;go_wp2_with fail;refine (HC.out _ (HS.mono (O.out _))).mono ?_;rintro e w1 ⟨rfl,M⟩;have ac:=hid M;have C:=hid ((O.out _).trans (M.mono (O.out _).size));have W:=hid (Hv.below M (by simp));clear M;cases hc:E.cols with
 | true=>
  clear hc;go_wp2;go_ret;exact ⟨false,rfl,(λ h=> (by cases h)),C⟩
 | false=>
  obtain ⟨v,hv,hR⟩:=T.out hc;have ab:=hid hc;have HV:=hid hv;have aa:=hid hR;clear hc hv hR T HC;obtain ⟨x1,A,-⟩:=W.out;have c0:=A 0;have c1:=A 1;have c2:=A 2;have c3:=A 3;have c4:=A 4;have c5:=A 5;have c6:=A 6;have c7:=A 7;simp only [q2a] at c0 c1 c2 c3 c4 c5 c6 c7;clear A;go_wp2_with fail;refine (aa.out _ (HS.mono C)).mono ?_;rintro e w2 ⟨rfl,M⟩;have q:=hid (C.trans (M.mono C.size));clear M c0 c1 c2 c3 c4 c5 c6 c7 x1;simp only [Vl.val];obtain ⟨k,U⟩:=gx v.kind
  obtain ⟨i,hi⟩:=gx v.int
  have HK:=hid U;have HI:=hid hi;rw [U,hi];clear U hi;by_cases h1:k=1
  . subst h1
    by_cases h2:1<=i
    . by_cases V:i<=1000
      . go_wp2
        go_ret;exact ⟨true,rfl,(λ _=> ⟨ab,v,HV,HK,by rw [HI.out];exact h2,by rw [HI.out];exact V⟩),q.alloc q.size _⟩
      . go_wp2
        go_ret;exact ⟨false,rfl,(λ h=> (by cases h)),q.alloc q.size _⟩
    . go_wp2
      go_ret;exact ⟨false,rfl,(λ h=> (by cases h)),q.alloc q.size _⟩
  . go_wp2
    go_ret;exact ⟨false,rfl,(λ h=> (by cases h)),q.alloc q.size _⟩
def TimesP (w:World) (e:Ending) (w':World):Prop:=∃t:Int,e=.returned (qi t)/\w=w'
theorem tFloor_calls (a b:Int) (hb:0 < b) (w:World):Calls Tryz.prog 163 #[qi a,qi b] w (TimesP w):=by
 have o:¬ b=0:=by omega
 go_enter Tryz.func163,Tryz.ntmps163;go_wp2 <;> (go_ret;exact ⟨_,rfl,rfl⟩)
theorem tTimes_calls (a b:Int) (w:World):Calls Tryz.prog 156 #[qi a,qi b] w (TimesP w):=by
 by_cases ha:a=0
 . subst ha
   go_enter Tryz.func156,Tryz.ntmps156;go_wp2;go_ret;exact ⟨_,rfl,rfl⟩
 have J:(a==0)=false:=by simp [ha]
 by_cases hb:b=0
 . subst hb
   go_enter Tryz.func156,Tryz.ntmps156;go_wp2;go_ret;exact ⟨_,rfl,rfl⟩
 have I:(b==0)=false:=by simp [hb]
 go_enter Tryz.func156,Tryz.ntmps156;go_wp2_with fail;refine (tWith_calls a _ _ w).mono ?_;rintro e O ⟨q,rfl,o,rfl⟩;have C:=hid o;clear o;cases q with
 | false=>
  go_wp2;go_ret;exact ⟨_,rfl,rfl⟩
 | true=>
  go_wp2_with fail;refine (tWith_calls b _ _ w).mono ?_;rintro e M ⟨q,rfl,o,rfl⟩;have A:=hid o;clear o;cases q with
  | false=>
   go_wp2;go_ret;exact ⟨_,rfl,rfl⟩
  | true=>
   have F:=C.1 (by simp);have D:=A.1 (by simp);clear C A;have H:=hid (tAbs_calls a w (by omega));have G:=hid (tAbs_calls b w (by omega));have T:((b.natAbs:Nat):Int)≠0:=by omega
   generalize ((b.natAbs:Nat):Int)=bb at *;generalize ((a.natAbs:Nat):Int)=aa at *;clear F D;go_wp2_with fail;refine H.mono ?_;rintro e L ⟨rfl,rfl⟩;go_wp2_with fail;refine G.mono ?_;rintro e K ⟨rfl,rfl⟩;go_wp2 <;> (go_ret;exact ⟨_,rfl,rfl⟩)
section
open Go.Sort
def PtE (T:World->List Value->List Value->Prop) (w:World) (x cs:List Value):Prop:=cs=x/\∃(co kd vr b:Int) (o:Option Addr) (m k:Nat) (xs:List (List Value)),x=[qi co,qi kd,qi vr,qi b,qs o m k]/\xs.length=m/\(kd=2->1<=b/\0 < m)/\LsAt 2 T w xs (qs o m k)
def TmE:Nat->World->List Value->List Value->Prop
 | 0,_,_,_=> False
 | d+1,w,x,cs=> cs=x/\∃(c:Int) (a:Option Addr) (n k:Nat) (ps:List (List Value)),x=[qi c,qs a n k]/\ps.length=n/\LsAt 5 (PtE (TmE d)) w ps (qs a n k)
theorem LsAt.weak {α:Type} {sz:Nat} {E E':World->α->List Value->Prop} {w:World} {xs:List α} {s:Value} (hE:∀x cs,E w x cs->E' w x cs) (h:LsAt sz E w xs s):LsAt sz E' w xs s:=by
 rcases h with h | ⟨b,o,n,c,h1,H,G,F,D⟩
 . exact .inl h
 . refine .inr ⟨b,o,n,c,h1,H,G,F,λ i hi=> ?_⟩
   obtain ⟨cs,C,A,q⟩:=D i hi;exact ⟨cs,C,A,hE _ _ q⟩
theorem PtE.mono {T:World->List Value->List Value->Prop} (hT:EMono T):EMono (PtE T):=λ _ _ _ _ ⟨h0,co,kd,vr,b,o,m,k,xs,h1,h2,h3,h4⟩ hb=> ⟨h0,co,kd,vr,b,o,m,k,xs,h1,h2,h3,h4.mono hT hb⟩
theorem PtE.weak {T T':World->List Value->List Value->Prop} {w:World} (hT:∀n cs,T w n cs->T' w n cs) (x cs:List Value):PtE T w x cs->PtE T' w x cs:=λ ⟨h0,co,kd,vr,b,o,m,k,xs,h1,h2,h3,h4⟩=> ⟨h0,co,kd,vr,b,o,m,k,xs,h1,h2,h3,h4.weak hT⟩
theorem TmE.mono:∀d,EMono (TmE d)
 | 0=> λ _ _ _ _ h _=> h.elim
 | d+1=> λ _ _ _ _ ⟨h0,c,a,n,k,ps,h1,h2,h3⟩ hb=> ⟨h0,c,a,n,k,ps,h1,h2,h3.mono (PtE.mono (TmE.mono d)) hb⟩
theorem TmE.up:∀{d:Nat} {w:World} (x cs:List Value),TmE d w x cs->TmE (d+1) w x cs
 | 0,_,_,_=> λ h=> h.elim
 | _d+1,_,_,_=> λ ⟨h0,c,a,n,k,ps,h1,h2,h3⟩=> ⟨h0,c,a,n,k,ps,h1,h2,h3.weak (PtE.weak λ n cs h=> TmE.up n cs h)⟩
theorem TmE.le {d e:Nat} {w:World} {x cs:List Value} (h:TmE d w x cs) (hd:d<=e):TmE e w x cs:=by
 induction hd with
 | refl=> exact h
 | step _ ih=> exact ih.up
abbrev PtsAt (d:Nat) (w:World) (ps:List (List Value)) (v:Value):Prop:=LsAt 5 (PtE (TmE d)) w ps v
theorem PtsAt.mono {d:Nat} {w w':World} {ps:List (List Value)} {v:Value} (h:PtsAt d w ps v) (hb:Below w.heap.size w w'):PtsAt d w' ps v:=LsAt.mono (PtE.mono (TmE.mono d)) h hb
theorem PtsAt.le {d e:Nat} {w:World} {ps:List (List Value)} {v:Value} (h:PtsAt d w ps v) (hd:d<=e):PtsAt e w ps v:=h.weak (PtE.weak λ _ _ h=> h.le hd)
theorem PtsAt.cell {d:Nat} {w:World} {ps:List (List Value)} {a:Option Addr} {n c:Nat} (h:PtsAt d w ps (qs a n c)) (i:Nat) (hi:i < ps.length):∃b o I D H y C q F,∃G:List (List Value),a=some ⟨b,o,none⟩/\b < w.heap.size/\w.cell? ⟨b,o+i * 5,none⟩=some (qi I)/\w.cell? ⟨b,o+i * 5+1,none⟩=some (qi D)/\w.cell? ⟨b,o+i * 5+2,none⟩=some (qi H)/\w.cell? ⟨b,o+i * 5+3,none⟩=some (qi y)/\w.cell? ⟨b,o+i * 5+4,none⟩=some (qs C q F)/\ps[i]=[qi I,qi D,qi H,qi y,qs C q F]/\G.length=q/\(D=2->1<=y/\0 < q)/\LsAt 2 (TmE d) w G (qs C q F):=by
 obtain ⟨b,o,cs,h1,M,O,A,rfl,I,D,H,y,C,q,F,G,h0,L,K,J⟩:=h.get i hi;rw [h0] at A;exact ⟨b,o,I,D,H,y,C,q,F,G,h1,M,by simpa using A 0 (by omega),by simpa using A 1 (by omega),by simpa using A 2 (by omega),by simpa using A 3 (by omega),by simpa using A 4 (by omega),h0,L,K,J⟩
theorem TmsAt.cell {d:Nat} {w:World} {xs:List (List Value)} {a:Option Addr} {m c:Nat} (h:LsAt 2 (TmE d) w xs (qs a m c)) (hl:xs.length=m) (hm:0 < m):∃b o x a1 q A d1 ps,a=some ⟨b,o,none⟩/\b < w.heap.size/\w.cell? ⟨b,o,none⟩=some (qi x)/\w.cell? ⟨b,o+1,none⟩=some (qs a1 q A)/\d=d1+1/\ps.length=q/\PtsAt d1 w ps (qs a1 q A):=by
 obtain ⟨b,o,cs,h1,H,I,C,D⟩:=h.get 0 (by omega);cases d with
 | zero=> exact D.elim
 | succ d1=>
  obtain ⟨rfl,x,a1,q,A,ps,h0,G,F⟩:=D;rw [h0] at C;exact ⟨b,o,x,a1,q,A,d1,ps,h1,H,by simpa using C 0 (by omega),by simpa using C 1 (by omega),rfl,G,F⟩
theorem pts_ind {X:Nat->Prop} {d:Nat} {w:World} {ps:List (List Value)} {v:Value} (h:Ind X w λ w=> PtsAt d w ps v) (i:Nat) (hi:i < ps.length):Ind X w λ w=> PtE (TmE d) w ps[i] ps[i]:=by
 obtain ⟨a,c,e,-⟩:=h.here.shape;subst e;intro w' A;obtain ⟨b,o,cs,h1,F,D,C,q⟩:=(h w' A).get i hi;have e:=q.1;subst e;exact q
end
section
open Go.Sort
theorem Bl.beside {α:Type} {t:TypeId} {sz:Nat} {E:World->α->List Value->Prop} {B:Nat} {X:Nat->Prop} {w w':World} {xs:List α} {v1 v2 v2':Value} (h:Bl t sz E B (λ j=> X j\/v2.ownBlock=some j) w xs v1) (hg:w.grownBy w' v2.ownBlock) (hk:∀k,v2'.ownBlock=some k->v2.ownBlock=some k\/w.heap.size<=k) (hne:∀j,v1.ownBlock=some j->v2.ownBlock≠some j):Bl t sz E B (λ j=> X j\/v2'.ownBlock=some j) w' xs v1:=by
 refine h.other (Agr.grown hg) (λ k _ e=> .inr e.symm) (λ k e e2=> hne k e e2.symm) λ k hlt o=> ?_;rcases o with o | o
 . exact .inl o
 . rcases hk k o with e | e
   . exact .inr e
   . omega
theorem Bl.apart {α:Type} {t:TypeId} {sz:Nat} {E:World->α->List Value->Prop} {B:Nat} {X:Nat->Prop} {w:World} {xs:List α} {v1 v2 v2':Value} (h:Bl t sz E B X w xs v1) (hk:∀k,v2'.ownBlock=some k->v2.ownBlock=some k\/w.heap.size<=k) (hne:∀j,v1.ownBlock=some j->v2.ownBlock≠some j):∀j,v1.ownBlock=some j->v2'.ownBlock≠some j:=λ j e e2=> by
 rcases hk j e2 with o | o
 . exact hne j e o
 . have:=(h.ge j e).2
   omega
theorem wpList_pushW {α:Type} {t:TypeId} {sz:Nat} {E:World->α->List Value->Prop} {B:Nat} {X:Nat->Prop} {w:World} {xs:List α} {v:Value} {P:Program} {ops:Array Oper} {rest:List Oper} {o:Oper} {a:Act} {Q:Exit->Act->World->Prop} (hgd:o.guard=none) (s x:Operand) (ts:TypeId)
 (ho:o.op=.call { callee:=.builtin .append,args:=#[s,x],argTypes:=#[ts,ts] })
 (i:TypeInfo) (z:Value) (bytes:Nat) (ht:P.underlying ts=some (.slice t)) (hi:P.info? t=some i) (hz:i.zero=some z)
 (hsize:i.size=sz) (hby:i.bytes=bytes) (hzs:z.cells.size=sz) (hsz:0 < sz) (hbs:bytes<=50000)
 (hs:a.eval s=v) (h1:Bl t sz E B X w xs v) (y:α) (news:List Value) (et:TypeId) (hx:a.eval x=.slice (some ⟨w.heap.size,0,none⟩) 1 1) (hl:news.length=sz) (hone:∀u∈news,u.oneCell'=true)
 (hE:Ind (λ k=> X k\/v.ownBlock=some k) w λ w=> E w y news) (hlen:xs.length<=1000000000) (hB:B<=w.heap.size) (hX:∀k,X k->k < w.heap.size)
 (h:∀A w',Hid (Bl t sz E B X w' (xs++[y]) A)->Hid (Below B w w')->Hid (w.grownBy w' v.ownBlock)->Hid (∀k,A.ownBlock=some k->v.ownBlock=some k\/w.heap.size<=k)->wpList P ops Q rest (a.put o.dst A) w'):
 wpList P ops Q (o::rest) a (w.alloc (.cells news.toArray et)):=by
 have G:Below w.heap.size w (w.alloc (.cells news.toArray et)):=zi.alloc lr _;have H:=h1.below G;obtain ⟨cs,J,-⟩:=H;refine wpList_append_block _ hgd s x ts ho B t i z sz bytes ht hi hz hsize hby hzs hsz v _ cs hs J ⟨w.heap.size,0,none⟩ 1 1 news hx (by omega) (λ j u hj=> ?_) hone (by decide) (by unfold maxLen;omega) ?_ (by simp;omega) ?_
 . rw [Addr.add_lit,zero_add,cell_of_row _ w.heap.size j _ et (0,0) (heap_alloc_new w _)]
   simpa using hj
 . have:=Nat.mul_le_mul (show xs.length+1<=1000000001 by omega) hbs
   omega
 intro A w' F q I;have L:=h1.below G;have D:w.grownBy w' v.ownBlock:=⟨q.os,q.tape,q.output,le_trans (by simp) q.size,λ k C hne=> (q.block k (by simp;omega) hne).trans (Below.heap_alloc _ _ _ C)⟩
 refine h A w' (L.app (ys:=[y]) J F q I (λ i hi=> ?_) (λ k C=> by have:=hX k C;simp;omega)) (h1.grown D hB) D ?_
 . obtain rfl:i=0:=by simpa using hi
   have K:=hE.mono G (Y:=λ k=> X k\/v.ownBlock=some k) λ _ _ h=> h;rw [zero_mul,List.drop_zero,take_of_length_le (by omega)];exact K
 . intro k C
   refine (I.out k C).imp id λ h=> ?_;simp at h;omega
end
theorem cGrp_calls (op:Int) (tb nm:ByteArray) (ix vk vi:Int) (vt:ByteArray) (s:Value) (l:List Ex) (la:Option Addr) (ln lc:Nat) (w:World) (hl:ArgsAt w l (qs la ln lc)):
 Calls Tryz.prog 90 #[.agg #[qi op,qt tb,qt nm,qi ix,qi vk,qi vi,qt vt,s],qs la ln lc] w (BoolP (op=2/\∃g∈l,g.index=ix) w):=by
 have W:=hid hl;obtain ⟨V,h1⟩:l.length=ln/\ln<=2000000000000:=by obtain ⟨_,_,_,e,h,h'⟩:=hl.shape;cases e;exact ⟨h.symm,h'⟩
 have HN:=hid V;have Hv:=hid (VarIs.new w #[qi op,qt tb,qt nm,qi ix,qi vk,qi vi,qt vt,s] 37);have O:Hid (∀o,Below w.heap.size w (w.alloc o)):=λ o=> zi.alloc lr o;clear hl V;go_enter Tryz.func90,Tryz.ntmps90;go_wp2;go_loopw [5] (λ z wr=> ∃k:Nat,k<=ln/\z=qi k/\Hid (Below (w.heap.size+1) (w.alloc (.cells #[qi op,qt tb,qt nm,qi ix,qi vk,qi vi,qt vt,s] 37)) wr)) (λ z _=> ln - (intOf z).toNat)
 case atStart=> exact ⟨0,zero_le _,rfl,zi⟩
 case round=>
  obtain ⟨k,hk,rfl,D⟩:=hrel;have C:=hid ((O.out _).trans (D.mono (le_succ _)));obtain ⟨U,F,-⟩:=Hv.below D (lt_succ_self _);have J:=F 0;have I:=F 3;simp only [q2a] at J I;clear F;by_cases hlt:k < ln
  . have q:k < l.length:=by rw [HN.out];exact hlt
    obtain ⟨b,o,rfl⟩:=W.addr q;obtain ⟨s',H,d0,d1,d2,K,d4,d5,d6,d7⟩:=(W.mono C).cell k q;obtain ⟨G,A⟩:=gx ((l[k]).index)
    have T:Hid (∃g∈l,g.index=G):=⟨_,getElem_mem q,A⟩
    rw [A] at K;have aa:(0:Int)<=(k:Int):=by omega
    have kk:(k:Int) < (ln:Int):=by omega
    clear H q A d0 d1 d2 d4 d5 d6 d7;by_cases h2:op=2
    . subst h2
      have z0:((2:Int)==2)=true:=rfl;go_upto_region 4 with (fail)
      go_quiet (fail);clear J I K U;have M:=hid (D.trans (below_drewN wr nq));have L:=hid (C.trans (below_drewN wr nq));by_cases h3:G=ix
      . subst h3
        go_wp2;go_ret;exact ⟨true,rfl,(λ _=> T),L⟩
      . have z1:(G==ix)=false:=by simp [h3]
        go_wp2;go_roundw
        case rel=> exact ⟨k+1,by omega,by go_num,M⟩
        case measure=> simp [intOf];omega
    . have z0:(op==2)=false:=by simp [h2]
      go_upto_region 4 with (fail)
      go_quiet (fail);clear J I K U;have M:=hid (D.trans (below_drewN wr nq));go_wp2;go_roundw
      case rel=> exact ⟨k+1,by omega,by go_num,M⟩
      case measure=> simp [intOf];omega
  . obtain rfl:ln=k:=by omega
    go_wp2;go_ret;exact ⟨false,rfl,(λ h=> by cases h),C⟩
theorem cVars_calls (l:List Srs) (la:Option Addr) (lc:Nat) (w:World) (hl:LsAt 7 SxE w l (qs la l.length lc)) (hf:∀x∈l,x.table.cols.length<=100000000) (hn9:(l.flatMap (·.table.cols)).length<=1000000000):Calls Tryz.prog 89 #[qs la l.length lc] w (FlP 5 VaE (l.flatMap (·.table.cols)) w):=by
 have HL:=hid hl;have HF:=hid hf;have H9:=hid hn9;obtain ⟨n,L⟩:=gx l.length
 have T:=hid L;have ab:n<=2000000000000:=by obtain ⟨_,_,_,h⟩:=hl.shape;omega
 rw [L] at HL ⊢;obtain ⟨i0,ii,K,J,I⟩:=info_parts Tryz.info68';clear hl L hf hn9;go_enter Tryz.func89,Tryz.ntmps89;go_wp2;go_loopw [3,4] (λ v z wr=> ∃k:Nat,k<=n/\z=qi k/\Hid (Bl 68 5 VaE w.heap.size (λ k=> k < w.heap.size) wr ((l.take k).flatMap (·.table.cols)) v)/\Hid (Below w.heap.size w wr)) (λ _ z _=> n - (intOf z).toNat)
 case atStart=> exact ⟨0,zero_le _,rfl,Bl.nil _ _ _ _ _ _,zi⟩
 case round=>
  obtain ⟨k,hk,rfl,HB,H⟩:=hrel;by_cases hlt:k < n
  . have q:k < l.length:=by rw [T.out];exact hlt
    have C:=HL.mono SxE.mono H;obtain ⟨b,o,a1,c1,a2,n2,c2,a3,n3,c3,a4,n4,c4,rfl,ac,d0,d1,d2,d3,d4,d5,d6,D⟩:=SxAt.cell C k q;have HY:=hid (HF.out _ (getElem_mem q));have HT:Hid ((l.take (k+1)).flatMap (·.table.cols)=(l.take k).flatMap (·.table.cols)++l[k].table.cols):=by show _=_;rw [<-take_append_getElem q,List.flatMap_append];simp
    have G:Hid (((l.take k).flatMap (·.table.cols)).length+l[k].table.cols.length<=1000000000):=by
     show _<=_;rw [<-length_append,<-HT.out];refine le_trans ?_ H9
     conv=> rhs;rw [<-take_append_drop (k+1) l,List.flatMap_append,length_append]
     omega
    generalize l[k]=y at *;have HC:=hid λ w' h=> bVars_calls y.table.name y.table.cols a1 c1 (qs a2 n2 c2) (qs a3 n3 c3) (qs a4 n4 c4) w' h HY;have V:=hid D;clear C q D;go_wp2_with fail;refine (HC.out _ V).mono ?_;rintro e w1 ⟨v1,rfl,hv,M⟩;have HV:=hid hv.here;have aa:=hid (HB.below M);have A:=hid (H.trans (M.mono H.size));clear M hv d0 d1 d2 d3 d4 d5 d6;go_wp2_with (at_builtin;go_loud (refine wpList_pushL0 (E:=VaE) rfl _ _ 44 rfl i0 _ 40 Tryz.underlying44 ii K J I rfl (by decide) (by decide) rfl aa.out rfl _ HV.out (λ _ _ h _ _=> h) zi (λ _ x _ h=> h ▸ one_va x) G.out A.out.size (λ k h=> lt_of_lt_of_le h A.out.size) ?_));intro v' w' W F _ _;have O:=hid (A.trans F);clear F;go_wp2;go_roundw
    case rel=> exact ⟨k+1,by omega,by go_num,bl_cast W HT.symm,O⟩
    case measure=> simp [intOf];omega
  . obtain rfl:n=k:=by omega
    have U:Hid (Ind (λ k=> k < w.heap.size) wr λ w=> LsAt 5 VaE w (l.flatMap (·.table.cols)) u3):=by have h:=Bl.fin lr HB (by rw [<-T.out,take_length];exact le_trans H9 (by decide));rw [<-T.out,take_length] at h;exact h
    go_wp2;go_ret;exact ⟨_,rfl,U,H⟩
end
end Go.Proofs.YtcomoomndgbckaaGreat
noncomputable section
namespace Go.Proofs.YtcomoomndgbckaaGreat
theorem grp_last (es:List Xp) (l:List Rw) (r:Rw):(l++[r]).foldl (stepG es) ([],none)=(grpS es (l++[r]),some r):=by
 unfold grpS;rw [List.foldl_append];rfl
def GCls (es:List Xp) (l:List Rw) (gs:List (List Rw)) (hs:List Rw):Prop:=gs=hs.map (λ h=> l.filter λ r=> keyC es r h==0)/\(hs.Pairwise λ a b=> keyC es a b < 0)/\(∀h∈hs,h∈l)/\∀r∈l,∃h∈hs,keyC es r h=0
theorem grp_cls (es:List Xp):∀(n:Nat) (l:List Rw),l.length=n->AscC (keyC es) l->∃U,GCls es l (grpS es l) U:=by
 have ho:=keyC_ord es;intro n
 induction n with
 | zero=>
  intro l hl _;obtain rfl:l=[]:=length_eq_zero_iff.1 hl;exact ⟨[],rfl,List.Pairwise.nil,by simp,by simp⟩
 | succ n ih=>
  intro l hl V;obtain ⟨A,r,rfl⟩:∃A r,l=A++[r]:=by
   rcases List.eq_nil_or_concat l with h | ⟨a,b,h⟩
   . subst h;simp at hl
   . exact ⟨a,b,by rw [h,List.concat_eq_append]⟩
  have ab:A.length=n:=by simpa using hl
  unfold AscC at V;obtain ⟨K,-,J⟩:=List.pairwise_append.1 V;replace J:∀x∈A,keyC es x r<=0:=λ x q=> J x q r (by simp);obtain ⟨U,h1,h2,M,h4⟩:=ih A ab K;rcases List.eq_nil_or_concat A with h | ⟨l2,p,h⟩
  . subst h
    refine ⟨[r],?_,by simp,by simp,?_⟩
    . simp [grpS,stepG,ho.self]
    . intro x q
      obtain rfl:x=r:=by simpa using q
      exact ⟨x,by simp,ho.self x⟩
  rw [List.concat_eq_append] at h;have hp:p∈A:=by rw [h];simp
  have H:∀x∈A,keyC es x p<=0:=by
   intro x q;rw [h] at q K;obtain ⟨-,-,C⟩:=List.pairwise_append.1 K;rcases mem_append.1 q with F | F
   . exact C x F p (by simp)
   . rw [mem_singleton.1 F,ho.self];exact Int.le_refl _
  have W:grpS es (A++[r])=if keyC es p r=0 then (grpS es A).dropLast++[(grpS es A).getLastD []++[r]] else grpS es A++[[r]]:=by
   show ((A++[r]).foldl (stepG es) ([],none)).1=_;rw [List.foldl_append];have e:A.foldl (stepG es) ([],none)=(grpS es A,some p):=by rw [h];exact grp_last es l2 p
   rw [e];rfl
  obtain ⟨h0,O,T⟩:=h4 p hp;obtain ⟨D,o,rfl⟩:∃D o,U=D++[o]:=by
   rcases List.eq_nil_or_concat U with h | ⟨a,b,h⟩
   . subst h;simp at O
   . exact ⟨a,b,by rw [h,List.concat_eq_append]⟩
  obtain ⟨ae,-,G⟩:=List.pairwise_append.1 h2;replace G:∀x∈D,keyC es x o < 0:=λ x q=> G x q o (by simp);have ad:keyC es p o=0:=by
   rcases mem_append.1 O with F | F
   . have h7:=G h0 F
     have h8:=H o (M o (by simp));have h9:=ho.le_lt (x:=p) (by omega:keyC es p h0<=0) h7;have:=ho.anti p o;omega
   . rw [mem_singleton.1 F] at T;exact T
  have a1:=ho.anti p o;have a2:=ho.anti o p;have a3:=ho.anti p r;have a4:=ho.anti r p;have ac:=J p hp;rw [W];split
  . rename_i aa
    have L:keyC es r o=0:=ho.eq_cases (x:=o) (y:=r) (z:=p) (by omega) (by omega);have a5:=ho.anti r o;have a6:=ho.anti o r;refine ⟨D++[o],?_,h2,λ x q=> List.mem_append_left _ (M x q),λ x q=> ?_⟩
    . rw [h1,map_append,map_append,map_cons,map_nil,map_cons,map_nil,List.dropLast_concat,List.getLastD_concat]
      congr 1
      . refine List.map_congr_left λ x q=> ?_
        have C:=ho.lt_le (G x q) (by omega:keyC es o r<=0);have F:=ho.anti x r;rw [List.filter_append,List.filter_cons,if_neg (by simp;omega),List.filter_nil,append_nil]
      . rw [List.filter_append,List.filter_cons,if_pos (by simp [L]),List.filter_nil]
    . rcases mem_append.1 q with C | C
      . exact h4 x C
      . rw [mem_singleton.1 C];exact ⟨o,by simp,L⟩
  . rename_i aa
    have I:∀x∈A,keyC es x r < 0:=λ x q=> ho.le_lt (H x q) (by omega);refine ⟨(D++[o])++[r],?_,?_,λ x q=> ?_,λ x q=> ?_⟩
    . rw [h1,map_append (l₁:=D++[o]),map_cons,map_nil]
      congr 1
      . refine List.map_congr_left λ x q=> ?_
        have C:=I x (M x q);have F:=ho.anti x r;rw [List.filter_append,List.filter_cons,if_neg (by simp;omega),List.filter_nil,append_nil]
      . rw [List.filter_append,List.filter_cons,if_pos (by simp [ho.self]),List.filter_nil,List.filter_eq_nil_iff.2 (λ x q=> by have:=I x q;simp;omega)]
        rfl
    . refine List.pairwise_append.2 ⟨h2,by simp,λ a V b hb=> ?_⟩
      rw [mem_singleton.1 hb];exact I a (M a V)
    . rcases mem_append.1 q with C | C
      . exact List.mem_append_left _ (M x C)
      . rw [mem_singleton.1 C];simp
    . rcases mem_append.1 q with C | C
      . obtain ⟨h,F,h7⟩:=h4 x C
        exact ⟨h,List.mem_append_left _ F,h7⟩
      . rw [mem_singleton.1 C];exact ⟨r,by simp,ho.self r⟩
theorem groups_cls (es:List Xp) (L:List Rw) (he:es.length≠0):∃o,GCls es L (groupsL es L) o:=by
 have ho:=keyC_ord es;obtain ⟨h1,q⟩:=stS_spec es L;obtain ⟨o,F,D,C,A⟩:=grp_cls es _ (stS es L) rfl h1;refine ⟨o,?_,D,λ x hx=> q.mem ho (C x hx),λ x hx=> A x (q.symm.mem ho hx)⟩;unfold groupsL;rw [if_neg he,F];exact List.map_congr_left λ x _=> (q x).symm
def okK (es:List Xp) (last:Option Rw) (r:Rw):Prop:=last=none\/∃k,last=some k/\0 < cmpR (keyV es r) k
instance (es:List Xp) (last:Option Rw) (r:Rw):Decidable (okK es last r):=by
 unfold okK;cases last with
 | none=> exact isTrue (.inl rfl)
 | some k=>
  by_cases h:0 < cmpR (keyV es r) k
  . exact isTrue (.inr ⟨k,rfl,h⟩)
  . exact isFalse λ h'=> by
     rcases h' with h' | ⟨k',h1,h2⟩
     . cases h'
     . cases h1;exact h h2
def lowK (s:Option Rw) (k:Rw):Bool:=match s with | none=> true | some x=> decide (cmpR k x < 0)
def pickK (es:List Xp) (L:List Rw) (last:Option Rw):Option Rw:=L.foldl (λ s r=> if okK es last r then (if lowK s (keyV es r) then some (keyV es r) else s) else s) none
theorem pick_snoc (es:List Xp) (L:List Rw) (r:Rw) (last:Option Rw):pickK es (L++[r]) last=if okK es last r then (if lowK (pickK es L last) (keyV es r) then some (keyV es r) else pickK es L last) else pickK es L last:=by
 unfold pickK;rw [List.foldl_append];rfl
theorem pick_spec (es:List Xp) (last:Option Rw):∀(n:Nat) (L:List Rw),L.length=n->(pickK es L last=none->∀r∈L,¬ okK es last r)/\∀k,pickK es L last=some k->(∃r∈L,okK es last r/\keyV es r=k)/\∀r∈L,okK es last r->cmpR k (keyV es r)<=0:=by
 intro n
 induction n with
 | zero=>
  intro L hl;obtain rfl:L=[]:=length_eq_zero_iff.1 hl;exact ⟨by simp,λ k h=> by simp [pickK] at h⟩
 | succ n ih=>
  intro L hl;obtain ⟨l,r,rfl⟩:∃l r,L=l++[r]:=by
   rcases List.eq_nil_or_concat L with h | ⟨a,b,h⟩
   . subst h;simp at hl
   . exact ⟨a,b,by rw [h,List.concat_eq_append]⟩
  obtain ⟨G,F⟩:=ih l (by simpa using hl);rw [pick_snoc];by_cases ho:okK es last r
  . rw [if_pos ho]
    cases hp:pickK es l last with
    | none=>
     refine ⟨λ h=> by simp [lowK] at h,λ k h=> ?_⟩;have e:keyV es r=k:=by simpa [lowK] using h
     refine ⟨⟨r,by simp,ho,e⟩,λ x hx hox=> ?_⟩;rcases mem_append.1 hx with h1 | h1
     . exact absurd hox (G hp x h1)
     . rw [mem_singleton.1 h1,e,cmpR_zero.2 rfl];exact Int.le_refl _
    | some k0=>
     obtain ⟨⟨q,D,C,A⟩,o⟩:=F k0 hp;by_cases hlt:cmpR (keyV es r) k0 < 0
     . refine ⟨λ h=> by simp [lowK,hlt] at h,λ k h=> ?_⟩
       have e:keyV es r=k:=by simpa [lowK,hlt] using h
       refine ⟨⟨r,by simp,ho,e⟩,λ x hx hox=> ?_⟩;rcases mem_append.1 hx with h1 | h1
       . rw [<-e]
         exact cmpR_le (by omega) (o x h1 hox)
       . rw [mem_singleton.1 h1,e,cmpR_zero.2 rfl];exact Int.le_refl _
     . refine ⟨λ h=> by simp [lowK,hlt] at h,λ k h=> ?_⟩
       have e:k0=k:=by simpa [lowK,hlt] using h
       rw [<-e];refine ⟨⟨q,List.mem_append_left _ D,C,A⟩,λ x hx hox=> ?_⟩;rcases mem_append.1 hx with h1 | h1
       . exact o x h1 hox
       . rw [mem_singleton.1 h1]
         have:=cmpR_swap (keyV es r) k0;omega
  . rw [if_neg ho]
    refine ⟨λ h x hx=> ?_,λ k h=> ?_⟩
    . rcases mem_append.1 hx with h1 | h1
      . exact G h x h1
      . rw [mem_singleton.1 h1];exact ho
    . obtain ⟨⟨q,D,C,A⟩,o⟩:=F k h
      refine ⟨⟨q,List.mem_append_left _ D,C,A⟩,λ x hx hox=> ?_⟩;rcases mem_append.1 hx with h1 | h1
      . exact o x h1 hox
      . rw [mem_singleton.1 h1] at hox;exact absurd hox ho
def lastK (es:List Xp) (hs:List Rw) (j:Nat):Option Rw:=if j=0 then none else (hs[j - 1]?).map (keyV es)
theorem pick_next (es:List Xp) {L:List Rw} {gs:List (List Rw)} {hs:List Rw} (h:GCls es L gs hs) (j:Nat) (hj:j<=hs.length):pickK es L (lastK es hs j)=(hs[j]?).map (keyV es):=by
 obtain ⟨-,h2,C,h4⟩:=h;have ho:=keyC_ord es;have A:∀a b (ha:a < hs.length) (hb:b < hs.length),a < b->keyC es hs[a] hs[b] < 0:=λ a b ha hb hab=> List.pairwise_iff_getElem.1 h2 a b ha hb hab;have q:∀r∈L,∀i (hi:i < hs.length),keyC es r hs[i]=0->(okK es (lastK es hs j) r↔j<=i):=by
  intro r hr i hi U;unfold okK lastK;by_cases h0:j=0
  . subst h0;simp
  . rw [if_neg h0]
    have o:j - 1 < hs.length:=by omega
    rw [getElem?_eq_getElem o,Option.map_some];constructor
    . rintro (F | ⟨k,F,h6⟩)
      . cases F
      . cases F
        refine Nat.le_of_not_lt λ hlt=> ?_;have h7:keyC es r hs[j - 1]<=0:=by
         by_cases e:i=j - 1
         . subst e;omega
         . have:=ho.le_lt (by omega:keyC es r hs[i]<=0) (A i (j - 1) hi o (by omega));omega
        unfold keyC at h7;omega
    . intro V
      refine .inr ⟨_,rfl,?_⟩;have h8:=ho.lt_le (A (j - 1) i o hi (by omega)) (by have:=ho.anti r hs[i];have:=ho.anti hs[i] r;omega:keyC es hs[i] r<=0);have h9:=(ho.anti hs[j - 1] r).1 h8;exact h9
 obtain ⟨T,O⟩:=pick_spec es (lastK es hs j) _ L rfl;cases hp:pickK es L (lastK es hs j) with
 | none=>
  by_cases o:j < hs.length
  . have:=T hp hs[j] (C _ (getElem_mem o))
    exact absurd ((q hs[j] (C _ (getElem_mem o)) j o (ho.self _)).2 lr) this
  . rw [List.getElem?_eq_none (by omega)];rfl
 | some k=>
  obtain ⟨⟨r,G,K,J⟩,I⟩:=O k hp;obtain ⟨h',hm,D⟩:=h4 r G;obtain ⟨i,hi,rfl⟩:=mem_iff_getElem.1 hm;have W:=(q r G i hi D).1 K;have o:j < hs.length:=by omega
  have q1:=I hs[j] (C _ (getElem_mem o)) ((q hs[j] (C _ (getElem_mem o)) j o (ho.self _)).2 lr);rw [getElem?_eq_getElem o,Option.map_some];have q2:cmpR (keyV es hs[j]) k<=0:=by
   rw [<-J];show keyC es hs[j] r<=0;have H:keyC es hs[i] r<=0:=by have:=ho.anti r hs[i];have:=ho.anti hs[i] r;omega
   by_cases e:j=i
   . subst e;exact H
   . have:=ho.lt_le (A j i o hi (by omega)) H;omega
  have q3:=cmpR_swap k (keyV es hs[j]);have M:cmpR k (keyV es hs[j])=0:=by omega
  rw [cmpR_zero.1 M]
end Go.Proofs.YtcomoomndgbckaaGreat
end
noncomputable section
namespace Go.Proofs.YtcomoomndgbckaaGreat
open Go.RowKit
def aggd (its:List It) (es:List Xp):Bool:=es.length !=0 || its.any λ i=> i.k !=0
def partsL (its:List It) (es:List Xp) (L:List Rw):List (List Rw):=if aggd its es then groupsL es L else L.map λ r=> [r]
def rowsL (its:List It) (es:List Xp) (L:List Rw):List Rw:=if its.length=0 then L else (partsL its es L).map λ G=> its.map λ i=> resV i G
def limL (lim:Int) (out:List Rw):List Rw:=if 0 < lim/\lim < out.length then out.take lim.toNat else out
def resultL (its:List It) (es:List Xp) (os:List Od) (lim:Int) (L:List Rw):List Rw:=limL lim (sortL os (rowsL its es L))
def ItsFit (its:List It) (es:List Xp):Prop:=aggd its es=true->∀i∈its,i.k=0->es.length≠0/\∀r s,keyV es r=keyV es s->i.f r=i.f s
end Go.Proofs.YtcomoomndgbckaaGreat
end
namespace Go.Proofs.YtcomoomndgbckaaGreat
noncomputable section
section
open Go.Sort
theorem parts1_calls (kk op idx lk li:Int) (tab nm lt:ByteArray) (aa:Option Addr) (an ac:Nat) (w:World):
 Calls Tryz.prog 57 #[.agg #[qi kk,qi op,qt tab,qt nm,qi idx,qi lk,qi li,qt lt,qs aa an ac]] w λ e w'=> e=.returned (.bool (kk !=0))/\Below w.heap.size w w':=by
 go_enter Tryz.func57,Tryz.ntmps57;go_wp2;go_ret;exact ⟨rfl,zi.alloc lr _⟩
def IdxP (its:List It) (w:World) (e:Ending) (w':World):Prop:=∃j:Int,e=.returned (qi j)/\((its.any λ i=> i.k !=0)=decide (0<=j))/\Below w.heap.size w w'
theorem indexItem_calls (its:List It) (s:Value) (w:World) (hi:ItemsAt w its s):
 Calls Tryz.prog 91 #[s,.func (.func 57) #[] #[]] w (IdxP its w):=by
 obtain ⟨a,n,c,rfl,J,hm⟩:=hi.shape;unfold maxLen at hm;have HI:=hid hi;have T:=hid J;clear hi J;go_enter Tryz.func91,Tryz.ntmps91;go_wp2;go_loopw [8] (λ z wr=> ∃k:Nat,k<=n/\z=qi k/\Hid (∀i∈its.take k,i.k=0)/\Hid (Below w.heap.size w wr)) (λ z _=> n - (intOf z).toNat)
 case atStart=> exact ⟨0,zero_le _,rfl,(λ i h=> by simp at h),zi⟩
 case round=>
  obtain ⟨k,hk,rfl,O,G⟩:=hrel;by_cases hlt:k < n
  . have A:k < its.length:=by have:=T.out;omega
    obtain ⟨b,o,rfl,I,q⟩:=(HI.mono G).at k A;have HT:=hid (λ (h:its[k].k=0)=> show ∀i∈its.take (k+1),i.k=0 from λ i h1=> by
     rw [take_succ_eq_append_getElem A] at h1;rcases mem_append.1 h1 with h1 | h1
     . exact O.out i h1
     . rw [mem_singleton.1 h1];exact h)
    have HY:=hid (λ (h:its[k].k≠0)=> show (its.any λ i=> i.k !=0)=true from List.any_eq_true.2 ⟨its[k],getElem_mem A,by simpa using h⟩);generalize its[k]=it at *;obtain ⟨H,⟨op,tab,nm,idx,⟨W,li,lt⟩,⟨aa,an,ac⟩⟩,f⟩:=it;have c0:=q 0 (by omega);have c1:=q 1 (by omega);have c2:=q 2 (by omega);have c3:=q 3 (by omega);have c4:=q 4 (by omega);have D:=q 5 (by omega);have M:=q 6 (by omega);have L:=q 7 (by omega);have K:=q 8 (by omega);simp only [It.cells,Xp.cells,getElem?_cons_zero,getElem?_cons_succ,add_zero] at c0 c1 c2 c3 c4 D M L K;have U:=hid λ w'=> parts1_calls H op idx W li tab nm lt aa an ac w';have ad:(0:Int)<=(k:Int):=by omega
    have ab:(k:Int) < (n:Int):=by omega
    clear q A I;go_wp2_with fail;(with_reducible refine (U.out _).mono ?_);rintro e w1 ⟨rfl,C⟩;have F:=hid (G.trans (C.mono G.size));clear C c0 c1 c2 c3 c4 D M L K U;by_cases h0:H=0
    . subst h0
      go_wp2;go_roundw
      case rel=> exact ⟨k+1,by omega,by go_num,HT.out (by simp),F⟩
      case measure=> simp [intOf];omega
    . have V:(H !=0)=true:=by simpa using h0
      rw [V];go_wp2;go_ret;exact ⟨k,rfl,by rw [HY.out h0];simp,F⟩
  . obtain rfl:n=k:=by omega
    have HZ:Hid ((its.any λ i=> i.k !=0)=false):=by show _=_;rw [<-Bool.not_eq_true,List.any_eq_true];rintro ⟨i,h1,h2⟩;have:=O.out i (by rw [T.out,take_length];exact h1);simp [this] at h2
    go_wp2;go_ret;exact ⟨-1,rfl,by rw [HZ.out];rfl,G⟩
def AnyP (its:List It) (w:World) (e:Ending) (w':World):Prop:=e=.returned (.bool (its.any λ i=> i.k !=0))/\Below w.heap.size w w'
theorem contains_calls (its:List It) (s:Value) (w:World) (hi:ItemsAt w its s):
 Calls Tryz.prog 56 #[s,.func (.func 57) #[] #[]] w (AnyP its w):=by
 have A:=hid (indexItem_calls its s w hi);obtain ⟨a,n,c,rfl,-,-⟩:=hi.shape;unfold AnyP;clear hi;go_enter Tryz.func56,Tryz.ntmps56;go_wp2_with fail;(with_reducible refine A.out.mono ?_);rintro e F ⟨j,rfl,q,o⟩;have D:=hid q;have C:=hid o;clear q o A;go_wp2;go_ret;exact ⟨by rw [D.out];rfl,C⟩
theorem groups_opaque (A:Array Value) (bd:Bd) (hA:A=bd.arr) (es:List Xp) (L:List Rw) (m:Nat) (s:Value) (w:World) (hs:RowsAt w L s) (he:XpsAt w es (qs bd.group.a bd.group.n bd.group.c)) (hm:∀r∈L,r.length=m) (hf:KeyFit es m) (hle:es.length < 1099511627776) (hlen:L.length < 1099511627776) (hmb:m < 1099511627776):
 Calls Tryz.prog 14 #[.agg A,s] w (GroupsEnd es L w):=by
 subst hA;exact groups_calls bd es L m s w hs he hm hf hle hlen hmb
def GrE (w:World) (G:List Rw) (cs:List Value):Prop:=∃x,cs=[x]/\RowsAt w G x
theorem gs_of {w:World} {Gs:List (List Rw)} {v:Value} (h:LsAt 1 GrE w Gs v):GsAt w Gs v:=by
 obtain ⟨a,c,rfl,-⟩:=h.shape;refine ⟨a,_,c,rfl,rfl,λ i hi=> ?_⟩;obtain ⟨b,o,cs,h1,C,D,A,x,rfl,q⟩:=h.get i hi;exact ⟨b,o,x,h1,C,by simpa using A 0 (by omega),q⟩
theorem row_alone {w:World} {r:Rw} {x:Value} {g:Nat} (h:VarIs w g #[x]) (hx:ValsAt w r x):RowsAt w [r] (qs (some ⟨g,0,none⟩) 1 1):=by
 refine .lie [r] [x] g 0 1 1 rfl h.lt (by decide) (λ i y hi=> ?_) (.cons hx .nil);have o:i=0:=by have:=(List.getElem?_eq_some_iff.1 hi).1;simp at this;exact this
 subst o;have:=h.cell 0;simp at hi;subst hi;simpa using this
def PartsP (es:List Xp) (its:List It) (L:List Rw) (w:World) (e:Ending) (w':World):Prop:=∃v,e=.returned v/\GsAt w' (partsL its es L) v/\Below w.heap.size w w'
theorem parts_calls (bd:Bd) (es:List Xp) (its:List It) (L:List Rw) (m:Nat) (s:Value) (w:World) (hs:RowsAt w L s) (he:XpsAt w es (qs bd.group.a bd.group.n bd.group.c)) (hi:ItemsAt w its (qs bd.items.a bd.items.n bd.items.c)) (hm:∀r∈L,r.length=m) (hf:KeyFit es m) (hle:es.length < 1099511627776) (hlen:L.length < 1000000000) (hmb:m < 1099511627776):
 Calls Tryz.prog 27 #[.agg bd.arr,s] w (PartsP es its L w):=by
 obtain ⟨a,n,c,rfl,hn,an⟩:=hs.shape;have HA:=hid (show bd.arr.size=26/\bd.arr[18]? =some (qs bd.group.a bd.group.n bd.group.c)/\bd.arr[8]? =some (qs bd.items.a bd.items.n bd.items.c) from ⟨rfl,rfl,rfl⟩);have HG:=hid (λ (w':World) (M:Below w.heap.size w w')=> groups_opaque bd.arr bd rfl es L m _ w' (hs.mono M) (he.mono M) hm hf hle (by omega) hmb);have HC:=hid (λ (w':World) (M:Below w.heap.size w w')=> contains_calls its _ w' (hi.mono M));have ah:Hid (bd.group.n=es.length):=by obtain ⟨_,_,_,e,h,-⟩:=he.shape;exact (Value.slice.inj e).2.1.trans h
 have HS:=hid hs;have HN:=hid hn;have aC:=hid hlen;have aA:n < 1000000000:=by omega
 have W:Below w.heap.size w (w.alloc (.cells bd.arr 46)):=zi.alloc lr _;have q:(w.alloc (.cells bd.arr 46)).heap[w.heap.size]? =some (.cells bd.arr 46 (0,0)):=heap_alloc_new w _;generalize bd.arr=A at *;generalize bd.group.a=ga at *;generalize bd.group.n=gn at *;generalize bd.group.c=gc at *;generalize bd.items.a=ia at *;generalize bd.items.n=inn at *;generalize bd.items.c=ic at *;have ag:(w.alloc (.cells A 46)).cell? ⟨w.heap.size,18,none⟩=some (qs ga gn gc):=(cell_of_row _ _ _ _ _ _ q).trans HA.out.2.1;have c8:(w.alloc (.cells A 46)).cell? ⟨w.heap.size,8,none⟩=some (qs ia inn ic):=(cell_of_row _ _ _ _ _ _ q).trans HA.out.2.2;have G:w.heap.size < (w.alloc (.cells A 46)).heap.size:=(Array.getElem?_eq_some_iff.1 q).1;obtain ⟨i0,ii,al,ak,aj⟩:=info_parts Tryz.info41';clear hs he hi hm hf hle hlen hmb hn an;go_enter Tryz.func27,Tryz.ntmps27;go_upto_region 1 with (fail)
 generalize w.alloc (.cells A 46)=W0 at *;obtain ⟨B,hB⟩:=gx w.heap.size
 have HB:=hid hB;rw [hB] at ag c8 q G W;simp only [hB];have U:=hid q;have D:=hid W;have ac:=hid (HC.out W0 (by rw [HB.out];exact D.out));clear q W hB HC;by_cases hg0:0 < gn
 . have ao:(0:Int) < gn:=by omega
   have ad:partsL its es L=groupsL es L:=by
    have h:es.length≠0:=by have:=ah.out;omega
    simp [partsL,aggd,h]
   have J:=hid ad;clear hg0 ac ad;go_wp2_with (refine wpList_load_row rfl 46 (.tmp 2) rfl B rfl 46 A (0,0) _ U.out Tryz.underlying46 rfl (by rw [HA.out.1];exact Tryz.size46) ?_);go_wp2_with fail;(with_reducible refine (HG.out _ (by rw [HB.out];exact D.out)).mono ?_);rintro e w1 ⟨v,rfl,hv,H⟩;have HF:=hid (show GsAt w1 (partsL its es L) v/\Below w.heap.size w w1 from ⟨J.out ▸ hv,by rw [HB.out];exact D.out.trans (H.mono (le_of_lt G))⟩);clear hv H HG;go_wp2;go_ret;exact ⟨_,rfl,HF.out⟩
 . have ao:¬ (0:Int) < gn:=by omega
   have ae:es.length=0:=by have:=ah.out;omega
   have au:=hid ae;clear hg0 ae;go_wp2_with fail;(with_reducible refine ac.out.mono ?_);rintro e w0 ⟨rfl,M⟩;have ab:=hid (M.mono (le_of_lt G));have aB:=hid M;have aa:=hid ((M.block B G).trans U.out);have aq:=hid (le_trans (le_of_lt G) M.size);clear M ac ag c8;cases hq:its.any λ i=> i.k !=0 with
   | true=>
    have J:Hid (partsL its es L=groupsL es L):=by show _=_;simp only [partsL,aggd,hq,Bool.or_true,if_true]
    clear hq;go_wp2_with (refine wpList_load_row rfl 46 (.tmp 2) rfl B rfl 46 A (0,0) _ aa.out Tryz.underlying46 rfl (by rw [HA.out.1];exact Tryz.size46) ?_);go_wp2_with fail;(with_reducible refine (HG.out _ (by rw [HB.out];exact D.out.trans ab.out)).mono ?_);rintro e w1 ⟨v,rfl,hv,H⟩;have HF:=hid (show GsAt w1 (partsL its es L) v/\Below w.heap.size w w1 from ⟨J.out ▸ hv,by rw [HB.out];exact (D.out.trans ab.out).trans (H.mono aq.out)⟩);clear hv H HG;go_wp2;go_ret;exact ⟨_,rfl,HF.out⟩
   | false=>
    have J:Hid (partsL its es L=L.map λ r=> [r]):=by show _=_;simp [partsL,aggd,au.out,hq]
    have I:Hid (Below w.heap.size w w0):=by show Below _ _ _;rw [HB.out];exact D.out.trans ab.out
    clear hq HG;go_wp2;go_loopw [5,24] (λ v z wr=> ∃k:Nat,k<=n/\z=qi k/\Hid (Bl 41 1 GrE w0.heap.size (λ _=> False) wr ((L.take k).map λ r=> [r]) v)/\Hid (Below w0.heap.size w0 wr)) (λ _ z _=> n - (intOf z).toNat)
    case atStart=> exact ⟨0,zero_le _,rfl,Bl.nil _ _ _ _ _ _,zi⟩
    case round=>
     obtain ⟨k,hk,rfl,T,Hm⟩:=hrel
     rename World=> K
     by_cases hlt:k < n
     . have V:k < L.length:=by have:=HN.out;omega
       obtain ⟨b,o,rfl⟩:=HS.out.has k hlt;obtain ⟨ax,nx,cx,C,-⟩:=HS.out.row k V;have O:=hid (I.out.trans (Hm.out.mono I.out.size));obtain ⟨hc,hx,ap⟩:=C.out _ O.out;have HT:Hid ((L.take (k+1)).map (λ r=> [r])=(L.take k).map (λ r=> [r])++[[L[k]]]):=by show _=_;rw [take_succ_eq_append_getElem V,map_append];rfl
       have HX:=hid hx;generalize L[k]=r at *;have az:(0:Int)<=(k:Int):=by omega
       have ay:(k:Int) < (n:Int):=by omega
       have av:=hid λ w' h=> (C.out w' h).2.1;clear V C hx ap;have F:Hid (Below K.heap.size K ((K.alloc (.cells #[qs ax nx cx] 60)).alloc (.cells #[qs (some ⟨K.heap.size,0,none⟩) 1 1] 41))):=(zi.alloc lr _).alloc (by simp) _;have ai:=hid (T.out.below F.out);have am:=hid (le_trans Hm.out.size F.out.size);go_wp2_with (at_builtin;go_loud (refine wpList_pushG (E:=GrE) rfl _ _ 56 rfl i0 _ 24 Tryz.underlying56 ii al ak aj rfl (by decide) (by decide) rfl ai.out [r] [qs (some ⟨K.heap.size,0,none⟩) 1 1] _ rfl (VarIs.new1 K _ _ _).cell rfl one_sl ?hE ?hl am.out (λ j h=> h.elim) ?_))
       case hl=> rw [length_map,length_take];omega
       case hE=>
        intro w' ha;refine ⟨_,rfl,row_alone (((VarIs.new K #[qs ax nx cx] 60).alloc (.cells #[qs (some ⟨K.heap.size,0,none⟩) 1 1] 41)).agr ha λ h=> ?_) (av.out w' ((O.out.trans (F.out.mono O.out.size)).trans (ha.below (le_trans O.out.size F.out.size) λ j hj h=> ?_)))⟩
        . rcases h with h | h
          . exact h
          . have:=(T.out.ge _ h).2
            omega
        . rcases h with h | h
          . exact h
          . have:=(T.out.ge _ h).1
            have:=I.out.size;omega
       intro v' w3 aw af _ _;have ar:=hid ((Hm.out.trans (F.out.mono Hm.out.size)).trans af.out);clear af hc ai F;go_wp2;go_roundw
       case rel=> exact ⟨k+1,by omega,by go_num,by rw [HT.out,List.map_take];exact aw,ar⟩
       case measure=> simp [intOf];omega
     . obtain rfl:n=k:=by omega
       have HF:=hid (show GsAt K (partsL its es L) u5/\Below w.heap.size w K from ⟨by have h:=gs_of (T.out.at (by rw [length_map,length_take];omega));rw [HN.out,take_length] at h;rw [J.out];exact h,I.out.trans (Hm.out.mono I.out.size)⟩);go_wp2;go_ret;exact ⟨_,rfl,HF.out⟩
end
def Own (B:Nat) (x:Value):Prop:=∀(ad:Addr) (n c:Nat),x=qs (some ad) n c->0 < n->B<=ad.block
def AllOwn (w:World) (B:Nat) (s:Value):Prop:=∀g n c,s=qs (some ⟨g,0,none⟩) n c->∀k,k < n->∀x,w.cell? ⟨g,k,none⟩=some x->Own B x
theorem RowO.own {w:World} {B:Nat} {r:Rw} {x:Value} (h:RowO w B r x) {C:Nat} (hC:C<=B):Own C x:=by
 intro H n c o D;obtain ⟨⟨_,⟨h1,G⟩ | ⟨g,cap,A,rfl,q,F,_⟩⟩,_⟩:=h
 . rw [h1] at o
   injection o with o;cases o
 . injection o with o
   injection o with o;subst o;exact le_trans hC q
def RowsNew (w:World) (B:Nat) (L:List Rw) (s:Value):Prop:=RowsOwn w B L s/\AllOwn w B s
theorem RowsNew.mono {w w':World} {B:Nat} {L:List Rw} {s:Value} (h:RowsNew w B L s) (hb:Below w.heap.size w w'):RowsNew w' B L s:=by
 refine ⟨h.1.mono hb,λ g n c e k hk x hx=> ?_⟩;obtain ⟨xs,⟨hl,⟨o,_⟩ | ⟨F,cap,D,o,_,A,_⟩⟩,_⟩:=h.1
 . rw [o] at e;cases e
 . rw [o] at e
   cases e;have q:=(Array.getElem?_eq_some_iff.1 A).1;exact h.2 _ _ _ o k hk x (by rw [<-hb.cell (p:=⟨_,k,none⟩) q];exact hx)
theorem allOwn_made {w:World} {B n:Nat} {v:Value} (h:w.ownsRow B 60 1 v n (madeCells (q0).cells (n * 1)).toList):AllOwn w B v:=by
 intro g q c e k F x A;subst e;have e:(madeCells (q0).cells (n * 1)).toList=List.replicate n (q0):=by rw [Nat.mul_one];exact toList_madeCells_one _ _
 rw [e] at h;have D:q=n:=by
  rcases h.2 with ⟨e,_⟩ | ⟨_,_,_,e,_⟩
  . cases e
  . exact (Value.slice.inj e).2.1
 subst D;have h1:=h.cellAt k (by omega);rw [A,List.getElem?_replicate,if_pos (by omega)] at h1;intro H m G o _;rw [Option.some.inj h1] at o;cases o
theorem sort_calls (os:List Od) (L:List Rw) (m:Nat) (s so:Value) (w:World) (hs:RowsAt w L s) (ho:OrdsAt w os so) (hm:∀r∈L,r.length=m) (hf:OrdsFit os m) (hlen:L.length < 1099511627776) (hmb:m < 1099511627776):
 Calls Tryz.prog 18 #[s,so] w λ e w'=> ∃u,e=.returned u/\RowsNew w' w.heap.size (sortL os L) u/\Below w.heap.size w w':=by
 obtain ⟨a,n,c,rfl,hn,aI⟩:=hs.shape;obtain ⟨U,no,T,rfl,aH,aJ⟩:=ho.shape;obtain ⟨i0,ii,aD,aC,ah⟩:=info_parts Tryz.info60';have HS:=hid hs;have HO:=hid ho;have Hm:=hid hm;have HF:=hid hf;have Hn:=hid hn;have HM:=hid hmb;have aL:n < 1099511627776:=by omega
 obtain ⟨B,hB⟩:=gx w.heap.size
 have HB:=hid hB;have V:=VarIs.new w #[qs U no T] 38;have al:Below w.heap.size w (w.alloc (.cells #[qs U no T] 38)):=zi.alloc lr _;have ad:(w.alloc (.cells #[qs U no T] 38)).heap.size=B+1:=by simp [hB]
 rw [hB] at V al ⊢;clear hs ho hm hf hn aI aJ aH hlen hmb hB;go_enter Tryz.func18,Tryz.ntmps18;have aK:ah=ah:=rfl;clear aK;go_upto_region 1 with (fail)
 simp only [HB.out];generalize w.alloc (.cells #[qs U no T] 38)=W0 at *;have HV:=hid V;have az:=hid al;have A:=hid ad;clear V al ad;go_wp2_with (refine wpList_make_full _ rfl _ _ 41 rfl B 60 i0 (q0) 1 Tryz.underlying41 ii aD aC _ _ _ _ n rfl rfl rfl rfl ?k2 ?k3 ?k4 ?_)
 case k2=> rw [ah];omega
 case k3=> unfold maxLen;omega
 case k4=> rw [A.out];omega
 intro w1 ab J;have I:=rowsOwn_made (by rw [Nat.mul_one];exact ab);have aw:Below B w w1:=az.grown J (by rw [A.out];omega) (by simp);have ap:VarIs w1 B #[qs U no T]:=⟨lt_of_lt_of_le HV.lt J.size,λ j=> (World.cell?_of_block (a:=⟨B,j,none⟩) (J.block B HV.lt (by simp))).trans (HV.cell j),λ j=> (World.frozen?_of_block (a:=⟨B,j,none⟩) (J.block B HV.lt (by simp))).trans (HV.free j)⟩
 rw [A.out] at I;simp only [A.out];have F:Hid (RowsOwn w1 B (L.take 0++List.replicate (n - 0) []) (qs (some ⟨B+1,0,none⟩) n n)/\Below B w w1/\VarIs w1 B #[qs U no T]/\AllOwn w1 B (qs (some ⟨B+1,0,none⟩) n n)):=hid ⟨by simpa using I,aw,ap,by rw [A.out] at ab;exact allOwn_made (n:=n) (by rw [Nat.mul_one];exact ab)⟩;obtain ⟨g,hg⟩:=gx (B+1)
 rw [hg] at F ⊢;have Hg:=hid hg;clear I aw ap ab J HV az A hg;go_wp2;go_loopw [13] (λ z wr=> ∃k:Nat,k<=n/\z=qi k/\Hid (RowsOwn wr B (L.take k++List.replicate (n - k) []) (qs (some ⟨g,0,none⟩) n n)/\Below B w wr/\VarIs wr B #[qs U no T]/\AllOwn wr B (qs (some ⟨g,0,none⟩) n n))) (λ z _=> n - (intOf z).toNat)
 case atStart=> exact ⟨0,zero_le _,rfl,F⟩
 case round=>
  clear F;obtain ⟨k,hk,rfl,F⟩:=hrel;by_cases hlt:k < n
  . have ai:k < L.length:=by have:=Hn.out;omega
    obtain ⟨b,o,rfl⟩:=HS.has k hlt;obtain ⟨ax,nx,cx,W,-⟩:=HS.row k ai;have ay:Below w.heap.size w wr:=by rw [HB.out];exact F.2.1
    obtain ⟨hc,q,K⟩:=W.out _ ay;have HC:=hid (clone_calls L[k] _ wr q (by rw [Hm.out _ (getElem_mem _)];exact HM));have HN:=hid (show (L.take k++List.replicate (n - k) []).set k L[k]=L.take (k+1)++List.replicate (n - (k+1)) [] by rw [List.set_append_right _ _ (by simp;omega),length_take,min_eq_left (by omega),Nat.sub_self,show n - k=n - (k+1)+1 by omega,List.replicate_succ,List.set_cons_zero,take_succ_eq_append_getElem ai,append_assoc];rfl);have aM:(k:Int) < n:=by omega
    clear q W ay;generalize L[k]=R at *;clear ai;go_wp2_with fail;(with_reducible refine HC.out.mono ?_);rintro e w2 ⟨v,rfl,hv,M⟩;have G:=F.1.mono M;obtain ⟨x,c1,f1,aN,-⟩:=G.cellAt k hlt;obtain ⟨av,nv,cv,rfl,-,-⟩:=hv.vals.shape;have H:=G.set k hv.vals hv.far;have af:AllOwn (w2.setCell ⟨g,k,none⟩ (qs av nv cv)) B (qs (some ⟨g,0,none⟩) n n):=by
     have ho:=hv.own (C:=B) (le_of_lt F.2.2.1.lt);intro g' n' c' e j hj x q;cases e;by_cases hjk:j=k
     . subst hjk
       rw [World.cell?_setCell_same _ _ _ c1] at q;cases q;exact ho
     . rw [World.cell?_setCell_other _ _ _ _ (by intro e;cases e;exact hjk rfl)] at q
       rw [M.cell (p:=⟨g,j,none⟩) (by obtain ⟨_,_,_,h4,_⟩:=F.1.cellAt k hlt;exact h4)] at q;exact F.2.2.2 _ _ _ rfl j hj x q
    rw [HN.out] at H;have ar:B<=g:=by have:=Hg.out;omega
    have au:Below B w w2:=F.2.1.trans (M.mono (by have:=F.2.2.1.lt;omega));have am:=F.2.2.1.below M F.2.2.1.lt;have ac:Hid (RowsOwn (w2.setCell ⟨g,k,none⟩ (qs av nv cv)) B (L.take (k+1)++List.replicate (n - (k+1)) []) (qs (some ⟨g,0,none⟩) n n)/\Below B w (w2.setCell ⟨g,k,none⟩ (qs av nv cv))/\VarIs (w2.setCell ⟨g,k,none⟩ (qs av nv cv)) B #[qs U no T]/\AllOwn (w2.setCell ⟨g,k,none⟩ (qs av nv cv)) B (qs (some ⟨g,0,none⟩) n n)):=
     hid ⟨H,au.setCell ar _,am.setOther (by have:=Hg.out;omega) _ _,af⟩
    clear G hv M H af au am hc K HC F HN;go_wp2;go_roundw
    case rel=> exact ⟨k+1,by omega,by go_num,ac⟩
    case measure=> simp [intOf];omega
  . obtain rfl:k=n:=by omega
    have hL:L.take k++List.replicate (k - k) []=L:=by rw [Nat.sub_self,take_of_length_le (by have:=Hn.out;omega)];simp
    have ac:=F.out;rw [hL] at ac;obtain ⟨⟨xs,o1,o2,o3⟩,ak,aa,o4⟩:=ac;obtain ⟨d,d1,d2,d3⟩:=rowVs_cels o2;have e1:L.length=k:=by have:=Hn.out;omega
    rw [e1] at o1;have o5:∀x∈xs,Own B x:=λ x q=> by obtain ⟨j,hj,rfl⟩:=List.getElem_of_mem q;have hl:=o1.1;have h1:=o1.cellAt j (by omega);exact o4 _ _ _ rfl j (by omega) _ (h1.trans (getElem?_eq_getElem hj))
    have hA:Arr wr B g k k d wr:=⟨by rw [d1];exact o1,World.grownBy.refl _ _⟩
    have an:=aa.cell 0;have aq:B≠g:=by have:=Hg.out;omega
    have ar:B<=g:=by have:=Hg.out;omega
    have D:∀x∈d,Far wr B x.v:=λ x q=> o3 _ (by rw [<-d1];exact List.mem_map_of_mem q);have aB:=HO.out;have ae:CmpOk 39 #[.pointer (some ⟨B,0,none⟩)] (ordC os) d wr g:=by
     refine ⟨Tryz.call39,λ x q y hy w' hg'=> ?_,ordC_ord3 os⟩;have K:Below B wr w':=zi.grown hg' (le_of_lt aa.lt) (λ j hj=> by injection hj with hj;omega);have aF:=((d3 x q).grown (D x q) hA.own hg').1;have aE:=((d3 y hy).grown (D y hy) hA.own hg').1;have aG:OrdsAt w' os (qs U no T):=by refine aB.mono ?_;rw [HB.out];exact ak.trans K
     have aj:w'.cell? ⟨B,0,none⟩=some (qs U no T):=by have h1:=hg'.cell (a:=⟨B,0,none⟩) (v:=qs U no T) (by simpa using an) (λ e=> aq (by injection e));exact h1
     have lx:x.r.length=m:=Hm.out _ (by rw [<-d2];exact List.mem_map_of_mem q);have ly:y.r.length=m:=Hm.out _ (by rw [<-d2];exact List.mem_map_of_mem hy);exact sort1_calls os x.r y.r _ _ _ B m w' aF aE aG aj lx ly HF
    have aA:=hid (sortStable_calls 39 #[.pointer (some ⟨B,0,none⟩)] (ordC os) wr B g k k d wr ae hA (by omega));have ag:Hid (∀Z w',AscC (cc (ordC os)) Z->StEq (cc (ordC os)) d Z->Arr wr B g k k ([]++Z++[]) w'->RowsNew w' B (sortL os L) (qs (some ⟨g,0,none⟩) k k)/\Below B w w'):=by
     refine hid λ Z w' h1 h2 O=> ?_;rw [nil_append,append_nil] at O;have hz:∀x∈Z,x∈d:=λ x q=> h2.mem (ordC_ord3 os) q;have K:Below B wr w':=zi.grown O.gr (le_of_lt aa.lt) (λ j hj=> by injection hj with hj;omega);refine ⟨⟨⟨Z.map Cel.v,?_,?_,?_⟩,?_⟩,ak.trans K⟩
     . rw [<-d2,<-sortL_eq os h1 h2,length_map,O.len];exact O.own
     . rw [<-d2,<-sortL_eq os h1 h2]
       exact cels_rowVs λ x q=> ((d3 x (hz x q)).grown (D x (hz x q)) hA.own O.gr).1
     . intro y hy
       obtain ⟨x,q,rfl⟩:=List.mem_map.1 hy;exact ((d3 x (hz x q)).grown (D x (hz x q)) hA.own O.gr).2
     . intro g' n' c' e j hj x q
       cases e;have hl:Z.length=k:=O.len;have h5:=O.own.cellAt j (by omega);rw [q,List.getElem?_map,getElem?_eq_getElem (by omega)] at h5;cases h5;exact o5 _ (by rw [<-d1];exact List.mem_map_of_mem (hz _ (getElem_mem _)))
    clear hL F ak aa o1 o2 o3 o4 o5 d1 d2 d3 e1 hA D aB ae an;go_wp2_with fail;(with_reducible refine aA.out.mono ?_);rintro e w1 ⟨rfl,Z,h1,h2,O⟩;have H1:=hid (ag.out Z w1 h1 h2 O);clear h1 h2 O aA ag;go_wp2;go_ret;exact ⟨_,rfl,H1⟩
section
variable {P:Program}
theorem calls_of_wp_m {f:FuncId} {fn:Func} {c:Code} {args:Array Value} {w:World} {R:Ending->World->Prop} (hf:P.funcs[f]? =some fn) (hb:fn.body=some c)
 (h:c.wp P (bodyPostM Fence.wide 0 P fn R) { tmps:=args++Array.replicate (fn.ntmps - args.size) undef,defers:=[] } w):Calls P f args w R:=
 callsIn_wide.1 (callsIn_of_wp_marks (n:=0) hf hb trivial (wpIn_wide.2 h))
theorem bodyPostM_ret {fn:Func} {R:Ending->World->Prop} {a:Act} {w:World} {v:Value} (hr:(results fn a.tmps).run P w=.ok v w) (hd:a.defers=[]) (hR:R (.returned v) w):bodyPostM Fence.wide 0 P fn R .ret a w:=by
 show LeavesInM _ _ _ _ _ _ a.defers .returning w;rw [hd];exact ⟨v,hr,hR⟩
theorem bodyPostM_mark {fn:Func} {R:Ending->World->Prop} {a:Act} {w:World} {D:Nat} (hk:w.heap[D]? =some (.deferred (some []))) (hd:a.defers=[{ target:=.collected D,args:=#[] }])
 (h:∃v,(results fn a.tmps).run P (w.putObj D (.deferred none))=.ok v (w.putObj D (.deferred none))/\R (.returned v) (w.putObj D (.deferred none))):bodyPostM Fence.wide 0 P fn R .ret a w:=by
 show LeavesInM _ _ _ _ _ _ a.defers .returning w;rw [hd];exact ⟨by simp,.inl ⟨_,_,rfl,run_takeDeferred hk,h⟩⟩
theorem run_neq_nil {t:TypeId} {ps rs:Array TypeId} {vr:Bool} (ht:P.underlying t=some (.func ps rs vr)) (w:World):(binOp .neq t .nilFunc .nilFunc).run P w=.ok (.bool false) w:=by
 have h:∀d:Nat,(Op.equalIn (d+1) t .nilFunc .nilFunc).run P w=.ok true w:=λ d=> by simp [Op.equalIn,run_underlying ht]
 simp only [binOp];simp [Op.equal,Op.maxDepth,h 9999]
theorem run_neq_func {t:TypeId} {ps rs:Array TypeId} {vr:Bool} {fn:Fn} {first cap:Array Value} (ht:P.underlying t=some (.func ps rs vr)) (w:World):(binOp .neq t (.func fn first cap) .nilFunc).run P w=.ok (.bool true) w:=by
 have h:∀d:Nat,(Op.equalIn (d+1) t (.func fn first cap) .nilFunc).run P w=.ok false w:=λ d=> by simp [Op.equalIn,run_underlying ht]
 simp only [binOp];simp [Op.equal,Op.maxDepth,h 9999]
theorem below_cellsR {B b:Nat} {a:World} (hb:B<=b):∀(vs:List Value) (o:Nat) (w:World),Below B a w->Below B a (w.setCells b o vs)
 | [],_,_,h=> h
 | v::r,o,w,h=> by rw [World.setCells];exact below_cellsR hb r (o+1) _ (h.setCell (p:=⟨b,o,none⟩) hb v)
theorem ValsAt.turn {w:World} {r:Rw} {x:Value} {D:Nat} {ob o':Obj} (h:ValsAt w r x) (hD:w.heap[D]? =some ob) (ho:ob.isCells=false):ValsAt (w.putObj D o') r x:=by
 cases h with
 | mt=> exact .mt
 | lie _ b o n cap hn hlt hm hc ht=>
  refine .lie _ b o n cap hn (by simpa using hlt) hm (λ i hi j hj=> ?_) ht;have h1:=hc i hi j hj;obtain ⟨v,q⟩:∃v,(r[i].cells)[j]? =some v:=by rcases (by omega:j=0\/j=1\/j=2) with rfl | rfl | rfl <;> exact ⟨_,rfl⟩
  rw [q] at h1 ⊢;exact cell_kept h1 (grownBy_putObj' _ D o') (λ k e=> by cases e;exact ⟨_,hD,ho⟩)
theorem Tryz.size40:(Tryz.prog.info? 40).map (·.size)=some 22:=by kernel_rfl
theorem arr_one (bd:Bd):∀v∈bd.arr.toList,v.oneCell'=true:=by
 unfold Bd.arr
 repeat (refine List.forall_mem_cons.2 ⟨rfl,?_⟩)
 intro v o;cases o
theorem arr_all (bd:Bd):((bd.arr.extract 0 (0+22)).toList.toArray.all (·.oneCell'))=true:=
 all_oneCell_toArray λ v hv=> arr_one bd v (by rw [Array.toList_extract] at hv;exact List.mem_of_mem_drop (List.mem_of_mem_take hv))
theorem groupsL_parts (es:List Xp) (L:List Rw):(groupsL es L).length<=L.length+1/\∀G∈groupsL es L,G.length<=L.length/\(∀R∈G,R∈L)/\(es.length≠0->0 < G.length):=by
 by_cases he:es.length=0
 . have e:groupsL es L=[L]:=by unfold groupsL;rw [if_pos he]
   rw [e];refine ⟨by simp,λ G o=> ?_⟩;rw [mem_singleton.1 o];exact ⟨lr,λ _ h=> h,λ h=> absurd he h⟩
 . obtain ⟨D,h1,J,A,I⟩:=groups_cls es L he
   have o:∀G∈groupsL es L,G.length<=L.length/\(∀R∈G,R∈L)/\0 < G.length:=λ G o=> by rw [h1] at o;obtain ⟨h,q,rfl⟩:=List.mem_map.1 o;refine ⟨List.length_filter_le _ _,λ R hR=> (List.mem_filter.1 hR).1,List.length_pos_of_mem (a:=h) (List.mem_filter.2 ⟨A h q,?_⟩)⟩;simp [(keyC_ord es).self]
   refine ⟨?_,λ G h=> ⟨(o G h).1,(o G h).2.1,λ _=> (o G h).2.2⟩⟩;have hf:(groupsL es L).flatten.length=L.length:=by unfold groupsL;rw [if_neg he,grpS_flat];exact ((stS_spec es L).2.perm (keyC_ord es)).length_eq.symm
   have key:∀gs:List (List Rw),(∀G∈gs,0 < G.length)->gs.length<=gs.flatten.length:=λ gs=> by
    induction gs with
    | nil=> intro _;simp
    | cons G gs ih=>
     intro h;have H:=h G (by simp);have F:=ih λ G' h'=> h G' (by simp [h']);simp only [List.flatten_cons,length_append,length_cons];omega
   have:=key _ λ G h=> (o G h).2.2;omega
structure RFit (bd:Bd) (es:List Xp) (its:List It) (os:List Od) (L:List Rw) (m:Nat) (w:World):Prop where
 he:XpsAt w es (qs bd.group.a bd.group.n bd.group.c)
 hi:ItemsAt w its (qs bd.items.a bd.items.n bd.items.c)
 ho:OrdsAt w os (qs bd.order.a bd.order.n bd.order.c)
 ev:∀i∈its,i.k≠1->EvOk w i L
 tx:∀i∈its,∀R∈L,(i.f R).text.size<=maxLen
 ne:es.length=0->(its.any λ i=> i.k !=0)=true->∀i∈its,i.k≠0
 hm:∀r∈L,r.length=m
 hf:KeyFit es m
 hof:OrdsFit os (if its.length=0 then m else its.length)
 b0:es.length < 1000000000
 b2:L.length < 1000000000 - 1
 b3:m < 1099511627776
 b5:its.length < 1000000000
theorem partsL_parts {bd:Bd} {es:List Xp} {its:List It} {os:List Od} {L:List Rw} {m:Nat} {w:World} (h:RFit bd es its os L m w):(partsL its es L).length<=L.length+1/\∀G∈partsL its es L,G.length<=L.length/\(∀R∈G,R∈L)/\∀i∈its,i.k=0->0 < G.length:=by
 obtain ⟨h1,o⟩:=groupsL_parts es L;unfold partsL;split
 . rename_i A
   refine ⟨h1,λ G hG=> ⟨(o G hG).1,(o G hG).2.1,λ i hi h0=> ?_⟩⟩;by_cases he:es.length=0
   . have D:(its.any λ i=> i.k !=0)=true:=by simpa [aggd,he] using A
     exact absurd h0 (h.ne he D i hi)
   . exact (o G hG).2.2 he
 . refine ⟨by simp,λ G hG=> ?_⟩
   obtain ⟨R,q,rfl⟩:=List.mem_map.1 hG;refine ⟨List.length_pos_of_mem q,λ R' h'=> ?_,λ _ _ _=> by simp⟩;rw [mem_singleton.1 h'];exact q
theorem parts_fit {bd:Bd} {es:List Xp} {its:List It} {os:List Od} {L:List Rw} {m:Nat} {w w':World} {s:Value} (h:RFit bd es its os L m w) (hb:Below w.heap.size w w') (hs:RowsAt w' L s):Calls Tryz.prog 27 #[.agg bd.arr,s] w' (PartsP es its L w'):=
 parts_calls bd es its L m s w' hs (h.he.mono hb) (h.hi.mono hb) h.hm h.hf (by have:=h.b0;omega) (by have:=h.b2;omega) h.b3
theorem result_fit {bd:Bd} {es:List Xp} {its:List It} {os:List Od} {L:List Rw} {m:Nat} {w w':World} {s:Value} (h:RFit bd es its os L m w) (hb:Below w.heap.size w w') (i:Nat) (hi:i < (partsL its es L).length) (hs:RowsAt w' (partsL its es L)[i] s):
 Calls Tryz.prog 28 #[qs bd.items.a bd.items.n bd.items.c,s] w' (ResEnd its (partsL its es L)[i] w'):=by
 obtain ⟨A,o,q⟩:=(partsL_parts h).2 _ (getElem_mem hi);have:=h.b2;exact resultG_calls its _ _ s w' (h.hi.mono hb) hs q (λ i hi h1 R hR w2 s2 hb2 hv=> h.ev i hi h1 R (o R hR) w2 s2 (hb.trans (hb2.mono hb.size)) hv) (λ i hi R hR=> h.tx i hi R (o R hR)) (by have:=h.b5;omega) (by omega)
theorem sort_fit {bd:Bd} {es:List Xp} {its:List It} {os:List Od} {L:List Rw} {m:Nat} {w w':World} {s:Value} (h:RFit bd es its os L m w) (hb:Below w.heap.size w w') (hs:RowsAt w' (rowsL its es L) s):
 Calls Tryz.prog 18 #[s,qs bd.order.a bd.order.n bd.order.c] w' λ e w''=> ∃u,e=.returned u/\RowsNew w'' w'.heap.size (sortL os (rowsL its es L)) u/\Below w'.heap.size w' w'':=by
 have h1:=(partsL_parts h).1;have:=h.b2;have:=h.b3;have:=h.b5;refine sort_calls os _ (if its.length=0 then m else its.length) s _ w' hs (h.ho.mono hb) (λ r hr=> ?_) h.hof ?_ (by split <;> omega)
 . unfold rowsL at hr
   split at hr
   . rename_i h0;rw [if_pos h0];exact h.hm r hr
   . rename_i h0;rw [if_neg h0];obtain ⟨G,_,rfl⟩:=List.mem_map.1 hr;simp
 . unfold rowsL
   split
   . omega
   . rw [length_map];omega
theorem RowsAt.take {w:World} {L:List Rw} {a:Option Addr} {n c:Nat} (h:RowsAt w L (qs a n c)) (k:Nat) (hk:k < n):RowsAt w (L.take k) (qs a k c):=by
 cases h with
 | mt=> omega
 | lie _ xs b o n cap hn hlt hm hc hx=>
  have key:∀{L:List Rw} {xs:List Value},RowVs w L xs->∀k,RowVs w (L.take k) (xs.take k):=λ h=> by
   induction h with
   | nil=> intro k;simp;exact .nil
   | cons h1 _ ih=> intro k;cases k with
    | zero=> exact .nil
    | succ k=> exact .cons h1 (ih k)
  refine .lie _ (xs.take k) b o k _ (by rw [length_take];omega) hlt (by omega) (λ i x hi=> hc i x ?_) (key hx k);rw [List.getElem?_take] at hi;split at hi
  . exact hi
  . cases hi
theorem RowsOwn.cap {w:World} {B n c:Nat} {L:List Rw} {a:Option Addr} (h:RowsOwn w B L (qs a n c)):n<=c:=by
 obtain ⟨xs,h1,-⟩:=h;rcases h1.2 with ⟨e,-⟩ | ⟨g,cap,q,e,-,-,o,-⟩
 . obtain ⟨-,rfl,rfl⟩:=Value.slice.inj e
   exact lr
 . obtain ⟨-,rfl,rfl⟩:=Value.slice.inj e
   exact o
theorem RowVs.take {w:World} {L:List Rw} {xs:List Value} (h:RowVs w L xs):∀k,RowVs w (L.take k) (xs.take k):=by
 induction h with
 | nil=> intro k;simp;exact .nil
 | cons h1 _ ih=> intro k;cases k with
  | zero=> exact .nil
  | succ k=> exact .cons h1 (ih k)
theorem RowsNew.cells {w:World} {B:Nat} {L:List Rw} {s:Value} (h:RowsNew w B L s):∃xs,w.ownsRow B 60 1 s L.length xs/\RowVs w L xs/\(∀x∈xs,Far w B x)/\∀x∈xs,Own B x:=by
 obtain ⟨⟨xs,h1,F,D⟩,A⟩:=h;refine ⟨xs,h1,F,D,λ x hx=> ?_⟩;obtain ⟨j,o,rfl⟩:=List.getElem_of_mem hx;have hl:=h1.1;have q:=h1;rcases q.2 with ⟨rfl,e⟩ | ⟨g,cap,G,rfl,-⟩
 . omega
 . exact A _ _ _ rfl j (by omega) _ ((h1.cellAt j (by omega)).trans (getElem?_eq_getElem o))
theorem RowsNew.of {w:World} {B:Nat} {L:List Rw} {s:Value} {xs:List Value} (h1:w.ownsRow B 60 1 s L.length xs) (h2:RowVs w L xs) (h3:∀x∈xs,Far w B x) (h4:∀x∈xs,Own B x):RowsNew w B L s:=by
 refine ⟨⟨xs,h1,h2,h3⟩,λ g n c e k hk x hx=> ?_⟩;subst e;have q:n=L.length:=by
  rcases h1.2 with ⟨e,_⟩ | ⟨_,_,_,e,_⟩
  . cases e
  . exact (Value.slice.inj e).2.1
 subst q;have o:=h1.cellAt k (by omega);rw [hx] at o;exact h4 x (mem_of_getElem? o.symm)
theorem RowsNew.base {w:World} {B C:Nat} {L:List Rw} {s:Value} (h:RowsNew w B L s) (hC:C<=B):RowsNew w C L s:=by
 obtain ⟨xs,⟨hl,h1⟩,F,D,q⟩:=h.cells;refine .of (xs:=xs) ⟨hl,?_⟩ F (λ x hx ad n c e hn=> ?_) λ x hx ad n c e hn=> le_trans hC (q x hx ad n c e hn)
 . rcases h1 with h1 | ⟨g,cap,o,e,A,r⟩
   . exact .inl h1
   . exact .inr ⟨g,cap,o,e,le_trans hC A,r⟩
 . rcases D x hx ad n c e hn with h | h
   . have:=q x hx ad n c e hn
     omega
   . exact .inr h
theorem RowsNew.take {w:World} {B n c:Nat} {L:List Rw} {a:Option Addr} (h:RowsNew w B L (qs a n c)) (k:Nat) (hk:k < n):RowsNew w B (L.take k) (qs a k c):=by
 obtain ⟨xs,⟨hl,h1⟩,I,H,G⟩:=h.cells;refine .of (xs:=xs.take k) ?_ (I.take k) (λ x hx=> H x (List.mem_of_mem_take hx)) λ x hx=> G x (List.mem_of_mem_take hx);rcases h1 with ⟨e,h0⟩ | ⟨g,cap,o,e,F,A,K,D,q,ht⟩
 . cases e;omega
 . obtain ⟨rfl,rfl,rfl⟩:=Value.slice.inj e
   have J:(L.take k).length=k:=by rw [length_take];omega
   rw [J];refine ⟨by rw [length_take];omega,.inr ⟨g,_,o,rfl,F,A,by omega,D,q,?_⟩⟩;rw [<-ht,List.take_take];congr 1;omega
theorem RowsNew.turn {w:World} {B D:Nat} {L:List Rw} {s:Value} {ob o':Obj} (h:RowsNew w B L s) (hD:w.heap[D]? =some ob) (ho:ob.isCells=false):RowsNew (w.putObj D o') B L s:=by
 have H:=grownBy_putObj' w D o';have A:∀k o e fr,w.heap[k]? =some (Obj.cells o e fr)->(w.putObj D o').heap[k]? =some (Obj.cells o e fr):=λ k o e fr hk=> (H.block k (Array.getElem?_eq_some_iff.1 hk).1 (λ e=> by cases e;rw [hk] at hD;cases hD;cases ho)).trans hk;obtain ⟨xs,⟨hl,h1⟩,J,G,F⟩:=h.cells;refine .of (xs:=xs) ⟨hl,?_⟩ ?_ (λ x hx ad n c e hn=> ?_) F
 . rcases h1 with h1 | ⟨g,cap,o,e,I,q,r⟩
   . exact .inl h1
   . exact .inr ⟨g,cap,o,e,I,A _ _ _ _ q,r⟩
 . clear hl h1 G F h
   induction J with
   | nil=> exact .nil
   | cons h1 _ ih=> exact .cons (h1.turn hD ho) ih
 . rcases G x hx ad n c e hn with h | ⟨o,fr,h⟩
   . exact .inl h
   . exact .inr ⟨o,fr,A _ _ _ _ h⟩
def ResP (es:List Xp) (its:List It) (os:List Od) (lim:Int) (L:List Rw) (w:World) (e:Ending) (w':World):Prop:=∃v,e=.returned v/\RowsAt w' (resultL its es os lim L) v/\Below w.heap.size w w'
def ResN (es:List Xp) (its:List It) (os:List Od) (lim:Int) (L:List Rw) (w:World) (e:Ending) (w':World):Prop:=∃v,e=.returned v/\RowsNew w' w.heap.size (resultL its es os lim L) v/\Below w.heap.size w w'
theorem ResN.p {es:List Xp} {its:List It} {os:List Od} {lim:Int} {L:List Rw} {w:World} {e:Ending} {w':World} (h:ResN es its os lim L w e w'):ResP es its os lim L w e w':=h.imp λ _ h=> ⟨h.1,h.2.1.1.at,h.2.2⟩
end
theorem result_nil (bd:Bd) (es:List Xp) (its:List It) (os:List Od) (m:Nat) (lim:Int) (w:World) (hlim:bd.limit=lim) (hfit:RFit bd es its os [] m w):
 Calls Tryz.prog 11 #[.agg bd.arr,.nilFunc] w (ResP es its os lim [] w):=by
 have ai:=hid hfit;have HP:=hid (λ (w':World) (s:Value) (M:Below w.heap.size w w') (hs:RowsAt w' [] s)=> parts_fit hfit M hs);have HR:=hid (λ (w':World) (s:Value) (M:Below w.heap.size w w') (i:Nat) (hi:i < (partsL its es []).length) (hs:RowsAt w' (partsL its es [])[i] s)=> result_fit hfit M i hi hs);have bA:=hid (λ (w':World) (s:Value) (M:Below w.heap.size w w') (hs:RowsAt w' (rowsL its es []) s)=> sort_fit hfit M hs);have bj:Hid (bd.items.n=its.length):=by obtain ⟨_,_,_,h0,h1,-⟩:=hfit.hi.shape;injection h0 with _ h0 _;show _=_;omega
 have HA:=hid (show bd.arr.size=26/\bd.arr[8]? =some (qs bd.items.a bd.items.n bd.items.c)/\bd.arr[19]? =some (qs bd.order.a bd.order.n bd.order.c)/\bd.arr[20]? =some (qi lim) from ⟨rfl,rfl,rfl,by rw [<-hlim];rfl⟩);have HO:=hid (arr_all bd);have aJ:Below w.heap.size w (w.alloc (.cells bd.arr 46)):=zi.alloc lr _;have ab:(w.alloc (.cells bd.arr 46)).heap[w.heap.size]? =some (.cells bd.arr 46 (0,0)):=heap_alloc_new w _;clear hfit hlim;generalize bd.arr=A at *;generalize bd.items.a=ia at *;generalize bd.items.n=inn at *;generalize bd.items.c=ic at *;generalize bd.order.a=oa at *;generalize bd.order.n=on at *;generalize bd.order.c=oc at *;obtain ⟨B,hB⟩:=gx w.heap.size
 have ak:(w.alloc (.cells A 46)).heap.size=B+1:=by simp [hB]
 have HB:=hid hB;rw [hB] at aJ ab;refine calls_of_wp_m Tryz.func11 rfl ?_;simp only [Tryz.ntmps11,List.size_toArray,length_cons,length_nil,Nat.reduceAdd,Nat.reduceSub,Array.replicate_succ,Array.replicate_zero,List.push_toArray,List.append_toArray,nil_append,cons_append];clear hB;go_upto_region 1 with (fail)
 simp only [HB.out];generalize w.alloc (.cells A 46)=W0 at *;have HN:=run_neq_nil (P:=Tryz.prog) Tryz.underlying52;have aB:=hid ab;have bn:=hid aJ;have bh:=hid ak;obtain ⟨bt,ao⟩:=gx W0.heap.size
 have bJ:=hid ao;have H:Below W0.heap.size W0 (W0.alloc (.cells #[q0] 41)):=zi.alloc lr _;have aG:(W0.alloc (.cells #[q0] 41)).cell? ⟨bt,0,none⟩=some (q0):=by rw [<-ao];simp
 have U:(W0.alloc (.cells #[q0] 41)).heap.size=bt+1:=by simp [ao]
 clear ab aJ ak;go_upto_region 6 with (simp only [HN])
 have ak:=bh.out;have ac:Below w.heap.size w (W0.alloc (.cells #[q0] 41)):=by rw [HB.out];exact bn.trans (H.mono (by omega))
 have ay:(W0.alloc (.cells #[q0] 41)).heap[B]? =some (.cells A 46 (0,0)):=(H.block B (by omega)).trans aB;have ah:Hid (RowsAt (W0.alloc (.cells #[q0] 41)) [] (q0)):=hid .mt;generalize W0.alloc (.cells #[q0] 41)=WT at *;generalize (none:Option Addr)=sa at ah aG;have aN:=hid ay;have K:=hid ac;have aw:bt < WT.heap.size:=by omega
 have bb:B < WT.heap.size:=by omega
 clear ay ac H U ao aB bn HN ak bh;have aK:WT.rangeAt B 0 (A.extract 0 (0+22)).toList:=World.rangeAt_of_block aN 0 22;have aL:(A.extract 0 (0+22)).toList.length=22:=by simp [HA.1]
 obtain ⟨cs,aa⟩:=gx ((A.extract 0 (0+22)).toList)
 have c8:cs[8]? =some (qs ia inn ic):=by rw [<-aa,Array.getElem?_toList,Array.getElem?_extract,if_pos (by rw [HA.1];decide)];exact HA.2.1
 have bf:cs[19]? =some (qs oa on oc):=by rw [<-aa,Array.getElem?_toList,Array.getElem?_extract,if_pos (by rw [HA.1];decide)];exact HA.2.2.1
 have be:cs[20]? =some (qi lim):=by rw [<-aa,Array.getElem?_toList,Array.getElem?_extract,if_pos (by rw [HA.1];decide)];exact HA.2.2.2
 have aQ:=HO.out;rw [aa] at aQ aK aL;have ap:=hid (And.intro c8 (And.intro bf be));have bo:=hid aK;have au:=hid aL;have bi:=hid aQ;clear aK aL c8 bf be aQ aa;have aR:∀(Z:Array Value) (ty:TypeId),Z.size=22->(WT.alloc (.cells Z ty)).there WT.heap.size 0 22:=by
  intro Z ty hZ j hj;have M:=heap_alloc_new WT (.cells Z ty);refine ⟨?_,?_⟩
  . rw [zero_add,cell_of_row _ _ _ _ _ _ M,Array.getElem?_eq_getElem (by omega)]
    rfl
  . rw [zero_add];exact frozen_of_row _ _ _ _ _ M
 have aM:=hid aR;have bm:Hid (∀(o:Obj),Below WT.heap.size WT ((WT.alloc o).setCells WT.heap.size 0 cs)):=hid λ o=> below_cellsR lr cs 0 _ (zi.alloc lr o);clear aR;have bl:Hid (∀(Z:Array Value) (ty:TypeId),Z.size=22->((WT.alloc (.cells Z ty)).setCells WT.heap.size 0 cs).rangeAt WT.heap.size 0 cs):=hid λ Z ty hZ=> World.rangeAt_setCells_same _ _ _ _ (by rw [au.out];exact aM.out Z ty hZ);obtain ⟨T,aI⟩:=gx WT.heap.size
 have bx:=hid aI
 go_upto_region 7 with (first
  | refine wpList_load_mid rfl 40 (.tmp 20) rfl B 0 rfl cs _ bo Tryz.underlying40 rfl (by rw [au.out];exact Tryz.size40) ?_
  | refine wpList_store_mid rfl 40 (.tmp 7) (.tmp 21) rfl T 0 cs.toArray rfl rfl (by rw [<-bx.out];simp only [List.size_toArray,au.out];exact aM.out _ _ rfl) (by simp only [List.size_toArray,au.out];exact Tryz.size40) bi ?_)
 generalize hW6:(WT.alloc _).setCells _ 0 cs=W6 at *;have ad:Below WT.heap.size WT W6:=by rw [<-hW6,<-aI];exact bm.out _
 have al:W6.rangeAt T 0 cs:=by rw [<-hW6,<-aI];exact bl.out _ _ rfl
 have d8:=al 8 _ ap.1;have D:=al 19 _ ap.2.1;have O:=al 20 _ ap.2.2;have aE:T < W6.heap.size:=World.block_lt_of_cell? _ _ O;have d0:=(ad.cell (p:=⟨bt,0,none⟩) aw).trans aG;have ax:=(ad.block B bb).trans aN;have ag:=hid (ah.mono ad);have af:=hid (K.trans (ad.mono K.size));have bk:=hid ax;simp only [zero_add] at d8 D O;have HD:=hid (show ∀wx,Below W6.heap.size W6 wx->wx.cell? ⟨T,8,none⟩=some (qs ia inn ic)/\wx.cell? ⟨T,19,none⟩=some (qs oa on oc)/\wx.cell? ⟨T,20,none⟩=some (qi lim) from λ wx M=> ⟨(M.cell (p:=⟨T,8,none⟩) aE).trans d8,(M.cell (p:=⟨T,19,none⟩) aE).trans D,(M.cell (p:=⟨T,20,none⟩) aE).trans O⟩);clear ad al hW6 ax aM bm bl bo bi aG aw bb aN K ah ap;go_upto_if 26 with (fail)
 go_cut [8] from 23 to 42 (λ z wx=> ∃(za:Option Addr) (zn zc:Nat),z=qs za zn zc/\Hid (RowsAt wx (rowsL its es []) (qs za zn zc))/\Hid (Below W6.heap.size W6 wx))
 case first=>
  by_cases hin:0 < inn
  . have aF:(0:Int) < inn:=by omega
    have br:=hid (HP.out W6 _ af ag);clear hin;go_wp2_with (refine wpList_load_row rfl 46 (.tmp 2) rfl B rfl 46 A (0,0) _ bk.out Tryz.underlying46 rfl (by rw [HA.out.1];exact Tryz.size46) ?_);go_wp2_with fail;(with_reducible refine br.out.mono ?_);rintro e I ⟨v1,rfl,bs,aZ⟩;obtain ⟨ga,gn,gc,rfl,aU,aT⟩:=bs;have bv:=hid aT;have ae:=hid aU;have ar:=hid aZ;clear aT aU aZ br d0 d8 D O aF;go_wp2;obtain ⟨F,hF⟩:∃F:List Rw->Rw,(λ G=> its.map λ i=> resV i G)=F:=⟨_,rfl⟩
    have ba:rowsL its es []=(partsL its es []).map F:=by rw [<-hF];unfold rowsL;rw [if_neg (by have:=bj.out;omega)]
    have aO:=hid ba;have bB:=hid (show ∀(w':World) (s:Value),Below w.heap.size w w'->∀(i:Nat) (hi:i < (partsL its es []).length),RowsAt w' (partsL its es [])[i] s->Calls Tryz.prog 28 #[qs ia inn ic,s] w' (λ e w''=> ∃v,e=.returned v/\RowO w'' w'.heap.size (F (partsL its es [])[i]) v/\Below w'.heap.size w' w'') from by rw [<-hF];exact HR);have aA:=hid ((partsL_parts ai).1);clear ba HR hF;generalize partsL its es []=GS at *;have bI:gn < 1099511627776:=by have:=aA.out;have:=ae.out;have:=ai.b2;omega
    go_loopw [8,31] (λ z8 z31 wr=> ∃k:Nat,k<=gn/\z31=qi k/\Hid (RowsOwn wr I.heap.size ((GS.map F).take k) z8/\Below I.heap.size I wr)) (λ _ z _=> gn - (intOf z).toNat)
    case atStart=> exact ⟨0,zero_le _,rfl,hid ⟨by simpa using RowsOwn.nil I I.heap.size,zi⟩⟩
    case round=>
     obtain ⟨k,hk,rfl,HW⟩:=hrel;obtain ⟨a8,bc,h8⟩:=HW.1.shape;have am:((GS.map F).take k).length=k:=by rw [length_take,length_map,min_eq_left (by have:=ae.out;omega)]
     rw [am] at h8;subst h8;have L:Below W6.heap.size W6 wr:=ar.trans (HW.2.mono ar.size);have aX:Below w.heap.size w wr:=af.trans (L.mono af.size);have bC:=hid (show ∀wx,Below wr.heap.size wr wx->wx.cell? ⟨T,8,none⟩=some (qs ia inn ic)/\wx.cell? ⟨T,19,none⟩=some (qs oa on oc)/\wx.cell? ⟨T,20,none⟩=some (qi lim) from λ wx M=> HD.out wx (L.trans (M.mono L.size)));obtain ⟨d8,D,-⟩:=bC.out wr zi;have bw:=hid aX;clear L aX;by_cases hlt:k < gn
     . have an:k < GS.length:=by have:=ae.out;omega
       obtain ⟨b,o,x,rfl,aH,aV,aD⟩:=bv.out k an;have bD:=(HW.2.cell (p:=⟨b,o+k,none⟩) aH).trans aV;have av:=aD.mono HW.2;obtain ⟨xa,xn,xc,rfl,-⟩:=aD.shape;have bE:=lt_of_lt_of_le aH HW.2.size;have bq:=hid (bB.out wr _ bw k an av);have HT:=hid (show (GS.map F).take (k+1)=(GS.map F).take k++[F GS[k]] by rw [take_succ_eq_append_getElem (by simpa using an),List.getElem_map]);have bu:=hid am;have bG:(k:Int) < gn:=by omega
       generalize F GS[k]=R at *;clear aV aH aD av an D am;go_wp2_with fail;(with_reducible refine bq.out.mono ?_);rintro e w2 ⟨v2,rfl,aj,H⟩;obtain ⟨ya,yn,yc,rfl,-,-⟩:=aj.vals.shape;have V:=HW.1.mono H;have J:=aj.vals;have W:Far w2 I.heap.size (qs ya yn yc):=aj.far;have U:I.heap.size<=w2.heap.size:=le_trans HW.2.size H.size;have q:Below w2.heap.size w2 (w2.alloc (.cells #[qs ya yn yc] 60)):=zi.alloc lr _;have H2:=hid (show RowsOwn (w2.alloc (.cells #[qs ya yn yc] 60)) I.heap.size ((GS.map F).take k) (qs a8 k bc)/\ValsAt (w2.alloc (.cells #[qs ya yn yc] 60)) R (qs ya yn yc)/\Far (w2.alloc (.cells #[qs ya yn yc] 60)) I.heap.size (qs ya yn yc)/\I.heap.size<=(w2.alloc (.cells #[qs ya yn yc] 60)).heap.size/\Below I.heap.size I (w2.alloc (.cells #[qs ya yn yc] 60)) from
        ⟨V.mono q,J.mono q,W.mono J q,le_trans U q.size,(HW.2.trans (H.mono HW.2.size)).trans (q.mono U)⟩)
       clear aj V J W U q H bq;go_wp2_with (at_builtin;go_loud (refine wpList_row rfl _ _ rfl I.heap.size ((GS.map F).take k) R _ rfl H2.out.1 _ _ _ rfl (by simp) H2.out.2.1 H2.out.2.2.1 (by rw [bu.out];have:=aA.out;have:=ae.out;have:=ai.b2;omega) H2.2.2.2.1 ?_));intro v4 w4 aS aY _;have HN:=hid (show RowsOwn w4 I.heap.size ((GS.map F).take (k+1)) v4/\Below I.heap.size I w4 from ⟨by rw [HT.out];exact aS,H2.2.2.2.2.trans aY⟩);clear aS aY H2;go_wp2;go_roundw
       case rel=> exact ⟨k+1,by omega,by go_num,HN⟩
       case measure=> simp [intOf];omega
     . obtain rfl:k=gn:=by omega
       have az:(GS.map F).take k=rowsL its es []:=by rw [aO.out,take_of_length_le (by rw [length_map];have:=ae.out;omega)]
       have HE:=hid (show RowsAt wr (rowsL its es []) (qs a8 k bc)/\Below W6.heap.size W6 wr from ⟨by rw [<-az];exact HW.1.at,ar.trans (HW.2.mono ar.size)⟩);clear d8 D am az;go_wp2;go_meet;exact ⟨_,_,_,rfl,HE.1,HE.2⟩
  . have aF:inn=0:=by omega
    have aO:Hid (rowsL its es []=[]):=by show _=_;unfold rowsL;rw [if_pos (by have:=bj.out;omega)]
    have bH:¬ (0:Int) < (inn:Int):=by omega
    clear hin aF;go_wp2;go_meet;exact ⟨_,_,_,rfl,by show RowsAt _ _ _;rw [aO.out];exact ag,zi⟩
 clear d0 d8 D O;obtain ⟨za,zn,zc,rfl,bz,HZ⟩:=hcut
 rename World=> wz
 obtain ⟨-,D,-⟩:=HD.out wz HZ;have aq:=hid (af.trans (HZ.mono af.size));have bp:=hid (bA.out wz _ aq bz);go_wp2_with fail;(with_reducible refine bp.out.mono ?_);rintro e w3 ⟨u,rfl,hu,q⟩;obtain ⟨-,-,O⟩:=HD.out w3 (HZ.trans (q.mono HZ.size));obtain ⟨ua,uc,rfl⟩:=hu.1.shape;have aW:=hu.1.cap;have HE:=hid (show RowsNew w3 w.heap.size (sortL os (rowsL its es [])) (qs ua (sortL os (rowsL its es [])).length uc)/\Below w.heap.size w w3 from ⟨hu.base aq.size,aq.trans (q.mono aq.size)⟩);have aP:Hid (resultL its es os lim []=limL lim (sortL os (rowsL its es []))):=rfl;generalize sortL os (rowsL its es [])=X at *;obtain ⟨un,aC⟩:=gx X.length
 rw [aC] at HE aW ⊢;have bg:=hid aC;have bF:un<=9223372036854775807:=by obtain ⟨_,_,_,h1,-,h2⟩:=HE.1.1.at.shape;injection h1 with _ h1 _;unfold maxLen at h2;omega
 clear hu q bp aC D;by_cases h1:0 < lim
 . obtain ⟨k,rfl⟩:∃k:Nat,lim=k:=⟨lim.toNat,by omega⟩
   by_cases h2:(k:Int) < (un:Int)
   . have HF:=hid (show RowsNew w3 w.heap.size (resultL its es os k []) (qs ua k uc) from by
      rw [aP.out];unfold limL;rw [if_pos ⟨h1,by rw [bg.out];exact h2⟩];exact HE.1.take k (by omega))
     go_wp2;refine bodyPostM_ret (results_tmp rfl _ _ _) rfl ?_;exact ⟨_,rfl,HF.1.at,HE.2⟩
   . have HF:=hid (show RowsNew w3 w.heap.size (resultL its es os k []) (qs ua un uc) from by
      rw [aP.out];unfold limL;rw [if_neg (λ h=> h2 (by rw [bg.out] at h;exact h.2))];exact HE.1)
     go_wp2;refine bodyPostM_ret (results_tmp rfl _ _ _) rfl ?_;exact ⟨_,rfl,HF.1.at,HE.2⟩
 . have HF:=hid (show RowsNew w3 w.heap.size (resultL its es os lim []) (qs ua un uc) from by
    rw [aP.out];unfold limL;rw [if_neg (λ h=> h1 h.1)];exact HE.1)
   go_wp2;refine bodyPostM_ret (results_tmp rfl _ _ _) rfl ?_;exact ⟨_,rfl,HF.1.at,HE.2⟩
section
open Go.Shelf
attribute [local go_sem] Oper.semAt_some
theorem fins_map (n:Nat) (L:List Rw) (h:n=L.length):(List.finRange n).map (λ i=> L.getD i.val [])=L:=by
 subst h;apply List.ext_getElem
 . simp
 . intro i h1 o
   simp [getD_eq_getElem?_getD]
theorem rows_fun {w:World} {L:List Rw} {b o n c:Nat} (h:RowsAt w L (qs (some ⟨b,o,none⟩) n c)) (hn:n=L.length):
 ∃f:Nat->Option Addr×Nat×Nat,∀i,i < n->w.cell? ⟨b,o+i,none⟩=some (qs (f i).1 (f i).2.1 (f i).2.2)/\ValsAt w (L.getD i []) (qs (f i).1 (f i).2.1 (f i).2.2):=by
 refine Classical.axiomOfChoice (r:=λ i (p:Option Addr×Nat×Nat)=> i < n->w.cell? ⟨b,o+i,none⟩=some (qs p.1 p.2.1 p.2.2)/\ValsAt w (L.getD i []) (qs p.1 p.2.1 p.2.2)) λ i=> ?_;by_cases hi:i < n
 . obtain ⟨x,h1,q⟩:=h.cell i (by omega)
   obtain ⟨a,m,c,rfl,-⟩:=q.shape;exact ⟨(a,m,c),λ _=> ⟨h1,by rw [getD_eq_getElem?_getD,getElem?_eq_getElem (by omega)];exact q⟩⟩
 . exact ⟨(none,0,0),λ h=> absurd h hi⟩
def RsI (L:List Rw) (n bt:Nat) (W0:World) (pre:List (Fin n)) (W:World):Prop:=∃v,Boxed W bt 41 v/\RowsOwn W W0.heap.size (pre.map λ i=> L.getD i.val []) v/\Below W0.heap.size W0 W
theorem rsI_own (L:List Rw) (n bt:Nat) (W0:World) (B:Nat) (hB:W0.heap.size<=B):OwnFrom B (RsI L n bt W0):=by
 rintro s W M row ⟨v,h1,J,I⟩ G F;have A:∀k,row=some k->∃o:Obj,W.heap[k]? =some o/\o.isCells=false:=λ k e=> (F k e).2;refine ⟨v,h1.kept G (λ e=> ?_),J.kept G (λ k e=> ⟨le_trans hB (F k e).1,λ h=> ?_,λ H fr h=> ?_⟩),I.grown G I.size (λ k e=> le_trans hB (F k e).1)⟩
 . obtain ⟨o,q,D⟩:=A bt e.symm
   rw [show W.heap[bt]? =_ from h1] at q;cases q;cases D
 . obtain ⟨o,q,D⟩:=A k e
   obtain ⟨H,fr,K⟩:=J.type h;rw [K] at q;cases q;cases D
 . obtain ⟨o,q,D⟩:=A k e
   rw [h] at q;cases q;cases D
theorem result_new (bd:Bd) (es:List Xp) (its:List It) (os:List Od) (L:List Rw) (m:Nat) (lim:Int) (bx ub uo n uc:Nat) (w:World) (hlim:bd.limit=lim) (hfit:RFit bd es its os L m w) (hbx:Boxed w bx 41 (qs (some ⟨ub,uo,none⟩) n uc)) (hu:RowsAt w L (qs (some ⟨ub,uo,none⟩) n uc)) (hub:ub < w.heap.size):
 Calls Tryz.prog 11 #[.agg bd.arr,.func (.func 38) #[] #[.pointer (some ⟨bx,0,none⟩)]] w (ResN es its os lim L w):=by
 have hn:n=L.length:=by obtain ⟨_,_,_,e,h,-⟩:=hu.shape;injection e with _ e _;omega
 obtain ⟨f,hf⟩:=rows_fun hu hn;have HF:=hid hf;have bW:=hid (show ∀r∈L,r.length < 1099511627776 from λ r hr=> by rw [hfit.hm r hr];exact hfit.b3);have bn:n < 1099511627776:=by have:=hfit.b2;omega
 have Hn:=hid hn;have aY:=hid hub;have bi:=hid hbx;clear hf hu hub hbx;have ar:=hid hfit;have HP:=hid (λ (w':World) (s:Value) (M:Below w.heap.size w w') (hs:RowsAt w' L s)=> parts_fit hfit M hs);have HR:=hid (λ (w':World) (s:Value) (M:Below w.heap.size w w') (i:Nat) (hi:i < (partsL its es L).length) (hs:RowsAt w' (partsL its es L)[i] s)=> result_fit hfit M i hi hs);have ca:=hid (λ (w':World) (s:Value) (M:Below w.heap.size w w') (hs:RowsAt w' (rowsL its es L) s)=> sort_fit hfit M hs);have bL:Hid (bd.items.n=its.length):=by obtain ⟨_,_,_,h0,h1,-⟩:=hfit.hi.shape;injection h0 with _ h0 _;show _=_;omega
 have HA:=hid (show bd.arr.size=26/\bd.arr[8]? =some (qs bd.items.a bd.items.n bd.items.c)/\bd.arr[19]? =some (qs bd.order.a bd.order.n bd.order.c)/\bd.arr[20]? =some (qi lim) from ⟨rfl,rfl,rfl,by rw [<-hlim];rfl⟩);have HO:=hid (arr_all bd);have aV:Below w.heap.size w (w.alloc (.cells bd.arr 46)):=zi.alloc lr _;have aj:(w.alloc (.cells bd.arr 46)).heap[w.heap.size]? =some (.cells bd.arr 46 (0,0)):=heap_alloc_new w _;clear hfit hlim;generalize bd.arr=A at *;generalize bd.items.a=ia at *;generalize bd.items.n=inn at *;generalize bd.items.c=ic at *;generalize bd.order.a=oa at *;generalize bd.order.n=on at *;generalize bd.order.c=oc at *;obtain ⟨B,hB⟩:=gx w.heap.size
 have bl:(w.alloc (.cells A 46)).heap.size=B+1:=by simp [hB]
 have HB:=hid hB;rw [hB] at aV aj;refine calls_of_wp_m Tryz.func11 rfl ?_;simp only [Tryz.ntmps11,List.size_toArray,length_cons,length_nil,Nat.reduceAdd,Nat.reduceSub,Array.replicate_succ,Array.replicate_zero,List.push_toArray,List.append_toArray,nil_append,cons_append];clear hB;go_upto_region 1 with (fail)
 simp only [HB.out];generalize w.alloc (.cells A 46)=W0 at *;have HN:=run_neq_func (P:=Tryz.prog) Tryz.underlying52 (fn:=.func 38) (first:=#[]) (cap:=#[.pointer (some ⟨bx,0,none⟩)]);have aL:=hid aj;have bQ:=hid aV;have bJ:=hid bl;obtain ⟨bt,bu⟩:=gx W0.heap.size
 have ba:=hid bu;clear aj aV bl hn;go_wp2_with (simp only [HN]);have bA:(W0.alloc (.cells #[q0] 41)).heap.size=bt+1:=by simp [ba.out]
 have bB:Below W0.heap.size W0 (W0.alloc (.cells #[q0] 41)):=zi.alloc lr _;have bz:Boxed (W0.alloc (.cells #[q0] 41)) bt 41 (q0):=by rw [<-ba.out];exact Boxed.new _ _ _
 generalize W0.alloc (.cells #[q0] 41)=WL at *;have I:Below w.heap.size w W0:=by rw [HB.out];exact bQ
 have ad:=hid I;have b9:=hid bA;have af:=hid bB;have bS:=hid bz;have aG:Boxed W0 bx 41 (qs (some ⟨ub,uo,none⟩) n uc):=(I.block bx bi.lt).trans bi;have an:=hid aG;have bg:=hid (show ∀i,i < n->W0.cell? ⟨ub,uo+i,none⟩=some (qs (f i).1 (f i).2.1 (f i).2.2)/\ValsAt W0 (L.getD i []) (qs (f i).1 (f i).2.1 (f i).2.2) from λ i hi=> ⟨(I.cell (p:=⟨ub,uo+i,none⟩) aY).trans (HF.out i hi).1,(HF.out i hi).2.mono I⟩);have aD:ub < W0.heap.size:=lt_of_lt_of_le aY I.size;have al:=hid aD;clear bA bB bz I aG aD bu HN;refine (wpIn_wide (n:=3)).1 (wpIn_rangeFunc_ownF (w0:=W0) (α:=Fin n) (Kp:=λ X Y=> Below W0.heap.size X Y) (S:=λ ys=> ys=List.finRange n) (Sp:=λ _=> True) (N:=n) (encs:=λ i=> #[qs (f i.val).1 (f i.val).2.1 (f i.val).2.2]) rfl (by decide) rfl trivial (enters_of Tryz.func38 (by kernel_rfl) rfl)
  ?seq (λ h k=> h.trans k) ?hKb af (λ _=> rfl) (RsI L n bt W0) (λ _ _ _=> False) (rsI_own L n bt W0 _ af.size) (λ _ _ _ _ _ h _ _=> h) ?h0 (λ i=> { tmps:=#[.agg A,.func (.func 38) #[] #[.pointer (some ⟨bx,0,none⟩)],.pointer (some ⟨B,0,none⟩),undef,q0,.pointer (some ⟨bt,0,none⟩),qs (f i.val).1 (f i.val).2.1 (f i.val).2.2,undef,undef,undef,undef,.func (.func 38) #[] #[.pointer (some ⟨bx,0,none⟩)],.bool true,.func (.func 38) #[] #[.pointer (some ⟨bx,0,none⟩)],qs (f i.val).1 (f i.val).2.1 (f i.val).2.2,undef,undef,undef,undef,undef,undef,undef,undef,undef,undef,undef,undef,undef,undef,undef,undef,undef,undef,undef,undef,undef,undef,undef,undef,undef,undef,undef,undef,undef,undef,undef,undef,undef,undef,undef,undef,undef,undef,undef,undef,undef,undef,undef,undef,undef,undef,undef],defers:=[] }) ?assign ?body ?done ?stop)
 case seq=>
  intro l J Jx W hW _ _ hY h0;refine values1_in 2 (by decide) l bx n ub uo uc W0.heap.size (λ i=> (f i).1) (λ i=> (f i).2.1) (λ i=> (f i).2.2) al bn J Jx hY W ?_ (λ j hj=> ?_) h0
  . exact (hW.cell (p:=⟨bx,0,none⟩) an.lt).trans an.cell
  . exact (hW.cell (p:=⟨ub,uo+j,none⟩) al).trans (bg.out j hj).1
 case hKb=>
  intro W l o o' hl h1 h2 h3;exact belowK_b af.size W l o o' hl h1 h2 h3
 case h0=> exact ⟨_,bS,RowsOwn.nil _ _,af⟩
 case assign=>
  intro l x W K hK
  gi_wp2
  exact hK
 case body=>
  rintro l bj x W ⟨v,h1,h2,h3⟩ aF;have hx:=(bg.out x.val x.isLt).2;have aM:x.val < L.length:=by rw [<-Hn.out];exact x.isLt
  have hR:(L.getD x.val []).length < 1099511627776:=by rw [getD_eq_getElem?_getD,getElem?_eq_getElem aM];exact bW.out _ (getElem_mem aM)
  have H1:=hid (And.intro h1 (And.intro h2 h3));have HX:=hid hx;have cb:=hid hR;have bM:=hid aF;clear h1 h2 h3 hx aM hR aF
  gi_wp2
  refine rRs W0.heap.size bt (bj.map λ (i:Fin n)=> L.getD i.val []) (L.getD x.val []) v (qs (f x.val).1 (f x.val).2.1 (f x.val).2.2) rfl rfl rfl (λ _ _ h=> h) H1.1 H1.2.1 (HX.mono H1.2.2) (by rw [ba.out];exact lr) H1.2.2.size cb (by rw [length_map];have:=bM.out;omega) _ (by kernel_rfl) ?_;rintro a1 U hk M ⟨v',q1,q2⟩;exact ⟨hk,M,v',q1,by rw [map_append];exact q2,H1.2.2.trans M⟩
 case done=>
  rintro D ys T hD hS ⟨v,h1,h2,h3⟩ hK;rw [hS,fins_map n L Hn.out] at h2;obtain ⟨sa,sc,rfl⟩:=h2.shape;have ak:B < W0.heap.size:=by have:=bJ.out;omega
  have aH:bt < T.heap.size:=h1.lt;have bE:B < T.heap.size:=lt_of_lt_of_le ak h3.size;have aS:=h1.cell;have aq:=hid h2.at
  have ab:=hid (ad.trans (h3.mono ad.size));have bb:=hid ((h3.block B ak).trans aL);have bX:=hid hK;have bh:=hid (show w.heap.size<=D from le_trans ad.size (le_trans af.size hD));clear h1 h2 h3 hS hK ak hD af bS an bg al b9 ad aL bQ HF aY bi bW bJ;generalize L.length=n0 at aS aq ⊢;dsimp only;have aW:T.rangeAt B 0 (A.extract 0 (0+22)).toList:=World.rangeAt_of_block bb 0 22;have aX:(A.extract 0 (0+22)).toList.length=22:=by simp [HA.1]
  obtain ⟨cs,ai⟩:=gx ((A.extract 0 (0+22)).toList)
  have c8:cs[8]? =some (qs ia inn ic):=by rw [<-ai,Array.getElem?_toList,Array.getElem?_extract,if_pos (by rw [HA.1];decide)];exact HA.2.1
  have bH:cs[19]? =some (qs oa on oc):=by rw [<-ai,Array.getElem?_toList,Array.getElem?_extract,if_pos (by rw [HA.1];decide)];exact HA.2.2.1
  have bG:cs[20]? =some (qi lim):=by rw [<-ai,Array.getElem?_toList,Array.getElem?_extract,if_pos (by rw [HA.1];decide)];exact HA.2.2.2
  have bf:=HO.out;rw [ai] at bf aW aX;have az:=hid (And.intro c8 (And.intro bH bG));have bR:=hid aW;have aC:=hid aX;have bK:=hid bf;clear aW aX c8 bH bG bf ai;have bk:∀(Z:Array Value) (ty:TypeId),Z.size=22->(T.alloc (.cells Z ty)).there T.heap.size 0 22:=by
   intro Z ty hZ j hj;have M:=heap_alloc_new T (.cells Z ty);refine ⟨?_,?_⟩
   . rw [zero_add,cell_of_row _ _ _ _ _ _ M,Array.getElem?_eq_getElem (by omega)]
     rfl
   . rw [zero_add];exact frozen_of_row _ _ _ _ _ M
  have aZ:=hid bk;have bP:Hid (∀(o:Obj),Below T.heap.size T ((T.alloc o).setCells T.heap.size 0 cs)):=hid λ o=> below_cellsR lr cs 0 _ (zi.alloc lr o);clear bk;have bO:Hid (∀(Z:Array Value) (ty:TypeId),Z.size=22->((T.alloc (.cells Z ty)).setCells T.heap.size 0 cs).rangeAt T.heap.size 0 cs):=hid λ Z ty hZ=> World.rangeAt_setCells_same _ _ _ _ (by rw [aC.out];exact aZ.out Z ty hZ);obtain ⟨b7,aU⟩:=gx T.heap.size
  have b6:=hid aU
  go_upto_region 7 with (first
   | refine wpList_load_mid rfl 40 (.tmp 20) rfl B 0 rfl cs _ bR Tryz.underlying40 rfl (by rw [aC.out];exact Tryz.size40) ?_
   | refine wpList_store_mid rfl 40 (.tmp 7) (.tmp 21) rfl b7 0 cs.toArray rfl rfl (by rw [<-b6.out];simp only [List.size_toArray,aC.out];exact aZ.out _ _ rfl) (by simp only [List.size_toArray,aC.out];exact Tryz.size40) bK ?_)
  generalize hW6:(T.alloc _).setCells _ 0 cs=W6 at *;have aa:Below T.heap.size T W6:=by rw [<-hW6,<-aU];exact bP.out _
  have av:W6.rangeAt b7 0 cs:=by rw [<-hW6,<-aU];exact bO.out _ _ rfl
  have d8:=av 8 _ az.1;have O:=av 19 _ az.2.1;have ae:=av 20 _ az.2.2;have aQ:b7 < W6.heap.size:=World.block_lt_of_cell? _ _ ae;have d0:=(aa.cell (p:=⟨bt,0,none⟩) aH).trans aS;have aI:=(aa.block B bE).trans bb;have ap:=hid (aq.mono aa);have ao:=hid (ab.trans (aa.mono ab.size));have bN:=hid aI;simp only [zero_add] at d8 O ae;have HD:=hid (show ∀wx,Below W6.heap.size W6 wx->wx.cell? ⟨b7,8,none⟩=some (qs ia inn ic)/\wx.cell? ⟨b7,19,none⟩=some (qs oa on oc)/\wx.cell? ⟨b7,20,none⟩=some (qi lim) from λ wx M=> ⟨(M.cell (p:=⟨b7,8,none⟩) aQ).trans d8,(M.cell (p:=⟨b7,19,none⟩) aQ).trans O,(M.cell (p:=⟨b7,20,none⟩) aQ).trans ae⟩);have cf:=hid (show ∀wx,Below W6.heap.size W6 wx->wx.heap[D]? =some (.deferred (some [])) from λ wx M=> by have bD:D < T.heap.size:=(Array.getElem?_eq_some_iff.1 bX).1;exact (M.block D (lt_of_lt_of_le bD aa.size)).trans ((aa.block D bD).trans bX));clear aa av hW6 aI aZ bP bO bR bK aS aH bE bb ab aq az;go_upto_if 26 with (fail)
  go_cut [8] from 23 to 42 (λ z wx=> ∃(za:Option Addr) (zn zc:Nat),z=qs za zn zc/\Hid (RowsAt wx (rowsL its es L) (qs za zn zc))/\Hid (Below W6.heap.size W6 wx))
  case first=>
   by_cases hin:0 < inn
   . have aR:(0:Int) < inn:=by omega
     have bV:=hid (HP.out W6 _ ao ap);clear hin;go_wp2_with (refine wpList_load_row rfl 46 (.tmp 2) rfl B rfl 46 A (0,0) _ bN.out Tryz.underlying46 rfl (by rw [HA.out.1];exact Tryz.size46) ?_);go_wp2_with fail;(with_reducible refine bV.out.mono ?_);rintro e U ⟨v1,rfl,bY,bw⟩;obtain ⟨ga,gn,gc,rfl,bp,bo⟩:=bY;have b1:=hid bo;have am:=hid bp;have aB:=hid bw;clear bo bp bw bV d0 d8 O ae aR;go_wp2;obtain ⟨F,hF⟩:∃F:List Rw->Rw,(λ G=> its.map λ i=> resV i G)=F:=⟨_,rfl⟩
     have bC:rowsL its es L=(partsL its es L).map F:=by rw [<-hF];unfold rowsL;rw [if_neg (by have:=bL.out;omega)]
     have bc:=hid bC;have cd:=hid (show ∀(w':World) (s:Value),Below w.heap.size w w'->∀(i:Nat) (hi:i < (partsL its es L).length),RowsAt w' (partsL its es L)[i] s->Calls Tryz.prog 28 #[qs ia inn ic,s] w' (λ e w''=> ∃v,e=.returned v/\RowO w'' w'.heap.size (F (partsL its es L)[i]) v/\Below w'.heap.size w' w'') from by rw [<-hF];exact HR);have aK:=hid ((partsL_parts ar).1);clear bC HR hF;generalize partsL its es L=GS at *;have cl:gn < 1099511627776:=by have:=aK.out;have:=am.out;have:=ar.b2;omega
     go_loopw [8,31] (λ z8 z31 wr=> ∃k:Nat,k<=gn/\z31=qi k/\Hid (RowsOwn wr U.heap.size ((GS.map F).take k) z8/\Below U.heap.size U wr)) (λ _ z _=> gn - (intOf z).toNat)
     case atStart=> exact ⟨0,zero_le _,rfl,hid ⟨by simpa using RowsOwn.nil U U.heap.size,zi⟩⟩
     case round=>
      obtain ⟨k,hk,rfl,HW⟩:=hrel;obtain ⟨a8,bF,h8⟩:=HW.1.shape;have aw:((GS.map F).take k).length=k:=by rw [length_take,length_map,min_eq_left (by have:=am.out;omega)]
      rw [aw] at h8;subst h8;have ac:Below W6.heap.size W6 wr:=aB.trans (HW.2.mono aB.size);have bs:Below w.heap.size w wr:=ao.trans (ac.mono ao.size);have ce:=hid (show ∀wx,Below wr.heap.size wr wx->wx.cell? ⟨b7,8,none⟩=some (qs ia inn ic)/\wx.cell? ⟨b7,19,none⟩=some (qs oa on oc)/\wx.cell? ⟨b7,20,none⟩=some (qi lim) from λ wx M=> HD.out wx (ac.trans (M.mono ac.size)));obtain ⟨d8,O,-⟩:=ce.out wr zi;have b4:=hid bs;clear ac bs;by_cases hlt:k < gn
      . have ax:k < GS.length:=by have:=am.out;omega
        obtain ⟨b,o,x,rfl,aT,bq,aP⟩:=b1.out k ax;have cg:=(HW.2.cell (p:=⟨b,o+k,none⟩) aT).trans bq;have aE:=aP.mono HW.2;obtain ⟨xa,xn,xc,rfl,-⟩:=aP.shape;have ch:=lt_of_lt_of_le aT HW.2.size;have bU:=hid (cd.out wr _ b4 k ax aE);have HT:=hid (show (GS.map F).take (k+1)=(GS.map F).take k++[F GS[k]] by rw [take_succ_eq_append_getElem (by simpa using ax),List.getElem_map]);have bZ:=hid aw;have cj:(k:Int) < gn:=by omega
        generalize F GS[k]=R at *;clear bq aT aP aE ax O aw;go_wp2_with fail;(with_reducible refine bU.out.mono ?_);rintro e w2 ⟨v2,rfl,au,ay⟩;obtain ⟨ya,yn,yc,rfl,-,-⟩:=au.vals.shape;have ag:=HW.1.mono ay;have V:=au.vals;have ah:Far w2 U.heap.size (qs ya yn yc):=au.far;have aO:U.heap.size<=w2.heap.size:=le_trans HW.2.size ay.size;have H:Below w2.heap.size w2 (w2.alloc (.cells #[qs ya yn yc] 60)):=zi.alloc lr _;have H2:=hid (show RowsOwn (w2.alloc (.cells #[qs ya yn yc] 60)) U.heap.size ((GS.map F).take k) (qs a8 k bF)/\ValsAt (w2.alloc (.cells #[qs ya yn yc] 60)) R (qs ya yn yc)/\Far (w2.alloc (.cells #[qs ya yn yc] 60)) U.heap.size (qs ya yn yc)/\U.heap.size<=(w2.alloc (.cells #[qs ya yn yc] 60)).heap.size/\Below U.heap.size U (w2.alloc (.cells #[qs ya yn yc] 60)) from
         ⟨ag.mono H,V.mono H,ah.mono V H,le_trans aO H.size,(HW.2.trans (ay.mono HW.2.size)).trans (H.mono aO)⟩)
        clear au ag V ah aO H ay bU;go_wp2_with (at_builtin;go_loud (refine wpList_row rfl _ _ rfl U.heap.size ((GS.map F).take k) R _ rfl H2.out.1 _ _ _ rfl (by simp) H2.out.2.1 H2.out.2.2.1 (by rw [bZ.out];have:=aK.out;have:=am.out;have:=ar.b2;omega) H2.2.2.2.1 ?_));intro v4 w4 bm bv _;have HN:=hid (show RowsOwn w4 U.heap.size ((GS.map F).take (k+1)) v4/\Below U.heap.size U w4 from ⟨by rw [HT.out];exact bm,H2.2.2.2.2.trans bv⟩);clear bm bv H2;go_wp2;go_roundw
        case rel=> exact ⟨k+1,by omega,by go_num,HN⟩
        case measure=> simp [intOf];omega
      . obtain rfl:k=gn:=by omega
        have aJ:(GS.map F).take k=rowsL its es L:=by rw [bc.out,take_of_length_le (by rw [length_map];have:=am.out;omega)]
        have HE:=hid (show RowsAt wr (rowsL its es L) (qs a8 k bF)/\Below W6.heap.size W6 wr from ⟨by rw [<-aJ];exact HW.1.at,aB.trans (HW.2.mono aB.size)⟩);clear d8 O aw aJ;go_wp2;go_meet;exact ⟨_,_,_,rfl,HE.1,HE.2⟩
   . have aR:inn=0:=by omega
     have bc:Hid (rowsL its es L=L):=by show _=_;unfold rowsL;rw [if_pos (by have:=bL.out;omega)]
     have ck:¬ (0:Int) < (inn:Int):=by omega
     clear hin aR;go_wp2;go_meet;exact ⟨_,_,_,rfl,by show RowsAt _ _ _;rw [bc.out];exact ap,zi⟩
  clear d0 d8 O ae;obtain ⟨za,zn,zc,rfl,b8,HZ⟩:=hcut
  rename World=> wz
  obtain ⟨-,O,-⟩:=HD.out wz HZ;have aA:=hid (ao.trans (HZ.mono ao.size));have bT:=hid (ca.out wz _ aA b8);go_wp2_with fail;(with_reducible refine bT.out.mono ?_);rintro e w3 ⟨u,rfl,hu,H⟩;obtain ⟨-,-,ae⟩:=HD.out w3 (HZ.trans (H.mono HZ.size));have q:=hid (cf.out w3 (HZ.trans (H.mono HZ.size)));obtain ⟨ua,uc,rfl⟩:=hu.1.shape;have br:=hu.1.cap;have HE:=hid (show RowsNew w3 w.heap.size (sortL os (rowsL its es L)) (qs ua (sortL os (rowsL its es L)).length uc)/\Below w.heap.size w w3 from ⟨hu.base aA.size,aA.trans (H.mono aA.size)⟩);have be:Hid (resultL its es os lim L=limL lim (sortL os (rowsL its es L))):=rfl;generalize sortL os (rowsL its es L)=X at *;obtain ⟨un,aN⟩:=gx X.length
  rw [aN] at HE br ⊢;have bI:=hid aN;have ci:un<=9223372036854775807:=by obtain ⟨_,_,_,h1,-,h2⟩:=HE.1.1.at.shape;injection h1 with _ h1 _;unfold maxLen at h2;omega
  clear hu H bT aN O;by_cases h1:0 < lim
  . obtain ⟨k,rfl⟩:∃k:Nat,lim=k:=⟨lim.toNat,by omega⟩
    by_cases h2:(k:Int) < (un:Int)
    . have HF:=hid (show RowsNew w3 w.heap.size (resultL its es os k L) (qs ua k uc) from by
       rw [be.out];unfold limL;rw [if_pos ⟨h1,by rw [bI.out];exact h2⟩];exact HE.1.take k (by omega))
      go_wp2;refine bodyPostM_mark q rfl ⟨_,results_tmp rfl _ _ _,_,rfl,HF.turn q rfl,HE.2.trans (belowK_b (w:=w) lr w3 D _ _ bh q rfl rfl)⟩
    . have HF:=hid (show RowsNew w3 w.heap.size (resultL its es os k L) (qs ua un uc) from by
       rw [be.out];unfold limL;rw [if_neg (λ h=> h2 (by rw [bI.out] at h;exact h.2))];exact HE.1)
      go_wp2;refine bodyPostM_mark q rfl ⟨_,results_tmp rfl _ _ _,_,rfl,HF.turn q rfl,HE.2.trans (belowK_b (w:=w) lr w3 D _ _ bh q rfl rfl)⟩
  . have HF:=hid (show RowsNew w3 w.heap.size (resultL its es os lim L) (qs ua un uc) from by
     rw [be.out];unfold limL;rw [if_neg (λ h=> h1 h.1)];exact HE.1)
    go_wp2;refine bodyPostM_mark q rfl ⟨_,results_tmp rfl _ _ _,_,rfl,HF.turn q rfl,HE.2.trans (belowK_b (w:=w) lr w3 D _ _ bh q rfl rfl)⟩
 case stop=>
  intro D c bj W _ _ h;exact h.elim
theorem result_rows (bd:Bd) (es:List Xp) (its:List It) (os:List Od) (L:List Rw) (m:Nat) (lim:Int) (bx ub uo n uc:Nat) (w:World) (hlim:bd.limit=lim) (hfit:RFit bd es its os L m w) (hbx:Boxed w bx 41 (qs (some ⟨ub,uo,none⟩) n uc)) (hu:RowsAt w L (qs (some ⟨ub,uo,none⟩) n uc)) (hub:ub < w.heap.size):
 Calls Tryz.prog 11 #[.agg bd.arr,.func (.func 38) #[] #[.pointer (some ⟨bx,0,none⟩)]] w (ResP es its os lim L w):=
 (result_new bd es its os L m lim bx ub uo n uc w hlim hfit hbx hu hub).mono λ _ _ h=> h.p
end
structure Ft where
 i:Nat
 d:Nat
 p:World->Value->Prop
 mono:∀w w' v,p w v->Below w.heap.size w w'->p w' v
def Ft.const (i d:Nat) (v:Value):Ft:=⟨i,d,λ _ u=> u=v,λ _ _ _ h _=> h⟩
structure FInv (ops:Array Oper) (a0:Act) (ks:List Nat) (fs:List Ft) (W:World) (L:Nat->Bool) (a:Act) (w:World):Prop where
 frame:FrameLike a0 a ks
 below:Below W.heap.size W w
 facts:∀f∈fs,L f.i=true->f.p w (a.eval (.tmp f.d))
def coverB (ops:Array Oper) (l:List (Nat×Nat)):Bool:=(List.range ops.size).all λ i=> match ops[i]? with
 | none=> true
 | some o=> o.guard.isNone && l.any λ t=> t.1==i && o.dst==some t.2
theorem pair_nodup {l:List Ft} (h:(l.map (·.i)).Nodup) {f g:Ft} (hf:f∈l) (hg:g∈l) (e:f.i=g.i):f=g:=by
 obtain ⟨k,q⟩:=List.getElem?_of_mem hf;obtain ⟨j,o⟩:=List.getElem?_of_mem hg;have h1:(l.map (·.i))[k]? =some f.i:=by rw [List.getElem?_map,q];rfl
 have A:(l.map (·.i))[j]? =some f.i:=by rw [List.getElem?_map,o,e];rfl
 have:=nodup_at h h1 A;subst this;rw [q] at o;exact Option.some.inj o
theorem pair_nodup_d {l:List Ft} (h:(l.map (·.d)).Nodup) {f g:Ft} (hf:f∈l) (hg:g∈l) (e:f.d=g.d):f=g:=by
 obtain ⟨k,q⟩:=List.getElem?_of_mem hf;obtain ⟨j,o⟩:=List.getElem?_of_mem hg;have h1:(l.map (·.d))[k]? =some f.d:=by rw [List.getElem?_map,q];rfl
 have A:(l.map (·.d))[j]? =some f.d:=by rw [List.getElem?_map,o,e];rfl
 have:=nodup_at h h1 A;subst this;rw [q] at o;exact Option.some.inj o
theorem wp_region_facts {P:Program} {id:Nat} {ops ops':Array Oper} {Q:Exit->Act->World->Prop} {a:Act} {w:World} (ks:List Nat) (fs:List Ft) (he:ops=ops') (hm:P.follows .mixedOrders=true) (hf:forwardK ops'=true)
 (hc:coverB ops' (fs.map λ f=> (f.i,f.d))=true) (hi:(fs.map (·.i)).Nodup) (hd:(fs.map (·.d)).Nodup) (hk:∀f∈fs,f.d∈ks/\f.d < a.tmps.size/\f.i < ops'.size)
 (hstep:∀f∈fs,∀(o:Oper) (a1:Act) (q:World),ops'[f.i]? =some o->Below w.heap.size w q->(∀d,d ∉ ks->a1.eval (.tmp d)=a.eval (.tmp d))->(∀g∈fs,waitsB ops' f.i g.i=true->g.p q (a1.eval (.tmp g.d)))->
  ∀K:Act->World->Prop,(∀v w2,Below q.heap.size q w2->f.p w2 v->K (a1.put (some f.d) v) w2)->o.wp P a1 q K (NoPanic Q))
 (hend:∀a1 q,FrameLike a a1 ks->Below w.heap.size w q->(∀f∈fs,f.p q (a1.eval (.tmp f.d)))->NoPanic Q .normal a1 q):(Code.region id ops true).wp P Q a w:=by
 have G:∀i o,ops'[i]? =some o->o.guard=none/\∃f∈fs,f.i=i/\o.dst=some f.d:=by intro i o ho;unfold coverB at hc;have h1:=all_eq_true.1 hc i (List.mem_range.2 (Array.getElem?_eq_some_iff.1 ho).1);rw [ho] at h1;simp only [Bool.and_eq_true,Option.isNone_iff_eq_none,List.any_eq_true,List.mem_map] at h1;obtain ⟨T,t,⟨f,hf,rfl⟩,J⟩:=h1;exact ⟨T,f,hf,by simpa using J.1,by simpa using J.2⟩
 refine wp_region_inv (λ L a1 q=> FInv ops' a ks fs w L a1 q) he hm hf ⟨FrameLike.refl _ _,Below.drew zi,λ _ _ h=> (nomatch h)⟩ ?_ ?_
 . intro i o L a1 q ho I D C
   obtain ⟨O,f,A,rfl,H⟩:=G i o ho;have M:Region.wanted o (yielded ops' a1.tmps)=true:=by simp [Region.wanted,O]
   unfold wpOp;simp only [ho,M,if_true];refine .inl (hstep f A o a1 q ho C.below (λ d hd=> C.frame.same d hd) (λ g hgm hwt=> C.facts g hgm (dep_of ho D hwt)) _ (λ v w2 hb hp=> ?_));refine ⟨C.frame.put (hk f A).1 v,C.below.trans (hb.mono C.below.size),λ g hgm hL'=> ?_⟩;by_cases e:g.i=f.i
   . have:=pair_nodup hi hgm A e
     subst this;rw [eval_put_same (by rw [C.frame.size];exact (hk g hgm).2.1)];exact hp
   . have F:g.d≠f.d:=λ e'=> e (by rw [pair_nodup_d hd hgm A e'])
     rw [eval_put_ne F.symm];exact g.mono _ _ _ (C.facts g hgm (by simpa [e] using hL')) hb
 . intro L a1 q I C
   refine hend a1 q C.frame C.below λ f A=> C.facts f A (I _ ?_);exact (hk f A).2.2
theorem wpList_value {P:Program} {ops:Array Oper} {rest:List Oper} {o:Oper} {a:Act} {Q:Exit->Act->World->Prop} {w w':World} (hgd:o.guard=none) {v:Value} (hr:(execOp a.eval o).run P w=.ok (.value v) w')
 (h:wpList P ops Q rest (a.put o.dst v) w'):wpList P ops Q (o::rest) a w:=
 wpList_plain hgd λ K hK=> by unfold Oper.wp;rw [hr];exact hK _ _ h
def overA:Array Value->Nat->List Value->Array Value
 | cs,_,[]=> cs
 | cs,o,v::r=> overA (cs.setIfInBounds o v) (o+1) r
theorem heap_setCellsA (g:Nat) (t:TypeId):∀(vs:List Value) (o:Nat) (cs:Array Value) (w:World),w.heap[g]? =some (.cells cs t (0,0))->(w.setCells g o vs).heap[g]? =some (.cells (overA cs o vs) t (0,0))
 | [],_,_,_,h=> h
 | v::r,o,cs,w,h=> by rw [World.setCells];exact heap_setCellsA g t r (o+1) _ _ (heap_setCell_same w g o cs t v h)
def strA:ByteArray:=⟨#[97]⟩
def exA:Xp:=⟨2,⟨#[]⟩,strA,0,nilV,⟨none,0,0⟩⟩
def ex0:Xp:=⟨0,⟨#[]⟩,⟨#[]⟩,0,nilV,⟨none,0,0⟩⟩
def its2:List It:=[⟨1,ex0,λ _=> nilV⟩,⟨3,exA,λ R=> R.getD 0 nilV⟩]
def bdA (gi gt:Nat) (grp:Sl):Bd:=⟨5,⟨#[]⟩,⟨none,0,0⟩,⟨none,0,0⟩,⟨none,0,0⟩,⟨none,0,0⟩,⟨none,0,0⟩,⟨none,0,0⟩,⟨some ⟨gi,0,none⟩,2,2⟩,⟨none,0,0⟩,ex0,grp,⟨none,0,0⟩,0,⟨#[]⟩,0,⟨none,0,0⟩,⟨some ⟨gt,0,none⟩,1,1⟩,⟨none,0,0⟩⟩
def vs4:Rw:=[intV 3,nilV,intV 5,intV 3]
def L3:List Rw:=[[intV 2],[nilV],[intV 2]]
theorem awake1:resultL its2 [] [] 0 []=[[intV 0,nilV]]:=by kernel_rfl
theorem awake2:resultL its2 [exA] [] 0 L3=[[intV 1,nilV],[intV 2,intV 4]]:=by kernel_rfl
theorem fit_k:∀i∈its2,i.k≠0:=by
 intro i hi;simp only [its2,mem_cons,not_mem_nil,or_false] at hi;rcases hi with rfl | rfl <;> decide
theorem fit1 (gi gt:Nat) (w:World) (hit:ItemsAt w its2 (qs (some ⟨gi,0,none⟩) 2 2)):RFit (bdA gi gt ⟨none,0,0⟩) [] its2 [] [] 1 w where
 he:=.mt
 hi:=hit
 ho:=.mt
 ev:=λ i _ _ R hR=> nomatch hR
 tx:=λ i _ R hR=> nomatch hR
 ne:=λ _ _=> fit_k
 hm:=by simp
 hf:=λ e h=> nomatch h
 hof:=λ e h=> nomatch h
 b0:=by decide
 b2:=by decide
 b3:=by decide
 b5:=by decide
theorem fit2 (gi gt gg:Nat) (w:World) (hit:ItemsAt w its2 (qs (some ⟨gi,0,none⟩) 2 2)) (hx:XpsAt w [exA] (qs (some ⟨gg,0,none⟩) 1 1)):RFit (bdA gi gt ⟨some ⟨gg,0,none⟩,1,1⟩) [exA] its2 [] L3 1 w where
 he:=hx
 hi:=hit
 ho:=.mt
 ev:=by
  intro i hi h1 R o w' s A q;have hl:R.length=1:=by simp only [L3,mem_cons,not_mem_nil,or_false] at o;rcases o with rfl | rfl | rfl <;> rfl
  simp only [its2,mem_cons,not_mem_nil,or_false] at hi;rcases hi with rfl | rfl
  . exact absurd rfl h1
  . exact evalue_col exA R s 0 w' rfl rfl q (by omega)
 tx:=by intro i hi R o;simp only [its2,L3,mem_cons,not_mem_nil,or_false] at hi o;rcases hi with rfl | rfl <;> rcases o with rfl | rfl | rfl <;> decide
 ne:=λ _ _=> fit_k
 hm:=by simp [L3]
 hf:=by intro e h;rw [mem_singleton.1 h];exact ⟨by decide,by decide⟩
 hof:=λ e h=> nomatch h
 b0:=by decide
 b2:=by decide
 b3:=by decide
 b5:=by decide
theorem cell_setNil {w:World} {p q:Addr} {v old u:Value} (h:w.cell? p=some v) (ho:w.cell? q=some old) (hne:v≠old):(w.setCell q u).cell? p=some v:=by
 rw [World.cell?_setCell_other _ _ _ _ (λ e=> hne (by rw [e,h] at ho;exact Option.some.inj ho))];exact h
theorem size_setC (w:World) (q:Addr) (u:Value):(w.setCell q u).heap.size=w.heap.size:=by
 show (w.heap.modify _ _).size=_;rw [Array.size_modify]
theorem ValsAt.setNil {w:World} {r:Rw} {x u:Value} {q:Addr} (h:ValsAt w r x) (ho:w.cell? q=some (q0)):ValsAt (w.setCell q u) r x:=by
 cases h with
 | mt=> exact .mt
 | lie _ b o n cap hn hlt hm hc ht=>
  refine .lie _ b o n cap hn (by rw [size_setC];exact hlt) hm (λ i hi j hj=> ?_) ht;have h1:=hc i hi j hj;rcases (by omega:j=0\/j=1\/j=2) with rfl | rfl | rfl
  . exact cell_setNil (v:=qi r[i].kind) h1 ho (by simp)
  . exact cell_setNil (v:=qi r[i].int) h1 ho (by simp)
  . exact cell_setNil (v:=qt r[i].text) h1 ho (by simp)
theorem RowsAt.setNil {w:World} {L:List Rw} {x u:Value} {q:Addr} (h:RowsAt w L x) (ho:w.cell? q=some (q0)) (hne:∀r∈L,r≠[]):RowsAt (w.setCell q u) L x:=by
 cases h with
 | mt=> exact .mt
 | lie _ xs b o n cap hn hlt hm hc hx=>
  have A:∀y∈xs,y≠q0:=by
   clear hc hn hm
   induction hx with
   | nil=> simp
   | @cons r y L xs h1 _ ih=>
    intro z C;rcases mem_cons.1 C with rfl | C
    . intro e
      obtain ⟨a,n,c,D,F,-⟩:=h1.shape;rw [D] at e;injection e with _ e _;exact hne r (by simp) (List.eq_nil_of_length_eq_zero (by omega))
    . exact ih (λ r hr=> hne r (mem_cons_of_mem _ hr)) z C
  refine .lie L xs b o n cap hn (by rw [size_setC];exact hlt) hm (λ i x hi=> cell_setNil (hc i x hi) ho (A x (mem_of_getElem? hi))) ?_;clear hc hn hm A hne
  induction hx with
  | nil=> exact .nil
  | cons h1 _ ih=> exact .cons (h1.setNil ho) ih
theorem RFit.mono {bd:Bd} {es:List Xp} {its:List It} {os:List Od} {L:List Rw} {m:Nat} {w w':World} (h:RFit bd es its os L m w) (hb:Below w.heap.size w w'):RFit bd es its os L m w':=
 { h with he:=h.he.mono hb,hi:=h.hi.mono hb,ho:=h.ho.mono hb,ev:=λ i hi h1 R hR w2 s hb2 hv=> h.ev i hi h1 R hR w2 s (hb.trans (hb2.mono hb.size)) hv }
theorem result_any (bd:Bd) (es:List Xp) (its:List It) (os:List Od) (L:List Rw) (m:Nat) (lim:Int) (bx:Nat) (u:Value) (w:World) (hlim:bd.limit=lim) (hfit:RFit bd es its os L m w) (hbx:Boxed w bx 41 u) (hu:RowsAt w L u) (hl0:0 < L.length):Calls Tryz.prog 11 #[.agg bd.arr,.func (.func 38) #[] #[.pointer (some ⟨bx,0,none⟩)]] w (ResP es its os lim L w):=by
 obtain ⟨C,n,q,rfl,D,-⟩:=hu.shape;obtain ⟨A,o,rfl⟩:=hu.has 0 (by omega);exact result_rows bd es its os L m lim bx A o n q w hlim hfit hbx hu (hu.lt hl0)
theorem RowsNew.keep {w w':World} {B:Nat} {L:List Rw} {s:Value} (h:RowsNew w B L s) (hs:w.heap.size<=w'.heap.size) (hk:∀k,B<=k->k < w.heap.size->w'.heap[k]? =w.heap[k]?):RowsNew w' B L s:=by
 obtain ⟨xs,⟨hl,h1⟩,I,H,F⟩:=h.cells;have D:∀k q e fr,B<=k->w.heap[k]? =some (Obj.cells q e fr)->w'.heap[k]? =some (Obj.cells q e fr):=λ k q e fr A h=> (hk k A (Array.getElem?_eq_some_iff.1 h).1).trans h;refine .of (xs:=xs) ⟨hl,?_⟩ ?_ (λ x hx ad n c e hn=> ?_) F
 . rcases h1 with h1 | ⟨g,cap,q,e,A,G,r⟩
   . exact .inl h1
   . exact .inr ⟨g,cap,q,e,A,D _ _ _ _ A G,r⟩
 . clear hl h1 H h
   induction I with
   | nil=> exact .nil
   | cons h1 _ ih=>
    refine .cons ?_ (ih λ x hx=> F x (mem_cons_of_mem _ hx));have ho:=F _ (List.mem_cons_self ..);cases h1 with
    | mt=> exact .mt
    | lie _ b o n cap hn hlt hm D ht=>
     refine .lie _ b o n cap hn (lt_of_lt_of_le hlt hs) hm (λ i hi j hj=> ?_) ht;have A:=ho ⟨b,o,none⟩ n cap rfl (by omega);exact (World.cell?_of_block (a:=⟨b,_,none⟩) (hk b A hlt)).trans (D i hi j hj)
 . have A:=F x hx ad n c e hn
   rcases H x hx ad n c e hn with h | ⟨q,fr,h⟩
   . omega
   . exact .inr ⟨q,fr,D _ _ _ _ A h⟩
theorem RowsNew.setOld {w:World} {B g i:Nat} {L:List Rw} {s v:Value} (h:RowsNew w B L s) (hg:g < B):RowsNew (w.setCell ⟨g,i,none⟩ v) B L s:=
 h.keep (by simp) λ k hk _=> Below.heap_setCell w ⟨g,i,none⟩ v k (by show k≠g;omega)
theorem RFit.lim {bd:Bd} {es:List Xp} {its:List It} {os:List Od} {L:List Rw} {m:Nat} {w:World} (h:RFit bd es its os L m w) (q:Int):RFit { bd with limit:=q } es its os L m w:=⟨h.he,h.hi,h.ho,h.ev,h.tx,h.ne,h.hm,h.hf,h.hof,h.b0,h.b2,h.b3,h.b5⟩
theorem RFit.len {bd:Bd} {es:List Xp} {its:List It} {os:List Od} {L:List Rw} {m:Nat} {w:World} (h:RFit bd es its os L m w):(sortL os (rowsL its es L)).length<=L.length+1:=by
 rw [(sortL_spec os _).2.length_eq];unfold rowsL;split
 . omega
 . rw [length_map];exact (partsL_parts h).1
theorem limL_take (q n:Nat) (X:List Rw) (h:X.length=n) (hq:1<=q):limL q X=X.take (min q n):=by
 unfold limL;by_cases hlt:q < n
 . rw [if_pos ⟨by omega,by omega⟩,min_eq_left (by omega),Int.toNat_natCast]
 . rw [if_neg (by omega),take_of_length_le (by omega)]
theorem RowsNew.first {w:World} {B n c:Nat} {L:List Rw} {a:Option Addr} (h:RowsNew w B L (qs a n c)) (k:Nat) (hk:k<=n):RowsNew w B (L.take k) (qs a k c):=by
 by_cases hlt:k < n
 . exact h.take k hlt
 . obtain rfl:k=n:=by omega
   have e:L.length=k:=by obtain ⟨_,_,e⟩:=h.1.shape;exact (Value.slice.inj e).2.1.symm
   rw [take_of_length_le (by omega)];exact h
end
end Go.Proofs.YtcomoomndgbckaaGreat
