/- Part 6 of the proof. -/
import Derived.Test.YtcomoomndgbckaaGreatY03
import Derived.Test.YtcomoomndgbckaaGreatY05
set_option maxHeartbeats 16000000
set_option maxRecDepth 100000
open Go Go.RowKit
open Go.Lib (hid)
open List (getElem?_cons_zero getElem?_cons_succ getElem_mem length_append map_cons length_take mem_cons mem_singleton mem_append length_map take_succ_eq_append_getElem getElem?_eq_getElem map_append take_length length_cons mem_iff_getElem take_append_drop not_mem_nil getElem?_append_right getD_eq_getElem?_getD all_eq_true take_append_getElem mem_cons_of_mem)
open Nat (zero_le le_succ lt_succ_self le_trans lt_of_lt_of_le add_zero zero_add)
namespace Go.Proofs.YtcomoomndgbckaaGreat
noncomputable section
structure Asg where
 col:ByteArray
 index:Int
 e:Ex
def AsE (w:World) (x:Asg) (cs:List Value):Prop:=∃s,cs=[qt x.col,qi x.index]++x.e.cells s/\ArgsAt w x.e.args s
theorem AsE.mono:EMono AsE:=λ _ _ _ _ ⟨s,h1,h2⟩ hb=> ⟨s,h1,h2.mono hb⟩
structure Itm where
 agg:Int
 e:Ex
def ItE (w:World) (x:Itm) (cs:List Value):Prop:=∃s,cs=qi x.agg::x.e.cells s/\ArgsAt w x.e.args s
theorem ItE.mono:EMono ItE:=λ _ _ _ _ ⟨s,h1,h2⟩ hb=> ⟨s,h1,h2.mono hb⟩
structure Src where
 table:ByteArray
 alias:ByteArray
def SrE (_:World) (x:Src) (cs:List Value):Prop:=cs=[qt x.table,qt x.alias]
theorem SrE.mono:EMono SrE:=λ _ _ _ _ h _=> h
structure Ord where
 item:Int
 desc:Bool
def OrE (_:World) (x:Ord) (cs:List Value):Prop:=cs=[qi x.item,.bool x.desc]
theorem OrE.mono:EMono OrE:=λ _ _ _ _ h _=> h
def ExsE (w:World) (x:List Ex) (cs:List Value):Prop:=∃s,cs=[s]/\ArgsAt w x s
theorem ExsE.mono:EMono ExsE:=λ _ _ _ _ ⟨s,h1,h2⟩ hb=> ⟨s,h1,h2.mono hb⟩
structure Stt where
 kind:Int
 table:ByteArray
 create:Df
 values:List (List Ex)
 sets:List Asg
 items:List Itm
 src:List Src
 cond:Ex
 group:List Ex
 order:List Ord
 limit:Int
 name:ByteArray
structure StV where
 c1:Value
 c2:Value
 c3:Value
 c4:Value
 vs:Value
 ss:Value
 is:Value
 fr:Value
 wa:Value
 gr:Value
 od:Value
def Stt.cells (s:Stt) (v:StV):List Value:=[qi s.kind,qt s.table,v.c1,v.c2,v.c3,v.c4,v.vs,v.ss,v.is,v.fr]++s.cond.cells v.wa++[v.gr,v.od,qi s.limit,qt s.name]
structure SttAt (w:World) (s:Stt) (v:StV):Prop where
 create:DfAt w s.create v.c1 v.c2 v.c3 v.c4
 values:LsAt 1 ExsE w s.values v.vs
 sets:LsAt 10 AsE w s.sets v.ss
 items:LsAt 9 ItE w s.items v.is
 src:LsAt 2 SrE w s.src v.fr
 cond:ArgsAt w s.cond.args v.wa
 group:ArgsAt w s.group v.gr
 order:LsAt 2 OrE w s.order v.od
theorem SttAt.mono {w w':World} {s:Stt} {v:StV} (h:SttAt w s v) (hb:Below w.heap.size w w'):SttAt w' s v:=
 ⟨h.create.mono hb,h.values.mono ExsE.mono hb,h.sets.mono AsE.mono hb,h.items.mono ItE.mono hb,h.src.mono SrE.mono hb,h.cond.mono hb,h.group.mono hb,h.order.mono OrE.mono hb⟩
def SttE (w:World) (x:Stt) (cs:List Value):Prop:=∃v,cs=x.cells v/\SttAt w x v
theorem SttE.mono:EMono SttE:=λ _ _ _ _ ⟨v,h1,h2⟩ hb=> ⟨v,h1,h2.mono hb⟩
theorem aWide_calls (l:List ByteArray) (la:Option Addr) (lc:Nat) (w:World) (hl:NmsAt w l (qs la l.length lc)):Calls Tryz.prog 78 #[qs la l.length lc] w (SomeI w):=by
 have G:=hid hl;have h1:l.length<=2000000000000:=by obtain ⟨_,_,e,h⟩:=hl.shape;exact h
 obtain ⟨n,C⟩:=gx l.length
 have F:=hid C;rw [C] at G h1 ⊢;clear hl C;go_enter Tryz.func78,Tryz.ntmps78;go_wp2;go_loopw [3,4] (λ s z wr=> ∃(k:Nat) (x:Int),k<=n/\z=qi k/\s=qi x/\Hid (Below w.heap.size w wr)) (λ _ z _=> n - (intOf z).toNat)
 case atStart=> exact ⟨0,_,zero_le _,rfl,rfl,zi⟩
 case round=>
  obtain ⟨k,x,I,rfl,rfl,D⟩:=hrel;by_cases hlt:k < n
  . have A:k < l.length:=by rw [F.out];exact hlt
    have q:=G.mono NmE.mono D;rw [<-F.out] at q;obtain ⟨b,o,rfl,H,c0⟩:=NmsAt.cell q k A;generalize l[k]=y at *;clear q A;go_wp2;go_roundw
    case rel=> exact ⟨k+1,_,by omega,by go_num,rfl,D⟩
    case measure=> simp [intOf];omega
  . obtain rfl:k=n:=by omega
    go_wp2;go_ret;exact ⟨_,rfl,D⟩
theorem aNames_calls (l:List ByteArray) (la:Option Addr) (lc:Nat) (w:World) (hl:NmsAt w l (qs la l.length lc)) (hz:∀x∈l,x.size<=2000000):Calls Tryz.prog 136 #[qs la l.length lc] w (BoolP True w):=by
 have J:=hid hl;have HZ:=hid hz;have h1:l.length<=2000000000000:=by obtain ⟨_,_,e,h⟩:=hl.shape;exact h
 obtain ⟨n,G⟩:=gx l.length
 have I:=hid G;rw [G] at J h1 ⊢;clear hl G hz;go_enter Tryz.func136,Tryz.ntmps136;go_wp2;go_loopw [3] (λ z wr=> ∃k:Nat,k<=n/\z=qi k/\Hid (Below w.heap.size w wr)) (λ z _=> n - (intOf z).toNat)
 case atStart=> exact ⟨0,zero_le _,rfl,zi⟩
 case round=>
  obtain ⟨k,O,rfl,F⟩:=hrel;by_cases hlt:k < n
  . have C:k < l.length:=by rw [I.out];exact hlt
    have A:=J.mono NmE.mono F;rw [<-I.out] at A;obtain ⟨b,o,rfl,K,c0⟩:=NmsAt.cell A k C;have L:=hid (HZ.out _ (getElem_mem C));generalize l[k]=y at *;clear A C;go_wp2_with fail;refine (aName_calls y _ (by have:=L.out;omega)).mono ?_;rintro e M ⟨q,rfl,-,H⟩;have D:=hid (F.trans (H.mono F.size));clear H;cases q with
    | true=>
     go_wp2;go_roundw
     case rel=> exact ⟨k+1,by omega,by go_num,D⟩
     case measure=> simp [intOf];omega
    | false=>
     go_wp2;go_ret;exact ⟨false,rfl,(λ h=> (by cases h)),D⟩
  . obtain rfl:k=n:=by omega
    go_wp2;go_ret;exact ⟨_,rfl,(λ _=> trivial),F⟩
def ColF (c:Cl):Prop:=(-2147483648<=c.low/\c.low<=2147483648)/\(-2147483648<=c.high/\c.high<=2147483648)/\0<=c.max/\c.max<=2147483648
theorem aCol_calls (c:Cl) (w:World) (hs:c.name.size<=2000000):Calls Tryz.prog 135 #[.agg #[qt c.name,qi c.type,qi c.low,qi c.high,qi c.max,.bool c.nn]] w (BoolP (ColF c) w):=by
 obtain ⟨nm,D,lo,hi,F,nn⟩:=c;simp only at hs ⊢;have K:=hid (VarIs.new w #[qt nm,qi D,qi lo,qi hi,qi F,.bool nn] 125);have I:=hid ((Below.refl w.heap.size w).alloc lr (.cells #[qt nm,qi D,qi lo,qi hi,qi F,.bool nn] 125));go_enter Tryz.func135,Tryz.ntmps135;go_wp2_with fail;refine (aName_calls nm _ (by omega)).mono ?_;rintro e M ⟨q,rfl,-,C⟩;have A:=hid (K.below C (by simp));have o:=hid (I.trans (C.mono I.size));clear C;have c1:=A.a1;have c2:=A.a2;have c3:=A.a3;have c4:=A.a4;cases q with
 | false=>
  go_wp2;go_ret;exact ⟨false,rfl,(λ h=> (by cases h)),o⟩
 | true=>
  by_cases h1:D=1
  . subst h1
    by_cases g1: -2147483648<=lo
    . by_cases g2:lo<=2147483648
      . by_cases g3: -2147483648<=hi
        . by_cases g4:hi<=2147483648
          . go_wp2
            go_ret;exact ⟨F==0,rfl,(λ h=> ⟨⟨g1,g2⟩,⟨g3,g4⟩,by have:=eq_of_beq h;simp only;omega⟩),o⟩
          . go_wp2
            go_ret;exact ⟨false,rfl,(λ h=> (by cases h)),o⟩
        . go_wp2
          go_ret;exact ⟨false,rfl,(λ h=> (by cases h)),o⟩
      . go_wp2
        go_ret;exact ⟨false,rfl,(λ h=> (by cases h)),o⟩
    . go_wp2
      go_ret;exact ⟨false,rfl,(λ h=> (by cases h)),o⟩
  . by_cases h3:D=2
    . subst h3
      by_cases g1:lo=0
      . subst g1
        by_cases g2:hi=0
        . subst g2
          go_wp2_with fail;refine (aNumb_calls F _).mono ?_;rintro e L ⟨q,rfl,H,C⟩;have J:=hid H;have G:=hid (o.trans (C.mono o.size));clear C H;go_wp2;go_ret;exact ⟨q,rfl,(λ h=> ⟨by show (-2147483648:Int)<=0/\(0:Int)<=2147483648;decide,by show (-2147483648:Int)<=0/\(0:Int)<=2147483648;decide,J.out h⟩),G⟩
        . go_wp2
          go_ret;exact ⟨false,rfl,(λ h=> (by cases h)),o⟩
      . go_wp2
        go_ret;exact ⟨false,rfl,(λ h=> (by cases h)),o⟩
    . go_wp2
      go_ret;exact ⟨false,rfl,(λ h=> (by cases h)),o⟩
theorem RfAt.cell {w:World} {xs:List Rf} {a:Option Addr} {n c:Nat} (h:LsAt 3 RfE w xs (qs a n c)) (i:Nat) (hi:i < xs.length):∃b o a1 c1 a2 c2,a=some ⟨b,o,none⟩/\b < w.heap.size/\w.cell? ⟨b,o+i * 3,none⟩=some (qs a1 xs[i].cols.length c1)/\w.cell? ⟨b,o+i * 3+1,none⟩=some (qt xs[i].table)/\w.cell? ⟨b,o+i * 3+2,none⟩=some (qs a2 xs[i].target.length c2)/\NmsAt w xs[i].cols (qs a1 xs[i].cols.length c1)/\NmsAt w xs[i].target (qs a2 xs[i].target.length c2):=by
 obtain ⟨b,o,cs,h1,D,H,q,G,F,rfl,C,A⟩:=h.get i hi;obtain ⟨a1,c1,rfl,-⟩:=C.shape;obtain ⟨a2,c2,rfl,-⟩:=A.shape;exact ⟨b,o,a1,c1,a2,c2,h1,D,by simpa using q 0 (by omega),by simpa using q 1 (by omega),by simpa using q 2 (by omega),C,A⟩
theorem ArgsAt.addr {w:World} {xs:List Ex} {a:Option Addr} {n c k:Nat} (h:ArgsAt w xs (qs a n c)) (hk:k < xs.length):∃b o,a=some ⟨b,o,none⟩:=by
 cases h with
 | mt=> simp at hk
 | lie _ b o=> exact ⟨b,o,rfl⟩
def DfS (d:Df):Prop:=(∀c∈d.cols,c.name.size<=2000000)/\(∀k∈d.keys,∀x∈k,x.size<=2000000)/\(∀f∈d.fks,(∀x∈f.cols,x.size<=2000000)/\f.table.size<=2000000/\∀x∈f.target,x.size<=2000000)/\∀e∈d.checks,ExS e
theorem aCre_calls (d:Df) (a1 a2 a3 a4:Option Addr) (n1 n2 n3 n4 k1 k2 k3 k4:Nat) (w:World) (hd:DfAt w d (qs a1 n1 k1) (qs a2 n2 k2) (qs a3 n3 k3) (qs a4 n4 k4)) (hz:DfS d):
 Calls Tryz.prog 108 #[.agg #[qs a1 n1 k1,qs a2 n2 k2,qs a3 n3 k3,qs a4 n4 k4]] w (BoolP ((∀c∈d.cols,ColF c)/\∀e∈d.checks,Fm e) w):=by
 have V:d.cols.length=n1/\n1<=2000000000000:=by obtain ⟨_,_,e,h⟩:=hd.cols.shape;obtain ⟨-,rfl,-⟩:=Value.slice.inj e;exact ⟨rfl,h⟩
 have U:d.keys.length=n2/\n2<=2000000000000:=by obtain ⟨_,_,e,h⟩:=hd.keys.shape;obtain ⟨-,rfl,-⟩:=Value.slice.inj e;exact ⟨rfl,h⟩
 have T:d.fks.length=n3/\n3<=2000000000000:=by obtain ⟨_,_,e,h⟩:=hd.fks.shape;obtain ⟨-,rfl,-⟩:=Value.slice.inj e;exact ⟨rfl,h⟩
 have O:d.checks.length=n4/\n4<=2000000000000:=by obtain ⟨_,_,_,e,h,h'⟩:=hd.checks.shape;obtain ⟨-,rfl,-⟩:=Value.slice.inj e;exact ⟨h.symm,h'⟩
 obtain ⟨V,m1⟩:=V;obtain ⟨U,m2⟩:=U;obtain ⟨T,m3⟩:=T;obtain ⟨O,m4⟩:=O;have af:=hid V;have ai:=hid U;have ah:=hid T;have ae:=hid O;have HD:Hid (DfAt w d (qs a1 d.cols.length k1) (qs a2 d.keys.length k2) (qs a3 d.fks.length k3) (qs a4 d.checks.length k4)):=by show DfAt _ _ _ _ _ _;rw [V,U,T,O];exact hd
 have HZ:=hid hz;clear hd hz V U T O;have Hv:=hid (VarIs.new w #[qs a1 n1 k1,qs a2 n2 k2,qs a3 n3 k3,qs a4 n4 k4] 29);have aa:Hid (∀o,Below w.heap.size w (w.alloc o)):=λ o=> zi.alloc lr o;go_enter Tryz.func108,Tryz.ntmps108;go_wp2;go_loopw [3] (λ z wr=> ∃k:Nat,k<=n1/\z=qi k/\Hid (∀j (h:j < d.cols.length),j < k->ColF d.cols[j])/\Hid (Below (w.heap.size+1) (w.alloc (.cells #[qs a1 n1 k1,qs a2 n2 k2,qs a3 n3 k3,qs a4 n4 k4] 29)) wr)) (λ z _=> n1 - (intOf z).toNat)
 case atStart=> exact ⟨0,zero_le _,rfl,(λ j _ h=> by omega),zi⟩
 case round=>
  obtain ⟨k,hk,rfl,Hj,H⟩:=hrel;have C:=hid ((aa.out _).trans (H.mono (le_succ _)));obtain ⟨L,A,-⟩:=Hv.below H (lt_succ_self _);have c0:=A 0;have c1:=A 1;have c2:=A 2;have c3:=A 3;simp only [q2a] at c0 c1 c2 c3;clear A;by_cases hlt:k < n1
  . have D:k < d.cols.length:=by rw [af.out];exact hlt
    have K:=HD.cols.mono ClE.mono C;obtain ⟨b,o,rfl,I,e0,e1,M,e3,e4,e5⟩:=ClAt.cell K k D;have HX:Hid (∀x,d.cols[k]=x->ColF x->∀j (h:j < d.cols.length),j < k+1->ColF d.cols[j]):=λ x e h j hj hjk=> by
     by_cases M:j=k
     . subst M;rw [e];exact h
     . exact Hj.out j hj (by omega)
    replace HX:=hid (HX.out _ rfl);have HY:=hid (HZ.1 _ (getElem_mem D));generalize d.cols[k]=y at *;clear K D;go_wp2_with fail;refine (aCol_calls y _ HY).mono ?_;rintro e w1 ⟨q,rfl,hq,F⟩;have Hq:=hid hq;have J:=hid (H.trans (F.mono (by have:=H.size;simp at this;omega)));have G:=hid (C.trans (F.mono C.size));clear F hq c0 c1 c2 c3 L e0 e1 M e3 e4 e5;cases q with
    | true=>
     go_wp2;go_roundw
     case rel=> exact ⟨k+1,by omega,by go_num,HX.out (Hq.out (by simp)),J⟩
     case measure=> simp [intOf];omega
    | false=>
     go_wp2;go_ret;exact ⟨false,rfl,(λ h=> (by cases h)),G⟩
  . obtain rfl:n1=k:=by omega
    have ak:Hid (∀c∈d.cols,ColF c):=λ c hc=> by obtain ⟨j,hj,rfl⟩:=mem_iff_getElem.1 hc;exact Hj.out j hj (by have:=af.out;omega)
    clear Hj;go_wp2;clear c0 c1 c2 c3 L;go_loopw [4] (λ z wr=> ∃k:Nat,k<=n2/\z=qi k/\Hid (Below (w.heap.size+1) (w.alloc (.cells #[qs a1 n1 k1,qs a2 n2 k2,qs a3 n3 k3,qs a4 n4 k4] 29)) wr)) (λ z _=> n2 - (intOf z).toNat)
    case atStart=> exact ⟨0,zero_le _,rfl,H⟩
    case round=>
     obtain ⟨k,hk,rfl,H⟩:=hrel;have C:=hid ((aa.out _).trans (H.mono (le_succ _)));obtain ⟨L,A,-⟩:=Hv.below H (lt_succ_self _);have c0:=A 0;have c1:=A 1;have c2:=A 2;have c3:=A 3;simp only [q2a] at c0 c1 c2 c3;clear A;by_cases hlt:k < n2
     . have D:k < d.keys.length:=by rw [ai.out];exact hlt
       have K:=HD.keys.mono (LlE.mono NmE.mono) C;obtain ⟨b,o,a5,k5,rfl,I,e0,hx⟩:=LlAt.cell K k D;have HY:=hid (HZ.2.1 _ (getElem_mem D));generalize d.keys[k]=y at *;clear K D;go_wp2_with fail;refine (aNames_calls y _ _ _ hx HY).mono ?_;rintro e w1 ⟨q,rfl,-,F⟩;have J:=hid (H.trans (F.mono (by have:=H.size;simp at this;omega)));have G:=hid (C.trans (F.mono C.size));clear F hx c0 c1 c2 c3 L e0;cases q with
       | true=>
        go_wp2;go_roundw
        case rel=> exact ⟨k+1,by omega,by go_num,J⟩
        case measure=> simp [intOf];omega
       | false=>
        go_wp2;go_ret;exact ⟨false,rfl,(λ h=> (by cases h)),G⟩
     . obtain rfl:n2=k:=by omega
       go_wp2;clear c0 c1 c2 c3 L;go_loopw [5] (λ z wr=> ∃k:Nat,k<=n3/\z=qi k/\Hid (Below (w.heap.size+1) (w.alloc (.cells #[qs a1 n1 k1,qs a2 n2 k2,qs a3 n3 k3,qs a4 n4 k4] 29)) wr)) (λ z _=> n3 - (intOf z).toNat)
       case atStart=> exact ⟨0,zero_le _,rfl,H⟩
       case round=>
        obtain ⟨k,hk,rfl,H⟩:=hrel;have C:=hid ((aa.out _).trans (H.mono (le_succ _)));obtain ⟨L,A,-⟩:=Hv.below H (lt_succ_self _);have c0:=A 0;have c1:=A 1;have c2:=A 2;have c3:=A 3;simp only [q2a] at c0 c1 c2 c3;clear A;by_cases hlt:k < n3
        . have D:k < d.fks.length:=by rw [ah.out];exact hlt
          have K:=HD.fks.mono RfE.mono C;obtain ⟨b,o,a5,k5,a6,k6,rfl,I,e0,e1,M,hx,hy⟩:=RfAt.cell K k D;have HY:=hid (HZ.2.2.1 _ (getElem_mem D));generalize d.fks[k]=y at *;obtain ⟨yc,yt,yg⟩:=y;simp only at e0 e1 M hx hy HY;clear K D;go_wp2_with fail;refine (aNames_calls yc _ _ _ hx HY.1).mono ?_;rintro e w1 ⟨q,rfl,-,F⟩;have J:=hid (H.trans (F.mono (by have:=H.size;simp at this;omega)));have G:=hid (C.trans (F.mono C.size));replace e0:=(F.cell (p:=⟨b,o+k * 3,none⟩) I).trans e0;replace e1:=(F.cell (p:=⟨b,o+k * 3+1,none⟩) I).trans e1;replace M:=(F.cell (p:=⟨b,o+k * 3+2,none⟩) I).trans M;replace hy:=hy.mono NmE.mono F;replace I:=lt_of_lt_of_le I F.size;clear F hx c0 c1 c2 c3 L;obtain ⟨L,A,-⟩:=Hv.below J (lt_succ_self _);have c0:=A 0;have c1:=A 1;have c2:=A 2;have c3:=A 3;simp only [q2a] at c0 c1 c2 c3;clear A;cases q with
          | false=>
           go_wp2;go_ret;exact ⟨false,rfl,(λ h=> (by cases h)),G⟩
          | true=>
           go_wp2_with fail;refine (aName_calls yt _ (by have:=HY.2.1;omega)).mono ?_;rintro e w2 ⟨q,rfl,-,F⟩;have ab:=hid (J.trans (F.mono (by have:=J.size;simp at this;omega)));have W:=hid (G.trans (F.mono G.size));replace e0:=(F.cell (p:=⟨b,o+k * 3,none⟩) I).trans e0;replace M:=(F.cell (p:=⟨b,o+k * 3+2,none⟩) I).trans M;replace hy:=hy.mono NmE.mono F;clear F c0 c1 c2 c3 L e1;obtain ⟨L,A,-⟩:=Hv.below ab (lt_succ_self _);have c0:=A 0;have c1:=A 1;have c2:=A 2;have c3:=A 3;simp only [q2a] at c0 c1 c2 c3;clear A;cases q with
           | false=>
            go_wp2;go_ret;exact ⟨false,rfl,(λ h=> (by cases h)),W⟩
           | true=>
            go_wp2_with fail;refine (aNames_calls yg _ _ _ hy HY.2.2).mono ?_;rintro e w3 ⟨q,rfl,-,F⟩;have ag:=hid (ab.trans (F.mono (by have:=ab.size;simp at this;omega)));have ad:=hid (W.trans (F.mono W.size));clear F hy c0 c1 c2 c3 L e0 M;cases q with
            | true=>
             go_wp2;go_roundw
             case rel=> exact ⟨k+1,by omega,by go_num,ag⟩
             case measure=> simp [intOf];omega
            | false=>
             go_wp2;go_ret;exact ⟨false,rfl,(λ h=> (by cases h)),ad⟩
        . obtain rfl:n3=k:=by omega
          go_wp2;clear c0 c1 c2 c3 L;go_loopw [6] (λ z wr=> ∃k:Nat,k<=n4/\z=qi k/\Hid (∀j (h:j < d.checks.length),j < k->Fm d.checks[j])/\Hid (Below (w.heap.size+1) (w.alloc (.cells #[qs a1 n1 k1,qs a2 n2 k2,qs a3 n3 k3,qs a4 n4 k4] 29)) wr)) (λ z _=> n4 - (intOf z).toNat)
          case atStart=> exact ⟨0,zero_le _,rfl,(λ j _ h=> by omega),H⟩
          case round=>
           obtain ⟨k,hk,rfl,Hj,H⟩:=hrel;have C:=hid ((aa.out _).trans (H.mono (le_succ _)));obtain ⟨L,A,-⟩:=Hv.below H (lt_succ_self _);have c0:=A 0;have c1:=A 1;have c2:=A 2;have c3:=A 3;simp only [q2a] at c0 c1 c2 c3;clear A;by_cases hlt:k < n4
           . have D:k < d.checks.length:=by rw [ae.out];exact hlt
             obtain ⟨b,o,rfl⟩:=HD.checks.addr D;obtain ⟨s',ac,d0,d1,d2,d3,d4,d5,d6,d7⟩:=(HD.checks.mono C).cell k D;obtain ⟨sa,sn,sc,rfl,-,-⟩:=ac.shape;have HX:Hid (∀x,d.checks[k]=x->Fm x->∀j (h:j < d.checks.length),j < k+1->Fm d.checks[j]):=λ x e h j hj hjk=> by
              by_cases M:j=k
              . subst M;rw [e];exact h
              . exact Hj.out j hj (by omega)
             replace HX:=hid (HX.out _ rfl);have HY:=hid (HZ.2.2.2 _ (getElem_mem D));generalize d.checks[k]=E' at *;go_wp2_with fail;refine (aForm_calls _ E' lr HY _ _ _ _ ac).mono ?_;rintro e w1 ⟨q,rfl,hq,F⟩;have Hq:=hid hq;have J:=hid (H.trans (F.mono (by have:=H.size;simp at this;omega)));have G:=hid (C.trans (F.mono C.size));clear F hq c0 c1 c2 c3 L d0 d1 d2 d3 d4 d5 d6 d7;cases q with
             | true=>
              go_wp2;go_roundw
              case rel=> exact ⟨k+1,by omega,by go_num,HX.out (Hq.out (by simp)),J⟩
              case measure=> simp [intOf];omega
             | false=>
              go_wp2;go_ret;exact ⟨false,rfl,(λ h=> (by cases h)),G⟩
           . obtain rfl:n4=k:=by omega
             have aj:Hid (∀e∈d.checks,Fm e):=λ e he=> by obtain ⟨j,hj,rfl⟩:=mem_iff_getElem.1 he;exact Hj.out j hj (by have:=ae.out;omega)
             clear Hj;go_wp2;go_ret;exact ⟨_,rfl,(λ _=> ⟨ak,aj⟩),C⟩
def SizeS (N:Nat) (w:World) (e:Ending) (w':World):Prop:=∃t:ByteArray,e=.returned (qt t)/\t.size<=N/\Below w.heap.size w w'
def nmB (l:List ByteArray):Nat:=(l.map λ x=> x.size+2).sum
theorem nmB_take (l:List ByteArray) (k:Nat) (h:k < l.length):nmB (l.take (k+1))=nmB (l.take k)+(l[k].size+2):=by
 unfold nmB;rw [<-take_append_getElem h,map_append,List.sum_append];simp
theorem nmB_le (l:List ByteArray) (k:Nat):nmB (l.take k)<=nmB l:=by
 unfold nmB
 conv=> rhs;rw [<-take_append_drop k l,map_append,List.sum_append]
 omega
theorem nmB_unif (l:List ByteArray) (M:Nat) (h:∀x∈l,x.size<=M):nmB l<=l.length * (M+2):=by
 unfold nmB
 induction l with
 | nil=> simp
 | cons x l ih=>
  have h1:=h x (by simp);have o:=ih λ y hy=> h y (by simp [hy]);simp only [map_cons,List.sum_cons,length_cons,Nat.add_mul] at *;omega
theorem aComma_calls (l:List ByteArray) (la:Option Addr) (lc:Nat) (w:World) (hl:NmsAt w l (qs la l.length lc)) (hz:nmB l<=4611686018427387904):Calls Tryz.prog 114 #[qs la l.length lc] w (SizeS (nmB l) w):=by
 have I:=hid hl;have HZ:=hid hz;have h1:l.length<=2000000000000:=by obtain ⟨_,_,e,h⟩:=hl.shape;exact h
 obtain ⟨n,F⟩:=gx l.length
 have H:=hid F;rw [F] at I h1 ⊢;clear hl F hz;go_enter Tryz.func114,Tryz.ntmps114;go_wp2;go_loopw [3,4] (λ s z wr=> ∃(k:Nat) (x:ByteArray),k<=n/\z=qi k/\s=qt x/\Hid (x.size<=nmB (l.take k))/\Hid (Below w.heap.size w wr)) (λ _ z _=> n - (intOf z).toNat)
 case atStart=> exact ⟨0,_,zero_le _,rfl,rfl,zero_le _,zi⟩
 case round=>
  obtain ⟨k,x,O,rfl,rfl,D,C⟩:=hrel;by_cases hlt:k < n
  . have A:k < l.length:=by rw [H.out];exact hlt
    have q:=I.mono NmE.mono C;rw [<-H.out] at q;obtain ⟨b,o,rfl,J,c0⟩:=NmsAt.cell q k A;have G:=hid (nmB_take l k A);have K:=hid (nmB_le l (k+1));generalize l[k]=y at *;have M:x.size+(y.size+2)<=4611686018427387904:=by have:=D.out;have:=G.out;have:=K.out;have:=HZ.out;omega
    clear q A;by_cases h0:k=0
    . subst h0
      simp only [add_zero] at c0;go_wp2;go_roundw
      case rel=> exact ⟨1,_,by omega,by go_num,rfl,(by show _<=_;rw [G.out,ByteArray.size_append];have:=D.out;omega),C⟩
      case measure=> simp [intOf];omega
    . have h0:0 < k:=by omega
      go_wp2;go_roundw
      case rel=> exact ⟨k+1,_,by omega,by go_num,rfl,(by show _<=_;rw [G.out,ByteArray.size_append,ByteArray.size_append];have:=D.out;show _+2+_<=_;omega),C⟩
      case measure=> simp [intOf];omega
  . obtain rfl:n=k:=by omega
    have L:Hid (x.size<=nmB l):=le_trans D (nmB_le l _);go_wp2;go_ret;exact ⟨_,rfl,L,C⟩
theorem aQuo_calls (s:ByteArray) (w:World) (hs:s.size<=2000000000000):Calls Tryz.prog 140 #[qt s] w (SizeS (2 * s.size+2) w):=by
 go_enter Tryz.func140,Tryz.ntmps140;go_wp2;go_loopw [3,4] (λ x z wr=> ∃(k:Nat) (t:ByteArray),k<=s.size/\z=qi k/\x=qt t/\t.size<=2 * k+1/\Hid (Below w.heap.size w wr)) (λ _ z _=> s.size - (intOf z).toNat)
 case atStart=> exact ⟨0,_,zero_le _,rfl,rfl,by decide,zi⟩
 case round=>
  obtain ⟨k,x,C,rfl,rfl,A,o⟩:=hrel;by_cases hlt:k < s.size
  . go_upto_region 5 with (fail)
    go_cut [14] from 11 to 14 (λ z wx=> ∃q:Bool,z=.bool q/\wr=wx)
    case first=> go_wp2 <;> (go_meet;exact ⟨_,rfl,rfl⟩)
    obtain ⟨q,rfl,rfl⟩:=hcut;have F:(s.extract k (k+1)).size=1:=by rw [ByteArray.size_extract];omega
    have D:(⟨#[39]⟩:ByteArray).size=1:=rfl;cases q with
    | true=>
     go_wp2;go_roundw
     case rel=> exact ⟨k+1,_,by omega,by go_num,rfl,(by simp only [ByteArray.size_append];omega),o⟩
     case measure=> simp [intOf];omega
    | false=>
     go_wp2;go_roundw
     case rel=> exact ⟨k+1,_,by omega,by go_num,rfl,(by simp only [ByteArray.size_append];omega),o⟩
     case measure=> simp [intOf];omega
  . obtain rfl:k=s.size:=by omega
    go_wp2;go_ret;exact ⟨_,rfl,(by rw [ByteArray.size_append];show _+1<=_;omega),o⟩
theorem aNum_one (n:Int) (w:World) (h1:0<=n) (h2:n < 10):Calls Tryz.prog 138 #[qi n] w (SizeS 1 w):=by
 have o:=run_convert_bytes_arg (P:=Tryz.prog) (w.alloc (.cells #[.int .u8 (48+n)] 5)) 194 5 Tryz.underlying194 Tryz.underlying5 w.heap.size 0 1 1 [48+n] rfl (λ i hi=> by
  obtain rfl:i=0:=by omega
  exact World.cell?_alloc_new w _ _ 0) 9 Tryz.underlying9
 go_enter Tryz.func138,Tryz.ntmps138;go_wp2;go_ret;exact ⟨_,rfl,lr,zi.alloc lr _⟩
def p10:Nat->Int
 | 0=> 10
 | m+1=> 10 * p10 m
theorem aNum_calls (m:Nat) (hm:m<=1000):∀(n:Int) (w:World),0<=n->n < p10 m->n<=4611686018427387904->Calls Tryz.prog 138 #[qi n] w (SizeS (m+1) w):=by
 induction m with
 | zero=> exact λ n w h1 q G=> aNum_one n w h1 q
 | succ m ih=>
  intro n w h1 q G;by_cases h4:n < 10
  . refine (aNum_one n w h1 h4).mono ?_
    rintro e D ⟨x,rfl,F,o⟩;exact ⟨x,rfl,by omega,o⟩
  . have M:n.tdiv 10=n / 10:=Int.tdiv_eq_ediv_of_nonneg h1
    have L:n.tmod 10=n % 10:=Int.tmod_eq_emod_of_nonneg h1;have I:=hid λ w=> ih (by omega) (n / 10) w (by omega) (by simp only [p10] at q;omega) (by omega);have H:=hid λ w=> aNum_one (n % 10) w (by omega) (by omega);clear q;go_enter Tryz.func138,Tryz.ntmps138;go_wp2_with fail;refine (I.out _).mono ?_;rintro e D ⟨x,rfl,F,o⟩;have C:=hid o;clear o;go_wp2_with fail;refine (H.out _).mono ?_;rintro e J ⟨y,rfl,K,o⟩;have A:=hid (C.trans (o.mono C.size));clear o;go_wp2;go_ret;exact ⟨_,rfl,(by rw [ByteArray.size_append];omega),A⟩
theorem aNum_calls' (n:Int) (w:World) (h1: -4611686018427387904<=n) (h2:n<=4611686018427387904):Calls Tryz.prog 138 #[qi n] w (SizeS 20 w):=by
 by_cases h:0<=n
 . refine (aNum_calls 18 (by decide) n w h (Int.lt_of_le_of_lt h2 (by decide)) h2).mono ?_
   rintro e q ⟨x,rfl,A,o⟩;exact ⟨x,rfl,by omega,o⟩
 . have C:=hid λ w=> aNum_calls 18 (by decide) (-n) w (by omega) (Int.lt_of_le_of_lt (show -n<=4611686018427387904 by omega) (by decide)) (by omega)
   go_enter Tryz.func138,Tryz.ntmps138;go_wp2_with fail;refine (C.out _).mono ?_;rintro e q ⟨x,rfl,A,o⟩;have D:=hid o;clear o;go_wp2;go_ret;exact ⟨_,rfl,(by rw [ByteArray.size_append];show 1+_<=_;omega),D⟩
def LvlP (w:World) (e:Ending) (w':World):Prop:=∃l:Int,e=.returned (qi l)/\(1<=l/\l<=8)/\Below w.heap.size w w'
theorem aLvl_calls (E:Ex) (a:Option Addr) (n c:Nat) (w:World):Calls Tryz.prog 139 #[.agg #[qi E.op,qt E.table,qt E.name,qi E.index,qi E.v.kind,qi E.v.int,qt E.v.text,qs a n c]] w (LvlP w):=by
 obtain ⟨op,C,nm,D,⟨q,A,o⟩,args⟩:=E;simp only [Ex.op,Ex.table,Ex.name,Ex.index,Ex.v];have H:Hid (∀t,Below w.heap.size w (w.alloc t)):=λ t=> zi.alloc lr t;go_enter Tryz.func139,Tryz.ntmps139;go_wp2 <;> (go_ret;exact ⟨_,rfl,by decide,H.out _⟩)
def strS:Value->Bool
 | .string s=> decide (s.size<=10)
 | _=> false
theorem strs_get' {w:World} {b:Nat} {C:Array Value} (hc:∀k u,C[k]? =some u->w.cell? ⟨b,k,none⟩=some u) {n:Nat} (h:(C.toList.all strS && C.size==n)=true) (k:Nat) (hk:k < n):∃x,x.size<=10/\w.cell? ⟨b,k,none⟩=some (.string x):=by
 simp only [Bool.and_eq_true,beq_iff_eq] at h;have o:k < C.size:=by omega
 have h1:=all_eq_true.1 h.1 C[k] (by simp);have q:=hc k C[k] (Array.getElem?_eq_getElem o);generalize C[k]=u at *;cases u <;> first | (cases h1;done) | exact ⟨_,of_decide_eq_true h1,q⟩
theorem aSign_calls (k:Nat) (w:World) (h:k < 20):Calls Tryz.prog 141 #[.int .i64 k] w (SizeS 10 w):=by
 go_enter Tryz.func141,Tryz.ntmps141;go_upto_region 2 with (fail)
 refine alloc_gen λ w1 hc hb=> ?_;have q:=hid (λ k hk=> strs_get' hc (n:=20) (by kernel_rfl) k hk);have o:=hid hb;clear hc hb;generalize w.heap.size=b at q ⊢;obtain ⟨x,A,c0⟩:=q.out k h;go_wp2;go_ret;exact ⟨_,rfl,A,o⟩
theorem SttAt.shapes {w:World} {s:Stt} {v:StV} (h:SttAt w s v):∃a1 n1 T a2 n2 k2 a3 n3 k3 a4 G k4 a5 n5 O a6 n6 M a7 n7 L a8 n8 K a9 F J a10 o A a11 n11 q,
 v=⟨qs a1 n1 T,qs a2 n2 k2,qs a3 n3 k3,qs a4 G k4,qs a5 n5 O,qs a6 n6 M,qs a7 n7 L,qs a8 n8 K,qs a9 F J,qs a10 o A,qs a11 n11 q⟩/\
 s.create.cols.length=n1/\n1<=2000000000000/\s.create.keys.length=n2/\n2<=2000000000000/\s.create.fks.length=n3/\n3<=2000000000000/\s.create.checks.length=G/\G<=2000000000000/\
 s.values.length=n5/\n5<=2000000000000/\s.sets.length=n6/\n6<=2000000000000/\s.items.length=n7/\n7<=2000000000000/\s.src.length=n8/\n8<=2000000000000/\s.cond.args.length=F/\F<=2000000000000/\s.group.length=o/\o<=2000000000000/\s.order.length=n11/\n11<=2000000000000:=by
 obtain ⟨v1,v2,v3,v4,v5,v6,v7,v8,v9,ab,aa⟩:=v;obtain ⟨⟨h1,h2,h3,h4⟩,h5,h6,h7,W,V,D,C⟩:=h;simp only at h1 h2 h3 h4 h5 h6 h7 W V D C;obtain ⟨a1,T,rfl,m1⟩:=h1.shape;obtain ⟨a2,k2,rfl,m2⟩:=h2.shape;obtain ⟨a3,k3,rfl,m3⟩:=h3.shape;obtain ⟨a4,G,k4,rfl,e4,m4⟩:=h4.shape;obtain ⟨a5,O,rfl,m5⟩:=h5.shape;obtain ⟨a6,M,rfl,m6⟩:=h6.shape;obtain ⟨a7,L,rfl,m7⟩:=h7.shape;obtain ⟨a8,K,rfl,m8⟩:=W.shape;obtain ⟨a9,F,J,rfl,e9,m9⟩:=V.shape;obtain ⟨a10,o,A,rfl,U,I⟩:=D.shape;obtain ⟨a11,q,rfl,H⟩:=C.shape;exact ⟨a1,_,T,a2,_,k2,a3,_,k3,a4,_,k4,a5,_,O,a6,_,M,a7,_,L,a8,_,K,a9,_,J,a10,_,A,a11,_,q,rfl,rfl,m1,rfl,m2,rfl,m3,e4.symm,m4,rfl,m5,rfl,m6,rfl,m7,rfl,m8,e9.symm,m9,U.symm,I,rfl,H⟩
theorem ItAt.cell {w:World} {xs:List Itm} {a:Option Addr} {n c:Nat} (h:LsAt 9 ItE w xs (qs a n c)) (i:Nat) (hi:i < xs.length):∃b o a1 A c1,a=some ⟨b,o,none⟩/\b < w.heap.size/\ArgsAt w xs[i].e.args (qs a1 A c1)/\
 w.cell? ⟨b,o+i * 9,none⟩=some (qi xs[i].agg)/\w.cell? ⟨b,o+i * 9+1,none⟩=some (qi xs[i].e.op)/\w.cell? ⟨b,o+i * 9+2,none⟩=some (qt xs[i].e.table)/\w.cell? ⟨b,o+i * 9+3,none⟩=some (qt xs[i].e.name)/\w.cell? ⟨b,o+i * 9+4,none⟩=some (qi xs[i].e.index)/\
 w.cell? ⟨b,o+i * 9+5,none⟩=some (qi xs[i].e.v.kind)/\w.cell? ⟨b,o+i * 9+6,none⟩=some (qi xs[i].e.v.int)/\w.cell? ⟨b,o+i * 9+7,none⟩=some (qt xs[i].e.v.text)/\w.cell? ⟨b,o+i * 9+8,none⟩=some (qs a1 A c1):=by
 obtain ⟨b,o,cs,h1,D,F,q,s,rfl,C⟩:=h.get i hi;obtain ⟨a1,A,c1,rfl,-,-⟩:=C.shape;exact ⟨b,o,a1,A,c1,h1,D,C,by simpa using q 0 (by omega),by simpa [Ex.cells] using q 1 (by omega),by simpa [Ex.cells] using q 2 (by omega),by simpa [Ex.cells] using q 3 (by omega),by simpa [Ex.cells] using q 4 (by omega),by simpa [Ex.cells] using q 5 (by omega),by simpa [Ex.cells] using q 6 (by omega),by simpa [Ex.cells] using q 7 (by omega),by simpa [Ex.cells] using q 8 (by omega)⟩
theorem SrAt.cell {w:World} {xs:List Src} {a:Option Addr} {n c:Nat} (h:LsAt 2 SrE w xs (qs a n c)) (i:Nat) (hi:i < xs.length):∃b o,a=some ⟨b,o,none⟩/\b < w.heap.size/\w.cell? ⟨b,o+i * 2,none⟩=some (qt xs[i].table)/\w.cell? ⟨b,o+i * 2+1,none⟩=some (qt xs[i].alias):=by
 obtain ⟨b,o,cs,h1,C,D,q,A⟩:=h.get i hi;subst A;exact ⟨b,o,h1,C,by simpa using q 0 (by omega),by simpa using q 1 (by omega)⟩
theorem OrAt.cell {w:World} {xs:List Ord} {a:Option Addr} {n c:Nat} (h:LsAt 2 OrE w xs (qs a n c)) (i:Nat) (hi:i < xs.length):∃b o,a=some ⟨b,o,none⟩/\b < w.heap.size/\w.cell? ⟨b,o+i * 2,none⟩=some (qi xs[i].item)/\w.cell? ⟨b,o+i * 2+1,none⟩=some (.bool xs[i].desc):=by
 obtain ⟨b,o,cs,h1,C,D,q,A⟩:=h.get i hi;subst A;exact ⟨b,o,h1,C,by simpa using q 0 (by omega),by simpa using q 1 (by omega)⟩
def ItF (x:Itm):Prop:=(0<=x.agg/\x.agg<=5)/\(x.agg=1/\x.e.op=0\/x.agg≠1/\Fm x.e)
structure SttS (s:Stt):Prop where
 table:s.table.size<=2000000
 name:s.name.size<=2000000
 create:DfS s.create
 values:∀x∈s.values,∀e∈x,ExS e
 sets:∀x∈s.sets,x.col.size<=2000000/\ExS x.e
 items:∀x∈s.items,ExS x.e
 src:∀x∈s.src,x.table.size<=2000000/\x.alias.size<=2000000
 cond:ExS s.cond
 group:∀x∈s.group,ExS x
def SelF (s:Stt):Prop:=(∀x∈s.items,ItF x)/\(∀x∈s.group,x.op=2/\Fm x)/\(∀x∈s.order,1<=x.item/\x.item<=2147483648)/\0 < s.src.length/\0<=s.limit/\s.limit<=2147483648
theorem wpList_load_stmt {ops:Array Oper} {rest:List Oper} {op:Oper} {a:Act} {w:World} {Q:Exit->Act->World->Prop} (hgd:op.guard=none) (x:Operand) (ho:op.op=.load 40 x) (b:Nat) (hx:a.eval x=.pointer (some ⟨b,0,none⟩)) {cs:List Value} (h:∀j,w.cell? ⟨b,j,none⟩=cs.toArray[j]?) (hl:cs.length=22)
 (hK:wpList Tryz.prog ops Q rest (a.put op.dst (.agg cs.toArray)) w):wpList Tryz.prog ops Q (op::rest) a w:=
 wpList_load_mid hgd 40 x ho b 0 hx cs _ (λ j v hv=> by rw [zero_add,h j];simpa using hv) Tryz.underlying40 rfl (by rw [hl];kernel_rfl) hK
theorem empty_of'' {s:ByteArray} (h:s.toList=[]):s=⟨#[]⟩:=(toList_nil_iff_emptyBytes s).1 h
theorem Tryz.info41':(Tryz.prog.info? 41).map (λ i=> (i.zero,i.size,i.bytes))=some (some (q0),1,24):=by kernel_rfl
inductive GVs (w:World) (B:Nat):List (List Rw)->List Value->Prop
 | nil:GVs w B [] []
 | cons {G:List Rw} {x:Value} {Gs:List (List Rw)} {xs:List Value} (h:RowsOwn w B G x) (hne:∀y∈xs,∀k,x.ownBlock=some k->y.ownBlock≠some k) (t:GVs w B Gs xs):GVs w B (G::Gs) (x::xs)
theorem GVs.length {w:World} {B:Nat} {Gs:List (List Rw)} {xs:List Value} (h:GVs w B Gs xs):xs.length=Gs.length:=by
 induction h with
 | nil=> rfl
 | cons _ _ _ ih=> simp [ih]
theorem RowsOwn.kept {w w':World} {B:Nat} {G:List Rw} {x:Value} {row:Option Nat} (h:RowsOwn w B G x) (hg:w.grownBy w' row) (hr:∀k,row=some k->B<=k/\x.ownBlock≠some k/\∀q fr,w.heap[k]? ≠some (.cells q 35 fr)):RowsOwn w' B G x:=by
 obtain ⟨M,h1,D,K⟩:=h;refine ⟨M,h1.kept hg ?_,?_⟩
 . cases hx:x.ownBlock with
   | none=> exact .inl rfl
   | some k=>
    right;intro e;exact (hr k e.symm).2.1 hx
 . clear h1
   induction D with
   | nil=> exact ⟨.nil,by simp⟩
   | @cons r y L ys a _ ih=>
    obtain ⟨U,T⟩:=ih λ z C=> K z (mem_cons_of_mem _ C);have hf:=K y (by simp);have I:ValsAt w' r y/\Far w' B y:=by
     cases a with
     | mt=>
      refine ⟨.mt,λ ad n' c hx hn'=> ?_⟩;injection hx with _ D;omega
     | lie _ b o n' cap hn hlt hm hc ht=>
      by_cases h0:0 < n'
      . have J:some b≠row:=by
         intro e;obtain ⟨V,-,O⟩:=hr b e.symm;rcases hf ⟨b,o,none⟩ n' cap rfl h0 with A | ⟨q,fr,A⟩
         . have:b < B:=A
           omega
         . exact O q fr A
        refine ⟨.lie _ b o n' cap hn (lt_of_lt_of_le hlt hg.size) hm (λ i hi j hj=> ?_) ht,λ ad n2 c2 hx hn2=> ?_⟩
        . exact (World.cell?_of_block (a:=⟨b,o+i * 3+j,none⟩) (hg.block b hlt J)).trans (hc i hi j hj)
        . injection hx with hx1
          injection hx1 with hx1;subst hx1;rcases hf _ _ _ rfl h0 with A | ⟨q,fr,A⟩
          . exact .inl A
          . exact .inr ⟨q,fr,(hg.block b hlt J).trans A⟩
      . have H:r=[]:=by
         cases r with
         | nil=> rfl
         | cons=> simp at hn;omega
        have F:n'=0:=by omega
        subst H F;refine ⟨.lie _ b o 0 cap rfl (lt_of_lt_of_le hlt hg.size) hm (λ i hi=> by simp at hi) ht,λ ad n2 c2 hx hn2=> ?_⟩;injection hx with _ D;omega
    refine ⟨.cons I.1 U,λ z C=> ?_⟩;rcases mem_cons.1 C with rfl | C
    . exact I.2
    . exact T z C
theorem GVs.kept {w w':World} {B:Nat} {Gs:List (List Rw)} {xs:List Value} {row:Option Nat} (h:GVs w B Gs xs) (hg:w.grownBy w' row) (hr:∀k,row=some k->B<=k/\(∀x∈xs,x.ownBlock≠some k)/\∀cur fr,w.heap[k]? ≠some (.cells cur 35 fr)):GVs w' B Gs xs:=by
 induction h with
 | nil=> exact .nil
 | cons h hne t ih=>
  exact .cons (h.kept hg λ k hk=> ⟨(hr k hk).1,(hr k hk).2.1 _ (by simp),(hr k hk).2.2⟩) hne (ih λ k hk=> ⟨(hr k hk).1,λ x hx=> (hr k hk).2.1 x (mem_cons_of_mem _ hx),(hr k hk).2.2⟩)
theorem RowsOwn.type {w:World} {B:Nat} {G:List Rw} {x:Value} (h:RowsOwn w B G x) {k:Nat} (hk:x.ownBlock=some k):∃o fr,w.heap[k]? =some (.cells o 60 fr):=by
 obtain ⟨A,⟨_,⟨rfl,_⟩ | ⟨g,cap,o,rfl,_,q,_⟩⟩,_⟩:=h
 . simp [Value.ownBlock] at hk
 . simp only [Value.ownBlock,Option.some.injEq] at hk
   subst hk;exact ⟨_,_,q⟩
theorem GVs.type {w:World} {B:Nat} {Gs:List (List Rw)} {xs:List Value} (h:GVs w B Gs xs):∀x∈xs,∀k,x.ownBlock=some k->k < w.heap.size/\∃o fr,w.heap[k]? =some (.cells o 60 fr):=by
 induction h with
 | nil=> intro x q;cases q
 | cons h _ _ ih=>
  intro x q k A;rcases mem_cons.1 q with rfl | q
  . obtain ⟨o,fr,e⟩:=h.type A
    exact ⟨(Array.getElem?_eq_some_iff.1 e).1,o,fr,e⟩
  . exact ih x q k A
theorem GVs.snoc {w:World} {B:Nat} {Gs:List (List Rw)} {xs:List Value} (h:GVs w B Gs xs) {G:List Rw} {x:Value} (hx:RowsOwn w B G x) (hne:∀y∈xs,∀k,x.ownBlock=some k->y.ownBlock≠some k):GVs w B (Gs++[G]) (xs++[x]):=by
 induction h with
 | nil=> exact .cons hx (by simp) .nil
 | cons h hne' t ih=>
  refine .cons h (λ y o k hk=> ?_) (ih λ y o=> hne y (mem_cons_of_mem _ o));rcases mem_append.1 o with o | o
  . exact hne' y o k hk
  . rw [mem_singleton.1 o]
    intro e;exact hne _ (by simp) k e hk
theorem GVs.unsnoc {w:World} {B:Nat} {Gs:List (List Rw)} {G:List Rw} {zs:List Value} (h:GVs w B (Gs++[G]) zs):∃o x,zs=o++[x]/\GVs w B Gs o/\RowsOwn w B G x/\∀y∈o,∀k,x.ownBlock=some k->y.ownBlock≠some k:=by
 induction Gs generalizing zs with
 | nil=>
  cases h with
  | cons h hne t=>
   cases t;exact ⟨[],_,rfl,.nil,h,by simp⟩
 | cons G' Gs ih=>
  cases h with
  | @cons _ x0 _ xs0 h hne t=>
   obtain ⟨o,x,rfl,h1,C,A⟩:=ih t;refine ⟨x0::o,x,rfl,.cons h (λ y q=> hne y (by simp [q])) h1,C,λ y q k hk=> ?_⟩;rcases mem_cons.1 q with rfl | q
   . intro e
     exact hne x (by simp) k e hk
   . exact A y q k hk
theorem GVs.mono {w w':World} {B:Nat} {Gs:List (List Rw)} {xs:List Value} (h:GVs w B Gs xs) (hb:Below w.heap.size w w'):GVs w' B Gs xs:=by
 induction h with
 | nil=> exact .nil
 | cons h hne t ih=> exact .cons (h.mono hb) hne ih
def GOwn (w:World) (B:Nat) (Gs:List (List Rw)) (v:Value):Prop:=∃xs,w.ownsRow B 41 1 v Gs.length xs/\GVs w B Gs xs
theorem GOwn.mono {w w':World} {B:Nat} {Gs:List (List Rw)} {v:Value} (h:GOwn w B Gs v) (hb:Below w.heap.size w w'):GOwn w' B Gs v:=by
 obtain ⟨o,h1,q⟩:=h;exact ⟨o,own_below h1 hb,q.mono hb⟩
theorem GOwn.nil (w:World) (B:Nat):GOwn w B [] (q0):=⟨[],World.ownsRow_nil _ _ _ _,.nil⟩
theorem GOwn.shape {w:World} {B:Nat} {Gs:List (List Rw)} {v:Value} (h:GOwn w B Gs v):∃a c,v=qs a Gs.length c:=by
 obtain ⟨q,⟨hl,⟨rfl,e⟩ | ⟨g,cap,o,rfl,_⟩⟩,A⟩:=h
 . exact ⟨none,0,by rw [show Gs.length=0 from by assumption]⟩
 . exact ⟨_,_,rfl⟩
theorem GOwn.last {w:World} {B:Nat} {Gs:List (List Rw)} {G:List Rw} {v:Value} (h:GOwn w B (Gs++[G]) v):
 ∃g c x,v=qs (some ⟨g,0,none⟩) (Gs.length+1) c/\B<=g/\g < w.heap.size/\w.cell? ⟨g,Gs.length,none⟩=some x/\w.frozen? ⟨g,Gs.length,none⟩=false/\RowsOwn w B G x/\
  ∀(w1 w':World) (G':List Rw) (v':Value),Below w.heap.size w w1->B<=w.heap.size->RowsOwn w' B G' v'->w1.grownBy w' x.ownBlock->(∀k,v'.ownBlock=some k->x.ownBlock=some k\/w1.heap.size<=k)->
   g < w'.heap.size/\(∃y,w'.cell? ⟨g,Gs.length,none⟩=some y)/\w'.frozen? ⟨g,Gs.length,none⟩=false/\GOwn (w'.setCell ⟨g,Gs.length,none⟩ v') B (Gs++[G']) v:=by
 obtain ⟨zs,h1,h2⟩:=h;obtain ⟨xs,x,rfl,h3,h4,h5⟩:=h2.unsnoc;have hl:=h3.length;obtain ⟨ab,⟨rfl,e⟩ | ⟨g,cap,D,rfl,hb,hg,hn,hc,hs,ht⟩⟩:=id h1
 . simp at e
 . have K:(Gs++[G]).length=Gs.length+1:=by simp
   rw [K] at h1;have L:=(Array.getElem?_eq_some_iff.1 hg).1;refine ⟨g,cap,x,by rw [K],hb,L,?_,h1.frozenAt _,h4,λ w1 w' G' v' hb1 hB hr' hgr hown=> ?_⟩
   . rw [h1.cellAt Gs.length (by omega),getElem?_append_right (by omega),hl,Nat.sub_self];rfl
   . have aa:=own_below h1 hb1
     have U:=h3.mono hb1;have M:=h4.mono hb1;have T:w1.heap[g]? =some (.cells D 41 (0,0)):=(hb1.block g L).trans hg;have O:x.ownBlock≠some g:=by intro e;obtain ⟨F,fr,C⟩:=M.type e;rw [T] at C;injection C with C;injection C with _ e3;exact absurd e3 (by decide)
     have H:=lt_of_lt_of_le L hb1.size;have A:=aa.kept hgr (by right;intro e;exact O e.symm);have I:=U.kept hgr λ k q=> by
      obtain ⟨F,fr,C⟩:=M.type q;refine ⟨?_,λ y hy=> h5 y hy k q,λ cur' fr' e3=> ?_⟩
      . obtain ⟨_,q1,_⟩:=M
        exact (q1.lt k q).1
      . rw [C] at e3
        injection e3 with e3;injection e3 with _ e4;exact absurd e4 (by decide)
     have J:=A.stored Gs.length v';have W:w'.heap[g]? =some (.cells D 41 (0,0)):=(hgr.block g H (λ e=> O e.symm)).trans T;have o:∀k,some g=some k->B<=k/\(∀D fr,w'.heap[k]? ≠some (.cells D 35 fr))/\∀F fr,w'.heap[k]? ≠some (.cells F 60 fr):=by intro k q;injection q with q;subst q;refine ⟨hb,λ F fr e3=> ?_,λ F fr e3=> ?_⟩ <;> (rw [W] at e3;injection e3 with e3;injection e3 with _ e4;exact absurd e4 (by decide))
     refine ⟨lt_of_lt_of_le H hgr.size,⟨x,?_⟩,A.frozenAt _,⟨xs++[v'],?_,?_⟩⟩
     . rw [A.cellAt Gs.length (by omega),getElem?_append_right (by omega),hl,Nat.sub_self];rfl
     . have V:(Gs++[G']).length=Gs.length+1:=by simp
       rw [V,K];have:=J.1
       rwa [List.set_append_right _ _ (by omega),hl,Nat.sub_self,List.set_cons_zero] at this
     . refine (I.kept J.2 λ k q=> ⟨(o k q).1,λ y hy e=> ?_,(o k q).2.1⟩).snoc (hr'.kept J.2 λ k q=> ⟨(o k q).1,λ e=> ?_,(o k q).2.1⟩) λ y hy k q e=> ?_
       . obtain ⟨_,F,fr,C⟩:=I.type y hy k e
         exact (o k q).2.2 F fr C
       . obtain ⟨F,fr,C⟩:=hr'.type e
         exact (o k q).2.2 F fr C
       . obtain ⟨q1,_⟩:=U.type y hy k e
         rcases hown k q with h9 | h9
         . exact h5 y hy k h9 e
         . omega
def GsAt (w:World) (Gs:List (List Rw)) (v:Value):Prop:=∃a n c,v=qs a n c/\n=Gs.length/\∀i (h:i < Gs.length),∃b o x,a=some ⟨b,o,none⟩/\b < w.heap.size/\w.cell? ⟨b,o+i,none⟩=some x/\RowsAt w Gs[i] x
theorem GVs.get {w:World} {B:Nat} {Gs:List (List Rw)} {xs:List Value} (h:GVs w B Gs xs) (i:Nat) (hi:i < Gs.length):∃x,xs[i]? =some x/\RowsOwn w B Gs[i] x:=by
 induction h generalizing i with
 | nil=> simp at hi
 | cons h _ _ ih=>
  cases i with
  | zero=> exact ⟨_,rfl,h⟩
  | succ i=> exact ih i (by simpa using hi)
theorem GOwn.at {w:World} {B:Nat} {Gs:List (List Rw)} {v:Value} (h:GOwn w B Gs v):GsAt w Gs v:=by
 obtain ⟨F,h1,C⟩:=h;obtain ⟨hl,⟨rfl,e⟩ | ⟨g,cap,D,rfl,J,o,H,I,G,ht⟩⟩:=id h1
 . exact ⟨none,0,0,rfl,by omega,λ i hi=> by omega⟩
 . refine ⟨_,_,_,rfl,rfl,λ i hi=> ?_⟩
   obtain ⟨x,A,q⟩:=C.get i hi;refine ⟨g,0,x,rfl,(Array.getElem?_eq_some_iff.1 o).1,?_,q.at⟩;rw [zero_add,h1.cellAt i (by omega),A]
theorem GsAt.mono {w w':World} {Gs:List (List Rw)} {v:Value} (h:GsAt w Gs v) (hb:Below w.heap.size w w'):GsAt w' Gs v:=by
 obtain ⟨a,n,c,rfl,A,C⟩:=h;refine ⟨a,n,c,rfl,A,λ i hi=> ?_⟩;obtain ⟨b,o,x,h1,q,F,D⟩:=C i hi;exact ⟨b,o,x,h1,lt_of_lt_of_le q hb.size,(hb.cell (p:=⟨b,o+i,none⟩) q).trans F,D.mono hb⟩
theorem wpList_rowB {w:World} {ops:Array Oper} {rest:List Oper} {o:Oper} {a:Act} {Q:Exit->Act->World->Prop} (hgd:o.guard=none) (s x:Operand)
 (ho:o.op=.call { callee:=.builtin .append,args:=#[s,x],argTypes:=#[41,41] })
 (B:Nat) (L:List Rw) (R:Rw) (v:Value) (hs:a.eval s=v) (hown:RowsOwn w B L v) (g:Nat) (c:Nat) (y:Value) (q:a.eval x=qs (some ⟨g,0,none⟩) 1 c)
 (hc:w.cell? ⟨g,0,none⟩=some y) (hy:ValsAt w R y) (hf:Far w B y)
 (hlen:L.length+1<=1099511627776) (hB:B<=w.heap.size)
 (h:∀A w',RowsOwn w' B (L++[R]) A->w.grownBy w' v.ownBlock->(∀k,A.ownBlock=some k->v.ownBlock=some k\/w.heap.size<=k)->wpList Tryz.prog ops Q rest (a.put o.dst A) w'):wpList Tryz.prog ops Q (o::rest) a w:=by
 obtain ⟨M,K,G,F,D⟩:=info_parts Tryz.info60';obtain ⟨J,h1,U,T⟩:=hown;have C:RowVs w [R] [y]:=.one hy;refine wpList_append_block w hgd s x 41 ho B 60 M (q0) 1 24 Tryz.underlying41 K G F D rfl (by decide) v _ J hs h1 ⟨g,0,none⟩ 1 c [y] q rfl (λ j u hj=> ?_) C.one' (by decide) (by unfold maxLen;omega) (by omega) hB ?_
 . match j,hj with
   | 0,hj=> simp at hj;subst hj;simpa [Addr.add] using hc
 intro A w' H I O;have a1:=U.grown T h1 I;have a2:=C.grown (by simpa using hf) h1 I;refine h A w' ⟨J++[y],by rw [length_append];exact H,a1.1.append a2.1,λ x q=> ?_⟩ I O;rcases mem_append.1 q with q | q
 . exact a1.2 x q
 . exact a2.2 x q
theorem wpList_group {w:World} {ops:Array Oper} {rest:List Oper} {o:Oper} {a:Act} {Q:Exit->Act->World->Prop} (hgd:o.guard=none) (s x:Operand)
 (ho:o.op=.call { callee:=.builtin .append,args:=#[s,x],argTypes:=#[56,56] })
 (B:Nat) (Gs:List (List Rw)) (v:Value) (hs:a.eval s=v) (hown:GOwn w B Gs v) (g:Nat) (c:Nat) (hx:a.eval x=qs (some ⟨g,0,none⟩) 1 c)
 (hc:w.cell? ⟨g,0,none⟩=some (q0)) (hlen:Gs.length+1<=1099511627776) (hB:B<=w.heap.size)
 (h:∀D w',GOwn w' B (Gs++[[]]) D->Below B w w'->wpList Tryz.prog ops Q rest (a.put o.dst D) w'):wpList Tryz.prog ops Q (o::rest) a w:=by
 obtain ⟨O,M,H,G,F⟩:=info_parts Tryz.info41';obtain ⟨J,h1,L⟩:=hown;refine wpList_append_own w hgd s x 56 ho B 41 O (q0) 1 24 Tryz.underlying56 M H G F rfl (by decide) v _ J hs h1 ⟨g,0,none⟩ 1 c [q0] hx rfl (λ j u hj=> ?_) (by intro u T;rw [mem_singleton.1 T];rfl) (by unfold maxLen;omega) (by omega) hB ?_
 . match j,hj with
   | 0,hj=> simp at hj;subst hj;simpa [Addr.add] using hc
 intro D w' I K _;refine h D w' ⟨J++[q0],by rw [length_append];exact I,?_⟩ (zi.grown K hB λ k hk=> (h1.lt k hk).1);refine (L.kept K λ k hk=> ⟨(h1.lt k hk).1,λ y hy e=> ?_,λ cur fr e=> ?_⟩).snoc (RowsOwn.nil w' B) λ y hy k hk=> by simp [Value.ownBlock] at hk
 . obtain ⟨_,V,fr,A⟩:=L.type y hy k e
   obtain ⟨_,⟨rfl,_⟩ | ⟨U,cap,C,rfl,_,q,_⟩⟩:=h1
   . simp [Value.ownBlock] at hk
   . simp only [Value.ownBlock,Option.some.injEq] at hk
     subst hk;rw [q] at A;injection A with A;injection A with _ e3;exact absurd e3 (by decide)
 . obtain ⟨_,⟨rfl,_⟩ | ⟨U,cap,C,rfl,_,q,_⟩⟩:=h1
   . simp [Value.ownBlock] at hk
   . simp only [Value.ownBlock,Option.some.injEq] at hk
     subst hk;rw [q] at e;injection e with A;injection A with _ e3;exact absurd e3 (by decide)
section
open Go.Sort
def VlE (_:World) (v:Vl) (cs:List Value):Prop:=cs=[qi v.kind,qi v.int,qt v.text]/\v.text.size<=maxLen
theorem vals_of {w:World} {R:Rw} {s:Value} (h:LsAt 3 VlE w R s):ValsAt w R s:=by
 rcases h with ⟨rfl,b,rfl⟩ | ⟨b,o,n,c,rfl,rfl,D,F,q⟩
 . exact .mt
 . refine .lie _ b o _ c rfl D (by first | omega | (unfold maxLen;omega)) (λ i hi j hj=> ?_) λ v hv=> ?_
   . obtain ⟨cs,-,C,rfl,-⟩:=q i hi
     exact C j hj
   . obtain ⟨i,hi,rfl⟩:=mem_iff_getElem.1 hv
     obtain ⟨cs,-,-,-,A⟩:=q i hi;exact A
theorem one_vl {a b:Int} {t:ByteArray}:∀u∈[qi a,qi b,qt t],u.oneCell'=true:=by
 intro u o;simp only [mem_cons,not_mem_nil,or_false] at o;rcases o with rfl | rfl | rfl <;> rfl
def RowP (R:Rw) (w:World) (e:Ending) (w':World):Prop:=∃v,e=.returned v/\Ind (λ j=> j < w.heap.size) w' (λ w=> ValsAt w R v)/\(∃a n c,v=qs a n c)/\Below w.heap.size w w'
theorem rKey_calls (bd:Bd) (es:List Xp) (R:Rw) (s:Value) (w:World) (he:XpsAt w es (qs bd.group.a bd.group.n bd.group.c)) (hs:ValsAt w R s) (hf:KeyFit es R.length) (hl:es.length < 1000000000):
 Calls Tryz.prog 36 #[.agg bd.arr,s] w (RowP (keyV es R) w):=by
 obtain ⟨ra,rn,rc,rfl,G,-⟩:=hs.shape;have HA:=hid (show bd.arr[18]? =some (qs bd.group.a bd.group.n bd.group.c) from rfl);have I:es.length=bd.group.n:=by obtain ⟨_,_,_,e,h,-⟩:=he.shape;exact ((Value.slice.inj e).2.1.trans h).symm
 have HE:=hid he;have HS:=hid hs;have HF:=hid hf;have M:=hid G;have O:=hid I;have al:bd.group.n < 1000000000:=by omega
 have F:(w.alloc (.cells bd.arr 46)).heap[w.heap.size]? =some (.cells bd.arr 46 (0,0)):=heap_alloc_new w _;have L:Below w.heap.size w (w.alloc (.cells bd.arr 46)):=zi.alloc lr _;obtain ⟨i0,ii,aa,W,V⟩:=info_parts Tryz.info35';clear he hs hf G hl I;generalize bd.arr=A at *;generalize bd.group.a=ga at *;generalize bd.group.n=gn at *;generalize bd.group.c=gc at *;have HC:Hid ((w.alloc (.cells A 46)).cell? ⟨w.heap.size,18,none⟩=some (qs ga gn gc)):=(cell_of_row _ _ _ _ _ _ F).trans HA;have ad:Hid ((w.alloc (.cells A 46)).heap.size=w.heap.size+1):=by show _=_;simp
 have af:=hid L;clear F L;go_enter Tryz.func36,Tryz.ntmps36;go_upto_region 1 with (fail)
 generalize w.alloc (.cells A 46)=W0 at *;go_wp2;go_loopw [5,6] (λ v z wr=> ∃k:Nat,k<=gn/\z=qi k/\Hid (Bl 35 3 VlE (w.heap.size+1) (λ j=> j < w.heap.size+1) wr (keyV (es.take k) R) v)/\Hid (Below (w.heap.size+1) W0 wr)) (λ _ z _=> gn - (intOf z).toNat)
 case atStart=> exact ⟨0,zero_le _,rfl,Bl.nil _ _ _ _ _ _,zi⟩
 case round=>
  obtain ⟨k,hk,rfl,U,T⟩:=hrel;have Hw:=hid (af.trans (T.mono (le_succ _)));have ac:=(T.cell (p:=⟨w.heap.size,18,none⟩) (lt_succ_self _)).trans HC;by_cases hlt:k < gn
  . have D:k < es.length:=by rw [O.out];exact hlt
    obtain ⟨b,o,rfl,ab,hc⟩:=(HE.mono Hw).at k D;have J:=HF.out _ (getElem_mem D);have d3:=hc 3 (by omega);have HT:Hid (keyV (es.take (k+1)) R=keyV (es.take k) R++[R.getD es[k].idx.toNat nilV]):=by show _=_;rw [take_succ_eq_append_getElem D];unfold keyV;rw [map_append];rfl
    have ai:Hid ((keyV (es.take k) R).length=k):=by show _=_;unfold keyV;rw [length_map,length_take];omega
    simp only [Xp.cells,getElem?_cons_zero,getElem?_cons_succ] at d3;generalize es[k]=x at *;obtain ⟨q,hq⟩:∃q:Nat,x.idx=q:=⟨x.idx.toNat,by omega⟩
    rw [hq] at d3 J HT;have C:q < R.length:=by omega
    obtain ⟨b2,o2,rfl⟩:=ValsAt.has HS q (by have:=M.out;omega);obtain ⟨y0,y1,y2⟩:=(HS.mono Hw).cell q C;have ah:=hid (HS.txt R[q] (getElem_mem C));have ag:Hid (keyV (es.take (k+1)) R=keyV (es.take k) R++[R[q]]):=by show _=_;rw [HT.out];simp [getD_eq_getElem?_getD,C]
    generalize R[q]=y at *;have q0:(0:Int)<=(q:Int):=by omega
    have q1:(q:Int) < (rn:Int):=by have:=M.out;omega
    have k0:(0:Int)<=(k:Int):=by omega
    have k1:(k:Int) < (gn:Int):=by omega
    clear hc D ab J hq C HT;have aj:Hid (w.heap.size+1<=wr.heap.size):=by have:=T.size;have:=ad.out;show _<=_;omega
    go_wp2_with (at_builtin;go_loud (refine wpList_push (E:=VlE) rfl _ _ 60 rfl i0 _ 32 Tryz.underlying60 ii aa W V rfl (by decide) (by decide) rfl U.out y [qi y.kind,qi y.int,qt y.text] 35 rfl rfl one_vl (Ind.triv λ _=> ⟨rfl,ah.out⟩) ?hl aj.out (λ j h=> h) ?_))
    case hl=> rw [ai.out];omega
    intro v' w2 ak K _ _;have ae:=hid (T.trans K);clear K ac d3 y0 y1 y2;go_wp2;go_roundw
    case rel=> exact ⟨k+1,by omega,by go_num,by rw [ag.out];exact ak,ae⟩
    case measure=> simp [intOf];omega
  . obtain rfl:gn=k:=by omega
    have H:(keyV (es.take gn) R).length<=2000000000000:=by unfold keyV;rw [length_map,length_take];omega
    have HR:=hid (((U.done H).sub (Y:=λ j=> j < w.heap.size) λ j _ (h:j < w.heap.size)=> ⟨by omega,λ e=> by have:=(U.ge j e).1;omega⟩).imp λ _ h=> vals_of h);clear H;rw [<-O.out,take_length] at HR;obtain ⟨va,vc,rfl⟩:=U.shape;go_wp2;go_ret;exact ⟨_,rfl,HR,⟨_,_,_,rfl⟩,Hw⟩
end
end
end Go.Proofs.YtcomoomndgbckaaGreat
