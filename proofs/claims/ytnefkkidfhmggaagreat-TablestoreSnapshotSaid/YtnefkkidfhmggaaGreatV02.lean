/- Part 2 of the proof: Ec, Tl, Tm, Kd, Fa, N0, N1, P2, O0, Lm, Ao, Cm -/
import Derived.Test.YtnefkkidfhmggaaGreatV01
import Derived.Test.YtnefkkidfhmggaaGreatV00
import Derived.Test.YtnefkkidfhmggaaGreatProg
import Derived.Deep.AppendSrc
import Derived.Laws.Cover1
import Derived.Laws.Strings
set_option maxHeartbeats 16000000
set_option maxRecDepth 100000
namespace Go.Proofs.YtnefkkidfhmggaaGreat
open Go Go.RowKit
noncomputable section
theorem cmpB_pre (p a b:List UInt8):Lib.compareBytes (p++a) (p++b)=Lib.compareBytes a b:=by
 induction p with
 | nil=> rfl
 | cons c p ih=>
  rw [List.cons_append,List.cons_append,Lib.compareBytes];simp [UInt8.lt_irrefl,ih]
theorem cmpB_head {c d:UInt8} (h:c < d) (a b:List UInt8):Lib.compareBytes (c::a) (d::b)= -1:=by
 rw [Lib.compareBytes,if_pos h]
theorem cmpB_nil_le (a:List UInt8):¬ Lib.compareBytes a [] < 0:=by
 cases a <;> simp [Lib.compareBytes]
theorem cmpB_le_app (p x:List UInt8):¬ Lib.compareBytes (p++x) p < 0:=by
 have:=cmpB_pre p x [];rw [List.append_nil] at this;rw [this];exact cmpB_nil_le x
def beL:Nat->Nat->List UInt8
 | 0,_=> []
 | k+1,u=> UInt8.ofNat (u / 256 ^ k % 256)::beL k u
theorem beL_lt:∀(k u v:Nat) (x y:List UInt8),u % 256 ^ k < v % 256 ^ k->Lib.compareBytes (beL k u++x) (beL k v++y) < 0
 | 0,u,v,_,_,h=> by simp [Nat.mod_one] at h
 | k+1,u,v,x,y,h=> by
  rw [Nat.pow_succ,Nat.mod_mul,Nat.mod_mul] at h;have hp:0 < 256 ^ k:=Nat.pow_pos (by decide);have h1:=Nat.mod_lt u hp;have h2:=Nat.mod_lt v hp;have h3:u / 256 ^ k % 256 < 256:=Nat.mod_lt _ (by decide);have h4:v / 256 ^ k % 256 < 256:=Nat.mod_lt _ (by decide);rw [beL,beL,List.cons_append,List.cons_append];by_cases e:u / 256 ^ k % 256=v / 256 ^ k % 256
  · rw [e] at h ⊢
    have:=beL_lt k u v x y (by omega);rw [Lib.compareBytes];simp only [UInt8.lt_irrefl,if_false];exact this
  · have hlt:u / 256 ^ k % 256 < v / 256 ^ k % 256:=by
     apply Classical.byContradiction;intro hn;have h5:v / 256 ^ k % 256+1<=u / 256 ^ k % 256:=by omega
     have h6:=Nat.mul_le_mul_left (256 ^ k) h5;rw [Nat.mul_add,Nat.mul_one] at h6;omega
    rw [cmpB_head (by rw [UInt8.lt_iff_toNat_lt,UInt8.toNat_ofNat_of_lt' h3,UInt8.toNat_ofNat_of_lt' h4];exact hlt)];decide
theorem numL_be (n:Int):numL n=beL 8 (uN n):=by
 simp [numL,beL,List.range,List.range.loop,numB]
theorem uN_lt {n:Int} (h:I64 n):uN n < 256 ^ 8:=by
 obtain ⟨h1,h2⟩:=h;unfold uN;omega
theorem numL_lt {a b:Int} (ha:I64 a) (hb:I64 b) (h:a < b) (x y:List UInt8):Lib.compareBytes (numL a++x) (numL b++y) < 0:=by
 rw [numL_be,numL_be];refine beL_lt 8 _ _ x y ?_;rw [Nat.mod_eq_of_lt (uN_lt ha),Nat.mod_eq_of_lt (uN_lt hb)];obtain ⟨h1,h2⟩:=ha;obtain ⟨h3,h4⟩:=hb;unfold uN;omega
theorem numL_length (n:Int):(numL n).length=8:=by simp [numL]
theorem numL_inj {a b:Int} (ha:I64 a) (hb:I64 b) (h:numL a=numL b):a=b:=by
 rcases Int.lt_trichotomy a b with h1 | h1 | h1
 · have:=numL_lt ha hb h1 [] []
   rw [h,cmpB_zero.2 rfl] at this;omega
 · exact h1
 · have:=numL_lt hb ha h1 [] []
   rw [h,cmpB_zero.2 rfl] at this;omega
theorem tail_inj {x y:List UInt8} {a b:Int} (ha:I64 a) (hb:I64 b) (h:x++numL a=y++numL b):x=y/\a=b:=by
 have:=List.append_inj' h (by rw [numL_length,numL_length]);exact ⟨this.1,numL_inj ha hb this.2⟩
def escB (c:UInt8):List UInt8:=if c<=1 then [1,c+1] else [c]
def encL (x:Vl):List UInt8:=if x.kind=1 then 2::numL x.int else if x.kind=2 then 3::((bytes x.text).flatMap escB++[0]) else [1]
def encR (r:Rw):List UInt8:=r.flatMap encL
def nullV:Vl:=⟨0,0,⟨#[]⟩⟩
def colV (r:Rw) (c:Int):Vl:=if 0<=c then r.getD c.toNat nullV else nullV
def keyL (r:Rw) (cs:List Int):List UInt8:=cs.flatMap λ c=> encL (colV r c)
def textOf (l:List UInt8):ByteArray:=⟨l.toArray⟩
theorem bytes_textOf (l:List UInt8):bytes (textOf l)=l:=by simp [bytes,textOf]
theorem textOf_append (l m:List UInt8):textOf l++textOf m=textOf (l++m):=by
 apply bytes_inj;simp [bytes,textOf]
def ixKey (id:Int) (r:Rw) (cs:List Int):ByteArray:=textOf (keyL r cs++numL id)
theorem ixKey_inj {a b:Int} (ha:I64 a) (hb:I64 b) {r s:Rw} {cs:List Int} (h:ixKey a r cs=ixKey b s cs):a=b:=by
 have h1:=congrArg bytes h;rw [ixKey,ixKey,bytes_textOf,bytes_textOf] at h1;exact (tail_inj ha hb h1).2
theorem esc_ok {s:ByteArray} (h:prS s=true):(bytes s).flatMap escB=bytes s/\∀c∈bytes s,(0:UInt8) < c:=by
 unfold prS at h;generalize bytes s=l at *
 induction l with
 | nil=> exact ⟨rfl,by simp⟩
 | cons c l ih=>
  rw [List.all_cons,Bool.and_eq_true] at h;obtain ⟨h1,h2⟩:=ih h.2;have h3:¬ c < 32:=by intro e;have:=h.1;simp [prB,e] at this
  rw [UInt8.lt_iff_toNat_lt] at h3;have e32:(32:UInt8).toNat=32:=rfl;have h4:¬ c<=1:=by rw [UInt8.le_iff_toNat_le];have e1:(1:UInt8).toNat=1:=rfl;omega
  refine ⟨by rw [List.flatMap_cons,h1,escB,if_neg h4];rfl,λ d hd=> ?_⟩;rcases List.mem_cons.1 hd with rfl | hd
  · rw [UInt8.lt_iff_toNat_lt]
    have e0:(0:UInt8).toNat=0:=rfl;omega
  · exact h2 d hd
theorem text_lt:∀(a b x y:List UInt8),(∀c∈b,(0:UInt8) < c)->Lib.compareBytes a b < 0->Lib.compareBytes (a++[0]++x) (b++[0]++y) < 0
 | [],[],_,_,_,h=> by simp [Lib.compareBytes] at h
 | [],d::b,x,y,h0,_=> by rw [List.nil_append,List.cons_append,List.cons_append,List.cons_append,cmpB_head (h0 d (by simp))];decide
 | _::_,[],_,_,_,h=> by simp [Lib.compareBytes] at h
 | c::a,d::b,x,y,h0,h=> by
  rw [Lib.compareBytes] at h;rw [List.cons_append,List.cons_append,List.cons_append,List.cons_append,Lib.compareBytes];by_cases h1:c < d
  · simp [h1]
  · by_cases h2:d < c
    · simp [h1,h2] at h
    · simp only [h1,h2,if_false] at h ⊢
      exact text_lt a b x y (λ e he=> h0 e (by simp [he])) h
theorem cmpV_kind {v w:Vl} (h:cmpV v w < 0):v.kind < w.kind\/v.kind=w.kind/\(v.int < w.int\/v.int=w.int/\Lib.compareBytes (bytes v.text) (bytes w.text) < 0):=by
 unfold cmpV orS at h;by_cases h1:cmpS v.kind w.kind=0
 · rw [if_pos h1] at h
   refine .inr ⟨cmpS_zero.1 h1,?_⟩;by_cases h2:cmpS v.int w.int=0
   · rw [if_pos h2] at h
     exact .inr ⟨cmpS_zero.1 h2,h⟩
   · rw [if_neg h2] at h
     exact .inl (cmpS_neg.1 h)
 · rw [if_neg h1] at h
   exact .inl (cmpS_neg.1 h)
theorem okV_cases {v:Vl} (h:okV v=true):(v.kind=0/\v.int=0/\v.text=.empty)\/(v.kind=1/\v.text=.empty)\/(v.kind=2/\v.int=0/\prS v.text=true/\v.text.size<=16):=by
 unfold okV at h;by_cases h0:v.kind=0
 · rw [if_pos h0] at h
   simp at h;exact .inl ⟨h0,h⟩
 · by_cases h1:v.kind=1
   · rw [if_neg h0,if_pos h1] at h
     simp at h;exact .inr (.inl ⟨h1,h⟩)
   · by_cases h2:v.kind=2
     · rw [if_neg h0,if_neg h1,if_pos h2] at h
       simp at h;exact .inr (.inr ⟨h2,h⟩)
     · rw [if_neg h0,if_neg h1,if_neg h2] at h
       cases h
theorem encL_lt {v w:Vl} (hv:okV v=true) (hw:okV w=true) (iv:I64 v.int) (iw:I64 w.int) (h:cmpV v w < 0) (x y:List UInt8):Lib.compareBytes (encL v++x) (encL w++y) < 0:=by
 have hk:=cmpV_kind h;have e12:(1:UInt8) < 2:=by decide
 have e13:(1:UInt8) < 3:=by decide
 have e23:(2:UInt8) < 3:=by decide
 rcases okV_cases hv with ⟨a1,a2,a3⟩ | ⟨a1,a2⟩ | ⟨a1,a2,a3,a4⟩ <;> rcases okV_cases hw with ⟨b1,b2,b3⟩ | ⟨b1,b2⟩ | ⟨b1,b2,b3,b4⟩ <;> simp only [encL,a1,b1] at hk ⊢
 · rw [a2,b2,a3,b3] at hk
   simp [cmpB_zero.2 rfl] at hk
 · simp [cmpB_head e12]
 · simp [cmpB_head e13]
 · omega
 · rw [a2,b2,cmpB_zero.2 rfl] at hk
   have hlt:v.int < w.int:=by omega
   have:=numL_lt iv iw hlt x y;simp only [if_true,List.cons_append];rw [Lib.compareBytes];simpa [UInt8.lt_irrefl] using this
 · simp [cmpB_head e23]
 · omega
 · omega
 · have ht:Lib.compareBytes (bytes v.text) (bytes w.text) < 0:=by omega
   obtain ⟨p1,p2⟩:=esc_ok a3;obtain ⟨q1,q2⟩:=esc_ok b3;have:=text_lt _ _ x y q2 ht;rw [p1,q1];simp only [show ¬ (2:Int)=1 by decide,if_false,if_true,List.cons_append];rw [Lib.compareBytes];simpa [UInt8.lt_irrefl] using this
def endR:List UInt8->List UInt8
 | []=> []
 | c::l=> if c=255 then endR l else (c+1)::l
def endL (p:List UInt8):List UInt8:=(endR p.reverse).reverse
theorem endR_lt:∀(l x:List UInt8),(∃c∈l,c≠255)->Lib.compareBytes (l.reverse++x) (endR l).reverse < 0
 | [],_,h=> by obtain ⟨c,h,_⟩:=h;cases h
 | c::l,x,h=> by
  rw [endR,List.reverse_cons,List.append_assoc];by_cases hc:c=255
  · rw [if_pos hc]
    refine endR_lt l _ ?_;obtain ⟨d,hd,hd'⟩:=h;rcases List.mem_cons.1 hd with rfl | hd
    · exact absurd hc hd'
    · exact ⟨d,hd,hd'⟩
  · rw [if_neg hc,List.reverse_cons,cmpB_pre,List.singleton_append,cmpB_head]
    · decide
    · have h1:=c.toNat_lt
      have h2:c.toNat≠255:=λ e=> hc (by rw [<-UInt8.toNat_inj];exact e);rw [UInt8.lt_iff_toNat_lt,UInt8.toNat_add];have e1:(1:UInt8).toNat=1:=rfl;rw [e1];omega
theorem endL_lt {p:List UInt8} (h:∃c∈p,c≠255) (x:List UInt8):Lib.compareBytes (p++x) (endL p) < 0:=by
 have:=endR_lt p.reverse x (by simpa using h)
 rwa [List.reverse_reverse] at this
theorem encL_head (v:Vl):∃c l,encL v=c::l/\c≠255:=by
 unfold encL;split
 · exact ⟨_,_,rfl,by decide⟩
 · split
   · exact ⟨_,_,rfl,by decide⟩
   · exact ⟨_,_,rfl,by decide⟩
theorem encR_low {r:Rw} (h:r≠[]):∃c∈encR r,c≠255:=by
 cases r with
 | nil=> exact absurd rfl h
 | cons v r=>
  obtain ⟨c,l,e,hc⟩:=encL_head v;exact ⟨c,by simp [encR,e],hc⟩
theorem kr {p:Prop} (h:p):p:=h
def opAt (ops:Array Oper) (i:Nat):Oper:=(ops[i]?).getD default
theorem opAt_eq {ops:Array Oper} {i:Nat} {o:Oper} (h:ops[i]? =some o):opAt ops i=o:=by unfold opAt;rw [h];rfl
def Rg.valD (G:Rg) (i:Nat) (g:Nat->Value):Value:=match G.valOf i with
 | some t=> t.at g
 | none=> undef
def calmB (ops:Array Oper) (i:Nat) (p:Pc):Bool:=!p.fl.elem i && match dstOf ops i with
 | none=> true
 | some d=> !p.ds0.elem d && p.uses.all λ u=> !u.2.elem d || (((closOf ops).getD u.1 []).elem i && !((closOf ops).getD i []).elem u.1)
def quietL (ops:Array Oper) (i k:Nat):Nat->List Pc->Bool
 | _,[]=> true
 | n,p::l=> (n==k || calmB ops i p) && quietL ops i k (n+1) l
def Rg.quiet (G:Rg) (i k:Nat):Bool:=quietL G.ops i k 0 G.pcs
def Rg.okV (G:Rg) (i:Nat):Bool:=match G.valOf i with
 | none=> false
 | some t=> match dstOf G.ops i with
  | none=> true
  | some d=> !t.sl.elem d
theorem ln_ne {C:List (List Nat)} {i j:Nat} {L:Nat->Bool} (h:j≠i):ln C i L j=lk C i L j:=by
 have e:(j==i)=false:=by simpa using h
 unfold ln lk;rw [e];simp
theorem uses_fl {p:Pc}:∀u∈p.uses,u.1∈p.fl:=by
 intro u hu;cases p with
 | gen fl sl A=> cases hu
 | all A=> cases hu
 | blk b t cs=>
  obtain ⟨c,hc,h⟩:=List.mem_flatMap.1 hu;obtain ⟨q,hq,rfl⟩:=List.mem_map.1 h;exact List.mem_flatMap.2 ⟨c,hc,List.mem_map.2 ⟨q,hq,rfl⟩⟩
 | sl t v xs st=>
  obtain ⟨q,hq,rfl⟩:=List.mem_map.1 hu;exact List.mem_map.2 ⟨q,hq,rfl⟩
 | new i ds mk=>
  obtain rfl:u=(i,ds):=by simpa [Pc.uses] using hu
  simp [Pc.fl]
theorem calm_at {ops:Array Oper} {i:Nat} {p:Pc} (h:calmB ops i p=true) (L:Nat->Bool) (g:Nat->Value) (v:Value):p.at (ln (closOf ops) i L) (sput g (dstOf ops i) v)=p.at (lk (closOf ops) i L) g:=by
 unfold calmB at h;simp only [Bool.and_eq_true,Bool.not_eq_true'] at h;have hfl:∀j∈p.fl,j≠i:=λ j hj e=> by subst e;rw [List.elem_iff.2 hj] at h;cases h.1
 have e1:p.at (ln (closOf ops) i L) (sput g (dstOf ops i) v)=p.at (lk (closOf ops) i L) (sput g (dstOf ops i) v):=Pc.at_eq (λ j hj=> ln_ne (hfl j hj)) λ _ _=> rfl;rw [e1];have h2:=h.2;cases hd:dstOf ops i with
 | none=> rfl
 | some d=>
  rw [hd] at h2;simp only [Bool.and_eq_true,Bool.not_eq_true',List.all_eq_true,Bool.or_eq_true] at h2;refine Pc.at_slots (λ k hk=> ?_) λ u hu hL k hk=> ?_
  · unfold sput
    rw [if_neg λ e=> ?_];injection e with e;subst e;rw [List.elem_iff.2 hk] at h2;cases h2.1
  · unfold sput
    rw [if_neg λ e=> ?_];injection e with e;subst e;have h3:=h2.2 u hu;rw [List.elem_iff.2 hk] at h3;have h4:=h3.resolve_left (by simp);have hne:u.1≠i:=hfl _ (uses_fl u hu);unfold rb lk at hL;rw [h4.1,h4.2] at hL;simp at hL
theorem quiet_map {ops:Array Oper} {i k:Nat} (L:Nat->Bool) (g:Nat->Value) (v:Value):∀(l:List Pc) (n:Nat),quietL ops i k n l=true->n<=k->
 l.map (λ p=> p.at (ln (closOf ops) i L) (sput g (dstOf ops i) v))=match l[k - n]? with
  | some p=> (l.map λ p=> p.at (lk (closOf ops) i L) g).set (k - n) (p.at (ln (closOf ops) i L) (sput g (dstOf ops i) v))
  | none=> l.map λ p=> p.at (lk (closOf ops) i L) g
 | [],n,_,_=> by simp
 | p::l,n,h,hk=> by
  unfold quietL at h;simp only [Bool.and_eq_true,Bool.or_eq_true,beq_iff_eq] at h
  have rest:n < k->(p::l).map (λ p=> p.at (ln (closOf ops) i L) (sput g (dstOf ops i) v))=match (p::l)[k - n]? with
   | some p'=> ((p::l).map λ p=> p.at (lk (closOf ops) i L) g).set (k - n) (p'.at (ln (closOf ops) i L) (sput g (dstOf ops i) v))
   | none=> (p::l).map λ p=> p.at (lk (closOf ops) i L) g:=by
   intro hlt;have ih:=quiet_map L g v l (n+1) h.2 (by omega);have hc:=h.1.resolve_left (by omega);obtain ⟨m,rfl⟩:∃m,k=n+1+m:=⟨k - (n+1),by omega⟩
   have e1:n+1+m - (n+1)=m:=by omega
   have e2:n+1+m - n=m+1:=by omega
   rw [e1] at ih;rw [e2,List.map_cons,ih,calm_at hc,List.getElem?_cons_succ];cases l[m]? with
   | none=> rfl
   | some q=> rfl
  rcases Nat.lt_or_ge n k with hlt | hge
  · exact rest hlt
  · obtain rfl:n=k:=by omega
    have h0:∀(l:List Pc) (j:Nat),n < j->quietL ops i n j l=true->l.map (λ p=> p.at (ln (closOf ops) i L) (sput g (dstOf ops i) v))=l.map λ p=> p.at (lk (closOf ops) i L) g:=by
     intro l
     induction l with
     | nil=> intro j _ _;rfl
     | cons q l ih=>
      intro j hj hq;unfold quietL at hq;simp only [Bool.and_eq_true,Bool.or_eq_true,beq_iff_eq] at hq;rw [List.map_cons,List.map_cons,ih (j+1) (by omega) hq.2,calm_at (hq.1.resolve_left (by omega))]
    rw [List.map_cons,h0 l (n+1) (by omega) h.2,Nat.sub_self];rfl
theorem Rg.still {G:Rg} {i:Nat} (hq:G.quiet i G.pcs.length=true) {L:Nat->Bool} {g:Nat->Value} {v:Value} {w:World} (hS:stP G (lk (closOf G.ops) i L) g w):stP G (ln (closOf G.ops) i L) (sput g (dstOf G.ops i) v) w:=by
 unfold stP;rw [quiet_map L g v G.pcs 0 hq (Nat.zero_le _),Nat.sub_zero,List.getElem?_eq_none_iff.2 (Nat.le_refl _)];exact hS
theorem Rg.has {G:Rg} {k:Nat} {p:Pc} (hk:G.pcs[k]? =some p) {L:Nat->Bool} {g:Nat->Value} {w:World} (hS:stP G L g w):∃f,(p.at L g).p w f:=by
 have hlt:k < G.pcs.length:=(List.getElem?_eq_some_iff.1 hk).1;exact St.has hS k (A:=p.at L g) (by rw [List.getElem?_append_left (by simpa using hlt),List.getElem?_map,hk];rfl)
theorem Rg.Ob.read (G:Rg) (i:Nat) (hq:(G.quiet i G.pcs.length && G.okV i)=true) (hw:∀a,wantE G.ops (opAt G.ops i) (G.env i a)=some true)
 (h:∀L a w,G.env i a=a.eval->stP G (lk (closOf G.ops) i L) (slots a) w->(execOp (G.env i a) (opAt G.ops i)).run G.P w=.ok (.value (G.valD i (slots a))) w):G.Ob i:=by
 simp only [Bool.and_eq_true] at hq;intro o ho L a w hsz he hS;have hd:o.dst=dstOf G.ops i:=by rw [dstOf,ho];rfl
 have hw':=hw a;have h':=h L a w he hS;rw [opAt_eq ho] at hw' h';rw [hw',h',hd];refine ⟨λ t ht=> ?_,G.still hq.1 hS⟩;have h2:=hq.2;unfold Rg.okV at h2;unfold Rg.valD;rw [ht] at h2 ⊢;dsimp only at h2 ⊢;refine Vf.at_eq λ d hd'=> ?_;unfold sput;cases hdo:dstOf G.ops i with
 | none=> rfl
 | some e=>
  rw [hdo] at h2;dsimp only at h2;rw [if_neg λ e'=> ?_];injection e' with e';subst e';rw [List.elem_iff.2 hd'] at h2;cases h2
theorem Rg.Ob.pure (G:Rg) (i:Nat) (h:∀a w,(execOp (G.env i a) (opAt G.ops i)).run G.P w=.ok (.value (G.valD i (slots a))) w:=by intro _ _;exact kr (by kernel_rfl)) (hq:(G.quiet i G.pcs.length && G.okV i)=true:=by exact kr (by kernel_rfl))
 (hw:∀a,wantE G.ops (opAt G.ops i) (G.env i a)=some true:=by intro _;exact kr (by kernel_rfl)):G.Ob i:=Rg.Ob.read G i hq hw λ _ a w _ _=> h a w
theorem run_load1 {P:Program} {w:World} {ty:TypeId} {b j:Nat} {v:Value} (ha:(isAgg ty).run P w=.ok false w) (hc:w.cell? ⟨b,j,none⟩=some v):(Instr.loadAt ty (.pointer (some ⟨b,j,none⟩))).run P w=.ok v w:=by
 simp [Instr.loadAt,Instr.sureAddr,loadVar,ha,hc]
theorem run_store1 {P:Program} {w:World} {ty:TypeId} {b j:Nat} {v old:Value} (hz:(sizeOf ty).run P w=.ok 1 w) (hv:v.oneCell'=true) (hc:w.cell? ⟨b,j,none⟩=some old) (hf:w.frozen? ⟨b,j,none⟩=false):
 (Instr.storeAt ty (.pointer (some ⟨b,j,none⟩)) v).run P w=.ok () (w.setCell ⟨b,j,none⟩ v):=by
 have hcs:v.cells=#[v]:=by cases v <;> first | rfl | (simp [Value.oneCell'] at hv;done)
 have hadd:(⟨b,j,none⟩:Addr).add 0=⟨b,j,none⟩:=by simp [Addr.add]
 simp [Instr.storeAt,Instr.sureAddr,storeVar,hz,hcs,storeCells,hadd,run_store P w _ v .plain hv,hc,hf]
theorem Rg.Ob.load (G:Rg) (i k j:Nat) {ty:TypeId} {x:Operand} {b:Nat} {t:TypeId} {cs:List Cl} (hop:(opAt G.ops i).op=.load ty x:=by rfl) (hk:G.pcs[k]? =some (.blk b t cs):=by rfl)
 (ha:∀w,(isAgg ty).run G.P w=.ok false w:=by intro _;exact kr (by kernel_rfl)) (hx:∀a,G.env i a x=.pointer (some ⟨b,j,none⟩):=by intro _;exact kr (by kernel_rfl))
 (hv:∀L g,(cs.map (Cl.val (rb (Pc.blk b t cs).fl (lk (closOf G.ops) i L)) (rv (Pc.blk b t cs).ds g)))[j]? =some (G.valD i g):=by intro _ _;exact kr (by kernel_rfl)) (hq:(G.quiet i G.pcs.length && G.okV i)=true:=by exact kr (by kernel_rfl))
 (hw:∀a,wantE G.ops (opAt G.ops i) (G.env i a)=some true:=by intro _;exact kr (by kernel_rfl)):G.Ob i:=Rg.Ob.read G i hq hw λ L a w _ hS=> by
 obtain ⟨f,hf⟩:=Rg.has hk hS;have hc:=((blk_get hf).1 j).trans (List.getElem?_toArray.trans (hv L (slots a)));simp only [execOp,hop,hx,Sem.run_bind,run_load1 (ha w) hc,Result.andThen_ok,Sem.run_pure]
theorem Rg.Ob.elem (G:Rg) (i k m:Nat) {y:Value} {b n c:Nat} {xs:List Value} (hy:xs[m]? =some y) {ty:TypeId} {x:Operand} {t:TypeId} {v:Value} {xs0:List Value} {st:List (Nat×Option Src×List Value)} (hop:(opAt G.ops i).op=.load ty x:=by rfl) (hk:G.pcs[k]? =some (.sl t v xs0 st):=by rfl)
 (hs:∀L g,slV (rb (Pc.sl t v xs0 st).fl (lk (closOf G.ops) i L)) (rv (Pc.sl t v xs0 st).ds g) v st=.slice (some ⟨b,0,none⟩) n c:=by exact λ _ _=> by rfl)
 (ha:∀w,(isAgg ty).run G.P w=.ok false w:=by intro _;exact kr (by kernel_rfl)) (hx:∀a,G.env i a x=.pointer (some ⟨b,m,none⟩):=by intro _;exact kr (by kernel_rfl))
 (hv:∀L,slX (rb (Pc.sl t v xs0 st).fl (lk (closOf G.ops) i L)) xs0 st=xs:=by intro _;exact kr (by kernel_rfl)) (hy':∀g,G.valD i g=y:=by intro _;exact kr (by kernel_rfl))
 (hq:(G.quiet i G.pcs.length && G.okV i)=true:=by exact kr (by kernel_rfl)) (hw:∀a,wantE G.ops (opAt G.ops i) (G.env i a)=some true:=by intro _;exact kr (by kernel_rfl)):G.Ob i:=Rg.Ob.read G i hq hw λ L a w _ hS=> by
 obtain ⟨f,hf⟩:=Rg.has hk hS;have hf':(slA t (slV (rb (Pc.sl t v xs0 st).fl (lk (closOf G.ops) i L)) (rv (Pc.sl t v xs0 st).ds (slots a)) v st) (slX (rb (Pc.sl t v xs0 st).fl (lk (closOf G.ops) i L)) xs0 st)).p w f:=hf;rw [hs,hv] at hf';obtain ⟨hm,h2⟩:=List.getElem?_eq_some_iff.1 hy;have hc:=(sl_elem hf' m hm).1;rw [h2] at hc;simp only [execOp,hop,hx,Sem.run_bind,run_load1 (ha w) hc,Result.andThen_ok,Sem.run_pure,hy']
theorem run_index1 {P:Program} {w:World} {t e:TypeId} {b o n c m s:Nat} (hu:P.underlying t=some (.slice e)) (hz:(sizeOf e).run P w=.ok s w) (hm:m < n):(Instr.indexAt t (.slice (some ⟨b,o,none⟩) n c) (.int .i64 m)).run P w=.ok (.pointer (some ⟨b,o+m * s,none⟩)) w:=by
 have h1:(0:Int)<=(m:Int)/\(m:Int) < (n:Int):=by omega
 simp [Instr.indexAt,asIntOf,run_underlying hu,hz,h1,hm,Addr.add]
theorem Rg.Ob.index (G:Rg) (i b n c m:Nat) (hm:m < n:=by omega) {t e:TypeId} {x y:Operand} (hop:(opAt G.ops i).op=.indexAddr t x y:=by rfl) (hu:G.P.underlying t=some (.slice e):=by rfl) (hz:∀w,(sizeOf e).run G.P w=.ok 1 w:=by intro _;exact kr (by kernel_rfl)) (hx:∀a,G.env i a x=.slice (some ⟨b,0,none⟩) n c:=by intro _;exact kr (by kernel_rfl)) (hy:∀a,G.env i a y=.int .i64 m:=by intro _;exact kr (by kernel_rfl)) (hv:∀g,G.valD i g=.pointer (some ⟨b,m,none⟩):=by intro _;exact kr (by kernel_rfl))
 (hq:(G.quiet i G.pcs.length && G.okV i)=true:=by exact kr (by kernel_rfl)) (hw:∀a,wantE G.ops (opAt G.ops i) (G.env i a)=some true:=by intro _;exact kr (by kernel_rfl)):G.Ob i:=Rg.Ob.read G i hq hw λ L a w _ _=> by
 have e1:0+m * 1=m:=by omega
 simp only [execOp,hop,hx,hy,Sem.run_bind,run_index1 hu (hz w) hm,Result.andThen_ok,Sem.run_pure,hv,e1]
theorem run_from {P:Program} {w:World} {t e:TypeId} {b o n c l:Nat} (hu:P.underlying t=some (.slice e)) (hz:(sizeOf e).run P w=.ok 1 w) (h1:l<=n) (h2:l < c):(Instr.sliceAt t (.slice (some ⟨b,o,none⟩) n c) (some (.int .i64 l)) none none).run P w=.ok (.slice (some ⟨b,o+l,none⟩) (n - l) (c - l)) w:=by
 have h3:¬ c=l:=by omega
 simp [Instr.sliceAt,Instr.slice,Instr.sliceBounds,run_underlying hu,hz,run_sliceBound,h1,h3,Addr.add]
theorem run_upto {P:Program} {w:World} {t e:TypeId} {b o n c l:Nat} (hu:P.underlying t=some (.slice e)) (hz:(sizeOf e).run P w=.ok 1 w) (h2:l<=c):(Instr.sliceAt t (.slice (some ⟨b,o,none⟩) n c) none (some (.int .i64 l)) none).run P w=.ok (.slice (some ⟨b,o,none⟩) l c) w:=by
 simp [Instr.sliceAt,Instr.slice,Instr.sliceBounds,run_underlying hu,hz,run_sliceBound,h2,Addr.add]
theorem Rg.Ob.from (G:Rg) (i b n c l:Nat) (h1:l<=n:=by omega) (h2:l < c:=by omega) {t e:TypeId} {x y:Operand} (hop:(opAt G.ops i).op=.slice t x (some y) none none:=by rfl) (hu:G.P.underlying t=some (.slice e):=by rfl) (hz:∀w,(sizeOf e).run G.P w=.ok 1 w:=by intro _;exact kr (by kernel_rfl)) (hx:∀a,G.env i a x=.slice (some ⟨b,0,none⟩) n c:=by intro _;exact kr (by kernel_rfl)) (hy:∀a,G.env i a y=.int .i64 l:=by intro _;exact kr (by kernel_rfl)) (hv:∀g,G.valD i g=.slice (some ⟨b,l,none⟩) (n - l) (c - l):=by intro _;exact kr (by kernel_rfl))
 (hq:(G.quiet i G.pcs.length && G.okV i)=true:=by exact kr (by kernel_rfl)) (hw:∀a,wantE G.ops (opAt G.ops i) (G.env i a)=some true:=by intro _;exact kr (by kernel_rfl)):G.Ob i:=Rg.Ob.read G i hq hw λ L a w _ _=> by
 simp only [execOp,hop,hx,hy,Option.map_some,Option.map_none,Sem.run_bind,run_from hu (hz w) h1 h2,Result.andThen_ok,Sem.run_pure,hv,Nat.zero_add]
theorem Rg.Ob.upto (G:Rg) (i b n c l:Nat) (h2:l<=c:=by omega) {t e:TypeId} {x y:Operand} (hop:(opAt G.ops i).op=.slice t x none (some y) none:=by rfl) (hu:G.P.underlying t=some (.slice e):=by rfl) (hz:∀w,(sizeOf e).run G.P w=.ok 1 w:=by intro _;exact kr (by kernel_rfl)) (hx:∀a,G.env i a x=.slice (some ⟨b,0,none⟩) n c:=by intro _;exact kr (by kernel_rfl)) (hy:∀a,G.env i a y=.int .i64 l:=by intro _;exact kr (by kernel_rfl)) (hv:∀g,G.valD i g=.slice (some ⟨b,0,none⟩) l c:=by intro _;exact kr (by kernel_rfl))
 (hq:(G.quiet i G.pcs.length && G.okV i)=true:=by exact kr (by kernel_rfl)) (hw:∀a,wantE G.ops (opAt G.ops i) (G.env i a)=some true:=by intro _;exact kr (by kernel_rfl)):G.Ob i:=Rg.Ob.read G i hq hw λ L a w _ _=> by
 simp only [execOp,hop,hx,hy,Option.map_some,Option.map_none,Sem.run_bind,run_upto hu (hz w) h2,Result.andThen_ok,Sem.run_pure,hv]
theorem Rg.Ob.add (G:Rg) (i:Nat) (p q z:Int) (hz:IntKind.i64.wrap (p+q)=z:=by rw [IntKind.wrap_i64];omega) {ty r:TypeId} {x y:Operand} (hop:(opAt G.ops i).op=.binOp .add ty x y r:=by rfl) (hx:∀a,G.env i a x=.int .i64 p:=by intro _;exact kr (by kernel_rfl)) (hy:∀a,G.env i a y=.int .i64 q:=by intro _;exact kr (by kernel_rfl)) (hv:∀g,G.valD i g=.int .i64 z:=by intro _;exact kr (by kernel_rfl))
 (hq:(G.quiet i G.pcs.length && G.okV i)=true:=by exact kr (by kernel_rfl)) (hw:∀a,wantE G.ops (opAt G.ops i) (G.env i a)=some true:=by intro _;exact kr (by kernel_rfl)):G.Ob i:=Rg.Ob.read G i hq hw λ L a w _ _=> by
 simp [execOp,hop,hx,hy,go_sem,hv,hz]
theorem Rg.Ob.sub (G:Rg) (i:Nat) (p q z:Int) (hz:IntKind.i64.wrap (p - q)=z:=by rw [IntKind.wrap_i64];omega) {ty r:TypeId} {x y:Operand} (hop:(opAt G.ops i).op=.binOp .sub ty x y r:=by rfl) (hx:∀a,G.env i a x=.int .i64 p:=by intro _;exact kr (by kernel_rfl)) (hy:∀a,G.env i a y=.int .i64 q:=by intro _;exact kr (by kernel_rfl)) (hv:∀g,G.valD i g=.int .i64 z:=by intro _;exact kr (by kernel_rfl))
 (hq:(G.quiet i G.pcs.length && G.okV i)=true:=by exact kr (by kernel_rfl)) (hw:∀a,wantE G.ops (opAt G.ops i) (G.env i a)=some true:=by intro _;exact kr (by kernel_rfl)):G.Ob i:=Rg.Ob.read G i hq hw λ L a w _ _=> by
 simp [execOp,hop,hx,hy,go_sem,hv,hz]
theorem Rg.Ob.geq (G:Rg) (i p q:Nat) {ty r:TypeId} {x y:Operand} (hop:(opAt G.ops i).op=.binOp .geq ty x y r:=by rfl) (hx:∀a,G.env i a x=.int .i64 p:=by intro _;exact kr (by kernel_rfl)) (hy:∀a,G.env i a y=.int .i64 q:=by intro _;exact kr (by kernel_rfl)) (hv:∀g,G.valD i g=.bool (decide (q<=p)):=by intro _;exact kr (by kernel_rfl))
 (hq:(G.quiet i G.pcs.length && G.okV i)=true:=by exact kr (by kernel_rfl)) (hw:∀a,wantE G.ops (opAt G.ops i) (G.env i a)=some true:=by intro _;exact kr (by kernel_rfl)):G.Ob i:=Rg.Ob.read G i hq hw λ L a w _ _=> by
 simp [execOp,hop,hx,hy,go_sem,hv]
theorem Rg.Ob.lss (G:Rg) (i p q:Nat) {ty r:TypeId} {x y:Operand} (hop:(opAt G.ops i).op=.binOp .lss ty x y r:=by rfl) (hx:∀a,G.env i a x=.int .i64 p:=by intro _;exact kr (by kernel_rfl)) (hy:∀a,G.env i a y=.int .i64 q:=by intro _;exact kr (by kernel_rfl)) (hv:∀g,G.valD i g=.bool (decide (p < q)):=by intro _;exact kr (by kernel_rfl))
 (hq:(G.quiet i G.pcs.length && G.okV i)=true:=by exact kr (by kernel_rfl)) (hw:∀a,wantE G.ops (opAt G.ops i) (G.env i a)=some true:=by intro _;exact kr (by kernel_rfl)):G.Ob i:=Rg.Ob.read G i hq hw λ L a w _ _=> by
 simp [execOp,hop,hx,hy,go_sem,hv]
theorem Rg.Ob.gtr (G:Rg) (i p q:Nat) {ty r:TypeId} {x y:Operand} (hop:(opAt G.ops i).op=.binOp .gtr ty x y r:=by rfl) (hx:∀a,G.env i a x=.int .i64 p:=by intro _;exact kr (by kernel_rfl)) (hy:∀a,G.env i a y=.int .i64 q:=by intro _;exact kr (by kernel_rfl)) (hv:∀g,G.valD i g=.bool (decide (q < p)):=by intro _;exact kr (by kernel_rfl))
 (hq:(G.quiet i G.pcs.length && G.okV i)=true:=by exact kr (by kernel_rfl)) (hw:∀a,wantE G.ops (opAt G.ops i) (G.env i a)=some true:=by intro _;exact kr (by kernel_rfl)):G.Ob i:=Rg.Ob.read G i hq hw λ L a w _ _=> by
 simp [execOp,hop,hx,hy,go_sem,hv]
theorem Rg.Ob.leq (G:Rg) (i p q:Nat) {ty r:TypeId} {x y:Operand} (hop:(opAt G.ops i).op=.binOp .leq ty x y r:=by rfl) (hx:∀a,G.env i a x=.int .i64 p:=by intro _;exact kr (by kernel_rfl)) (hy:∀a,G.env i a y=.int .i64 q:=by intro _;exact kr (by kernel_rfl)) (hv:∀g,G.valD i g=.bool (decide (p<=q)):=by intro _;exact kr (by kernel_rfl))
 (hq:(G.quiet i G.pcs.length && G.okV i)=true:=by exact kr (by kernel_rfl)) (hw:∀a,wantE G.ops (opAt G.ops i) (G.env i a)=some true:=by intro _;exact kr (by kernel_rfl)):G.Ob i:=Rg.Ob.read G i hq hw λ L a w _ _=> by
 simp [execOp,hop,hx,hy,go_sem,hv]
theorem Rg.Ob.eql (G:Rg) (i p q:Nat) {ty r:TypeId} {x y:Operand} (hop:(opAt G.ops i).op=.binOp .eql ty x y r:=by rfl) (hx:∀a,G.env i a x=.int .i64 p:=by intro _;exact kr (by kernel_rfl)) (hy:∀a,G.env i a y=.int .i64 q:=by intro _;exact kr (by kernel_rfl)) (hv:∀g,G.valD i g=.bool (decide (p=q)):=by intro _;exact kr (by kernel_rfl))
 (hq:(G.quiet i G.pcs.length && G.okV i)=true:=by exact kr (by kernel_rfl)) (hw:∀a,wantE G.ops (opAt G.ops i) (G.env i a)=some true:=by intro _;exact kr (by kernel_rfl)):G.Ob i:=Rg.Ob.read G i hq hw λ L a w _ _=> by
 have e:((p:Int)==(q:Int))=decide (p=q):=by rw [Bool.eq_iff_iff];simp;omega
 simp [execOp,hop,hx,hy,go_sem,hv,e]
theorem Rg.Ob.lssT (G:Rg) (i p q:Nat) (h:p < q) {ty r:TypeId} {x y:Operand} (hop:(opAt G.ops i).op=.binOp .lss ty x y r:=by rfl) (hx:∀a,G.env i a x=.int .i64 p:=by intro _;exact kr (by kernel_rfl)) (hy:∀a,G.env i a y=.int .i64 q:=by intro _;exact kr (by kernel_rfl)) (hv:∀g,G.valD i g=.bool true:=by intro _;exact kr (by kernel_rfl))
 (hq:(G.quiet i G.pcs.length && G.okV i)=true:=by exact kr (by kernel_rfl)) (hw:∀a,wantE G.ops (opAt G.ops i) (G.env i a)=some true:=by intro _;exact kr (by kernel_rfl)):G.Ob i:=Rg.Ob.read G i hq hw λ L a w _ _=> by
 have e:decide ((p:Int) < (q:Int))=true:=by simp;omega
 simp only [execOp,hop,hx,hy];simp [go_sem,hv] <;> omega
theorem Rg.Ob.lssF (G:Rg) (i p q:Nat) (h:¬ p < q) {ty r:TypeId} {x y:Operand} (hop:(opAt G.ops i).op=.binOp .lss ty x y r:=by rfl) (hx:∀a,G.env i a x=.int .i64 p:=by intro _;exact kr (by kernel_rfl)) (hy:∀a,G.env i a y=.int .i64 q:=by intro _;exact kr (by kernel_rfl)) (hv:∀g,G.valD i g=.bool false:=by intro _;exact kr (by kernel_rfl))
 (hq:(G.quiet i G.pcs.length && G.okV i)=true:=by exact kr (by kernel_rfl)) (hw:∀a,wantE G.ops (opAt G.ops i) (G.env i a)=some true:=by intro _;exact kr (by kernel_rfl)):G.Ob i:=Rg.Ob.read G i hq hw λ L a w _ _=> by
 have e:decide ((p:Int) < (q:Int))=false:=by simp;omega
 simp only [execOp,hop,hx,hy];simp [go_sem,hv] <;> omega
theorem Rg.Ob.quo2 (G:Rg) (i o mid:Nat) (hm:o / 2=mid) (ho:o < 9223372036854775808) {ty r:TypeId} {x:Operand} (hop:(opAt G.ops i).op=.binOp .quo ty x (.const (.int .i64 2)) r:=by rfl) (hx:∀a,G.env i a x=.int .i64 o:=by intro _;exact kr (by kernel_rfl)) (hv:∀g,G.valD i g=.int .i64 mid:=by intro _;exact kr (by kernel_rfl))
 (hq:(G.quiet i G.pcs.length && G.okV i)=true:=by exact kr (by kernel_rfl)) (hw:∀a,wantE G.ops (opAt G.ops i) (G.env i a)=some true:=by intro _;exact kr (by kernel_rfl)):G.Ob i:=Rg.Ob.read G i hq hw λ L a w _ _=> by
 have h1:(o:Int).tdiv 2=mid:=by rw [Int.tdiv_eq_ediv_of_nonneg (by omega)];omega
 have h2:IntKind.i64.wrap (mid:Int)=mid:=by rw [IntKind.wrap_i64];omega
 have hy:G.env i a (.const (.int .i64 2))=.int .i64 2:=rfl;simp [execOp,hop,hx,hy,go_sem,hv,h1,h2]
theorem Rg.Ob.eff (G:Rg) (i k:Nat) {p:Pc} (hk:G.pcs[k]? =some p) (h:∀L a w fp,G.env i a=a.eval->stP G (lk (closOf G.ops) i L) (slots a) w->(p.at (lk (closOf G.ops) i L) (slots a)).p w fp->
 uponT G.P (λ v w'=> (∀t,G.valOf i=some t->v=t.at (sput (slots a) (dstOf G.ops i) v))/\∃f,(p.at (ln (closOf G.ops) i L) (sput (slots a) (dstOf G.ops i) v)).p w' f/\Tr w w' fp f) ((execOp (G.env i a) (opAt G.ops i)).run G.P w))
 (hq:G.quiet i k=true:=by exact kr (by kernel_rfl)) (hw:∀a,wantE G.ops (opAt G.ops i) (G.env i a)=some true:=by intro _;exact kr (by kernel_rfl)):G.Ob i:=by
 intro o ho L a w hsz he hS;have hd:o.dst=dstOf G.ops i:=by rw [dstOf,ho];rfl
 have hlt:k < G.pcs.length:=(List.getElem?_eq_some_iff.1 hk).1;have hw':=hw a;obtain ⟨fp,h1,h2⟩:=St.get hS k (A:=p.at (lk (closOf G.ops) i L) (slots a)) (by rw [List.getElem?_append_left (by simpa using hlt),List.getElem?_map,hk];rfl);have h3:=h L a w fp he hS h1;rw [opAt_eq ho] at hw' h3;rw [hw',hd];have key:∀v w',((∀t,G.valOf i=some t->v=t.at (sput (slots a) (dstOf G.ops i) v))/\∃f,(p.at (ln (closOf G.ops) i L) (sput (slots a) (dstOf G.ops i) v)).p w' f/\Tr w w' fp f)->(∀t,G.valOf i=some t->v=t.at (sput (slots a) (dstOf G.ops i) v))/\stP G (ln (closOf G.ops) i L) (sput (slots a) (dstOf G.ops i) v) w':=by
  rintro v w' ⟨hv,f,h4,h5⟩;refine ⟨hv,?_⟩;have h6:=h2 _ _ _ h4 h5;unfold stP;rw [quiet_map L (slots a) v G.pcs 0 hq (Nat.zero_le _),Nat.sub_zero,hk];dsimp only
  rwa [List.set_append_left _ _ (by simpa using hlt)] at h6
 generalize (execOp (G.env i a) o).run G.P w=r at h3;cases r with
 | ok n w'=>
  cases n with
  | value v=> exact key v w' h3
  | skip=> exact key undef w' h3
  | enter f args=>
   refine Calls.mono h3 λ e w2 he=> ?_;obtain ⟨v,e1,h5⟩:=he;exact ⟨v,e1,key v w2 h5⟩
  | _=> exact h3.elim
 | _=> exact h3.elim
theorem sput_none {g:Nat->Value} {v:Value}:sput g none v=g:=rfl
def Rg.shp (G:Rg) (i:Nat) (g:Nat->Value) (v:Value):Value:=match G.valOf i with
 | none=> v
 | some t=> t.at (sput g (dstOf G.ops i) v)
theorem Rg.shp_of {G:Rg} {i:Nat} {g:Nat->Value} {v:Value} (h:G.shp i g v=v):∀t,G.valOf i=some t->v=t.at (sput g (dstOf G.ops i) v):=by
 intro t ht;unfold Rg.shp at h;rw [ht] at h;exact h.symm
theorem Rg.Ob.store (G:Rg) (i k j:Nat) {ty:TypeId} {x y:Operand} {b:Nat} {t:TypeId} {cs:List Cl} (hop:(opAt G.ops i).op=.store ty x y:=by rfl) (hk:G.pcs[k]? =some (.blk b t cs):=by rfl)
 (hnew:∀L a,cs.map (Cl.val (rb (Pc.blk b t cs).fl (ln (closOf G.ops) i L)) (rv (Pc.blk b t cs).ds (slots a)))=(cs.map (Cl.val (rb (Pc.blk b t cs).fl (lk (closOf G.ops) i L)) (rv (Pc.blk b t cs).ds (slots a)))).set j (a.eval y):=by intro _ _;exact kr (by kernel_rfl))
 (hz:∀w,(sizeOf ty).run G.P w=.ok 1 w:=by intro _;exact kr (by kernel_rfl)) (hx:∀a,G.env i a x=.pointer (some ⟨b,j,none⟩):=by intro _;exact kr (by kernel_rfl)) (h1:∀a,(G.env i a y).oneCell'=true:=by intro _;exact kr (by kernel_rfl)) (hold:decide (j < cs.length)=true:=by exact kr (by kernel_rfl))
 (hd:dstOf G.ops i=none:=by exact kr (by kernel_rfl)) (hvo:(G.valOf i).isNone=true:=by exact kr (by kernel_rfl)) (hq:G.quiet i k=true:=by exact kr (by kernel_rfl)) (hw:∀a,wantE G.ops (opAt G.ops i) (G.env i a)=some true:=by intro _;exact kr (by kernel_rfl)):G.Ob i:=Rg.Ob.eff G i k hk (λ L a w fp he _ hp=> by
 have hvo':G.valOf i=none:=by simpa using hvo
 obtain ⟨hcell,hfz,_⟩:=blk_get hp;have hj:j < (cs.map (Cl.val (rb (Pc.blk b t cs).fl (lk (closOf G.ops) i L)) (rv (Pc.blk b t cs).ds (slots a)))).toArray.size:=by simpa using hold
 have hc:=(hcell j).trans (Array.getElem?_eq_getElem hj);have hr:=run_store1 (P:=G.P) (hz w) (h1 a) hc (hfz j);simp only [execOp,hop,hx,Sem.run_bind,hr,Result.andThen_ok,Sem.run_pure,uponT,hd,hvo'];refine ⟨λ t h=> (nomatch h),[b],?_⟩;obtain ⟨h3,h4⟩:=blk_set hp j (G.env i a y);refine ⟨?_,h4⟩;have e:(Pc.blk b t cs).at (ln (closOf G.ops) i L) (sput (slots a) none undef)=blkA b t ((cs.map (Cl.val (rb (Pc.blk b t cs).fl (lk (closOf G.ops) i L)) (rv (Pc.blk b t cs).ds (slots a)))).toArray.setIfInBounds j (G.env i a y)):=by rw [List.setIfInBounds_toArray,he,<-hnew L a];rfl
 rw [e];exact h3) hq hw
theorem Rg.Ob.storeV (G:Rg) (i k j:Nat) {ty:TypeId} {x y:Operand} {b:Nat} {t:TypeId} {cs:List Cl} (hop:(opAt G.ops i).op=.store ty x y:=by rfl) (hk:G.pcs[k]? =some (.blk b t cs):=by rfl)
 (hnew:∀L a,cs.map (Cl.val (rb (Pc.blk b t cs).fl (ln (closOf G.ops) i L)) (rv (Pc.blk b t cs).ds (slots a)))=(cs.map (Cl.val (rb (Pc.blk b t cs).fl (lk (closOf G.ops) i L)) (rv (Pc.blk b t cs).ds (slots a)))).set j (G.env i a y):=by intro _ _;exact kr (by kernel_rfl))
 (hz:∀w,(sizeOf ty).run G.P w=.ok 1 w:=by intro _;exact kr (by kernel_rfl)) (hx:∀a,G.env i a x=.pointer (some ⟨b,j,none⟩):=by intro _;exact kr (by kernel_rfl)) (h1:∀a,(G.env i a y).oneCell'=true:=by intro _;exact kr (by kernel_rfl)) (hold:decide (j < cs.length)=true:=by exact kr (by kernel_rfl))
 (hd:dstOf G.ops i=none:=by exact kr (by kernel_rfl)) (hvo:(G.valOf i).isNone=true:=by exact kr (by kernel_rfl)) (hq:G.quiet i k=true:=by exact kr (by kernel_rfl)) (hw:∀a,wantE G.ops (opAt G.ops i) (G.env i a)=some true:=by intro _;exact kr (by kernel_rfl)):G.Ob i:=Rg.Ob.eff G i k hk (λ L a w fp _ _ hp=> by
 have hvo':G.valOf i=none:=by simpa using hvo
 obtain ⟨hcell,hfz,_⟩:=blk_get hp;have hj:j < (cs.map (Cl.val (rb (Pc.blk b t cs).fl (lk (closOf G.ops) i L)) (rv (Pc.blk b t cs).ds (slots a)))).toArray.size:=by simpa using hold
 have hc:=(hcell j).trans (Array.getElem?_eq_getElem hj);have hr:=run_store1 (P:=G.P) (hz w) (h1 a) hc (hfz j);simp only [execOp,hop,hx,Sem.run_bind,hr,Result.andThen_ok,Sem.run_pure,uponT,hd,hvo'];refine ⟨λ t h=> (nomatch h),[b],?_⟩;obtain ⟨h3,h4⟩:=blk_set hp j (G.env i a y);refine ⟨?_,h4⟩;have e:(Pc.blk b t cs).at (ln (closOf G.ops) i L) (sput (slots a) none undef)=blkA b t ((cs.map (Cl.val (rb (Pc.blk b t cs).fl (lk (closOf G.ops) i L)) (rv (Pc.blk b t cs).ds (slots a)))).toArray.setIfInBounds j (G.env i a y)):=by rw [List.setIfInBounds_toArray,<-hnew L a];rfl
 rw [e];exact h3) hq hw
theorem Rg.Ob.storeEl (G:Rg) (i k m:Nat) (xs:List Value) {b n cc:Nat} (hm:m < xs.length) (u:Value) (h1:u.oneCell'=true) {ty:TypeId} {x y:Operand} {t:TypeId} {v:Value} {xs0:List Value} {st:List (Nat×Option Src×List Value)} (hop:(opAt G.ops i).op=.store ty x y:=by rfl) (hk:G.pcs[k]? =some (.sl t v xs0 st):=by rfl)
 (hs:∀L g,slV (rb (Pc.sl t v xs0 st).fl (lk (closOf G.ops) i L)) (rv (Pc.sl t v xs0 st).ds g) v st=.slice (some ⟨b,0,none⟩) n cc:=by exact λ _ _=> by rfl) (hs':∀L g,slV (rb (Pc.sl t v xs0 st).fl (ln (closOf G.ops) i L)) (rv (Pc.sl t v xs0 st).ds g) v st=.slice (some ⟨b,0,none⟩) n cc:=by intro _ _;exact kr (by kernel_rfl))
 (hz:∀w,(sizeOf ty).run G.P w=.ok 1 w:=by intro _;exact kr (by kernel_rfl)) (hx:∀a,G.env i a x=.pointer (some ⟨b,m,none⟩):=by intro _;exact kr (by kernel_rfl)) (hy:∀a,G.env i a y=u:=by intro _;exact kr (by kernel_rfl))
 (hold:∀L,slX (rb (Pc.sl t v xs0 st).fl (lk (closOf G.ops) i L)) xs0 st=xs:=by intro _;exact kr (by kernel_rfl)) (hnew:∀L,slX (rb (Pc.sl t v xs0 st).fl (ln (closOf G.ops) i L)) xs0 st=xs.set m u:=by intro _;exact kr (by kernel_rfl))
 (hd:dstOf G.ops i=none:=by exact kr (by kernel_rfl)) (hvo:(G.valOf i).isNone=true:=by exact kr (by kernel_rfl)) (hq:G.quiet i k=true:=by exact kr (by kernel_rfl)) (hw:∀a,wantE G.ops (opAt G.ops i) (G.env i a)=some true:=by intro _;exact kr (by kernel_rfl)):G.Ob i:=Rg.Ob.eff G i k hk (λ L a w fp he hS hp=> by
 have hvo':G.valOf i=none:=by simpa using hvo
 have hp':(slA t (slV (rb (Pc.sl t v xs0 st).fl (lk (closOf G.ops) i L)) (rv (Pc.sl t v xs0 st).ds (slots a)) v st) (slX (rb (Pc.sl t v xs0 st).fl (lk (closOf G.ops) i L)) xs0 st)).p w fp:=hp;rw [hs,hold] at hp';obtain ⟨hc,hfz,_⟩:=sl_elem hp' m hm;have hr:=run_store1 (P:=G.P) (hz w) h1 hc hfz;simp only [execOp,hop,hx,hy,Sem.run_bind,hr,Result.andThen_ok,Sem.run_pure,uponT,hd,hvo'];refine ⟨λ t h=> (nomatch h),[b],?_⟩;obtain ⟨h3,h4⟩:=sl_set hp' m u;refine ⟨?_,h4⟩;have e:(Pc.sl t v xs0 st).at (ln (closOf G.ops) i L) (sput (slots a) none undef)=slA t (.slice (some ⟨b,0,none⟩) n cc) (xs.set m u):=by rw [<-hnew L,<-hs' L (slots a)];rfl
 rw [e];exact h3) hq hw
def sa:Value->Option Addr
 | .slice a _ _=> a
 | _=> none
def sn:Value->Nat
 | .slice _ n _=> n
 | _=> 0
def sc:Value->Nat
 | .slice _ _ c=> c
 | _=> 0
def pb:Value->Nat
 | .pointer (some a)=> a.block
 | .slice (some a) _ _=> a.block
 | _=> 0
def Vf.slice (i d:Nat):Vf:=⟨i,d,[d],λ g=> .slice (sa (g d)) (sn (g d)) (sc (g d))⟩
def Vf.box (i d:Nat):Vf:=⟨i,d,[d],λ g=> .slice (some ⟨pb (g d),0,none⟩) 1 1⟩
def Vf.ptr (i d:Nat):Vf:=⟨i,d,[d],λ g=> .pointer (some ⟨pb (g d),0,none⟩)⟩
def Vf.is (i d:Nat) (v:Value):Vf:=⟨i,d,[],λ _=> v⟩
theorem new_before {ops:Array Oper} {i:Nat} {ds:List Nat} {mk:(Nat->Value)->Asn} {L:Nat->Bool} {g:Nat->Value} (hs:((closOf ops).getD i []).elem i=false):(Pc.new i ds mk).at (lk (closOf ops) i L) g=emp:=by
 have e:rb [i] (lk (closOf ops) i L) i=false:=by unfold rb lk;rw [hs];simp
 show (match rb [i] (lk (closOf ops) i L) i with | true=> mk (rv ds g) | false=> emp)=emp;rw [e]
theorem new_after {ops:Array Oper} {i:Nat} {ds:List Nat} {mk:(Nat->Value)->Asn} {L:Nat->Bool} {g:Nat->Value}:(Pc.new i ds mk).at (ln (closOf ops) i L) g=mk (rv ds g):=by
 have e:rb [i] (ln (closOf ops) i L) i=true:=by unfold rb ln;simp
 show (match rb [i] (ln (closOf ops) i L) i with | true=> mk (rv ds g) | false=> emp)=mk (rv ds g);rw [e]
theorem new_there {ops:Array Oper} {i j:Nat} {ds:List Nat} {mk:(Nat->Value)->Asn} {L:Nat->Bool} {g:Nat->Value} (hs:((closOf ops).getD j []).elem i=true):(Pc.new i ds mk).at (lk (closOf ops) j L) g=mk (rv ds g):=by
 have e:rb [i] (lk (closOf ops) j L) i=true:=by unfold rb lk;rw [hs];simp
 show (match rb [i] (lk (closOf ops) j L) i with | true=> mk (rv ds g) | false=> emp)=mk (rv ds g);rw [e]
theorem run_box1 {P:Program} {w:World} {t e:TypeId} {x z:Value} (hu:P.underlying t=some (.slice e)) (hz:(sizeOf e).run P w=.ok 1 w) (hv:(zeroValue e).run P w=.ok z w) (hz1:z.oneCell'=true) (hx:x.oneCell'=true):
 (Instr.buildSlice t 1 #[(0,x)]).run P w=.ok (.slice (some ⟨w.heap.size,0,none⟩) 1 1) (w.alloc (.cells #[x] e)):=by
 have hx':x.cells=#[x]:=by cases x <;> first | rfl | (simp [Value.oneCell'] at hx;done)
 have hz':z.cells=#[z]:=by cases z <;> first | rfl | (simp [Value.oneCell'] at hz1;done)
 simp [Instr.buildSlice,run_underlying hu,hz,hv,hz',Instr.fill,hx',newRow];have e1:Array.range 1=#[0]:=by decide
 rw [e1];simp
theorem Rg.Ob.box (G:Rg) (i k:Nat) {d:Nat} {t ts:TypeId} {x z:Value} {y:Operand} (hx:x.oneCell'=true) (hk:G.pcs[k]? =some (.new i [d] λ g=> boxA t (g d) x):=by rfl)
 (hop:(opAt G.ops i).op=.buildSlice ts 1 #[(0,y)]:=by rfl) (hu:G.P.underlying ts=some (.slice t):=by rfl) (hz:∀w,(sizeOf t).run G.P w=.ok 1 w:=by intro _;exact kr (by kernel_rfl)) (hv:∀w,(zeroValue t).run G.P w=.ok z w:=by intro _;rfl) (hz1:z.oneCell'=true:=by exact kr (by kernel_rfl)) (hy:∀a,G.env i a y=x:=by intro _;exact kr (by kernel_rfl))
 (hd:dstOf G.ops i=some d:=by exact kr (by kernel_rfl)) (hself:((closOf G.ops).getD i []).elem i=false:=by exact kr (by kernel_rfl)) (hsh:∀g n,G.shp i g (.slice (some ⟨n,0,none⟩) 1 1)=.slice (some ⟨n,0,none⟩) 1 1:=by intro _ _;exact kr (by kernel_rfl))
 (hq:G.quiet i k=true:=by exact kr (by kernel_rfl)) (hw:∀a,wantE G.ops (opAt G.ops i) (G.env i a)=some true:=by intro _;exact kr (by kernel_rfl)):G.Ob i:=Rg.Ob.eff G i k hk (λ L a w fp _ _ hp=> by
 rw [new_before hself] at hp;obtain rfl:fp=[]:=hp;have hr:(execOp (G.env i a) (opAt G.ops i)).run G.P w=.ok (.value (.slice (some ⟨w.heap.size,0,none⟩) 1 1)) (w.alloc (.cells #[x] t)):=by simp only [execOp,hop,List.map_toArray,List.map,hy,Sem.run_bind,run_box1 hu (hz w) (hv w) hz1 hx,Result.andThen_ok,Sem.run_pure]
 rw [hr];refine ⟨G.shp_of (hsh _ _),?_⟩;rw [new_after,hd];obtain ⟨h1,h2⟩:=box_new w t x;refine ⟨_,?_,h2⟩;have e:rv [d] (sput (slots a) (some d) (.slice (some ⟨w.heap.size,0,none⟩) 1 1)) d=.slice (some ⟨w.heap.size,0,none⟩) 1 1:=by unfold rv sput;simp
 rw [e];exact h1) hq hw
theorem Rg.Ob.lay (G:Rg) (i k:Nat) {d:Nat} {ds:List Nat} {t:TypeId} {cs:(Nat->Value)->Array Value} (hk:G.pcs[k]? =some (.new i (d::ds) λ g=> atA t (g d) (cs g)):=by rfl)
 (hr:∀a w,(execOp (G.env i a) (opAt G.ops i)).run G.P w=.ok (.value (.pointer (some ⟨w.heap.size,0,none⟩))) (w.alloc (.cells (cs (rv (d::ds) (slots a))) t)):=by intro _ _;exact kr (by kernel_rfl))
 (hcs:∀g v,cs (rv (d::ds) (sput g (some d) v))=cs (rv (d::ds) g):=by intro _ _;exact kr (by kernel_rfl))
 (hd:dstOf G.ops i=some d:=by exact kr (by kernel_rfl)) (hself:((closOf G.ops).getD i []).elem i=false:=by exact kr (by kernel_rfl)) (hsh:∀g n,G.shp i g (.pointer (some ⟨n,0,none⟩))=.pointer (some ⟨n,0,none⟩):=by intro _ _;exact kr (by kernel_rfl))
 (hq:G.quiet i k=true:=by exact kr (by kernel_rfl)) (hw:∀a,wantE G.ops (opAt G.ops i) (G.env i a)=some true:=by intro _;exact kr (by kernel_rfl)):G.Ob i:=Rg.Ob.eff G i k hk (λ L a w fp _ _ hp=> by
 rw [new_before hself] at hp;obtain rfl:fp=[]:=hp;rw [hr a w];refine ⟨G.shp_of (hsh _ _),?_⟩;rw [new_after,hd];have hb:=(Below.refl w.heap.size w).alloc (Nat.le_refl _) (.cells (cs (rv (d::ds) (slots a))) t (0,0));refine ⟨[w.heap.size],?_,Tr.of_new hb (by simp)⟩;rw [hcs];have e:rv (d::ds) (sput (slots a) (some d) (.pointer (some ⟨w.heap.size,0,none⟩))) d=.pointer (some ⟨w.heap.size,0,none⟩):=by unfold rv sput;simp
 rw [e];exact ⟨_,rfl,heap_alloc_new w _,rfl⟩) hq hw
theorem Rg.Ob.skip (G:Rg) (i:Nat) (hw:∀a,wantE G.ops (opAt G.ops i) (G.env i a)=some false:=by intro _;exact kr (by kernel_rfl)) (hv:∀g,G.shp i g undef=undef:=by intro _;exact kr (by kernel_rfl)) (hq:G.quiet i G.pcs.length=true:=by exact kr (by kernel_rfl)):G.Ob i:=by
 intro o ho L a w hsz he hS;have hd:o.dst=dstOf G.ops i:=by rw [dstOf,ho];rfl
 have hw':=hw a;rw [opAt_eq ho] at hw';rw [hw',hd];exact ⟨G.shp_of (hv _),G.still hq hS⟩
theorem Rg.Ob.loadBy (G:Rg) (i k:Nat) {b j:Nat} {A:Asn} (hl:∀w f,A.p w f->∃v,w.cell? ⟨b,j,none⟩=some v/\∀g,G.shp i g v=v) {p:Pc} (hk:G.pcs[k]? =some p:=by rfl) (hA:∀L g,p.at (lk (closOf G.ops) i L) g=A:=by intro _ _;rfl) {ty:TypeId} {x:Operand} (hop:(opAt G.ops i).op=.load ty x:=by rfl)
 (ha:∀w,(isAgg ty).run G.P w=.ok false w:=by intro _;exact kr (by kernel_rfl)) (hx:∀a,G.env i a x=.pointer (some ⟨b,j,none⟩):=by intro _;exact kr (by kernel_rfl)) (hq:G.quiet i G.pcs.length=true:=by exact kr (by kernel_rfl)) (hw:∀a,wantE G.ops (opAt G.ops i) (G.env i a)=some true:=by intro _;exact kr (by kernel_rfl)):G.Ob i:=by
 intro o ho L a w hsz he hS;have hd:o.dst=dstOf G.ops i:=by rw [dstOf,ho];rfl
 obtain ⟨f,hf⟩:=Rg.has hk hS;rw [hA] at hf;obtain ⟨v,hc,hv⟩:=hl w f hf;have hr:(execOp (G.env i a) (opAt G.ops i)).run G.P w=.ok (.value v) w:=by simp only [execOp,hop,hx,Sem.run_bind,run_load1 (ha w) hc,Result.andThen_ok,Sem.run_pure]
 have hw':=hw a;rw [opAt_eq ho] at hw' hr;rw [hw',hr,hd];exact ⟨G.shp_of (hv _),G.still hq hS⟩
theorem Rg.Ob.ask (G:Rg) (i:Nat) {f:Nat} {args:Act->Array Value} (hr:∀a w,(execOp (G.env i a) (opAt G.ops i)).run G.P w=.ok (.enter f (args a)) w)
 (hc:∀L a w,G.env i a=a.eval->stP G (lk (closOf G.ops) i L) (slots a) w->Calls G.P f (args a) w λ e w'=> e=.returned (G.valD i (slots a))/\Below w.heap.size w w')
 (hq:(G.quiet i G.pcs.length && G.okV i)=true:=by exact kr (by kernel_rfl)) (hw:∀a,wantE G.ops (opAt G.ops i) (G.env i a)=some true:=by intro _;exact kr (by kernel_rfl)):G.Ob i:=by
 simp only [Bool.and_eq_true] at hq;intro o ho L a w hsz he hS;have hd:o.dst=dstOf G.ops i:=by rw [dstOf,ho];rfl
 have hw':=hw a;have h':=hr a w;rw [opAt_eq ho] at hw' h';rw [hw',h',hd];refine Calls.mono (hc L a w he hS) λ e w' h=> ?_;obtain ⟨rfl,hb⟩:=h;refine ⟨_,rfl,λ t ht=> ?_,G.still hq.1 (St.mono hS hb)⟩;have h2:=hq.2;unfold Rg.okV at h2;unfold Rg.valD;rw [ht] at h2 ⊢;dsimp only at h2 ⊢;refine Vf.at_eq λ d hd'=> ?_;unfold sput;cases hdo:dstOf G.ops i with
 | none=> rfl
 | some e=>
  rw [hdo] at h2;dsimp only at h2;rw [if_neg λ e'=> ?_];injection e' with e';subst e';rw [List.elem_iff.2 hd'] at h2;cases h2
theorem Rg.Ob.ask1 (G:Rg) (i k:Nat) {f:Nat} {args:Array Value} {v:Value} {A:Asn} (hc:∀w fp,A.p w fp->Calls G.P f args w λ e w'=> e=.returned v/\Below w.heap.size w w') {p:Pc} (hk:G.pcs[k]? =some p:=by rfl) (hA:∀L g,p.at (lk (closOf G.ops) i L) g=A:=by intro _ _;rfl)
 (hr:∀a w,(execOp (G.env i a) (opAt G.ops i)).run G.P w=.ok (.enter f args) w:=by intro _ _;exact kr (by kernel_rfl)) (hv:∀g,G.valD i g=v:=by intro _;exact kr (by kernel_rfl))
 (hq:(G.quiet i G.pcs.length && G.okV i)=true:=by exact kr (by kernel_rfl)) (hw:∀a,wantE G.ops (opAt G.ops i) (G.env i a)=some true:=by intro _;exact kr (by kernel_rfl)):G.Ob i:=
 Rg.Ob.ask G i hr (λ L a w _ hS=> by obtain ⟨f,hf⟩:=Rg.has hk hS;rw [hA] at hf;rw [hv];exact hc w f hf) hq hw
theorem Rg.Ob.ask2 (G:Rg) (i k k':Nat) {f:Nat} {args:Array Value} {v:Value} {A A':Asn} (hc:∀w fp fp',A.p w fp->A'.p w fp'->Calls G.P f args w λ e w'=> e=.returned v/\Below w.heap.size w w') {p p':Pc} (hk:G.pcs[k]? =some p:=by rfl) (hA:∀L g,p.at (lk (closOf G.ops) i L) g=A:=by intro _ _;rfl) (hk':G.pcs[k']? =some p':=by rfl) (hA':∀L g,p'.at (lk (closOf G.ops) i L) g=A':=by intro _ _;rfl)
 (hr:∀a w,(execOp (G.env i a) (opAt G.ops i)).run G.P w=.ok (.enter f args) w:=by intro _ _;exact kr (by kernel_rfl)) (hv:∀g,G.valD i g=v:=by intro _;exact kr (by kernel_rfl))
 (hq:(G.quiet i G.pcs.length && G.okV i)=true:=by exact kr (by kernel_rfl)) (hw:∀a,wantE G.ops (opAt G.ops i) (G.env i a)=some true:=by intro _;exact kr (by kernel_rfl)):G.Ob i:=
 Rg.Ob.ask G i hr (λ L a w _ hS=> by obtain ⟨f,hf⟩:=Rg.has hk hS;obtain ⟨f',hf'⟩:=Rg.has hk' hS;rw [hA] at hf;rw [hA'] at hf';rw [hv];exact hc w f f' hf hf') hq hw
theorem Rg.Ob.callF (G:Rg) (i:Nat) (PL PN:List Asn) {f:Nat} {args:Array Value} {v:Value} (hc:∀w,St G.w0 G.fp0 (PL++G.R) w->Calls G.P f args w λ e w'=> e=.returned v/\St G.w0 G.fp0 (PN++G.R) w')
 (hr:∀a w,(execOp (G.env i a) (opAt G.ops i)).run G.P w=.ok (.enter f args) w:=by intro _ _;exact kr (by kernel_rfl)) (hL:∀L g,(G.pcs.map λ p=> p.at (lk (closOf G.ops) i L) g)=PL:=by intro _ _;exact kr (by kernel_rfl)) (hN:∀L g,(G.pcs.map λ p=> p.at (ln (closOf G.ops) i L) (sput g (dstOf G.ops i) v))=PN:=by intro _ _;exact kr (by kernel_rfl))
 (hv:∀g,G.shp i g v=v:=by intro _;exact kr (by kernel_rfl)) (hw:∀a,wantE G.ops (opAt G.ops i) (G.env i a)=some true:=by intro _;exact kr (by kernel_rfl)):G.Ob i:=by
 intro o ho L a w hsz he hS;have hd:o.dst=dstOf G.ops i:=by rw [dstOf,ho];rfl
 have hw':=hw a;have h':=hr a w;rw [opAt_eq ho] at hw' h';rw [hw',h',hd];unfold stP at hS;rw [hL] at hS;refine Calls.mono (hc w hS) λ e w' h=> ?_;obtain ⟨rfl,h2⟩:=h;refine ⟨_,rfl,G.shp_of (hv _),?_⟩;unfold stP;rw [hN];exact h2
theorem Rg.Ob.call (G:Rg) (i k:Nat) {p:Pc} {f:Nat} {args:Act->Array Value} (hr:∀a w,(execOp (G.env i a) (opAt G.ops i)).run G.P w=.ok (.enter f (args a)) w)
 (hc:∀L a w fp,G.env i a=a.eval->stP G (lk (closOf G.ops) i L) (slots a) w->(p.at (lk (closOf G.ops) i L) (slots a)).p w fp->Calls G.P f (args a) w λ e w'=> ∃v,e=.returned v/\G.shp i (slots a) v=v/\∃f',(p.at (ln (closOf G.ops) i L) (sput (slots a) (dstOf G.ops i) v)).p w' f'/\Tr w w' fp f')
 (hk:G.pcs[k]? =some p:=by rfl) (hq:G.quiet i k=true:=by exact kr (by kernel_rfl)) (hw:∀a,wantE G.ops (opAt G.ops i) (G.env i a)=some true:=by intro _;exact kr (by kernel_rfl)):G.Ob i:=Rg.Ob.eff G i k hk (λ L a w fp he hS hp=> by
 rw [hr a w];refine Calls.mono (hc L a w fp he hS hp) λ e w' h=> ?_;obtain ⟨v,rfl,h1,h2⟩:=h;exact ⟨v,rfl,G.shp_of h1,h2⟩) hq hw
theorem Rg.Ob.eff2 (G:Rg) (i kb k:Nat) {pb p:Pc} (hlt:kb < k) (hkb:G.pcs[kb]? =some pb) (hk:G.pcs[k]? =some p) (h:∀L a w g fp,G.env i a=a.eval->stP G (lk (closOf G.ops) i L) (slots a) w->(pb.at (lk (closOf G.ops) i L) (slots a)).p w g->(p.at (lk (closOf G.ops) i L) (slots a)).p w fp->(∀b∈g,b ∉ fp)->
 uponT G.P (λ v w'=> (∀t,G.valOf i=some t->v=t.at (sput (slots a) (dstOf G.ops i) v))/\∃f,(p.at (ln (closOf G.ops) i L) (sput (slots a) (dstOf G.ops i) v)).p w' f/\Tr w w' fp f) ((execOp (G.env i a) (opAt G.ops i)).run G.P w))
 (hq:G.quiet i k=true:=by exact kr (by kernel_rfl)) (hw:∀a,wantE G.ops (opAt G.ops i) (G.env i a)=some true:=by intro _;exact kr (by kernel_rfl)):G.Ob i:=by
 intro o ho L a w hsz he hS;have hd:o.dst=dstOf G.ops i:=by rw [dstOf,ho];rfl
 have hltk:k < G.pcs.length:=(List.getElem?_eq_some_iff.1 hk).1;have hw':=hw a;obtain ⟨g,fp,h0,h1,hdis,_,h2⟩:=St.two hS kb k hlt (A:=pb.at (lk (closOf G.ops) i L) (slots a)) (B:=p.at (lk (closOf G.ops) i L) (slots a)) (by
  rw [List.getElem?_append_left (by simp;omega),List.getElem?_map,hkb];rfl) (by
  rw [List.getElem?_append_left (by simpa using hltk),List.getElem?_map,hk];rfl)
 have h3:=h L a w g fp he hS h0 h1 hdis;rw [opAt_eq ho] at hw' h3;rw [hw',hd];have key:∀v w',((∀t,G.valOf i=some t->v=t.at (sput (slots a) (dstOf G.ops i) v))/\∃f,(p.at (ln (closOf G.ops) i L) (sput (slots a) (dstOf G.ops i) v)).p w' f/\Tr w w' fp f)->(∀t,G.valOf i=some t->v=t.at (sput (slots a) (dstOf G.ops i) v))/\stP G (ln (closOf G.ops) i L) (sput (slots a) (dstOf G.ops i) v) w':=by
  rintro v w' ⟨hv,f,h4,h5⟩;refine ⟨hv,?_⟩;have h6:=h2 _ _ _ h4 h5;unfold stP;rw [quiet_map L (slots a) v G.pcs 0 hq (Nat.zero_le _),Nat.sub_zero,hk];dsimp only
  rwa [List.set_append_left _ _ (by simpa using hltk)] at h6
 generalize (execOp (G.env i a) o).run G.P w=r at h3;cases r with
 | ok n w'=>
  cases n with
  | value v=> exact key v w' h3
  | skip=> exact key undef w' h3
  | enter f args=>
   refine Calls.mono h3 λ e w2 he=> ?_;obtain ⟨v,e1,h5⟩:=he;exact ⟨v,e1,key v w2 h5⟩
  | _=> exact h3.elim
 | _=> exact h3.elim
def InsSpec (P:Program) (t:TypeId) (f:Nat):Prop:=∀(v:Value) (xs:List Value) (i vb:Nat) (x:Value) (w:World) (fp:List Nat),(slA t v xs).p w fp->i<=xs.length->xs.length < 1099511627776->(∀u∈xs,u.oneCell'=true)->x.oneCell'=true->
 w.heap[vb]? =some (.cells #[x] t (0,0))->vb ∉ fp->Calls P f #[v, .int .i64 i, .slice (some ⟨vb,0,none⟩) 1 1] w λ e w'=> ∃a n c f',e=.returned (.slice a n c)/\(slA t (.slice a n c) (xs.take i++x::xs.drop i)).p w' f'/\Tr w w' fp f'
def DelSpec (P:Program) (t:TypeId) (f:Nat):Prop:=∀(v:Value) (xs:List Value) (i:Nat) (w:World) (fp:List Nat),(slA t v xs).p w fp->i < xs.length->xs.length < 1099511627776->(∀u∈xs,u.oneCell'=true)->
 Calls P f #[v, .int .i64 i, .int .i64 ((i:Int)+1)] w λ e w'=> ∃a n c f',e=.returned (.slice a n c)/\(slA t (.slice a n c) (xs.eraseIdx i)).p w' f'/\Tr w w' fp f'
def SrcAt (w:World) (xs:List Value) (v:Value):Prop:=
 (v=.slice none 0 0/\xs=[])\/∃ad c,v=.slice (some ad) xs.length c/\∀j u,xs[j]? =some u->w.cell? (ad.add j)=some u
def CloneSpec (P:Program) (t:TypeId) (f:Nat):Prop:=∀(xs:List Value) (v:Value) (w:World),SrcAt w xs v->(∀u∈xs,u.oneCell'=true)->xs.length < 1099511627776->
 Calls P f #[v] w λ e w'=> ∃a n c f',e=.returned (.slice a n c)/\(slA t (.slice a n c) xs).p w' f'/\Below w.heap.size w w'/\∀k∈f',w.heap.size<=k
theorem src_drop {w:World} {t:TypeId} {g n c:Nat} {xs:List Value} {f:List Nat} (h:(slA t (.slice (some ⟨g,0,none⟩) n c) xs).p w f) (k m cc:Nat) (hm:m=xs.length - k):SrcAt w (xs.drop k) (.slice (some ⟨g,k,none⟩) m cc):=by
 subst hm;refine .inr ⟨_,cc,by rw [List.length_drop],λ j u hj=> ?_⟩;rw [List.getElem?_drop] at hj;obtain ⟨h1,h2⟩:=List.getElem?_eq_some_iff.1 hj;rw [Addr.add_lit,<-h2];exact (sl_elem h (k+j) h1).1
theorem src_take {w:World} {t:TypeId} {g n c:Nat} {xs:List Value} {f:List Nat} (h:(slA t (.slice (some ⟨g,0,none⟩) n c) xs).p w f) (k cc:Nat) (hk:k<=xs.length):SrcAt w (xs.take k) (.slice (some ⟨g,0,none⟩) k cc):=by
 refine .inr ⟨_,cc,by rw [List.length_take,Nat.min_eq_left hk],λ j u hj=> ?_⟩;rw [List.getElem?_take] at hj;split at hj
 · obtain ⟨h1,h2⟩:=List.getElem?_eq_some_iff.1 hj
   rw [Addr.add_lit,<-h2,Nat.zero_add];exact (sl_elem h j h1).1
 · cases hj
theorem Rg.Ob.ins (G:Rg) (i kb k m f:Nat) (xs:List Value) {x:Value} {t:TypeId} (hC:InsSpec G.P t f) (hm:m<=xs.length) (hl:xs.length < 1099511627776) (h1:∀u∈xs,u.oneCell'=true) (hx:x.oneCell'=true)
 {ib db:Nat} {v:Value} {xs0:List Value} {st:List (Nat×Option Src×List Value)} {s b:Operand} (hkb:G.pcs[kb]? =some (.new ib [db] λ g=> boxA t (g db) x):=by rfl) (hk:G.pcs[k]? =some (.sl t v xs0 st):=by rfl)
 (_hop:∃n ts,(opAt G.ops i).op=.call ⟨.value (.func f),#[s,n,b],ts⟩:=by exact ⟨_,_,rfl⟩)
 (hr:∀a w,(execOp (G.env i a) (opAt G.ops i)).run G.P w=.ok (.enter f #[G.env i a s, .int .i64 m,G.env i a b]) w:=by intro _ _;exact kr (by kernel_rfl))
 (hb:∀a,a.eval b=slots a db:=by exact λ _=> rfl)
 (hs:∀L a,G.env i a=a.eval->G.env i a s=slV (rb (Pc.sl t v xs0 st).fl (lk (closOf G.ops) i L)) (rv (Pc.sl t v xs0 st).ds (slots a)) v st:=by intro _ _ _;exact kr (by kernel_rfl))
 (hx0:∀L,slX (rb (Pc.sl t v xs0 st).fl (lk (closOf G.ops) i L)) xs0 st=xs:=by intro _;exact kr (by kernel_rfl)) (hx1:∀L,slX (rb (Pc.sl t v xs0 st).fl (ln (closOf G.ops) i L)) xs0 st=xs.take m++x::xs.drop m:=by intro _;exact kr (by kernel_rfl))
 (hs1:∀L g u,slV (rb (Pc.sl t v xs0 st).fl (ln (closOf G.ops) i L)) (rv (Pc.sl t v xs0 st).ds (sput g (dstOf G.ops i) u)) v st=u:=by intro _ _ _;exact kr (by kernel_rfl))
 (hin:((closOf G.ops).getD i []).elem ib=true:=by exact kr (by kernel_rfl)) (hsh:∀g a n c,G.shp i g (.slice a n c)=.slice a n c:=by intro _ _ _ _;exact kr (by kernel_rfl))
 (hlt:kb < k:=by decide) (hq:G.quiet i k=true:=by exact kr (by kernel_rfl)) (hw:∀a,wantE G.ops (opAt G.ops i) (G.env i a)=some true:=by intro _;exact kr (by kernel_rfl)):G.Ob i:=Rg.Ob.eff2 G i kb k hlt hkb hk (λ L a w g fp he _ hg hp hdis=> by
 rw [new_there hin] at hg;have e1:rv [db] (slots a) db=slots a db:=by unfold rv;simp
 rw [e1] at hg;obtain ⟨vb,e2,h2,rfl⟩:=hg;have hp':(slA t (slV (rb (Pc.sl t v xs0 st).fl (lk (closOf G.ops) i L)) (rv (Pc.sl t v xs0 st).ds (slots a)) v st) (slX (rb (Pc.sl t v xs0 st).fl (lk (closOf G.ops) i L)) xs0 st)).p w fp:=hp;rw [hx0,<-hs L a he] at hp';rw [hr a w,show G.env i a b=.slice (some ⟨vb,0,none⟩) 1 1 from (congrFun he b).trans ((hb a).trans e2)];refine Calls.mono (hC _ xs m vb x w fp hp' hm hl h1 hx h2 (hdis vb (by simp))) λ e w' h=> ?_;obtain ⟨aa,n,c,f',rfl,h3,h4⟩:=h;refine ⟨_,rfl,G.shp_of (hsh _ _ _ _),f',?_,h4⟩;have e:(Pc.sl t v xs0 st).at (ln (closOf G.ops) i L) (sput (slots a) (dstOf G.ops i) (.slice aa n c))=slA t (.slice aa n c) (xs.take m++x::xs.drop m):=by show slA t (slV _ _ v st) (slX _ xs0 st)=_;rw [hs1,hx1]
 rw [e];exact h3) hq hw
theorem Rg.Ob.del (G:Rg) (i k m f:Nat) (xs:List Value) {t:TypeId} (hC:DelSpec G.P t f) (hm:m < xs.length) (hl:xs.length < 1099511627776) (h1:∀u∈xs,u.oneCell'=true)
 {v:Value} {xs0:List Value} {st:List (Nat×Option Src×List Value)} {s:Operand} (hk:G.pcs[k]? =some (.sl t v xs0 st):=by rfl)
 (_hop:∃n n' ts,(opAt G.ops i).op=.call ⟨.value (.func f),#[s,n,n'],ts⟩:=by exact ⟨_,_,_,rfl⟩)
 (hr:∀a w,(execOp (G.env i a) (opAt G.ops i)).run G.P w=.ok (.enter f #[G.env i a s, .int .i64 m, .int .i64 ((m:Int)+1)]) w:=by intro _ _;exact kr (by kernel_rfl))
 (hs:∀L a,G.env i a=a.eval->G.env i a s=slV (rb (Pc.sl t v xs0 st).fl (lk (closOf G.ops) i L)) (rv (Pc.sl t v xs0 st).ds (slots a)) v st:=by intro _ _ _;exact kr (by kernel_rfl))
 (hx0:∀L,slX (rb (Pc.sl t v xs0 st).fl (lk (closOf G.ops) i L)) xs0 st=xs:=by intro _;exact kr (by kernel_rfl)) (hx1:∀L,slX (rb (Pc.sl t v xs0 st).fl (ln (closOf G.ops) i L)) xs0 st=xs.eraseIdx m:=by intro _;exact kr (by kernel_rfl))
 (hs1:∀L g u,slV (rb (Pc.sl t v xs0 st).fl (ln (closOf G.ops) i L)) (rv (Pc.sl t v xs0 st).ds (sput g (dstOf G.ops i) u)) v st=u:=by intro _ _ _;exact kr (by kernel_rfl))
 (hsh:∀g a n c,G.shp i g (.slice a n c)=.slice a n c:=by intro _ _ _ _;exact kr (by kernel_rfl))
 (hq:G.quiet i k=true:=by exact kr (by kernel_rfl)) (hw:∀a,wantE G.ops (opAt G.ops i) (G.env i a)=some true:=by intro _;exact kr (by kernel_rfl)):G.Ob i:=Rg.Ob.eff G i k hk (λ L a w fp he _ hp=> by
 have hp':(slA t (slV (rb (Pc.sl t v xs0 st).fl (lk (closOf G.ops) i L)) (rv (Pc.sl t v xs0 st).ds (slots a)) v st) (slX (rb (Pc.sl t v xs0 st).fl (lk (closOf G.ops) i L)) xs0 st)).p w fp:=hp;rw [hx0,<-hs L a he] at hp';rw [hr a w];refine Calls.mono (hC _ xs m w fp hp' hm hl h1) λ e w' h=> ?_;obtain ⟨aa,n,c,f',rfl,h3,h4⟩:=h;refine ⟨_,rfl,G.shp_of (hsh _ _ _ _),f',?_,h4⟩;have e:(Pc.sl t v xs0 st).at (ln (closOf G.ops) i L) (sput (slots a) (dstOf G.ops i) (.slice aa n c))=slA t (.slice aa n c) (xs.eraseIdx m):=by show slA t (slV _ _ v st) (slX _ xs0 st)=_;rw [hs1,hx1]
 rw [e];exact h3) hq hw
theorem Rg.Ob.clone (G:Rg) (i ks k f:Nat) (xs:List Value) {t:TypeId} (hC:CloneSpec G.P t f) (hl:xs.length < 1099511627776) (h1:∀u∈xs,u.oneCell'=true) {s:Value} {t':TypeId} {v:Value} {xs0 xs1:List Value} {st:List (Nat×Option Src×List Value)} {u:Value}
 (hsrc:∀w fp,(slA t' u xs1).p w fp->SrcAt w xs s) {d:Nat} (hks:G.pcs[ks]? =some (.sl t' v xs0 st):=by rfl) (hu:∀L g,slV (rb (Pc.sl t' v xs0 st).fl (lk (closOf G.ops) i L)) (rv (Pc.sl t' v xs0 st).ds g) v st=u:=by intro _ _;rfl) (hx0:∀L,slX (rb (Pc.sl t' v xs0 st).fl (lk (closOf G.ops) i L)) xs0 st=xs1:=by intro _;rfl) (hk:G.pcs[k]? =some (.new i [d] λ g=> slA t (g d) xs):=by rfl)
 (hr:∀a w,(execOp (G.env i a) (opAt G.ops i)).run G.P w=.ok (.enter f #[s]) w:=by intro _ _;exact kr (by kernel_rfl))
 (hd:dstOf G.ops i=some d:=by exact kr (by kernel_rfl)) (hself:((closOf G.ops).getD i []).elem i=false:=by exact kr (by kernel_rfl)) (hsh:∀g a n c,G.shp i g (.slice a n c)=.slice a n c:=by intro _ _ _ _;exact kr (by kernel_rfl))
 (hq:G.quiet i k=true:=by exact kr (by kernel_rfl)) (hw:∀a,wantE G.ops (opAt G.ops i) (G.env i a)=some true:=by intro _;exact kr (by kernel_rfl)):G.Ob i:=Rg.Ob.eff G i k hk (λ L a w fp _ hS hp=> by
 rw [new_before hself] at hp;obtain rfl:fp=[]:=hp;obtain ⟨f0,hf⟩:=Rg.has hks hS;have hf':(slA t' (slV (rb (Pc.sl t' v xs0 st).fl (lk (closOf G.ops) i L)) (rv (Pc.sl t' v xs0 st).ds (slots a)) v st) (slX (rb (Pc.sl t' v xs0 st).fl (lk (closOf G.ops) i L)) xs0 st)).p w f0:=hf;rw [hu,hx0] at hf';rw [hr a w];refine Calls.mono (hC xs s w (hsrc w f0 hf') h1 hl) λ e w' h=> ?_;obtain ⟨aa,n,c,f',rfl,h3,h4,h5⟩:=h;refine ⟨_,rfl,G.shp_of (hsh _ _ _ _),f',?_,Tr.of_new h4 h5⟩;rw [new_after,hd];have e:rv [d] (sput (slots a) (some d) (.slice aa n c)) d=.slice aa n c:=by unfold rv sput;simp
 rw [e];exact h3) hq hw
def permB (is:List Nat) (n:Nat):Bool:=is.all (λ i=> decide (i < n)) && (List.range n).all λ i=> is.count i==1
theorem count_range (a:Nat):∀n,(List.range n).count a=if a < n then 1 else 0
 | 0=> rfl
 | n+1=> by
  rw [List.range_succ,List.count_append,count_range a n,List.count_singleton];by_cases h:a < n
  · have:¬ n=a:=by omega
    simp [h,this];omega
  · by_cases h2:n=a
    · subst h2;simp
    · have:¬ a < n+1:=by omega
      simp [h,h2,this]
theorem perm_range {is:List Nat} {n:Nat} (h:permB is n=true):is.Perm (List.range n):=by
 unfold permB at h;simp only [Bool.and_eq_true,beq_iff_eq,List.all_eq_true,decide_eq_true_iff] at h;obtain ⟨h1,h2⟩:=h;refine List.perm_iff_count.2 λ a=> ?_;rw [count_range];by_cases ha:a < n
 · rw [if_pos ha];exact h2 a (List.mem_range.2 ha)
 · rw [if_neg ha]
   exact List.count_eq_zero.2 λ hm=> ha (h1 a hm)
theorem map_getD (L:List Asn):(List.range L.length).map (λ i=> L.getD i emp)=L:=by
 apply List.ext_getElem
 · simp
 · intro i h1 h2
   simp [List.getD,h2]
theorem St_re {w0 w:World} {fp0:List Nat} {L R:List Asn} (h:St w0 fp0 (L++R) w) (is js:List Nat) (hp:permB (is++js) L.length=true):St w0 fp0 (is.map (λ i=> L.getD i emp)++(js.map (λ i=> L.getD i emp)++R)) w:=by
 refine h.perm ?_;rw [<-List.append_assoc,<-List.map_append];refine List.Perm.append_right _ ?_;have h1:=(perm_range hp).map λ i=> L.getD i emp;rw [map_getD] at h1;exact h1.symm
inductive Ky where
 | int (n:Int)
 | str (s:ByteArray)
inductive Va where
 | int (n:Int)
 | sl (a:Option Addr) (n c:Nat)
def encK:Ky->Value
 | .int n=> .int .i64 n
 | .str s=> .string s
def encV:Va->Value
 | .int n=> .int .i64 n
 | .sl a n c=> .slice a n c
theorem encK_one (k:Ky):(encK k).oneCell'=true:=by cases k <;> rfl
theorem encV_one (v:Va):(encV v).oneCell'=true:=by cases v <;> rfl
def Ky.ok:Bool->Ky->Prop
 | false, .int _=> True
 | true, .str _=> True
 | _,_=> False
def va0:Bool->Va
 | false=> .sl none 0 0
 | true=> .int 0
def cmpKy:Ky->Ky->Int
 | .int a, .int b=> cmpS a b
 | .int _, .str _=> -1
 | .str _, .int _=> 1
 | .str a, .str b=> Lib.compareBytes (bytes a) (bytes b)
instance:KOrd Ky where
 cmp:=cmpKy
 range a b:=by
  cases a <;> cases b
  · exact cmpS_range _ _
  · exact .inl rfl
  · exact .inr (.inr rfl)
  · exact cmpB_range _ _
 zero {a b}:=by
  cases a <;> cases b <;> simp only [cmpKy,reduceCtorEq,iff_false,Ky.int.injEq,Ky.str.injEq] <;> first
   | exact cmpS_zero
   | exact cmpB_zero.trans ⟨bytes_inj,λ e=> by rw [e]⟩
   | decide
 swap a b:=by
  cases a <;> cases b
  · exact cmpS_swap _ _
  · rfl
  · rfl
  · exact cmpB_swap _ _
 trans {a b c}:=by
  cases a <;> cases b <;> cases c <;> simp only [cmpKy] <;> intro h1 h2 <;> first
   | omega
   | (exact cmpS_neg.2 (Int.lt_trans (cmpS_neg.1 h1) (cmpS_neg.1 h2)))
   | exact cmpB_trans h1 h2
abbrev MM:=M Ky Va
abbrev TT:=T Ky Va
def tN (β:Bool):Nat:=match β with | false=> 157 | true=> 166
def tT (β:Bool):Nat:=match β with | false=> 152 | true=> 162
def tK (β:Bool):Nat:=match β with | false=> 2 | true=> 9
def tV (β:Bool):Nat:=match β with | false=> 27 | true=> 2
def tP (β:Bool):Nat:=match β with | false=> 150 | true=> 160
def tE (β:Bool):Nat:=match β with | false=> 206 | true=> 180
def tES (β:Bool):Nat:=match β with | false=> 203 | true=> 177
def tKS (β:Bool):Nat:=match β with | false=> 153 | true=> 163
def tVS (β:Bool):Nat:=match β with | false=> 154 | true=> 153
def tPS (β:Bool):Nat:=match β with | false=> 155 | true=> 164
def opsR (F:Func) (r:Nat):Array Oper:=((F.body).bind λ c=> opsOf c r).getD #[]
def bodyC (F:Func):Code:=F.body.getD .skip
def fInsK (β:Bool):Nat:=match β with | false=> 114 | true=> 121
def fInsV (β:Bool):Nat:=match β with | false=> 115 | true=> 114
def fInsP (β:Bool):Nat:=match β with | false=> 119 | true=> 124
def fClK (β:Bool):Nat:=match β with | false=> 116 | true=> 122
def fClV (β:Bool):Nat:=match β with | false=> 117 | true=> 116
def fClP (β:Bool):Nat:=match β with | false=> 118 | true=> 123
def fDelK (β:Bool):Nat:=match β with | false=> 125 | true=> 130
def fDelV (β:Bool):Nat:=match β with | false=> 126 | true=> 125
def fDelP (β:Bool):Nat:=match β with | false=> 152 | true=> 154
def fNew (β:Bool):Nat:=match β with | false=> 70 | true=> 104
def fPut (β:Bool):Nat:=match β with | false=> 63 | true=> 64
def BPut (β:Bool):Func:=match β with | false=> Tryz.f63 | true=> Tryz.f64
def fIns0 (β:Bool):Nat:=match β with | false=> 94 | true=> 96
def BIns0 (β:Bool):Func:=match β with | false=> Tryz.f94 | true=> Tryz.f96
def fSplit (β:Bool):Nat:=match β with | false=> 95 | true=> 97
def BSplit (β:Bool):Func:=match β with | false=> Tryz.f95 | true=> Tryz.f97
def fGet (β:Bool):Nat:=match β with | false=> 69 | true=> 69
def BGet (β:Bool):Func:=match β with | false=> Tryz.f69 | true=> Tryz.f69
def fDelete (β:Bool):Nat:=match β with | false=> 67 | true=> 68
def BDelete (β:Bool):Func:=match β with | false=> Tryz.f67 | true=> Tryz.f68
def fRemove (β:Bool):Nat:=match β with | false=> 98 | true=> 100
def BRemove (β:Bool):Func:=match β with | false=> Tryz.f98 | true=> Tryz.f100
def fFill (β:Bool):Nat:=match β with | false=> 129 | true=> 133
def BFill (β:Bool):Func:=match β with | false=> Tryz.f129 | true=> Tryz.f133
def fMerge (β:Bool):Nat:=match β with | false=> 153 | true=> 155
def BMerge (β:Bool):Func:=match β with | false=> Tryz.f153 | true=> Tryz.f155
def fMax (β:Bool):Nat:=match β with | false=> 127 | true=> 131
def BMax (β:Bool):Func:=match β with | false=> Tryz.f127 | true=> Tryz.f131
def fLeast (β:Bool):Nat:=match β with | false=> 128 | true=> 132
def fLeaf (β:Bool):Nat:=match β with | false=> 99 | true=> 101
def fFind (β:Bool):Nat:=match β with | false=> 102 | true=> 120
def fCollect (β:Bool):Nat:=match β with | false=> 138 | true=> 111
def BCollect (β:Bool):Func:=match β with | false=> Tryz.f138 | true=> Tryz.f111
def fBetween (β:Bool):Nat:=match β with | false=> 109 | true=> 90
def fBetw1 (β:Bool):Nat:=match β with | false=> 137 | true=> 110
def BBetw1 (β:Bool):Func:=match β with | false=> Tryz.f137 | true=> Tryz.f110
def okI (β:Bool):Bool:=match β with | false=> true | true=> 1==1
class OkI (β:Bool):Prop where
 ok:okI β=true
instance:OkI false:=⟨rfl⟩
section
variable {β:Bool}
def ptrV (b:Nat):Value:=.pointer (some ⟨b,0,none⟩)
def keysV (es:MM):List Value:=es.map λ e=> encK e.1
def valsV (es:MM):List Value:=es.map λ e=> encV e.2
def nodeL (β:Bool) (K:TT->Nat->Asn) (x:TT) (b:Nat) (q:Value×Value×Value×List Nat):List Asn:=
 pureA (q.2.2.2.length=x.cs.length)::blkA b (tN β) #[q.1,q.2.1,q.2.2.1]::slA (tK β) q.1 (keysV x.es)::slA (tV β) q.2.1 (valsV x.es)::slA (tP β) q.2.2.1 (q.2.2.2.map ptrV)::List.zipWith K x.cs q.2.2.2
def nodeA (β:Bool) (K:TT->Nat->Asn) (x:TT) (b:Nat):Asn:=exA λ q=> starA (nodeL β K x b q)
def treeA (β:Bool):Nat->TT->Nat->Asn
 | 0=> nodeA β λ _ _=> emp
 | h+1=> nodeA β (treeA β h)
def kidA (β:Bool):Nat->TT->Nat->Asn
 | 0=> λ _ _=> emp
 | h+1=> treeA β h
theorem treeA_eq (h:Nat):treeA β h=nodeA β (kidA β h):=by cases h <;> rfl
theorem keysV_length (es:MM):(keysV es).length=es.length:=by simp [keysV]
theorem valsV_length (es:MM):(valsV es).length=es.length:=by simp [valsV]
theorem keysV_one (es:MM):∀u∈keysV es,u.oneCell'=true:=by
 intro u hu;obtain ⟨e,_,rfl⟩:=List.mem_map.1 hu
 first | exact encK_one _ | exact encV_one _ | rfl
theorem valsV_one (es:MM):∀u∈valsV es,u.oneCell'=true:=by
 intro u hu;obtain ⟨e,_,rfl⟩:=List.mem_map.1 hu
 first | exact encK_one _ | exact encV_one _ | rfl
theorem ptrV_one (bs:List Nat):∀u∈bs.map ptrV,u.oneCell'=true:=by
 intro u hu;obtain ⟨e,_,rfl⟩:=List.mem_map.1 hu
 first | exact encK_one _ | exact encV_one _ | rfl
theorem St.openT {w0 w:World} {fp0:List Nat} {L2:List Asn} {h:Nat} {x:TT} {b:Nat} (hs:St w0 fp0 (treeA β h x b::L2) w):∃q,St w0 fp0 (nodeL β (kidA β h) x b q++L2) w:=by
 rw [treeA_eq] at hs;exact hs.unfold λ f ⟨q,hq⟩=> ⟨q,hq⟩
theorem St.shutT {w0 w:World} {fp0:List Nat} {L2:List Asn} {h:Nat} {x:TT} {b:Nat} (q:Value×Value×Value×List Nat) (hs:St w0 fp0 (nodeL β (kidA β h) x b q++L2) w):St w0 fp0 (treeA β h x b::L2) w:=by
 rw [treeA_eq];exact hs.fold λ f hf=> ⟨q,hf⟩
end
section
variable {β:Bool}
def restA (β:Bool) (h i j:Nat) (cs:List TT) (bs:List Nat):Asn:=starA (List.zipWith (treeA β h) (cs.take i) (bs.take i)++List.zipWith (treeA β h) (cs.drop j) (bs.drop j))
theorem zip3T (h i j:Nat) (hij:i<=j) (cs:List TT) (bs:List Nat) (hl:bs.length=cs.length):
 List.zipWith (treeA β h) cs bs=List.zipWith (treeA β h) (cs.take i) (bs.take i)++(List.zipWith (treeA β h) ((cs.take j).drop i) ((bs.take j).drop i)++List.zipWith (treeA β h) (cs.drop j) (bs.drop j)):=by
 conv=> lhs;rw [<-List.take_append_drop j cs,<-List.take_append_drop j bs]
 rw [zipWith_app _ _ _ _ _ (by simp [hl])]
 conv=> lhs;lhs;rw [<-List.take_append_drop i (cs.take j),<-List.take_append_drop i (bs.take j)]
 rw [zipWith_app _ _ _ _ _ (by simp [hl]),List.take_take,List.take_take,Nat.min_eq_left hij,List.append_assoc]
theorem St.kidsT {w0 w:World} {fp0:List Nat} {R:List Asn} {h:Nat} {x:TT} {b:Nat} (i j:Nat) (hij:i<=j) (hs:St w0 fp0 (treeA β (h+1) x b::R) w):∃ks vs ps bs,bs.length=x.cs.length/\
 St w0 fp0 (blkA b (tN β) #[ks,vs,ps]::slA (tK β) ks (keysV x.es)::slA (tV β) vs (valsV x.es)::slA (tP β) ps (bs.map ptrV)::restA β h i j x.cs bs::(List.zipWith (treeA β h) ((x.cs.take j).drop i) ((bs.take j).drop i)++R)) w:=by
 obtain ⟨⟨ks,vs,ps,bs⟩,h1⟩:=hs.openT;obtain ⟨h2,h3⟩:=St.pure.1 h1;simp only at h2 h3;refine ⟨ks,vs,ps,bs,h2,?_⟩;rw [show kidA β (h+1)=treeA β h from rfl,zip3T h i j hij _ _ h2] at h3;have h4:St w0 fp0 ((List.zipWith (treeA β h) (x.cs.take i) (bs.take i)++List.zipWith (treeA β h) (x.cs.drop j) (bs.drop j))++(blkA b (tN β) #[ks,vs,ps]::slA (tK β) ks (keysV x.es)::slA (tV β) vs (valsV x.es)::slA (tP β) ps (bs.map ptrV)::(List.zipWith (treeA β h) ((x.cs.take j).drop i) ((bs.take j).drop i)++R))) w:=by
  refine h3.perm ?_
  classical refine List.perm_iff_count.2 λ a=> ?_;simp only [List.append_eq,List.cons_append,List.count_append,List.count_cons];omega
 refine (St.star.2 h4).perm ?_
 classical refine List.perm_iff_count.2 λ a=> ?_;simp only [List.count_append,List.count_cons,restA];omega
theorem St.joinT {w0 w:World} {fp0:List Nat} {R:List Asn} {h:Nat} {cs mid:List TT} {es:MM} {b:Nat} {ks vs ps:Value} {bs mb:List Nat} (i j:Nat) (hl:bs.length=cs.length) (hm:mb.length=mid.length)
 (hs:St w0 fp0 (blkA b (tN β) #[ks,vs,ps]::slA (tK β) ks (keysV es)::slA (tV β) vs (valsV es)::slA (tP β) ps ((bs.take i++(mb++bs.drop j)).map ptrV)::restA β h i j cs bs::(List.zipWith (treeA β h) mid mb++R)) w):
 St w0 fp0 (treeA β (h+1) (.node es (cs.take i++(mid++cs.drop j))) b::R) w:=by
 refine St.shutT (ks,vs,ps,bs.take i++(mb++bs.drop j)) ?_;refine St.pure.2 ⟨by simp [cs_node,hl,hm],?_⟩;rw [show kidA β (h+1)=treeA β h from rfl,es_node,cs_node,zipWith_app _ _ _ _ _ (by simp [hl]),zipWith_app _ _ _ _ _ hm.symm];have h4:St w0 fp0 (restA β h i j cs bs::(blkA b (tN β) #[ks,vs,ps]::slA (tK β) ks (keysV es)::slA (tV β) vs (valsV es)::slA (tP β) ps ((bs.take i++(mb++bs.drop j)).map ptrV)::(List.zipWith (treeA β h) mid mb++R))) w:=by
  refine hs.perm ?_
  classical refine List.perm_iff_count.2 λ a=> ?_;simp only [List.count_append,List.count_cons];omega
 refine (St.star.1 h4).perm ?_
 classical refine List.perm_iff_count.2 λ a=> ?_;simp only [List.append_eq,List.cons_append,List.count_append,List.count_cons];omega
theorem mid1 {α:Type} {l:List α} {i:Nat} {c:α} (h:l[i]? =some c):(l.take (i+1)).drop i=[c]:=by
 obtain ⟨h1,h2⟩:=List.getElem?_eq_some_iff.1 h;rw [List.take_succ_eq_append_getElem h1,List.drop_append_of_le_length (by simp;omega),List.drop_of_length_le (by simp;omega),h2];rfl
theorem St.viewT {w0 w:World} {fp0:List Nat} {R:List Asn} {h:Nat} {x:TT} {b:Nat} (i:Nat) {c:TT} (hc:x.cs[i]? =some c) (hs:St w0 fp0 (treeA β (h+1) x b::R) w):∃ks vs ps bs cb,bs.length=x.cs.length/\bs[i]? =some cb/\
 St w0 fp0 (blkA b (tN β) #[ks,vs,ps]::slA (tK β) ks (keysV x.es)::slA (tV β) vs (valsV x.es)::slA (tP β) ps (bs.map ptrV)::restA β h i (i+1) x.cs bs::treeA β h c cb::R) w:=by
 obtain ⟨ks,vs,ps,bs,h1,h2⟩:=hs.kidsT i (i+1) (Nat.le_succ i);have hi:i < bs.length:=by rw [h1];exact (List.getElem?_eq_some_iff.1 hc).1
 refine ⟨ks,vs,ps,bs,bs[i],h1,List.getElem?_eq_getElem hi,?_⟩;rw [mid1 hc,mid1 (List.getElem?_eq_getElem hi)] at h2;exact h2
theorem St.unviewT {w0 w:World} {fp0:List Nat} {R:List Asn} {h:Nat} {es:MM} {cs:List TT} {b i cb:Nat} {c':TT} {ks vs ps:Value} {bs:List Nat} (hl:bs.length=cs.length) (hb:bs[i]? =some cb)
 (hs:St w0 fp0 (blkA b (tN β) #[ks,vs,ps]::slA (tK β) ks (keysV es)::slA (tV β) vs (valsV es)::slA (tP β) ps (bs.map ptrV)::restA β h i (i+1) cs bs::treeA β h c' cb::R) w):
 St w0 fp0 (treeA β (h+1) (.node es (cs.set i c')) b::R) w:=by
 obtain ⟨h1,h2⟩:=List.getElem?_eq_some_iff.1 hb;have e:cs.set i c'=cs.take i++([c']++cs.drop (i+1)):=by rw [set_at (List.getElem?_eq_getElem (by omega:i < cs.length))];rfl
 have e':bs=bs.take i++([cb]++bs.drop (i+1)):=split_at hb;rw [e];refine St.joinT (ks:=ks) (vs:=vs) (ps:=ps) (mb:=[cb]) i (i+1) hl rfl ?_;rw [<-e'];exact hs
theorem St.openNT {w0 w:World} {fp0:List Nat} {L:List Asn} {h:Nat} {x:TT} {b:Nat} (hs:St w0 fp0 (treeA β h x b::L) w):∃ks vs ps bs,bs.length=x.cs.length/\
 St w0 fp0 (blkA b (tN β) #[ks,vs,ps]::slA (tK β) ks (keysV x.es)::slA (tV β) vs (valsV x.es)::slA (tP β) ps (bs.map ptrV)::starA (List.zipWith (kidA β h) x.cs bs)::L) w:=by
 obtain ⟨⟨ks,vs,ps,bs⟩,h1⟩:=hs.openT;obtain ⟨h2,h3⟩:=St.pure.1 h1;simp only at h2 h3;refine ⟨ks,vs,ps,bs,h2,?_⟩;have h4:St w0 fp0 (List.zipWith (kidA β h) x.cs bs++(blkA b (tN β) #[ks,vs,ps]::slA (tK β) ks (keysV x.es)::slA (tV β) vs (valsV x.es)::slA (tP β) ps (bs.map ptrV)::L)) w:=by
  refine h3.perm ?_
  classical refine List.perm_iff_count.2 λ a=> ?_;simp only [List.append_eq,List.cons_append,List.count_append,List.count_cons];omega
 refine (St.star.2 h4).perm ?_
 classical refine List.perm_iff_count.2 λ a=> ?_;simp only [List.count_cons];omega
theorem St.shutNT {w0 w:World} {fp0:List Nat} {L:List Asn} {h:Nat} {es:MM} {cs:List TT} {b:Nat} {ks vs ps:Value} {bs:List Nat} (hl:bs.length=cs.length)
 (hs:St w0 fp0 (blkA b (tN β) #[ks,vs,ps]::slA (tK β) ks (keysV es)::slA (tV β) vs (valsV es)::slA (tP β) ps (bs.map ptrV)::starA (List.zipWith (kidA β h) cs bs)::L) w):St w0 fp0 (treeA β h (.node es cs) b::L) w:=by
 refine St.shutT (ks,vs,ps,bs) (St.pure.2 ⟨hl,?_⟩);rw [es_node,cs_node];have h4:St w0 fp0 (starA (List.zipWith (kidA β h) cs bs)::(blkA b (tN β) #[ks,vs,ps]::slA (tK β) ks (keysV es)::slA (tV β) vs (valsV es)::slA (tP β) ps (bs.map ptrV)::L)) w:=by
  refine hs.perm ?_
  classical refine List.perm_iff_count.2 λ a=> ?_;simp only [List.count_cons];omega
 refine (St.star.1 h4).perm ?_
 classical refine List.perm_iff_count.2 λ a=> ?_;simp only [List.append_eq,List.cons_append,List.count_append,List.count_cons];omega
theorem St.cutkidsT {w0 w:World} {fp0:List Nat} {L:List Asn} {h:Nat} {cs:List TT} {bs:List Nat} (d:Nat) (hl:bs.length=cs.length) (hs:St w0 fp0 (starA (List.zipWith (kidA β h) cs bs)::L) w):
 St w0 fp0 (starA (List.zipWith (kidA β h) (cs.take d) (bs.take d))::starA (List.zipWith (kidA β h) (cs.drop d) (bs.drop d))::L) w:=by
 have h1:=St.star.1 hs;rw [<-List.take_append_drop d cs,<-List.take_append_drop d bs,zipWith_app _ _ _ _ _ (by simp [hl]),List.append_assoc] at h1;have h2:St w0 fp0 (starA (List.zipWith (kidA β h) (cs.drop d) (bs.drop d))::(List.zipWith (kidA β h) (cs.take d) (bs.take d)++L)) w:=by
  refine St.star.2 (h1.perm ?_)
  classical refine List.perm_iff_count.2 λ a=> ?_;simp only [List.count_append];omega
 refine St.star.2 (h2.perm ?_)
 classical refine List.perm_iff_count.2 λ a=> ?_;simp only [List.count_append,List.count_cons];omega
theorem St.at_open {w0 w:World} {fp0:List Nat} {L:List Asn} {t:TypeId} {s:Value} {c:Array Value} (hs:St w0 fp0 (atA t s c::L) w):∃b,s=.pointer (some ⟨b,0,none⟩)/\St w0 fp0 (blkA b t c::L) w:=by
 obtain ⟨fp,⟨f,g,⟨b,h0,h1⟩,h2,h3,rfl⟩,ht⟩:=hs;exact ⟨b,h0,f++g,⟨f,g,h1,h2,h3,rfl⟩,ht⟩
theorem St.nilA {w0 w:World} {fp0:List Nat} {L:List Asn} (t:TypeId) (hs:St w0 fp0 L w):St w0 fp0 (slA t (.slice none 0 0) []::L) w:=by
 obtain ⟨fp,h1,h2⟩:=hs;exact ⟨fp,⟨[],fp,⟨World.ownsRow_nil _ _ _ _,rfl⟩,h1,by simp,rfl⟩,h2⟩
theorem tree_lookT {w:World} {h:Nat} {x:TT} {b:Nat} {f:List Nat} (ht:(treeA β h x b).p w f):∃ka kc vs ps,w.cell? ⟨b,0,none⟩=some (.slice ka x.es.length kc)/\w.cell? ⟨b,1,none⟩=some vs/\w.cell? ⟨b,2,none⟩=some ps/\b < w.heap.size:=by
 rw [treeA_eq] at ht;obtain ⟨⟨ks,vs,ps,bs⟩,hq⟩:=ht;obtain ⟨_,g,_,⟨f1,g1,h1,⟨f2,g2,h2,_⟩,_⟩,_⟩:=hq;obtain ⟨a,c,e,_⟩:=sl_get h2;rw [keysV_length] at e;refine ⟨a,c,vs,ps,?_,(blk_get h1).1 1,(blk_get h1).1 2,(blk_get h1).2.2⟩;rw [<-e];exact (blk_get h1).1 0
theorem St.newblk {w0 w:World} {fp0:List Nat} {L:List Asn} (h:St w0 fp0 L w) (t:TypeId) (c:Array Value):St w0 fp0 (blkA w.heap.size t c::L) (w.alloc (.cells c t)):=by
 have h1:St w0 fp0 (L++[blkA w.heap.size t c]) (w.alloc (.cells c t)):=h.add ((Below.refl _ _).alloc (Nat.le_refl _) _) ⟨heap_alloc_new w _,rfl⟩ (by simp);exact h1.perm List.perm_append_comm
end
end
end Go.Proofs.YtnefkkidfhmggaaGreat
noncomputable section
namespace Go.Proofs.YtnefkkidfhmggaaGreat
open T
section
variable {κ ν:Type}
def maxT:Nat->T κ ν->Option (κ×ν)
 | 0,x=> x.es.getLast?
 | h+1,x=> match x.cs.getLast? with
  | none=> none
  | some c=> maxT h c
def mergeT (i:Nat) (x:T κ ν):T κ ν:=match x.cs[i]?,x.cs[i+1]?,x.es[i]? with
 | some l,some r,some s=> .node (x.es.eraseIdx i) (x.cs.take i++.node (l.es++s::r.es) (l.cs++r.cs)::x.cs.drop (i+2))
 | _,_,_=> x
def rightT (i:Nat) (x:T κ ν):T κ ν:=match x.cs[i]?,x.cs[i+1]?,x.es[i]? with
 | some l,some c,some s=> match l.es.getLast? with
  | some m=> .node (x.es.set i m) (x.cs.take i++.node l.es.dropLast (l.cs.dropLast)::.node (s::c.es) (l.cs.getLast?.toList++c.cs)::x.cs.drop (i+2))
  | none=> x
 | _,_,_=> x
def leftT (i:Nat) (x:T κ ν):T κ ν:=match x.cs[i]?,x.cs[i+1]?,x.es[i]? with
 | some c,some r,some s=> match r.es with
  | m::R=> .node (x.es.set i m) (x.cs.take i++.node (c.es++[s]) (c.cs++r.cs.take 1)::.node R (r.cs.drop 1)::x.cs.drop (i+2))
  | []=> x
 | _,_,_=> x
def cntT (x:T κ ν) (i:Nat):Nat:=match x.cs[i]? with | some c=> c.es.length | none=> 0
def fillT (o i:Nat) (x:T κ ν):T κ ν:=
 if 0 < i/\least o < cntT x (i - 1) then rightT (i - 1) x
 else if i < x.es.length/\least o < cntT x (i+1) then leftT i x
 else if 0 < i then mergeT (i - 1) x else mergeT i x
theorem toL_two (h:Nat) (A:M κ ν) (s:κ×ν) (B:M κ ν) (C1:List (T κ ν)) (c d:T κ ν) (C2:List (T κ ν)) (hl:A.length=C1.length):
 toL (h+1) (.node (A++s::B) (C1++c::d::C2))=pre (toL h) A C1++(toL h c++s::toL h d)++post (toL h) B C2:=by
 rw [toL_split h A (s::B) C1 (d::C2) c hl,post];simp
theorem toL_one (h:Nat) (A:M κ ν) (B:M κ ν) (C1:List (T κ ν)) (c:T κ ν) (C2:List (T κ ν)) (hl:A.length=C1.length):
 toL (h+1) (.node (A++B) (C1++c::C2))=pre (toL h) A C1++toL h c++post (toL h) B C2:=toL_split h A B C1 C2 c hl
theorem snoc_of {α:Type} {l:List α} (h:l≠[]):∃m x,l=m++[x]:=⟨_,_,(List.dropLast_concat_getLast h).symm⟩
theorem ne_nil {α:Type} {l:List α} (h:0 < l.length):l≠[]:=by intro e;rw [e] at h;exact absurd h (by simp)
theorem toL_join {o h lo hi lo' hi':Nat} {l r:T κ ν} (hl:Body o h lo hi l) (hr:Body o h lo' hi' r) (s:κ×ν):toL h (.node (l.es++s::r.es) (l.cs++r.cs))=toL h l++s::toL h r:=by
 cases h with
 | zero=> simp [toL,es_node]
 | succ h=>
  obtain ⟨le,lc⟩:=l;obtain ⟨re,rc⟩:=r;have h1:=hl.2.2.1;have h2:=hr.2.2.1;simp only [es_node,cs_node] at *;obtain ⟨C1,c,rfl⟩:=snoc_of (ne_nil (l:=lc) (by omega));cases rc with
  | nil=> simp at h2
  | cons d C2=>
   have hlen:le.length=C1.length:=by simp at h1;omega
   rw [show C1++[c]++d::C2=C1++c::d::C2 by simp,toL_two h _ _ _ _ _ _ _ hlen,toL_last h _ _ _ hlen,toL_cons];simp
theorem toL_right {o h lo hi lo' hi':Nat} {l c:T κ ν} {m s:κ×ν} (hl:Body o h lo hi l) (hr:Body o h lo' hi' c) (hm:l.es.getLast? =some m):
 toL h (.node l.es.dropLast l.cs.dropLast)++m::toL h (.node (s::c.es) (l.cs.getLast?.toList++c.cs))=toL h l++s::toL h c:=by
 obtain ⟨le,lc⟩:=l;obtain ⟨ce,cc⟩:=c;simp only [es_node,cs_node] at *;obtain ⟨L,rfl⟩:∃L,le=L++[m]:=by obtain ⟨L,x,rfl⟩:=snoc_of (l:=le) (by intro e;rw [e] at hm;simp at hm);simp at hm;exact ⟨L,by rw [hm]⟩
 cases h with
 | zero=>
  have h1:=hl.2.2;have h2:=hr.2.2;simp only [cs_node] at h1 h2;subst h1 h2;simp [toL,es_node]
 | succ h=>
  have h1:=hl.2.2.1;have h2:=hr.2.2.1;simp only [es_node,cs_node] at h1 h2;obtain ⟨K,d,rfl⟩:=snoc_of (ne_nil (l:=lc) (by omega));obtain ⟨K',d',rfl⟩:=snoc_of (l:=K) (ne_nil (by simp at h1;omega));cases cc with
  | nil=> simp at h2
  | cons d2 C2=>
   have hlen:L.length=K'.length:=by simp at h1;omega
   rw [show K'++[d']++[d]=K'++d'::d::[] by simp,show (L++[m]:M κ ν)=L++m::[] by rfl,toL_two h _ _ _ _ _ _ _ hlen];have e1:(K'++d'::d::[]).dropLast=K'++[d']:=by rw [show K'++d'::d::[]=(K'++[d'])++[d] by simp,List.dropLast_concat]
   have e2:(K'++d'::d::[]).getLast? =some d:=by rw [show K'++d'::d::[]=(K'++[d'])++[d] by simp,List.getLast?_concat]
   have e3:(L++m::[]).dropLast=L:=List.dropLast_concat;rw [e1,e2,e3,toL_last h _ _ _ hlen];simp only [Option.toList,List.cons_append,List.nil_append,toL_cons,post];simp
theorem toL_left {o h lo hi lo' hi':Nat} {c r:T κ ν} {m s:κ×ν} {R:M κ ν} (hl:Body o h lo hi c) (hr:Body o h lo' hi' r) (hm:r.es=m::R):
 toL h (.node (c.es++[s]) (c.cs++r.cs.take 1))++m::toL h (.node R (r.cs.drop 1))=toL h c++s::toL h r:=by
 obtain ⟨ce,cc⟩:=c;obtain ⟨re,rc⟩:=r;simp only [es_node,cs_node] at *;subst hm;cases h with
 | zero=>
  have h1:=hl.2.2;have h2:=hr.2.2;simp only [cs_node] at h1 h2;subst h1 h2;simp [toL,es_node]
 | succ h=>
  have h1:=hl.2.2.1;have h2:=hr.2.2.1;simp only [es_node,cs_node] at h1 h2;obtain ⟨K,d,rfl⟩:=snoc_of (ne_nil (l:=cc) (by omega))
  match rc,h2 with
  | d1::d2::C2,h2=>
   have hlen:ce.length=K.length:=by simp at h1;omega
   simp only [List.take_succ_cons,List.take_zero,List.drop_succ_cons,List.drop_zero];rw [show K++[d]++[d1]=K++d::d1::[] by simp,toL_two h _ _ _ _ _ _ _ hlen,toL_last h _ _ _ hlen];simp only [toL_cons,post];simp
  | [d1],h2=> simp at h2
  | [],h2=> simp at h2
theorem Body.node {o h lo hi:Nat} {es:M κ ν} {cs:List (T κ ν)} (h1:lo<=es.length) (h2:es.length<=hi) (h3:cs.length=es.length+1) (h4:∀c∈cs,Body o h (least o) (o - 1) c):Body o (h+1) lo hi (.node es cs):=⟨h1,h2,h3,h4⟩
theorem Body.kids {o h lo hi:Nat} {x:T κ ν} (hb:Body o h lo hi x):(h=0/\x.cs=[])\/∃h',h=h'+1/\x.cs.length=x.es.length+1/\∀c∈x.cs,Body o h' (least o) (o - 1) c:=by
 cases h with
 | zero=> exact .inl ⟨rfl,hb.2.2⟩
 | succ h=> exact .inr ⟨h,rfl,hb.2.2.1,hb.2.2.2⟩
structure Short (o h i:Nat) (x:T κ ν):Prop where
 len:x.cs.length=x.es.length+1
 pos:0 < x.es.length
 at':i < x.cs.length
 kid:∀c,x.cs[i]? =some c->Body o h (least o - 1) (o - 1) c/\c.es.length+1=least o
 rest:∀j c,j≠i->x.cs[j]? =some c->Body o h (least o) (o - 1) c
theorem two_at {x:T κ ν} {i:Nat} {l r:T κ ν} {s:κ×ν} (h1:x.cs[i]? =some l) (h2:x.cs[i+1]? =some r) (h3:x.es[i]? =some s):
 x.es=x.es.take i++s::x.es.drop (i+1)/\x.cs=x.cs.take i++l::r::x.cs.drop (i+2)/\(x.es.take i).length=(x.cs.take i).length:=by
 refine ⟨split_at h3,?_,?_⟩
 · have e1:=split_at h1
   have e2:x.cs.drop (i+1)=r::x.cs.drop (i+2):=by obtain ⟨hlt,hx⟩:=List.getElem?_eq_some_iff.1 h2;rw [List.drop_eq_getElem_cons hlt,hx]
   rw [e2] at e1;exact e1
 · have a1:=(List.getElem?_eq_some_iff.1 h1).1
   have a2:=(List.getElem?_eq_some_iff.1 h3).1;rw [List.length_take,List.length_take];omega
theorem mem_two {o h i:Nat} {x:T κ ν} (hs:∀j c,j≠i->j≠i+1->x.cs[j]? =some c->Body o h (least o) (o - 1) c):
 (∀d∈x.cs.take i,Body o h (least o) (o - 1) d)/\∀d∈x.cs.drop (i+2),Body o h (least o) (o - 1) d:=by
 refine ⟨λ d hd=> ?_,λ d hd=> ?_⟩
 · obtain ⟨j,hj,rfl⟩:=List.mem_iff_getElem.1 hd
   rw [List.length_take] at hj;exact hs j _ (by omega) (by omega) (by rw [List.getElem_take];exact List.getElem?_eq_getElem _)
 · obtain ⟨j,hj,rfl⟩:=List.mem_iff_getElem.1 hd
   rw [List.length_drop] at hj;exact hs (i+2+j) _ (by omega) (by omega) (by rw [List.getElem_drop];exact List.getElem?_eq_getElem _)
theorem least_two {o:Nat} (ho:3<=o):1<=least o/\2 * least o<=o - 1:=by unfold least;omega
theorem merge_spec {o h i:Nat} {x l r:T κ ν} {s:κ×ν} (h1:x.cs[i]? =some l) (h2:x.cs[i+1]? =some r) (h3:x.es[i]? =some s) (hlen:x.cs.length=x.es.length+1)
 {la lb ra rb:Nat} (hl:Body o h la lb l) (hr:Body o h ra rb r) (hsum:least o<=l.es.length+r.es.length+1/\l.es.length+r.es.length+1<=o - 1)
 (hs:∀j c,j≠i->j≠i+1->x.cs[j]? =some c->Body o h (least o) (o - 1) c):
 (mergeT i x).es.length=x.es.length - 1/\Body o (h+1) (x.es.length - 1) (x.es.length - 1) (mergeT i x)/\toL (h+1) (mergeT i x)=toL (h+1) x:=by
 have e:mergeT i x=.node (x.es.eraseIdx i) (x.cs.take i++.node (l.es++s::r.es) (l.cs++r.cs)::x.cs.drop (i+2)):=by unfold mergeT;rw [h1,h2,h3]
 obtain ⟨t1,t2,t3⟩:=two_at h1 h2 h3;obtain ⟨m1,m2⟩:=mem_two hs;have hi:=(List.getElem?_eq_some_iff.1 h3).1;have hi2:=(List.getElem?_eq_some_iff.1 h2).1;have he:(x.es.eraseIdx i).length=x.es.length - 1:=List.length_eraseIdx_of_lt hi;have hee:x.es.eraseIdx i=x.es.take i++x.es.drop (i+1):=List.eraseIdx_eq_take_drop_succ _ _;have hj:Body o h (least o) (o - 1) (T.node (l.es++s::r.es) (l.cs++r.cs)):=by
  have hle:(l.es++s::r.es).length=l.es.length+r.es.length+1:=by simp;omega
  rcases hl.kids with ⟨rfl,hk⟩ | ⟨h',rfl,hk,hk'⟩
  · have hk2:=hr.2.2
    exact ⟨by rw [es_node,hle];omega,by rw [es_node,hle];omega,by rw [cs_node,hk,hk2];rfl⟩
  · have hk2:=hr.2.2.1
    have hk3:=hr.2.2.2;refine ⟨by rw [es_node,hle];omega,by rw [es_node,hle];omega,by rw [cs_node,es_node,List.length_append,hle];omega,λ d hd=> ?_⟩;rcases List.mem_append.1 hd with hd | hd
    · exact hk' d hd
    · exact hk3 d hd
 rw [e];refine ⟨he,Body.node (by rw [he];exact Nat.le_refl _) (by rw [he];exact Nat.le_refl _) ?_ λ d hd=> ?_,?_⟩
 · rw [he]
   simp only [List.length_append,List.length_cons,List.length_take,List.length_drop];omega
 · rcases List.mem_append.1 hd with hd | hd
   · exact m1 d hd
   · rcases List.mem_cons.1 hd with rfl | hd
     · exact hj
     · exact m2 d hd
 · conv=> rhs;rw [<-T.eta x,t1,t2]
   rw [hee,toL_two h _ _ _ _ _ _ _ t3,toL_one h _ _ _ _ _ t3,toL_join hl hr]
theorem right_spec {o h i:Nat} {x l c:T κ ν} {s:κ×ν} (h1:x.cs[i]? =some l) (h2:x.cs[i+1]? =some c) (h3:x.es[i]? =some s) (hlen:x.cs.length=x.es.length+1)
 (ho:3<=o) (hl:Body o h (least o) (o - 1) l) (hr:Body o h (least o - 1) (o - 1) c) (hbig:least o < l.es.length) (hsm:c.es.length+1=least o)
 (hs:∀j c,j≠i->j≠i+1->x.cs[j]? =some c->Body o h (least o) (o - 1) c):
 Body o (h+1) x.es.length x.es.length (rightT i x)/\toL (h+1) (rightT i x)=toL (h+1) x:=by
 obtain ⟨m,hm⟩:∃m,l.es.getLast? =some m:=⟨_,List.getLast?_eq_some_getLast (ne_nil (by omega))⟩
 have e:rightT i x=.node (x.es.set i m) (x.cs.take i++.node l.es.dropLast (l.cs.dropLast)::.node (s::c.es) (l.cs.getLast?.toList++c.cs)::x.cs.drop (i+2)):=by unfold rightT;rw [h1,h2,h3];simp only [hm]
 obtain ⟨t1,t2,t3⟩:=two_at h1 h2 h3;obtain ⟨m1,m2⟩:=mem_two hs;have hi2:=(List.getElem?_eq_some_iff.1 h2).1;obtain ⟨lo1,lo2⟩:=least_two ho;have hli:=hl.hi;have hset:x.es.set i m=x.es.take i++m::x.es.drop (i+1):=set_at h3 m;have hj:Body o h (least o) (o - 1) (T.node l.es.dropLast l.cs.dropLast)/\Body o h (least o) (o - 1) (T.node (s::c.es) (l.cs.getLast?.toList++c.cs)):=by
  have hle:l.es.dropLast.length=l.es.length - 1:=List.length_dropLast;rcases hl.kids with ⟨rfl,hk⟩ | ⟨h',rfl,hk,hk'⟩
  · have hk2:=hr.2.2
    refine ⟨⟨by rw [es_node,hle];omega,by rw [es_node,hle];omega,by rw [cs_node,hk];rfl⟩,⟨by rw [es_node,List.length_cons];omega,by rw [es_node,List.length_cons];omega,by rw [cs_node,hk,hk2];rfl⟩⟩
  · have hk2:=hr.2.2.1
    have hk3:=hr.2.2.2;obtain ⟨y,hy⟩:∃y,l.cs.getLast? =some y:=⟨_,List.getLast?_eq_some_getLast (ne_nil (by omega))⟩
    refine ⟨⟨by rw [es_node,hle];omega,by rw [es_node,hle];omega,by rw [cs_node,es_node,List.length_dropLast,hle];omega,λ d hd=> hk' d (List.dropLast_subset _ hd)⟩,
     ⟨by rw [es_node,List.length_cons];omega,by rw [es_node,List.length_cons];omega,by rw [cs_node,es_node,hy,List.length_append,List.length_cons];simp only [Option.toList,List.length_cons,List.length_nil];omega,λ d hd=> ?_⟩⟩
    rw [cs_node,hy] at hd;rcases List.mem_append.1 hd with hd | hd
    · simp only [Option.toList,List.mem_singleton] at hd
      subst hd;exact hk' _ (List.mem_of_getLast? hy)
    · exact hk3 d hd
 rw [e];refine ⟨Body.node (by rw [List.length_set];exact Nat.le_refl _) (by rw [List.length_set];exact Nat.le_refl _) ?_ λ d hd=> ?_,?_⟩
 · rw [List.length_set]
   simp only [List.length_append,List.length_cons,List.length_take,List.length_drop];omega
 · rcases List.mem_append.1 hd with hd | hd
   · exact m1 d hd
   · rcases List.mem_cons.1 hd with rfl | hd
     · exact hj.1
     · rcases List.mem_cons.1 hd with rfl | hd
       · exact hj.2
       · exact m2 d hd
 · conv=> rhs;rw [<-T.eta x,t1,t2]
   rw [hset,toL_two h _ _ _ _ _ _ _ t3,toL_two h _ _ _ _ _ _ _ t3,toL_right hl hr hm]
theorem left_spec {o h i:Nat} {x c r:T κ ν} {s:κ×ν} (h1:x.cs[i]? =some c) (h2:x.cs[i+1]? =some r) (h3:x.es[i]? =some s) (hlen:x.cs.length=x.es.length+1)
 (ho:3<=o) (hl:Body o h (least o - 1) (o - 1) c) (hr:Body o h (least o) (o - 1) r) (hbig:least o < r.es.length) (hsm:c.es.length+1=least o)
 (hs:∀j c,j≠i->j≠i+1->x.cs[j]? =some c->Body o h (least o) (o - 1) c):
 Body o (h+1) x.es.length x.es.length (leftT i x)/\toL (h+1) (leftT i x)=toL (h+1) x:=by
 obtain ⟨m,R,hm⟩:∃m R,r.es=m::R:=by
  cases hh:r.es with
  | nil=> rw [hh] at hbig;simp at hbig
  | cons a b=> exact ⟨a,b,rfl⟩
 have e:leftT i x=.node (x.es.set i m) (x.cs.take i++.node (c.es++[s]) (c.cs++r.cs.take 1)::.node R (r.cs.drop 1)::x.cs.drop (i+2)):=by unfold leftT;rw [h1,h2,h3];simp only [hm]
 obtain ⟨t1,t2,t3⟩:=two_at h1 h2 h3;obtain ⟨m1,m2⟩:=mem_two hs;have hi2:=(List.getElem?_eq_some_iff.1 h2).1;obtain ⟨lo1,lo2⟩:=least_two ho;have hri:=hr.hi;have hRl:R.length+1=r.es.length:=by rw [hm];rfl
 have hset:x.es.set i m=x.es.take i++m::x.es.drop (i+1):=set_at h3 m;have hj:Body o h (least o) (o - 1) (T.node (c.es++[s]) (c.cs++r.cs.take 1))/\Body o h (least o) (o - 1) (T.node R (r.cs.drop 1)):=by
  have hle:(c.es++[s]).length=c.es.length+1:=by simp
  rcases hr.kids with ⟨rfl,hk⟩ | ⟨h',rfl,hk,hk'⟩
  · have hk2:=hl.2.2
    refine ⟨⟨by rw [es_node,hle];omega,by rw [es_node,hle];omega,by rw [cs_node,hk,hk2];rfl⟩,⟨by rw [es_node];omega,by rw [es_node];omega,by rw [cs_node,hk];rfl⟩⟩
  · have hk2:=hl.2.2.1
    have hk3:=hl.2.2.2;refine ⟨⟨by rw [es_node,hle];omega,by rw [es_node,hle];omega,by rw [cs_node,es_node,List.length_append,List.length_take,hle];omega,λ d hd=> ?_⟩,
     ⟨by rw [es_node];omega,by rw [es_node];omega,by rw [cs_node,es_node,List.length_drop];omega,λ d hd=> hk' d (List.mem_of_mem_drop hd)⟩⟩
    rcases List.mem_append.1 hd with hd | hd
    · exact hk3 d hd
    · exact hk' d (List.mem_of_mem_take hd)
 rw [e];refine ⟨Body.node (by rw [List.length_set];exact Nat.le_refl _) (by rw [List.length_set];exact Nat.le_refl _) ?_ λ d hd=> ?_,?_⟩
 · rw [List.length_set]
   simp only [List.length_append,List.length_cons,List.length_take,List.length_drop];omega
 · rcases List.mem_append.1 hd with hd | hd
   · exact m1 d hd
   · rcases List.mem_cons.1 hd with rfl | hd
     · exact hj.1
     · rcases List.mem_cons.1 hd with rfl | hd
       · exact hj.2
       · exact m2 d hd
 · conv=> rhs;rw [<-T.eta x,t1,t2]
   rw [hset,toL_two h _ _ _ _ _ _ _ t3,toL_two h _ _ _ _ _ _ _ t3,toL_left hl hr hm]
theorem fill_spec {o h i:Nat} (ho:3<=o) {x:T κ ν} (hs:Short o h i x):Body o (h+1) (x.es.length - 1) x.es.length (fillT o i x)/\toL (h+1) (fillT o i x)=toL (h+1) x:=by
 obtain ⟨h1,h2,h3,h4,h5⟩:=hs;obtain ⟨lo1,lo2⟩:=least_two ho;obtain ⟨c,hc⟩:∃c,x.cs[i]? =some c:=⟨_,List.getElem?_eq_getElem h3⟩
 obtain ⟨hcb,hcl⟩:=h4 c hc;unfold fillT;by_cases c1:0 < i/\least o < cntT x (i - 1)
 · rw [if_pos c1]
   obtain ⟨c1,c1'⟩:=c1;obtain ⟨j,rfl⟩:∃j,i=j+1:=⟨i - 1,by omega⟩
   rw [Nat.add_sub_cancel] at c1' ⊢;obtain ⟨l,hl⟩:∃l,x.cs[j]? =some l:=⟨_,List.getElem?_eq_getElem (by omega)⟩
   obtain ⟨s,hs⟩:∃s,x.es[j]? =some s:=⟨_,List.getElem?_eq_getElem (by omega)⟩
   unfold cntT at c1';rw [hl] at c1';obtain ⟨r1,r2⟩:=right_spec hl hc hs h1 ho (h5 j l (by omega) hl) hcb c1' hcl (λ k d hk1 hk2 hd=> h5 k d hk2 hd);exact ⟨r1.mono (by have:=r1.lo;omega) r1.hi,r2⟩
 · rw [if_neg c1]
   by_cases c2:i < x.es.length/\least o < cntT x (i+1)
   · rw [if_pos c2]
     obtain ⟨c2,c2'⟩:=c2;obtain ⟨r,hr⟩:∃r,x.cs[i+1]? =some r:=⟨_,List.getElem?_eq_getElem (by omega)⟩
     obtain ⟨s,hs⟩:∃s,x.es[i]? =some s:=⟨_,List.getElem?_eq_getElem c2⟩
     unfold cntT at c2';rw [hr] at c2';obtain ⟨r1,r2⟩:=left_spec hc hr hs h1 ho hcb (h5 (i+1) r (by omega) hr) c2' hcl (λ k d hk1 hk2 hd=> h5 k d hk1 hd);exact ⟨r1.mono (by have:=r1.lo;omega) r1.hi,r2⟩
   · rw [if_neg c2]
     by_cases c3:0 < i
     · rw [if_pos c3]
       obtain ⟨j,rfl⟩:∃j,i=j+1:=⟨i - 1,by omega⟩
       rw [Nat.add_sub_cancel] at c1 ⊢;obtain ⟨l,hl⟩:∃l,x.cs[j]? =some l:=⟨_,List.getElem?_eq_getElem (by omega)⟩
       obtain ⟨s,hs⟩:∃s,x.es[j]? =some s:=⟨_,List.getElem?_eq_getElem (by omega)⟩
       have hlb:=h5 j l (by omega) hl;have hle:l.es.length<=least o:=by have:¬ least o < cntT x j:=λ hh=> c1 ⟨c3,hh⟩;unfold cntT at this;rw [hl] at this;simp only at this;omega
       obtain ⟨r1,r2,r3⟩:=merge_spec hl hc hs h1 hlb hcb (by have:=hlb.lo;omega) (λ k d hk1 hk2 hd=> h5 k d hk2 hd);exact ⟨r2.mono (by omega) (by omega),r3⟩
     · rw [if_neg c3]
       obtain rfl:i=0:=by omega
       obtain ⟨r,hr⟩:∃r,x.cs[0+1]? =some r:=⟨_,List.getElem?_eq_getElem (by omega)⟩
       obtain ⟨s,hs⟩:∃s,x.es[0]? =some s:=⟨_,List.getElem?_eq_getElem h2⟩
       have hrb:=h5 1 r (by omega) hr;have hle:r.es.length<=least o:=by have:¬ least o < cntT x (0+1):=λ hh=> c2 ⟨h2,hh⟩;unfold cntT at this;rw [hr] at this;simp only at this;omega
       obtain ⟨r1,r2,r3⟩:=merge_spec hc hr hs h1 hcb hrb (by have:=hrb.lo;omega) (λ k d hk1 hk2 hd=> h5 k d hk1 hd);exact ⟨r2.mono (by omega) (by omega),r3⟩
theorem max_spec {o:Nat} (ho:3<=o):∀{h lo hi:Nat} {x:T κ ν},Body o h lo hi x->0 < x.es.length->∃L m,maxT h x=some m/\toL h x=L++[m]
 | 0,lo,hi,x,hb,hp=> by obtain ⟨L,m,e⟩:=snoc_of (ne_nil hp);exact ⟨L,m,by rw [maxT,e,List.getLast?_concat],e⟩
 | h+1,lo,hi, .node es cs,hb,hp=> by have h3:=hb.2.2.1;have h4:=hb.2.2.2;simp only [es_node,cs_node] at *;obtain ⟨C,c,rfl⟩:=snoc_of (ne_nil (l:=cs) (by omega));have hc:=h4 c (by simp);obtain ⟨lo1,_⟩:=least_two ho;obtain ⟨L,m,e1,e2⟩:=max_spec ho hc (by have:=hc.lo;omega);refine ⟨pre (toL h) es C++L,m,by rw [maxT,cs_node,List.getLast?_concat];exact e1,?_⟩;rw [toL_last h _ _ _ (by simp at h3;omega),e2,List.append_assoc]
theorem fix_spec {o h i:Nat} (ho:3<=o) {es:M κ ν} {cs:List (T κ ν)} {c':T κ ν} (hlen:cs.length=es.length+1) (hp:0 < es.length) (hhi:es.length<=o - 1) (hi:i < cs.length) (hb:Body o h (least o - 1) (o - 1) c')
 (hk:∀c∈cs,Body o h (least o) (o - 1) c):
 let x':=T.node es (cs.set i c');let y:=if c'.es.length < least o then fillT o i x' else x'
 Body o (h+1) (es.length - 1) (o - 1) y/\toL (h+1) y=toL (h+1) x':=by
 simp only;have hkid:∀j c,j≠i->(cs.set i c')[j]? =some c->Body o h (least o) (o - 1) c:=by intro j c hj hc;rw [List.getElem?_set_ne (λ e=> hj e.symm)] at hc;exact hk c (List.mem_of_getElem? hc)
 split
 · rename_i hlt
   have hs:Short o h i (T.node es (cs.set i c')):=by refine ⟨by simpa [cs_node,es_node] using hlen,hp,by simpa [cs_node] using hi,λ c hc=> ?_,hkid⟩;rw [cs_node,List.getElem?_set_self (by simpa using hi)] at hc;injection hc with hc;subst hc;exact ⟨hb,by have:=hb.lo;obtain ⟨lo1,_⟩:=least_two ho;omega⟩
   obtain ⟨f1,f2⟩:=fill_spec ho hs;exact ⟨f1.mono f1.lo (by have:=f1.hi;simp only [es_node] at this;omega),f2⟩
 · rename_i hge
   refine ⟨Body.node (by omega) hhi (by simpa using hlen) λ d hd=> ?_,rfl⟩;obtain ⟨j,hj⟩:=List.getElem?_of_mem hd;by_cases e:j=i
   · subst e
     rw [List.getElem?_set_self (by simpa using hi)] at hj;injection hj with hj;subst hj;exact hb.mono (by omega) hb.hi
   · exact hkid j d e hj
end
section
variable {κ ν:Type} [KOrd κ]
def removeT (o:Nat):Nat->T κ ν->κ->T κ ν
 | 0,x,k=> if hasK x.es k then .node (x.es.eraseIdx (posK x.es k)) x.cs else x
 | h+1,x,k=> match x.cs[posK x.es k]? with
  | none=> x
  | some c=>
   if hasK x.es k then
    match maxT h c with
    | none=> x
    | some m=>
     let c':=removeT o h c m.1;let x':=T.node (x.es.set (posK x.es k) m) (x.cs.set (posK x.es k) c')
     if c'.es.length < least o then fillT o (posK x.es k) x' else x'
   else
    let c':=removeT o h c k;let x':=T.node x.es (x.cs.set (posK x.es k) c')
    if c'.es.length < least o then fillT o (posK x.es k) x' else x'
theorem removeT_spec {o:Nat} (ho:3<=o):∀(h lo:Nat) (x:T κ ν) (k:κ),Body o h lo (o - 1) x->(h≠0->0 < x.es.length)->AscM (toL h x)->
 Body o h (lo - 1) (o - 1) (removeT o h x k)/\toL h (removeT o h x k)=delM (toL h x) k
 | 0,lo,x,k,hb,_,ha=> by
  have hc:=hb.2.2;have h1:=hb.1;have h2:=hb.2.1;have hlt:=posK_lt x.es k;rw [removeT];cases hh:hasK x.es k
  · have hgt:=hasK_no (asc_es ha) hh
    simp only [Bool.false_eq_true,if_false];refine ⟨hb.mono (by omega) h2,?_⟩;simp only [toL]
    conv=> rhs;rw [<-List.take_append_drop (posK x.es k) x.es]
    rw [delM_none hlt hgt,List.take_append_drop]
  · obtain ⟨y,m,hd,he⟩:=hasK_yes hh
    have hy:x.es[posK x.es k]? =some y:=by rw [getElem?_drop0,hd];rfl
    have hl:=(List.getElem?_eq_some_iff.1 hy).1;have hle:(x.es.eraseIdx (posK x.es k)).length=x.es.length - 1:=List.length_eraseIdx_of_lt hl;simp only [if_true];refine ⟨⟨by rw [es_node,hle];omega,by rw [es_node,hle];omega,hc⟩,?_⟩;simp only [toL,es_node]
    conv=> rhs;rw [split_at hy]
    rw [delM_here hlt he,List.eraseIdx_eq_take_drop_succ]
 | h+1,lo,x,k,hb,hp,ha=> by
  obtain ⟨h1,h2,h3,h4⟩:=hb;have hpos:=hp (by omega);have hple:=posK_le x.es k;have hlt:=posK_lt x.es k;obtain ⟨lo1,lo2⟩:=least_two ho;obtain ⟨c,hc⟩:∃c,x.cs[posK x.es k]? =some c:=⟨_,List.getElem?_eq_getElem (by omega)⟩
  have hcm:=List.mem_of_getElem? hc;have hcb:=h4 c hcm;have hcp:0 < c.es.length:=by have:=hcb.lo;omega
  have hl1:(x.es.take (posK x.es k)).length=(x.cs.take (posK x.es k)).length:=by rw [List.length_take,List.length_take];omega
  have hil:posK x.es k < x.cs.length:=by omega
  rw [removeT];simp only [hc];cases hh:hasK x.es k
  · have hgt:=hasK_no (asc_es ha) hh
    simp only [Bool.false_eq_true,if_false];have hxe:toL (h+1) x=pre (toL h) (x.es.take (posK x.es k)) (x.cs.take (posK x.es k))++toL h c++post (toL h) (x.es.drop (posK x.es k)) (x.cs.drop (posK x.es k+1)):=by rw [<-toL_split h _ _ _ _ _ hl1,List.take_append_drop,<-split_at hc,T.eta]
    rw [hxe] at ha;obtain ⟨a1,a2,a3⟩:=AscM.append.1 ha;obtain ⟨a4,a5,a6⟩:=AscM.append.1 a1;obtain ⟨ih1,ih2⟩:=removeT_spec ho h (least o) c k hcb (λ _=> hcp) a5;obtain ⟨f1,f2⟩:=fix_spec ho h3 hpos h2 hil ih1 h4;refine ⟨f1.mono (by have:=f1.lo;omega) f1.hi,?_⟩;rw [f2,set_at hc,hxe,delM_gt (post_gt hgt a2),delM_lt (pre_lt hlt a4),<-ih2];have:=toL_split h (x.es.take (posK x.es k)) (x.es.drop (posK x.es k)) (x.cs.take (posK x.es k)) (x.cs.drop (posK x.es k+1)) (removeT o h c k) hl1;rw [List.take_append_drop] at this;exact this
  · obtain ⟨y,m',hd,he⟩:=hasK_yes hh
    have hy:x.es[posK x.es k]? =some y:=by rw [getElem?_drop0,hd];rfl
    simp only [if_true];obtain ⟨L,mx,hm,hL⟩:=max_spec ho hcb hcp;simp only [hm];have hlt2:posK x.es k < x.es.length:=(List.getElem?_eq_some_iff.1 hy).1;obtain ⟨c2,hc2⟩:∃c2,x.cs[posK x.es k+1]? =some c2:=⟨_,List.getElem?_eq_getElem (by omega)⟩
    obtain ⟨t1,t2,t3⟩:=two_at hc hc2 hy;have hxe:toL (h+1) x=pre (toL h) (x.es.take (posK x.es k)) (x.cs.take (posK x.es k))++(toL h c++y::toL h c2)++post (toL h) (x.es.drop (posK x.es k+1)) (x.cs.drop (posK x.es k+2)):=by
     conv=> lhs;rw [<-T.eta x,t1,t2]
     exact toL_two h _ _ _ _ _ _ _ t3
    rw [hxe] at ha;have hac:AscM (toL h c):=by obtain ⟨a1,_⟩:=AscM.append.1 ha;obtain ⟨_,a2,_⟩:=AscM.append.1 a1;exact (AscM.append.1 a2).1
    obtain ⟨ih1,ih2⟩:=removeT_spec ho h (least o) c mx.1 hcb (λ _=> hcp) hac;have hdel:toL h (removeT o h c mx.1)=L:=by rw [ih2,hL];have h5:=hac;rw [hL] at h5;have h6:=AscM.mid (l:=L) (m:=[]) (x:=mx) h5;have:=delM_here (l:=L) (m:=[]) (x:=mx) h6.2.2.1 rfl;simpa using this
    obtain ⟨f1,f2⟩:=fix_spec ho (es:=x.es.set (posK x.es k) mx) (by rw [List.length_set];exact h3) (by rw [List.length_set];exact hpos) (by rw [List.length_set];exact h2) hil ih1 h4;rw [List.length_set] at f1;refine ⟨f1.mono (by have:=f1.lo;omega) f1.hi,?_⟩;rw [f2,set_at hc,set_at hy,hxe];have e2:x.cs.drop (posK x.es k+1)=c2::x.cs.drop (posK x.es k+2):=by obtain ⟨hlt3,hx⟩:=List.getElem?_eq_some_iff.1 hc2;rw [List.drop_eq_getElem_cons hlt3,hx]
    rw [e2,toL_two h _ _ _ _ _ _ _ t3,hdel,hL];have hmid:AscM ((pre (toL h) (x.es.take (posK x.es k)) (x.cs.take (posK x.es k))++toL h c)++y::(toL h c2++post (toL h) (x.es.drop (posK x.es k+1)) (x.cs.drop (posK x.es k+2)))):=by simpa using ha
    obtain ⟨b1,b2,b3,b4,b5⟩:=hmid.mid;have hdh:=delM_here (x:=y) (k:=k) (m:=toL h c2++post (toL h) (x.es.drop (posK x.es k+1)) (x.cs.drop (posK x.es k+2))) (λ z hz=> by have:=b3 z hz;rwa [he] at this) he;rw [hL] at hdh;simp only [List.append_assoc,List.cons_append,List.nil_append] at hdh ⊢;rw [hdh]
end
end Go.Proofs.YtnefkkidfhmggaaGreat
end
namespace Go.Proofs.YtnefkkidfhmggaaGreat
open Go Go.RowKit
noncomputable section
section
variable {β:Bool}
def rootB (h:Nat):Nat:=if h=0 then 0 else 1
def GoodT (o h:Nat) (l:MM) (x:TT):Prop:=Body o h (rootB h) (o - 1) x/\AscM (toL h x)/\toL h x=l
def objA (β:Bool) (o h:Nat) (l:MM) (tb:Nat):Asn:=exA λ q:TT×Nat=> starA [pureA (GoodT o h l q.1),blkA tb (tT β) #[ptrV q.2, .int .i64 o, .int .i64 l.length],treeA β h q.1 q.2]
theorem St.openOT {w0 w:World} {fp0:List Nat} {R:List Asn} {o h:Nat} {l:MM} {tb:Nat} (hs:St w0 fp0 (objA β o h l tb::R) w):∃x rb,GoodT o h l x/\St w0 fp0 (treeA β h x rb::blkA tb (tT β) #[ptrV rb, .int .i64 o, .int .i64 l.length]::R) w:=by
 obtain ⟨⟨x,rb⟩,h1⟩:=hs.unfold (L1:=λ q:TT×Nat=> [pureA (GoodT o h l q.1),blkA tb (tT β) #[ptrV q.2, .int .i64 o, .int .i64 l.length],treeA β h q.1 q.2]) λ f ⟨q,hq⟩=> ⟨q,hq⟩
 obtain ⟨h2,h3⟩:=St.pure.1 h1;exact ⟨x,rb,h2,h3.perm (List.Perm.swap _ _ _)⟩
theorem St.shutOT {w0 w:World} {fp0:List Nat} {R:List Asn} {o h:Nat} {l:MM} {tb rb:Nat} {x:TT} (hg:GoodT o h l x) (hs:St w0 fp0 (treeA β h x rb::blkA tb (tT β) #[ptrV rb, .int .i64 o, .int .i64 l.length]::R) w):St w0 fp0 (objA β o h l tb::R) w:=by
 have h1:St w0 fp0 ([pureA (GoodT o h l x),blkA tb (tT β) #[ptrV rb, .int .i64 o, .int .i64 l.length],treeA β h x rb]++R) w:=St.pure.2 ⟨hg,hs.perm (List.Perm.swap _ _ _)⟩;exact h1.fold λ f hf=> ⟨(x,rb),hf⟩
theorem box_sl {w:World} {t:TypeId} {s x:Value} {f:List Nat} (h:(boxA t s x).p w f):(slA t s [x]).p w f:=by
 obtain ⟨vb,rfl,h1,rfl⟩:=h;refine ⟨⟨rfl, .inr ⟨vb,1,#[x],rfl,Nat.zero_le _,h1,?_,?_,?_,?_⟩⟩,rfl⟩ <;> simp [maxLen]
theorem St.box_sl {w0 w:World} {fp0:List Nat} {L:List Asn} {t:TypeId} {s x:Value} (h:St w0 fp0 (boxA t s x::L) w):St w0 fp0 (slA t s [x]::L) w:=by
 obtain ⟨fp,⟨f,g,h1,h2,h3,rfl⟩,ht⟩:=h;exact ⟨f++g,⟨f,g,YtnefkkidfhmggaaGreat.box_sl h1,h2,h3,rfl⟩,ht⟩
theorem St.overT {w0 w:World} {fp0:List Nat} {R:List Asn} {h:Nat} {x:TT} {rb nr:Nat} {s:Value} (hs:St w0 fp0 (blkA nr (tN β) #[.slice none 0 0, .slice none 0 0,s]::boxA (tP β) s (ptrV rb)::treeA β h x rb::R) w):St w0 fp0 (treeA β (h+1) (.node [] [x]) nr::R) w:=by
 refine St.joinT (cs:=[]) (mid:=[x]) (es:=[]) (ks:=.slice none 0 0) (vs:=.slice none 0 0) (ps:=s) (bs:=[]) (mb:=[rb]) 0 0 rfl rfl ?_;have h1:=(hs.perm (List.Perm.swap _ _ _)).box_sl;have h2:St w0 fp0 (restA β h 0 0 [] []::(slA (tP β) s [ptrV rb]::blkA nr (tN β) #[.slice none 0 0, .slice none 0 0,s]::treeA β h x rb::R)) w:=St.star.2 h1;refine ((h2.nilA (tK β)).nilA (tV β)).perm ?_
 classical refine List.perm_iff_count.2 λ a=> ?_;simp only [List.cons_append,List.nil_append,List.zipWith,List.take_nil,List.drop_nil,List.append_nil,List.map_cons,List.map_nil,keysV,valsV,List.count_cons];omega
theorem putM_lengthT (l:MM) (k:Ky) (v:Va):AscM l->(putM l k v).length=if (getM l k).isSome then l.length else l.length+1:=by
 intro ha
 induction l with
 | nil=> rfl
 | cons x l ih=>
  obtain ⟨h1,h2⟩:=AscM.cons.1 ha;rw [putM,getM];by_cases he:eqK x.1 k=true
  · have:=eqK_iff.1 he
    have hn:¬ ltK x.1 k:=by rw [this];exact ltK_irrefl _
    simp [he,hn]
  · by_cases hlt:ltK x.1 k
    · simp only [hlt,if_true,he,List.length_cons,ih h2]
      split <;> simp_all
    · have hgt:=ltK_of_not hlt (λ e=> he (eqK_iff.2 e))
      have hl:getM l k=none:=by have:=getM_none (l:=([]:MM)) (m:=l) (k:=k) (by intro y hy;cases hy) (λ y hy=> ltK_trans hgt (h1 y hy));simpa using this
      simp [he,hlt,hl]
end
section
abbrev LL:=List (Int×Rw)
def AscI (l:LL):Prop:=l.Pairwise λ a b=> a.1 < b.1
def getL (l:LL) (k:Int):Option Rw:=(l.find? λ e=> e.1==k).map (·.2)
def delL (k:Int) (l:LL):LL:=l.filter λ e=> e.1 !=k
def putL' (k:Int) (r:Rw) (l:LL):LL:=(l.filter λ e=> decide (e.1 < k))++(k,r)::l.filter λ e=> decide (k < e.1)
theorem split_id {α:Type} (f:α->Int):∀(l:List α),l.Pairwise (λ a b=> f a < f b)->∀k:Int,(∃A e B,l=A++e::B/\f e=k/\(∀a∈A,f a < k)/\∀b∈B,k < f b)\/(∃A B,l=A++B/\(∀a∈A,f a < k)/\∀b∈B,k < f b)
 | [],_,k=> .inr ⟨[],[],rfl,by simp,by simp⟩
 | x::l,h,k=> by
  obtain ⟨h1,h2⟩:=List.pairwise_cons.1 h;rcases Int.lt_trichotomy (f x) k with hx | hx | hx
  · rcases split_id f l h2 k with ⟨A,e,B,rfl,he,hA,hB⟩ | ⟨A,B,rfl,hA,hB⟩
    · exact .inl ⟨x::A,e,B,rfl,he,by simpa [hx] using hA,hB⟩
    · exact .inr ⟨x::A,B,rfl,by simpa [hx] using hA,hB⟩
  · exact .inl ⟨[],x,l,rfl,hx,by simp,λ b hb=> by have:=h1 b hb;omega⟩
  · refine .inr ⟨[],x::l,rfl,by simp,λ b hb=> ?_⟩
    rcases List.mem_cons.1 hb with rfl | hb
    · exact hx
    · have:=h1 b hb;omega
section
variable {A B:LL} {k:Int}
theorem lt_filter (hA:∀a∈A,a.1 < k) (hB:∀b∈B,k < b.1):(A++B).filter (λ e=> decide (e.1 < k))=A/\(A++B).filter (λ e=> decide (k < e.1))=B/\(A++B).filter (λ e=> e.1 !=k)=A++B:=by
 refine ⟨?_,?_,?_⟩
 · rw [List.filter_append,List.filter_eq_self.2 (λ a ha=> decide_eq_true (hA a ha)),List.filter_eq_nil_iff.2 (λ b hb=> by have:=hB b hb;simp;omega),List.append_nil]
 · rw [List.filter_append,List.filter_eq_self.2 (λ b hb=> decide_eq_true (hB b hb)),List.filter_eq_nil_iff.2 (λ a ha=> by have:=hA a ha;simp;omega),List.nil_append]
 · refine List.filter_eq_self.2 λ e he=> ?_
   rcases List.mem_append.1 he with h | h
   · have:=hA e h;simp;omega
   · have:=hB e h;simp;omega
theorem putL_split (hA:∀a∈A,a.1 < k) (hB:∀b∈B,k < b.1) (r:Rw):putL' k r (A++B)=A++(k,r)::B:=by
 unfold putL';rw [(lt_filter hA hB).1,(lt_filter hA hB).2.1]
theorem delL_split (hA:∀a∈A,a.1 < k) (hB:∀b∈B,k < b.1):delL k (A++B)=A++B:=(lt_filter hA hB).2.2
theorem delL_split1 (hA:∀a∈A,a.1 < k) (hB:∀b∈B,k < b.1) {e:Int×Rw} (he:e.1=k):delL k (A++e::B)=A++B:=by
 have:=delL_split hA hB;unfold delL at *;rw [List.filter_append] at this ⊢;rw [List.filter_cons,if_neg (by simp [he]),this]
theorem getL_split (hA:∀a∈A,a.1 < k) (hB:∀b∈B,k < b.1):getL (A++B) k=none:=by
 unfold getL;rw [List.find?_eq_none.2 λ e he=> ?_]
 · rfl
 · rcases List.mem_append.1 he with h | h
   · have:=hA e h;simp;omega
   · have:=hB e h;simp;omega
theorem getL_split1 (hA:∀a∈A,a.1 < k) {e:Int×Rw} (he:e.1=k):getL (A++e::B) k=some e.2:=by
 unfold getL;rw [List.find?_append,List.find?_eq_none.2 λ e he=> by have:=hA e he;simp;omega];simp [he]
end
theorem putL_delL (k:Int) (r:Rw) (l:LL):putL' k r (delL k l)=putL' k r l:=by
 unfold putL' delL;rw [List.filter_filter,List.filter_filter];congr 1
 · refine List.filter_congr λ e _=> ?_
   by_cases h:e.1 < k
   · have:e.1≠k:=by omega
     simp [h,this]
   · simp [h]
 · congr 1
   refine List.filter_congr λ e _=> ?_;by_cases h:k < e.1
   · have:e.1≠k:=by omega
     simp [h,this]
   · simp [h]
theorem asc_delL {l:LL} (h:AscI l) (k:Int):AscI (delL k l):=h.sublist List.filter_sublist
theorem asc_putL {l:LL} (h:AscI l) (k:Int) (r:Rw):AscI (putL' k r l):=by
 unfold putL';refine List.pairwise_append.2 ⟨h.sublist List.filter_sublist,List.pairwise_cons.2 ⟨λ b hb=> by simpa using (List.mem_filter.1 hb).2,h.sublist List.filter_sublist⟩,λ a ha b hb=> ?_⟩;have h1:a.1 < k:=by simpa using (List.mem_filter.1 ha).2
 rcases List.mem_cons.1 hb with rfl | hb
 · exact h1
 · have:k < b.1:=by simpa using (List.mem_filter.1 hb).2
   omega
theorem mem_delL {l:LL} {k:Int} {e:Int×Rw}:e∈delL k l↔e∈l/\e.1≠k:=by simp [delL]
theorem mem_putL {l:LL} {k:Int} {r:Rw} {e:Int×Rw}:e∈putL' k r l↔e=(k,r)\/e∈l/\e.1≠k:=by
 simp only [putL',List.mem_append,List.mem_cons,List.mem_filter,decide_eq_true_eq];constructor
 · rintro (⟨h1,h2⟩ | h | ⟨h1,h2⟩)
   · exact .inr ⟨h1,by omega⟩
   · exact .inl h
   · exact .inr ⟨h1,by omega⟩
 · rintro (h | ⟨h1,h2⟩)
   · exact .inr (.inl h)
   · rcases Int.lt_trichotomy e.1 k with h | h | h
     · exact .inl ⟨h1,h⟩
     · exact absurd h h2
     · exact .inr (.inr ⟨h1,h⟩)
theorem asc_uniq {l:LL} (h:AscI l) {x y:Int×Rw} (hx:x∈l) (hy:y∈l) (e:x.1=y.1):x=y:=by
 rcases split_id (λ e:Int×Rw=> e.1) l h x.1 with ⟨A,z,B,rfl,hz,hA,hB⟩ | ⟨A,B,rfl,hA,hB⟩
 · have h1:∀u∈A++z::B,u.1=x.1->u=z:=by
    intro u hu hk;rcases List.mem_append.1 hu with h | h
    · have:=hA u h;omega
    · rcases List.mem_cons.1 h with h | h
      · exact h
      · have:=hB u h;omega
   rw [h1 x hx rfl,h1 y hy e.symm]
 · rcases List.mem_append.1 hx with h | h
   · have:=hA x h;omega
   · have:=hB x h;omega
theorem delL_len (k:Int) (l:LL):(delL k l).length<=l.length:=List.length_filter_le _ _
theorem putL_len (k:Int) (r:Rw) (l:LL):(putL' k r l).length<=l.length+1:=by
 have h:∀l:LL,(l.filter λ e=> decide (e.1 < k)).length+(l.filter λ e=> decide (k < e.1)).length<=l.length:=by
  intro l
  induction l with
  | nil=> simp
  | cons x l ih=>
   by_cases h1:x.1 < k
   · have h2:¬ k < x.1:=by omega
     simp [h1,h2];omega
   · by_cases h2:k < x.1
     · simp [h1,h2];omega
     · simp [h1,h2];omega
 have:=h l;unfold putL';simp;omega
section
variable {κ ν:Type} [KOrd κ]
theorem delM_mem {l:M κ ν} (h:AscM l) {k:κ} {y:κ×ν}:y∈delM l k↔y∈l/\y.1≠k:=by
 induction l with
 | nil=> simp [delM]
 | cons x l ih=>
  obtain ⟨h1,h2⟩:=AscM.cons.1 h;rw [delM];by_cases he:eqK x.1 k=true
  · rw [if_pos he]
    have he':=eqK_iff.1 he;subst he';rw [List.mem_cons];constructor
    · exact λ hy=> ⟨.inr hy,(ltK_ne (h1 y hy)).symm⟩
    · rintro ⟨rfl | hy,hne⟩
      · exact absurd rfl hne
      · exact hy
  · rw [if_neg he,List.mem_cons,ih h2,List.mem_cons]
    have hne:x.1≠k:=λ e=> he (eqK_iff.2 e);constructor
    · rintro (rfl | ⟨a,b⟩)
      · exact ⟨.inl rfl,hne⟩
      · exact ⟨.inr a,b⟩
    · rintro ⟨rfl | a,b⟩
      · exact .inl rfl
      · exact .inr ⟨a,b⟩
theorem putM_mem {l:M κ ν} (h:AscM l) {k:κ} {v:ν} {y:κ×ν}:y∈putM l k v↔y=(k,v)\/y∈l/\y.1≠k:=by
 induction l with
 | nil=> simp [putM]
 | cons x l ih=>
  obtain ⟨h1,h2⟩:=AscM.cons.1 h;rw [putM];by_cases hlt:ltK x.1 k
  · rw [if_pos hlt,List.mem_cons,ih h2,List.mem_cons]
    have hne:=ltK_ne hlt;constructor
    · rintro (rfl | rfl | ⟨a,b⟩)
      · exact .inr ⟨.inl rfl,hne⟩
      · exact .inl rfl
      · exact .inr ⟨.inr a,b⟩
    · rintro (rfl | ⟨rfl | a,b⟩)
      · exact .inr (.inl rfl)
      · exact .inl rfl
      · exact .inr (.inr ⟨a,b⟩)
  · rw [if_neg hlt]
    by_cases he:eqK x.1 k=true
    · rw [if_pos he]
      have he':=eqK_iff.1 he;subst he';rw [List.mem_cons,List.mem_cons];constructor
      · rintro (rfl | a)
        · exact .inl rfl
        · exact .inr ⟨.inr a,(ltK_ne (h1 y a)).symm⟩
      · rintro (rfl | ⟨rfl | a,b⟩)
        · exact .inl rfl
        · exact absurd rfl b
        · exact .inr a
    · rw [if_neg he,List.mem_cons,List.mem_cons]
      have hgt:=ltK_of_not hlt (λ e=> he (eqK_iff.2 e));constructor
      · rintro (rfl | rfl | a)
        · exact .inl rfl
        · exact .inr ⟨.inl rfl,(ltK_ne hgt).symm⟩
        · exact .inr ⟨.inr a,(ltK_ne (ltK_trans hgt (h1 y a))).symm⟩
      · rintro (rfl | ⟨rfl | a,b⟩)
        · exact .inl rfl
        · exact .inr (.inl rfl)
        · exact .inr (.inr a)
end
theorem delL_length {l:LL} (h:AscI l) {k:Int} {r:Rw} (hm:(k,r)∈l):(delL k l).length+1=l.length:=by
 rcases split_id (λ e:Int×Rw=> e.1) l h k with ⟨A,e,B,rfl,he,hA,hB⟩ | ⟨A,B,rfl,hA,hB⟩
 · rw [delL_split1 hA hB he]
   simp;omega
 · rcases List.mem_append.1 hm with h | h
   · have:=hA _ h;exact absurd this (Int.lt_irrefl _)
   · have:=hB _ h;exact absurd this (Int.lt_irrefl _)
theorem putL_length {l:LL} (h:AscI l) {k:Int} (hn:∀x∈l,x.1≠k) (r:Rw):(putL' k r l).length=l.length+1:=by
 rcases split_id (λ e:Int×Rw=> e.1) l h k with ⟨A,e,B,rfl,he,hA,hB⟩ | ⟨A,B,rfl,hA,hB⟩
 · exact absurd he (hn e (by simp))
 · rw [putL_split hA hB]
   simp;omega
section
variable {κ ν:Type} [KOrd κ]
theorem delM_length {l:M κ ν} (h:AscM l) {k:κ} {v:ν} (hm:(k,v)∈l):(delM l k).length+1=l.length:=by
 induction l with
 | nil=> cases hm
 | cons x l ih=>
  obtain ⟨h1,h2⟩:=AscM.cons.1 h;rw [delM];by_cases he:eqK x.1 k=true
  · rw [if_pos he];rfl
  · rw [if_neg he]
    rcases List.mem_cons.1 hm with e | hm
    · rw [<-e] at he;exact absurd (eqK_self _) he
    · rw [List.length_cons,List.length_cons,ih h2 hm]
theorem putM_length {l:M κ ν} (h:AscM l) {k:κ} (hn:∀x∈l,x.1≠k) (v:ν):(putM l k v).length=l.length+1:=by
 induction l with
 | nil=> rfl
 | cons x l ih=>
  obtain ⟨h1,h2⟩:=AscM.cons.1 h;rw [putM];by_cases hlt:ltK x.1 k
  · rw [if_pos hlt,List.length_cons,List.length_cons,ih h2 λ y hy=> hn y (by simp [hy])]
  · have he:¬ eqK x.1 k=true:=λ e=> hn x (by simp) (eqK_iff.1 e)
    rw [if_neg hlt,if_neg he];rfl
end
structure IxOk (l:LL) (cs:List Int) (km:MM):Prop where
 mem:∀e,e∈km↔∃x∈l,e=(.str (ixKey x.1 x.2 cs), .int x.1)
 len:km.length=l.length
theorem IxOk.nil (cs:List Int):IxOk [] cs []:=⟨λ e=> by simp,rfl⟩
theorem IxOk.del {l:LL} {cs:List Int} {km:MM} (h:IxOk l cs km) (hs:AscI l) (ha:AscM km) (hi:∀x∈l,I64 x.1) {k:Int} {r:Rw} (hm:(k,r)∈l):IxOk (delL k l) cs (delM km (.str (ixKey k r cs))):=by
 refine ⟨λ e=> ?_,?_⟩
 · rw [delM_mem ha,h.mem e]
   constructor
   · rintro ⟨⟨x,hx,rfl⟩,hne⟩
     refine ⟨x,mem_delL.2 ⟨hx,λ e=> hne ?_⟩,rfl⟩;have:=asc_uniq hs hx hm e;subst this;rfl
   · rintro ⟨x,hx,rfl⟩
     obtain ⟨h1,h2⟩:=mem_delL.1 hx;refine ⟨⟨x,h1,rfl⟩,λ e=> h2 ?_⟩;exact ixKey_inj (hi x h1) (hi _ hm) (Ky.str.inj e)
 · have h1:=delL_length hs hm
   have h2:(delM km (.str (ixKey k r cs))).length+1=km.length:=delM_length ha ((h.mem _).2 ⟨(k,r),hm,rfl⟩);have:=h.len;omega
theorem IxOk.put {l:LL} {cs:List Int} {km:MM} (h:IxOk l cs km) (hs:AscI l) (ha:AscM km) (hi:∀x∈l,I64 x.1) {k:Int} (hk:I64 k) (r:Rw) (hn:∀x∈l,x.1≠k):IxOk (putL' k r l) cs (putM km (.str (ixKey k r cs)) (.int k)):=by
 have hnk:∀y∈km,y.1≠.str (ixKey k r cs):=λ y hy e=> by obtain ⟨x,hx,rfl⟩:=(h.mem y).1 hy;exact hn x hx (ixKey_inj (hi x hx) hk (Ky.str.inj e))
 refine ⟨λ e=> ?_,by rw [putM_length ha hnk,putL_length hs hn,h.len]⟩;rw [putM_mem ha,h.mem e];constructor
 · rintro (rfl | ⟨⟨x,hx,rfl⟩,hne⟩)
   · exact ⟨(k,r),mem_putL.2 (.inl rfl),rfl⟩
   · exact ⟨x,mem_putL.2 (.inr ⟨hx,hn x hx⟩),rfl⟩
 · rintro ⟨x,hx,rfl⟩
   rcases mem_putL.1 hx with rfl | ⟨h1,h2⟩
   · exact .inl rfl
   · exact .inr ⟨⟨x,h1,rfl⟩,λ e=> h2 (ixKey_inj (hi x h1) hk (Ky.str.inj e))⟩
end
section
def overA:Array Value->Nat->List Value->Array Value
 | cs,_,[]=> cs
 | cs,o,v::r=> overA (cs.setIfInBounds o v) (o+1) r
theorem heap_setCellsA (g:Nat) (t:TypeId):∀(vs:List Value) (o:Nat) (cs:Array Value) (w:World),w.heap[g]? =some (.cells cs t (0,0))->(w.setCells g o vs).heap[g]? =some (.cells (overA cs o vs) t (0,0))
 | [],_,_,_,h=> h
 | v::r,o,cs,w,h=> by rw [World.setCells];exact heap_setCellsA g t r (o+1) _ _ (heap_setCell_same w g o cs t v h)
theorem overA_size:∀(vs:List Value) (o:Nat) (cs:Array Value),(overA cs o vs).size=cs.size
 | [],_,_=> rfl
 | v::r,o,cs=> by rw [overA,overA_size r];simp
theorem overA_take:∀(vs:List Value) (o:Nat) (cs:Array Value),o+vs.length<=cs.size->(overA cs o vs).toList.take (o+vs.length)=cs.toList.take o++vs
 | [],o,cs,_=> by simp [overA]
 | v::r,o,cs,h=> by simp only [List.length_cons] at h;have h1:=overA_take r (o+1) (cs.setIfInBounds o v) (by simp;omega);rw [overA,List.length_cons,show o+(r.length+1)=o+1+r.length by omega,h1,Array.toList_setIfInBounds,List.take_add_one,List.take_set_of_le (Nat.le_refl _)];rw [List.getElem?_set_self (by simpa using (by omega:o < cs.size))];simp
theorem tr_setCells (g:Nat):∀(vs:List Value) (o:Nat) (w:World),Tr w (w.setCells g o vs) [g] [g]
 | [],_,_=> Tr.refl _ _
 | v::r,o,w=> by
  rw [World.setCells];have h1:Tr w (w.setCell ⟨g,o,none⟩ v) [g] [g]:=⟨rfl,rfl,rfl,by simp,λ k _ hk=> Below.heap_setCell w ⟨g,o,none⟩ v k (λ e=> hk (by simp [e])),λ k hk=> .inl hk⟩
  exact h1.trans (tr_setCells g r (o+1) _)
section
variable {P:Program}
theorem row_append_src (w:World) (t tx ty e:TypeId) (i:TypeInfo) (z:Value) (size bytes:Nat) (ht:P.underlying t=some (.slice e)) (hi:P.info? e=some i) (hz:i.zero=some z)
 (hsize:i.size=size) (hby:i.bytes=bytes) (hzs:z.cells.size=size) (hsz:0 < size)
 {v:Value} {n:Nat} {xs:List Value} {f:List Nat} (hown:(rowA e size v n xs).p w f) {x:Value} {m:Nat} {news:List Value} (hs:Go.Src P size tx x m news w)
 (h63:n+m<=maxLen) (hbytes:(n+m) * bytes<=140737488355328):
 ∃v' w' f',(Builtin.append_ #[t,tx] ty #[v,x]).run P w=.ok v' w'/\(rowA e size v' (n+m) (xs++news)).p w' f'/\Tr w w' f f':=by
 obtain ⟨ho,rfl⟩:=hown;subst hsize;have hxl:xs.length=n * i.size:=ho.1;have hlen:(xs++news).length=(n+m) * i.size:=by rw [List.length_append,hxl,hs.newsLen,Nat.add_mul]
 have h63':n+m<=9223372036854775807:=by unfold maxLen at h63;omega
 have grown:∀(old:Nat),old < n+m->∀fp:List Nat,
  (rowA e i.size (.slice (some ⟨w.heap.size,0,none⟩) (n+m) (grownCap w (n+m) old e)) (n+m) (xs++news)).p (w.drew.alloc (.cells ((xs++news).toArray++Builtin.zeroCells z.cells (grownCap w (n+m) old e - (n+m))) e)) [w.heap.size]/\
  Tr w (w.drew.alloc (.cells ((xs++news).toArray++Builtin.zeroCells z.cells (grownCap w (n+m) old e - (n+m))) e)) fp [w.heap.size]:=by
  intro old _ fp;have hge:=grownCap_ge w (n+m) old e;have hcm:grownCap w (n+m) old e<=maxLen:=grownCap_le_maxLen w (n+m) old e h63;refine ⟨⟨⟨hlen, .inr ⟨w.heap.size,_,_,rfl,Nat.zero_le _,heap_alloc_new w.drew _,hge,hcm,?_,?_⟩⟩,rfl⟩,⟨rfl,rfl,rfl,by simp,λ k hk _=> heap_alloc_old w.drew _ hk,λ k hk=> .inr (by rw [List.mem_singleton.1 hk];exact Nat.le_refl _)⟩⟩
  · simp only [Array.size_append,List.size_toArray,size_zeroCells,hzs,hlen]
    rw [<-Nat.add_mul];congr 1;omega
  · simp only [Array.toList_append]
    rw [<-hlen];exact List.take_left
 rcases ho.2 with ⟨rfl,rfl⟩ | ⟨g,cap,cur,rfl,hbg,hg,hnc,hcm,hcs,htake⟩
 · have hx:xs=[]:=List.eq_nil_of_length_eq_zero (by rw [hxl,Nat.zero_mul])
   subst hx;by_cases hm:m=0
   · subst hm
     have hn:news=[]:=List.eq_nil_of_length_eq_zero (by rw [hs.newsLen,Nat.zero_mul]);subst hn;refine ⟨.slice none 0 0,w,[],?_,row_nil _ _ _,Tr.refl _ _⟩;rcases hs.kind with ⟨e',hk⟩ | hk <;> simp [Builtin.append_,run_underlying ht,run_underlying hk,sizeOf,typeInfo,hi,hs.len,hs.cells]
   · have hr:=run_append_grow_src w t tx ty e i z ht hi hz none 0 0 [] (run_firstCells_none w.drew i.size 0 0 0) x m news hs (by omega) (by omega) (by rw [hby];exact growslice_fits (by omega) hbytes)
     have hgr:=grown 0 (by omega) [];exact ⟨_,_,_,hr,hgr.1,hgr.2⟩
 · by_cases hroom:n+m<=cap
   · have hfit:n * i.size+news.length<=cur.size:=by rw [hs.newsLen,hcs,<-Nat.add_mul];exact Nat.mul_le_mul_right _ hroom
     have hr:=run_append_room_src w t tx ty e i ht hi g 0 n cap x m news hs hroom (λ j hj=> by rw [Nat.zero_add,cell_of_row w g _ cur e (0,0) hg,Array.getElem?_eq_getElem (by omega)];rfl) (λ j hj=> frozen_of_row w g _ cur e hg);rw [Nat.zero_add] at hr;refine ⟨_,_,[g],hr,⟨⟨hlen, .inr ⟨g,cap,_,rfl,hbg,heap_setCellsA g e news _ cur w hg,hroom,hcm,?_,?_⟩⟩,rfl⟩,tr_setCells g news _ w⟩
     · rw [overA_size];exact hcs
     · have h1:=overA_take news (n * i.size) cur hfit
       rw [Nat.add_mul,<-hs.newsLen,h1,htake]
   · have holds:∀j u,xs[j]? =some u->w.cell? ((⟨g,0,none⟩:Addr).add j)=some u:=ho.cells (g:=g) rfl
     have hr:=run_append_grow_src w t tx ty e i z ht hi hz (some ⟨g,0,none⟩) n cap xs (run_firstCells_some w.drew i.size n ⟨g,0,none⟩ n cap xs hxl (by simpa using holds)) x m news hs (by omega) (by omega) (by rw [hby];exact growslice_fits (by omega) hbytes);have hgr:=grown cap (by omega) [g];exact ⟨_,_,_,hr,hgr.1,hgr.2⟩
def AppSrc (P:Program) (t tx e:TypeId) (size:Nat):Prop:=∀(ty:TypeId) (w:World) (v:Value) (n:Nat) (xs:List Value) (f:List Nat) (x:Value) (m:Nat) (news:List Value),(rowA e size v n xs).p w f->Go.Src P size tx x m news w->n+m < 1099511627776->
 ∃v' w' f',(Builtin.append_ #[t,tx] ty #[v,x]).run P w=.ok v' w'/\(rowA e size v' (n+m) (xs++news)).p w' f'/\Tr w w' f f'
theorem appSrc {P:Program} {t tx e:TypeId} {size bytes:Nat} {z:Value} (hi:(P.info? e).map (λ i=> (i.zero,i.size,i.bytes))=some (some z,size,bytes)) (ht:P.underlying t=some (.slice e)) (hz:z.cells.size=size) (h0:0 < size) (hb:bytes<=128):AppSrc P t tx e size:=by
 intro ty w v n xs f x m news h1 h2 h3;cases hi':P.info? e with
 | none=> rw [hi'] at hi;cases hi
 | some i0=>
  rw [hi'] at hi;simp only [Option.map_some,Option.some.injEq,Prod.mk.injEq] at hi;obtain ⟨iz0,iz1,iz2⟩:=hi;exact row_append_src w t tx ty e i0 z size bytes ht hi' iz0 iz1 iz2 hz h0 h1 h2 (by unfold maxLen;omega) (by have:(n+m) * bytes<=1099511627776 * 128:=Nat.mul_le_mul (by omega) hb;omega)
theorem SlX.src {X:List Nat} {w:World} {size n:Nat} {xs:List Value} {v:Value} {tx e':TypeId} (h:SlX X w size n xs v) (hk:P.underlying tx=some (.slice e')) (h0:0 < size) (h1:∀u∈xs,u.oneCell'=true):Go.Src P size tx v n xs w:=by
 obtain ⟨h2,h3,a,c,rfl,h4⟩:=h;cases a with
 | some ad=>
  refine Go.Src.ofSlice w hk ad n c xs h3 (λ j u hj=> ?_) h1;obtain ⟨hj1,hj2⟩:=List.getElem?_eq_some_iff.1 hj;obtain ⟨b,o,e1,_,e3⟩:=h4 j hj1;obtain rfl:=Option.some.inj e1;rw [add_plain,e3,hj2]
 | none=>
  have hn:n=0:=by
   apply Classical.byContradiction;intro hne;have hp:0 < xs.length:=by rw [h3];exact Nat.mul_pos (by omega) h0
   obtain ⟨b,o,e1,_⟩:=h4 0 hp;cases e1
  subst hn;have hx:xs=[]:=List.eq_nil_of_length_eq_zero (by rw [h3,Nat.zero_mul]);subst hx;exact Go.Src.ofNil w hk c
end
theorem St.appSrc {Pr:Program} {w0 w:World} {fp0:List Nat} {L:List Asn} {t tx e:TypeId} {size:Nat} (hC:AppSrc Pr t tx e size) (ty:TypeId) {v x:Value} {n m:Nat} {xs news:List Value} (hS:St w0 fp0 (rowA e size v n xs::L) w) (hs:Go.Src Pr size tx x m news w) (hl:n+m < 1099511627776):
 ∃v' w',(Builtin.append_ #[t,tx] ty #[v,x]).run Pr w=.ok v' w'/\St w0 fp0 (rowA e size v' (n+m) (xs++news)::L) w':=by
 obtain ⟨f,h1,h2⟩:=hS.get 0 rfl;obtain ⟨v',w',f',h3,h4,h5⟩:=hC ty w v n xs f x m news h1 hs hl;exact ⟨v',w',h3,h2 _ _ _ h4 h5⟩
end
theorem nanI_calls (a:Int) (w:World):Calls Tryz.prog 107 #[.int .i64 a] w λ e w'=> e=.returned (.bool false)/\w=w':=by
 go_enter Tryz.func107,Tryz.ntmps107;go_wp2;go_ret;exact ⟨by simp,rfl⟩
theorem cmp0I_calls (a b:Int) (w:World):Calls Tryz.prog 80 #[.int .i64 a, .int .i64 b] w λ e w'=> e=.returned (.int .i64 (KOrd.cmp a b))/\w=w':=by
 have Hres:Hid ((KOrd.cmp a b:Int)=cmpS a b):=rfl;go_enter Tryz.func80,Tryz.ntmps80;go_wp2_with fail;(with_reducible refine (nanI_calls a w).mono ?_);rintro e w1 ⟨rfl,rfl⟩;go_wp2_with fail;(with_reducible refine (nanI_calls b w).mono ?_);rintro e w1 ⟨rfl,rfl⟩;by_cases h1:a < b
 · have b1:decide (a < b)=true:=by simp [h1]
   have Hr:Hid (KOrd.cmp a b= -1):=by show _=_;rw [Hres.out];simp [cmpS,h1]
   clear h1;go_wp2;go_ret;exact ⟨by rw [Hr.out];rfl,rfl⟩
 · have b1:decide (a < b)=false:=by simp;omega
   by_cases h2:b < a
   · have b2:decide (b < a)=true:=by simp [h2]
     have Hr:Hid (KOrd.cmp a b=1):=by show _=_;rw [Hres.out];simp [cmpS,h1,h2]
     clear h1 h2;go_wp2;go_ret;exact ⟨by rw [Hr.out];rfl,rfl⟩
   · have b2:decide (b < a)=false:=by simp;omega
     have Hr:Hid (KOrd.cmp a b=0):=by show _=_;rw [Hres.out];simp [cmpS,h1,h2]
     clear h1 h2;go_wp2;go_ret;exact ⟨by rw [Hr.out];rfl,rfl⟩
theorem nanS_calls (a:ByteArray) (w:World):Calls Tryz.prog 156 #[.string a] w λ e w'=> e=.returned (.bool false)/\w=w':=by
 go_enter Tryz.func156,Tryz.ntmps156;go_wp2;go_ret;exact ⟨by simp,rfl⟩
theorem bytesLess_cmp:∀(x y:List UInt8),Op.bytesLess x y=decide (Lib.compareBytes x y < 0)
 | [],[]=> by simp [Op.bytesLess,Lib.compareBytes]
 | [],_::_=> by simp [Op.bytesLess,Lib.compareBytes]
 | _::_,[]=> by simp [Op.bytesLess,Lib.compareBytes]
 | a::x,b::y=> by
  rw [Op.bytesLess,Lib.compareBytes,bytesLess_cmp x y];by_cases h:a < b
  · simp [h]
  · by_cases h2:b < a
    · have hne:¬ a=b:=λ e=> by subst e;exact h h2
      simp [h,h2,hne]
    · have he:a=b:=by
       rw [UInt8.lt_iff_toNat_lt] at h h2;exact UInt8.toNat_inj.1 (by omega)
      subst he;simp
theorem cmp0S_calls (a b:ByteArray) (w:World):Calls Tryz.prog 139 #[.string a, .string b] w λ e w'=> e=.returned (.int .i64 (KOrd.cmp a b))/\w=w':=by
 have Hres:Hid ((KOrd.cmp a b:Int)=Lib.compareBytes (bytes a) (bytes b)):=rfl;have hl:Op.bytesLess a.toList b.toList=decide (Lib.compareBytes (bytes a) (bytes b) < 0):=by rw [bytesLess_cmp,ByteArray.toList_eq,ByteArray.toList_eq];rfl
 have he:(a.toList==b.toList)=decide (Lib.compareBytes (bytes a) (bytes b)=0):=by rw [Bool.eq_iff_iff];simp only [ByteArray.toList_eq,beq_iff_eq,decide_eq_true_iff];exact cmpB_zero.symm
 have hr:=cmpB_range (bytes a) (bytes b);generalize Lib.compareBytes (bytes a) (bytes b)=r at *;rcases hr with rfl | rfl | rfl
 all_goals
  simp only [Int.reduceNeg,Int.reduceLT,decide_true,decide_false,Int.reduceEq,Int.lt_irrefl] at hl he;go_enter Tryz.func139,Tryz.ntmps139;go_wp2_with fail;(with_reducible refine (nanS_calls a w).mono ?_);rintro e w1 ⟨rfl,rfl⟩;go_wp2_with fail;(with_reducible refine (nanS_calls b w).mono ?_);rintro e w1 ⟨rfl,rfl⟩;go_wp2;go_ret;exact ⟨by rw [Hres.out];rfl,rfl⟩
def fCmp (β:Bool):Nat:=match β with | false=> 80 | true=> 139
theorem cmp_calls (β:Bool) (a b:Ky) (ha:a.ok β) (hb:b.ok β) (w:World):Calls Tryz.prog (fCmp β) #[encK a,encK b] w λ e w'=> e=.returned (.int .i64 (KOrd.cmp a b))/\w'=w:=by
 cases β <;> cases a <;> cases b <;> first
  | exact ha.elim
  | exact hb.elim
  | exact (cmp0I_calls _ _ w).mono λ _ _ ⟨h1,h2⟩=> ⟨h1,h2.symm⟩
  | exact (cmp0S_calls _ _ w).mono λ _ _ ⟨h1,h2⟩=> ⟨h1,h2.symm⟩
end
end Go.Proofs.YtnefkkidfhmggaaGreat
