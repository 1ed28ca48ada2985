/- Part 11 of the proof: Lx, Lz, Kr, Ga, Gb, Gc, Gd, Ge -/
import Derived.Test.YtnefkkidfhmggaaGreatW10
import Derived.Test.YtnefkkidfhmggaaGreatW01
import Derived.Test.YtnefkkidfhmggaaGreatW07
import Derived.RegionTactic
import Derived.BigRegion
import Derived.ChangeAlike
set_option maxHeartbeats 16000000
set_option maxRecDepth 100000
namespace Go.Proofs.YtnefkkidfhmggaaGreat
open Go Go.RowKit
noncomputable section
def OpsOk (l:List Opr):Prop:=∀o∈l,o.kd < 256/\I64 o.id/\∀v∈o.r,I64 v.int
theorem OpsOk.play {l:List Opr} {kl fl:Nat} {most:Int} (h:OpsOk l) (hf:fairB kl fl l most=true):∀o∈l,o.kd < 256/\I64 o.id/\o.r.length<=1000/\∀v∈o.r,I64 v.int:=λ o ho=> by
 have h1:=h o ho;have h2:=(fair_ok hf).2.2.2 o ho;exact ⟨h1.1,h1.2.1,by omega,h1.2.2⟩
theorem st_below {W w:World} {L:List Asn} (h:St W [] L w):Below W.heap.size W w:=by
 obtain ⟨fp, -,ht⟩:=h;exact ht.below (Nat.le_refl _) λ k hk=> nomatch hk
theorem sto_text {w0 w:World} {fp0:List Nat} {R:List Asn} {S cols:Nat} {I:List (List Int)} {L:LL} {next:Int} (h:St w0 fp0 (storeA S cols I L next::R) w):∀x∈L,∀y∈x.2,y.text.size<=maxLen:=by
 obtain ⟨s,hok, -⟩:=h.openS;intro x hx y hy;have:=((hok.row x hx).2.2.s y hy).2;unfold maxLen;omega
section
open Go.ChangeShapes Go.ChangeAt Go.WideShapes
theorem cOP:Tryz.prog.cellsOf 58=3:=by kernel_rfl
theorem cSHAPE:Tryz.prog.cellsOf 24=3:=by kernel_rfl
instance:Inhabited Opr:=⟨⟨0,0,none,0,0,[]⟩⟩
section
variable {H:Type} {enc:TypeId×Value->H} {w:World}
theorem read_op {fuel:Nat} {cs:List Value} {x:DataW H×List MemPlace} (h:DataW.trod enc Tryz.prog w 0 (λ _=> true) true fuel 58 cs=some x):∃y:Opr,cs=[.int .u8 y.kd, .int .i64 y.id,y.v]/\ValsAt w y.r y.v/\y.kd < 256/\I64 y.id/\∀v∈y.r,I64 v.int:=by
 obtain ⟨xs,n, -,rfl,hl,hxl,hx⟩:=DataW.trod_struct Tryz.underlying58 h;rw [cOP] at hl
 match cs,hl,hx with
 | [a,b,c],_,hx=>
  match xs,hxl,hx with
  | [x0,x1,x2],_,hx=>
   have h0:=hx 0 _ rfl;have h1:=hx 1 _ rfl;have h2:=hx 2 _ rfl;simp only [List.getElem_toArray,List.getElem_cons_zero,List.getElem_cons_succ,cU8,cI64,cRW] at h0 h1 h2;obtain ⟨k,e0, -,hk⟩:=DataW.trod_int Tryz.underlying5 (by simpa using h0);obtain ⟨i,e1, -,hi⟩:=DataW.trod_int Tryz.underlying2 (by simpa using h1);obtain ⟨R,hR,hRi⟩:=read_row (s:=c) (x:=x2) (by simpa using h2);obtain ⟨ra,rn,rc,rfl, -, -⟩:=hR.shape;cases e0;cases e1;have hk':0<=k/\k < 256:=by unfold Lit.wf at hk;simp [IntKind.min,IntKind.max,IntKind.bits,IntKind.signed] at hk;omega
   refine ⟨⟨k.toNat,i,ra,rn,rc,R⟩,?_,hR,by show k.toNat < 256;omega,wf64 hi,λ v hv=> (hRi v hv).1⟩;show _=[Value.int .u8 (k.toNat:Int),_,_]
   rw [Int.toNat_of_nonneg hk'.1];rfl
theorem read_ops {fuel:Nat} {s:Value} {x:DataW H×List MemPlace} (h:DataW.trod enc Tryz.prog w 0 (λ _=> true) true fuel 25 [s]=some x):∃l:List Opr,OpsX w l s/\OpsOk l/\∀a n c,s=.slice a n c->n<=c:=by
 rcases slice_read Tryz.underlying25 cOP (by omega) h with ⟨a,e⟩ | ⟨b,o,len,cap,k,D,R,e,hb,hlc,hcm,rfl,hxD,hDl,hel⟩
 · cases e
   exact ⟨[],⟨SlX.nil _ _ _ _ _,by simp⟩,(by intro o ho;cases ho),(by intro a n c e;cases e;exact Nat.le_refl _)⟩
 · cases e
   obtain ⟨l,h1,h2⟩:=slx_read (w:=w) (cap:=cap) (sz:=3) (by omega) (λ y:Opr=> [.int .u8 y.kd, .int .i64 y.id,y.v]) (λ _=> rfl) (P:=λ y=> ValsAt w y.r y.v/\y.kd < 256/\I64 y.id/\∀v∈y.r,I64 v.int) (b:=b) (o:=o) (len:=len) (Nat.le_trans hlc hcm) (λ i hi=> by obtain ⟨cs',pl, -,hc,ht⟩:=hel i (by rw [hDl];exact hi);obtain ⟨y,rfl,hy⟩:=read_op ht;exact ⟨y,hc,hy⟩);exact ⟨l,⟨h1,λ y hy=> (h2 y hy).1⟩,λ y hy=> (h2 y hy).2,(by intro a n c e;cases e;exact hlc)⟩
theorem open_shape {W:World} {base:Nat} {v:Value} {d:DataW H} {p:List MemPlace} (hok:Value.okWide Tryz.prog W .any base 24 v) (h:DataW.Trod enc Tryz.prog W 0 (λ _=> true) true 24 v d p):
 ∃u ka kn kc fa fn fc K F,v=.agg #[.int .u8 (u:Nat), .slice ka kn kc, .slice fa fn fc]/\u < 256/\IntsX [] W K (.slice ka kn kc)/\IntsX [] W F (.slice fa fn fc):=by
 obtain ⟨cs,rfl, -⟩:=okWide_struct Tryz.underlying24 hok;obtain ⟨fuel,h⟩:=h;obtain ⟨xs,n, -, -,hl,hxl,hx⟩:=DataW.trod_struct Tryz.underlying24 h;rw [cSHAPE] at hl;obtain ⟨cl⟩:=cs;have hcl:(Value.agg ⟨cl⟩).cells.toList=cl:=rfl;rw [hcl] at hl hx
 match cl,hl,hx with
 | [a,b,c],_,hx=>
  match xs,hxl,hx with
  | [x0,x1,x2],_,hx=>
   have h0:=hx 0 _ rfl;have h1:=hx 1 _ rfl;have h2:=hx 2 _ rfl;simp only [List.getElem_toArray,List.getElem_cons_zero,List.getElem_cons_succ,cU8,cIS] at h0 h1 h2;obtain ⟨k,e0, -,hk⟩:=DataW.trod_int Tryz.underlying5 (by simpa using h0);obtain ⟨K,hK, -⟩:=read_ints (s:=b) (x:=x1) (by simpa using h1);obtain ⟨F,hF, -⟩:=read_ints (s:=c) (x:=x2) (by simpa using h2);obtain ⟨ka,kn,kc,rfl, -, -⟩:=hK.shape;obtain ⟨fa,fn,fc,rfl, -, -⟩:=hF.shape;cases e0;have hk':0<=k/\k < 256:=by unfold Lit.wf at hk;simp [IntKind.min,IntKind.max,IntKind.bits,IntKind.signed] at hk;omega
   refine ⟨k.toNat,ka,kn,kc,fa,fn,fc,K,F,?_,by omega,hK,hF⟩;rw [Int.toNat_of_nonneg hk'.1]
theorem open_ops {W:World} {base:Nat} {v:Value} {d:DataW H} {p:List MemPlace} (hok:Value.okWide Tryz.prog W .any base 25 v) (h:DataW.Trod enc Tryz.prog W 0 (λ _=> true) true 25 v d p):∃l,OpsX W l v/\OpsOk l/\∀a n c,v=.slice a n c->n<=c:=by
 obtain ⟨fuel,h⟩:=h;rw [cell_of_one_slice W Tryz.underlying25 hok] at h;exact read_ops h
end
end
end
end Go.Proofs.YtnefkkidfhmggaaGreat
noncomputable section
namespace Go.Proofs.YtnefkkidfhmggaaGreat
section
variable {α:Type}
structure Ord3 (c:α->α->Int):Prop where
 anti:∀x y,c x y < 0↔0 < c y x
 trans:∀x y z,c x y<=0->c y z<=0->c x z<=0
variable {c:α->α->Int}
theorem Ord3.self (h:Ord3 c) (x:α):c x x=0:=by have:=h.anti x x;omega
theorem Ord3.le (h:Ord3 c) {x y:α} (hn:¬ c x y < 0):c y x<=0:=by have:=h.anti x y;omega
theorem Ord3.lt_le (h:Ord3 c) {x y z:α} (h1:c x y < 0) (h2:c y z<=0):c x z < 0:=by
 have h3:=h.trans x y z (by omega) h2;refine Int.not_le.1 λ h4=> ?_;have h5:c x z=0:=by omega
 have a1:=h.anti x z;have a2:=h.anti z x;have h6:c z x<=0:=by omega
 have h7:=h.trans y z x h2 h6;have:=h.anti x y;omega
theorem Ord3.le_lt (h:Ord3 c) {x y z:α} (h1:c x y<=0) (h2:c y z < 0):c x z < 0:=by
 have h3:=h.trans x y z h1 (by omega);refine Int.not_le.1 λ h4=> ?_;have h5:c x z=0:=by omega
 have a1:=h.anti x z;have a2:=h.anti z x;have h6:c z x<=0:=by omega
 have h7:=h.trans z x y h6 h1;have:=h.anti y z;omega
theorem Ord3.eq_cases (h:Ord3 c) {x y z:α} (h1:c x z=0) (h2:c y z=0):c y x=0:=by
 have a1:=h.anti x z;have a2:=h.anti z x;have a3:=h.anti y z;have a4:=h.anti z y;have h3:=h.trans y z x (by omega) (by omega);have h4:=h.trans x z y (by omega) (by omega);have a5:=h.anti y x;have a6:=h.anti x y;omega
def AscC (c:α->α->Int) (l:List α):Prop:=l.Pairwise λ x y=> c x y<=0
def StEq (c:α->α->Int) (l m:List α):Prop:=∀z,l.filter (λ x=> c x z==0)=m.filter (λ x=> c x z==0)
theorem StEq.refl (l:List α):StEq c l l:=λ _=> rfl
theorem StEq.symm {l m:List α} (h:StEq c l m):StEq c m l:=λ z=> (h z).symm
theorem StEq.trans {l m n:List α} (h:StEq c l m) (h':StEq c m n):StEq c l n:=λ z=> (h z).trans (h' z)
theorem StEq.app {l m l' m':List α} (h:StEq c l m) (h':StEq c l' m'):StEq c (l++l') (m++m'):=λ z=> by rw [List.filter_append,List.filter_append,h z,h' z]
theorem StEq.swap (hc:Ord3 c) {u v:List α} (h:∀x∈u,∀y∈v,c y x < 0):StEq c (u++v) (v++u):=λ z=> by
 rw [List.filter_append,List.filter_append];rcases hu:u.filter (λ x=> c x z==0) with _ | ⟨x,l⟩
 · simp
 rcases hv:v.filter (λ x=> c x z==0) with _ | ⟨y,m⟩
 · simp
 have hx:x∈u.filter (λ x=> c x z==0):=by rw [hu];simp
 have hy:y∈v.filter (λ x=> c x z==0):=by rw [hv];simp
 simp only [List.mem_filter,beq_iff_eq] at hx hy;have h1:=h x hx.1 y hy.1;have h2:=hc.eq_cases hx.2 hy.2;omega
theorem StEq.mem (hc:Ord3 c) {l m:List α} (h:StEq c l m) {x:α} (hx:x∈m):x∈l:=by
 have h1:x∈m.filter (λ y=> c y x==0):=by simp [hx,hc.self x]
 rw [<-h x] at h1;exact (List.mem_filter.1 h1).1
open Classical in
theorem StEq.perm (hc:Ord3 c) {l m:List α} (h:StEq c l m):l.Perm m:=by
 rw [List.perm_iff_count];intro x;have e:∀l:List α,(l.filter (λ y=> c y x==0)).count x=l.count x:=λ l=> List.count_filter (by simp [hc.self x]);rw [<-e l,<-e m,h x]
theorem AscC.app {l m:List α} (h:AscC c l) (h':AscC c m) (hb:∀x∈l,∀y∈m,c x y<=0):AscC c (l++m):=List.pairwise_append.2 ⟨h,h',hb⟩
theorem AscC.left {l m:List α} (h:AscC c (l++m)):AscC c l:=(List.pairwise_append.1 h).1
theorem AscC.right {l m:List α} (h:AscC c (l++m)):AscC c m:=(List.pairwise_append.1 h).2.1
theorem AscC.cross {l m:List α} (h:AscC c (l++m)):∀x∈l,∀y∈m,c x y<=0:=(List.pairwise_append.1 h).2.2
theorem split2 (d:List α) (a:Nat) (h:a<=d.length):∃P S,d=P++S/\P.length=a/\S.length=d.length - a:=
 ⟨d.take a,d.drop a,(List.take_append_drop a d).symm,by rw [List.length_take,Nat.min_eq_left h],List.length_drop⟩
theorem mid_get {P u S:List α} {i:Nat} (h:i < u.length):(P++u++S)[P.length+i]? =some u[i]:=by
 rw [List.append_assoc,List.getElem?_append_right (by omega),Nat.add_sub_cancel_left,List.getElem?_append_left h,List.getElem?_eq_getElem h]
def swp (d:List α) (i j:Nat):List α:=match d[i]?,d[j]? with
 | some x,some y=> (d.set i y).set j x
 | _,_=> d
theorem swp_at {P Q S:List α} {x y:α}:swp (P++x::Q++y::S) P.length (P.length+1+Q.length)=P++y::Q++x::S:=by
 have h1:(P++x::Q++y::S)[P.length]? =some x:=by simp
 have h2:(P++x::Q++y::S)[P.length+1+Q.length]? =some y:=by rw [List.getElem?_append_right (by simp;omega)];simp [show P.length+1+Q.length - (P.length+(Q.length+1))=0 by omega]
 unfold swp;rw [h1,h2];show (List.set _ _ _).set _ _=_;rw [show (P++x::Q++y::S).set P.length y=P++y::Q++y::S by simp];rw [List.set_append_right _ _ (by simp;omega)];simp [show P.length+1+Q.length - (P.length+(Q.length+1))=0 by omega]
theorem swp_comm (d:List α) (i j:Nat):swp d j i=swp d i j:=by
 unfold swp;rcases hi:d[i]? with _ | x <;> rcases hj:d[j]? with _ | y <;> (try rfl)
 show (d.set j x).set i y=(d.set i y).set j x;by_cases h:i=j
 · subst h
   rw [hi] at hj;obtain rfl:=Option.some.inj hj;rfl
 · exact List.set_comm _ _ (λ e=> h e.symm)
end
end Go.Proofs.YtnefkkidfhmggaaGreat
end
namespace Go.Proofs.YtnefkkidfhmggaaGreat
open Go Go.RowKit
noncomputable section
structure Arr (w0:World) (B g n cp:Nat) (d:List Ri) (w:World):Prop where
 own:w.ownsRow B 114 2 (.slice (some ⟨g,0,none⟩) n cp) n (riV d)
 gr:w0.grownBy w (some g)
theorem Arr.len {w0 w:World} {B g n cp:Nat} {d:List Ri} (h:Arr w0 B g n cp d w):d.length=n:=by
 have:=h.own.1;rw [riV_len] at this;omega
theorem Arr.lt {w0 w:World} {B g n cp:Nat} {d:List Ri} (h:Arr w0 B g n cp d w):g < w.heap.size:=(h.own.lt g rfl).2
theorem Arr.cell {w0 w:World} {B g n cp:Nat} {d:List Ri} (h:Arr w0 B g n cp d w) {j:Nat} {x:Ri} (hj:d[j]? =some x):w.cell? ⟨g,j * 2,none⟩=some (.int .i64 x.id)/\w.cell? ⟨g,j * 2+1,none⟩=some (.slice x.a x.n x.c):=by
 obtain ⟨hl,e⟩:=List.getElem?_eq_some_iff.1 hj;have:=h.len;obtain ⟨h1,h2⟩:=riV_at d j hl;rw [e] at h1 h2;exact ⟨by rw [h.own.cellAt (j * 2) (by omega),h1],by rw [h.own.cellAt (j * 2+1) (by omega),h2];rfl⟩
theorem Arr.free {w0 w:World} {B g n cp:Nat} {d:List Ri} (h:Arr w0 B g n cp d w) (j:Nat):w.frozen? ⟨g,j,none⟩=false:=h.own.frozenAt j
theorem grownBy_set1 {w0 w:World} {g:Nat} (h:w0.grownBy w (some g)) (j:Nat) (v:Value):w0.grownBy (w.setCell ⟨g,j,none⟩ v) (some g):=
 ⟨h.os,h.tape,h.output,by simpa using h.size,λ k hk hne=> (Below.heap_setCell w ⟨g,j,none⟩ v k (λ e=> hne (by rw [e]))).trans (h.block k hk hne)⟩
theorem riV_set:∀(d:List Ri) (j:Nat) (x:Ri),j < d.length->riV (d.set j x)=((riV d).set (j * 2) (.int .i64 x.id)).set (j * 2+1) (.slice x.a x.n x.c)
 | [],j,x,h=> absurd h (Nat.not_lt_zero j)
 | y::d,0,x,_=> rfl
 | y::d,j+1,x,h=> by have ih:=riV_set d j x (Nat.lt_of_succ_lt_succ h);show .int .i64 y.id::y.v::riV (d.set j x)=((.int .i64 y.id::y.v::riV d).set ((j+1) * 2) _).set ((j+1) * 2+1) _;rw [show (j+1) * 2=j * 2+1+1 by omega,ih];rfl
theorem Arr.set {w0 w:World} {B g n cp:Nat} {d:List Ri} (h:Arr w0 B g n cp d w) (j:Nat) (x:Ri) (hj:j < d.length):Arr w0 B g n cp (d.set j x) ((w.setCell ⟨g,j * 2,none⟩ (.int .i64 x.id)).setCell ⟨g,j * 2+1,none⟩ (.slice x.a x.n x.c)):=
 ⟨by rw [riV_set d j x hj];exact ((h.own.stored (j * 2) (.int .i64 x.id)).1.stored (j * 2+1) (.slice x.a x.n x.c)).1,grownBy_set1 (grownBy_set1 h.gr _ _) _ _⟩
theorem grownBy_bel {w0 w w':World} {row:Option Nat} (h:w0.grownBy w row) (hb:Below w.heap.size w w'):w0.grownBy w' row:=
 ⟨hb.os.trans h.os,hb.tape.trans h.tape,hb.output.trans h.output,Nat.le_trans h.size hb.size,λ k hk hne=> (hb.block k (Nat.lt_of_lt_of_le hk h.size)).trans (h.block k hk hne)⟩
theorem Arr.below {w0 w w':World} {B g n cp:Nat} {d:List Ri} (h:Arr w0 B g n cp d w) (hb:Below w.heap.size w w'):Arr w0 B g n cp d w':=
 ⟨own_below h.own hb,grownBy_bel h.gr hb⟩
theorem Arr.drew {w0 w:World} {B g n cp:Nat} {d:List Ri} (h:Arr w0 B g n cp d w):Arr w0 B g n cp d w.drew:=h.below (Below.drew (Below.refl _ _))
theorem Arr.swap {w0 w:World} {B g n cp:Nat} {d:List Ri} (h:Arr w0 B g n cp d w) {i j:Nat} {x y:Ri} (hx:d[i]? =some x) (hy:d[j]? =some y):
 Arr w0 B g n cp (swp d i j) ((((w.setCell ⟨g,i * 2,none⟩ (.int .i64 y.id)).setCell ⟨g,i * 2+1,none⟩ (.slice y.a y.n y.c)).setCell ⟨g,j * 2,none⟩ (.int .i64 x.id)).setCell ⟨g,j * 2+1,none⟩ (.slice x.a x.n x.c)):=by
 have hi:=(List.getElem?_eq_some_iff.1 hx).1;have hj:=(List.getElem?_eq_some_iff.1 hy).1;have h2:=(h.set i y hi).set j x (by rw [List.length_set];exact hj);unfold swp;rw [hx,hy];exact h2
theorem swapRange_calls (w0:World) (B g n cp:Nat) (P X Q Y S:List Ri) (F:Value) (w:World) (p q l:Nat) (hp:P.length=p) (hq:P.length+X.length+Q.length=q) (hl:X.length=l) (hXY:X.length=Y.length) (hA:Arr w0 B g n cp (P++X++Q++Y++S) w) (hm:n<=maxLen):
 Calls Tryz.prog 157 #[.slice (some ⟨g,0,none⟩) n cp, .int .i64 p, .int .i64 q, .int .i64 l,F] w λ e w'=> e=.returned (.tuple #[])/\Arr w0 B g n cp (P++Y++Q++X++S) w':=by
 have hlen:=hA.len;unfold maxLen at hm;simp only [List.length_append] at hlen;have h1:q+l<=n:=by omega
 have h2:p+l<=q:=by omega
 have HL:=Lib.hid (show P.length=p/\P.length+X.length+Q.length=q/\X.length=l/\Y.length=l by omega);have HA:=Lib.hid hA;clear hA hlen hp hq hl hXY;go_enter Tryz.func157,Tryz.ntmps157;go_wp2;go_loopw [10] (λ i wr=> ∃k:Nat,k<=l/\i=.int .i64 k/\Hid (Arr w0 B g n cp (P++(Y.take k++X.drop k)++Q++(X.take k++Y.drop k)++S) wr)) (λ i _=> l - (intOf i).toNat)
 case atStart=> exact ⟨0,Nat.zero_le _,rfl,Lib.hid (by have:=HA.out;simpa using this)⟩
 case round=>
  obtain ⟨k,hk,rfl,H⟩:=hrel;by_cases hlt:k < l
  · obtain ⟨h3,h4,h5,h6⟩:=HL.out
    have hX:k < X.length:=by omega
    have hY:k < Y.length:=by omega
    have eX:X.drop k=X[k]::X.drop (k+1):=List.drop_eq_getElem_cons hX;have eY:Y.drop k=Y[k]::Y.drop (k+1):=List.drop_eq_getElem_cons hY;have tX:X.take (k+1)=X.take k++[X[k]]:=by rw [List.take_succ_eq_append_getElem hX]
    have tY:Y.take (k+1)=Y.take k++[Y[k]]:=by rw [List.take_succ_eq_append_getElem hY]
    have hs:=swp_at (P:=P++Y.take k) (Q:=X.drop (k+1)++Q++X.take k) (S:=Y.drop (k+1)++S) (x:=X[k]) (y:=Y[k]);rw [show (P++Y.take k).length=p+k by simp;omega,show p+k+1+(X.drop (k+1)++Q++X.take k).length=q+k by simp;omega] at hs;have hA:=H.out;rw [eX,eY] at hA;rw [show P++(Y.take k++X[k]::X.drop (k+1))++Q++(X.take k++Y[k]::Y.drop (k+1))++S=P++Y.take k++X[k]::(X.drop (k+1)++Q++X.take k)++Y[k]::(Y.drop (k+1)++S) by simp only [List.append_assoc,List.cons_append]] at hA;have hx:(P++Y.take k++X[k]::(X.drop (k+1)++Q++X.take k)++Y[k]::(Y.drop (k+1)++S))[p+k]? =some X[k]:=by rw [List.append_assoc,List.getElem?_append_right (by simp;omega)];simp [show p+k - (P.length+min k Y.length)=0 by omega]
    have hy:(P++Y.take k++X[k]::(X.drop (k+1)++Q++X.take k)++Y[k]::(Y.drop (k+1)++S))[q+k]? =some Y[k]:=by rw [List.getElem?_append_right (by simp;omega)];simp only [List.length_append,List.length_cons,List.length_take,List.length_drop];rw [show q+k - (P.length+min k Y.length+(X.length - (k+1)+Q.length+min k X.length+1))=0 by omega];rfl
    have hA2:=hA.drew.swap hx hy;have hA3:=hA.drew.swap hy hx;rw [swp_comm] at hA3;rw [hs] at hA2 hA3;have e2:P++(Y.take (k+1)++X.drop (k+1))++Q++(X.take (k+1)++Y.drop (k+1))++S=P++Y.take k++Y[k]::(X.drop (k+1)++Q++X.take k)++X[k]::(Y.drop (k+1)++S):=by rw [tX,tY];simp only [List.append_assoc,List.cons_append,List.nil_append]
    rw [<-e2] at hA2 hA3;have H2:=Lib.hid hA2;have H3:=Lib.hid hA3;obtain ⟨cx,cx'⟩:=hA.cell hx;obtain ⟨cy,cy'⟩:=hA.cell hy;have fx:=hA.free ((p+k) * 2);have fx':=hA.free ((p+k) * 2+1);have fy:=hA.free ((q+k) * 2);have fy':=hA.free ((q+k) * 2+1);have hg:=hA.lt;clear hA hA2 hA3 e2 hx hy hs tX tY eX eY h3 h4 h5 h6;generalize X[k]=x at *;generalize Y[k]=y at *;clear hX hY H;go_wp2;go_region;go_wp2;go_roundw
    case rel=> exact ⟨k+1,by omega,by go_num,by first | exact H2 | exact H3⟩
    case measure=> simp [intOf];omega
  · obtain rfl:k=l:=by omega
    have hk0:¬ k < k:=Nat.lt_irrefl _;go_wp2;go_end0;refine ⟨rfl,?_⟩;have:=H.out
    rwa [List.take_of_length_le (by rw [HL.out.2.2.2];exact Nat.le_refl _),List.drop_of_length_le (by rw [HL.out.2.2.1];exact Nat.le_refl _),List.take_of_length_le (by rw [HL.out.2.2.1];exact Nat.le_refl _),List.drop_of_length_le (by rw [HL.out.2.2.2];exact Nat.le_refl _),List.append_nil,List.append_nil] at this
structure RotS (T P X Y S:List Ri) (m:Nat):Prop where
 eq:T=P++Y++X++S
 at':P.length+X.length=m
 px:0 < X.length
 py:0 < Y.length
theorem rotate_calls (w0:World) (B g n cp:Nat) (P X Y S:List Ri) (F:Value) (w:World) (p m b:Nat) (hp:P.length=p) (hm:P.length+X.length=m) (hb:P.length+X.length+Y.length=b) (hX:0 < X.length) (hY:0 < Y.length)
 (hA:Arr w0 B g n cp (P++X++Y++S) w) (hmx:n<=maxLen):
 Calls Tryz.prog 140 #[.slice (some ⟨g,0,none⟩) n cp, .int .i64 p, .int .i64 m, .int .i64 b,F] w λ e w'=> e=.returned (.tuple #[])/\Arr w0 B g n cp (P++Y++X++S) w':=by
 have hlen:=hA.len;have HM:=Lib.hid hmx;unfold maxLen at hmx;simp only [List.length_append] at hlen;have b1:b<=n:=by omega
 have b2:p<=m:=by omega
 have b3:m<=b:=by omega
 have HL:=Lib.hid (show m - p=X.length/\b - m=Y.length by omega);have HR:Hid (RotS (P++Y++X++S) P X Y S m):=⟨rfl,hm,hX,hY⟩
 have HA:=Lib.hid hA;clear hA hlen hp hm hb hX hY;go_enter Tryz.func140,Tryz.ntmps140;go_wp2;go_loopg [10,11] (m - p+(b - m)) (λ gk z10 z11 wr=> ∃(P' X' Y' S':List Ri) (i j:Nat),z10=.int .i64 i/\z11=.int .i64 j/\gk=i+j/\0 < i/\0 < j/\i<=m/\m+j<=n/\Hid (i=X'.length/\j=Y'.length/\RotS (P++Y++X++S) P' X' Y' S' m)/\Hid (Arr w0 B g n cp (P'++X'++Y'++S') wr))
 case atStart=>
  refine ⟨P,X,Y,S,m - p,b - m,by go_num,by go_num,rfl,?_,?_,by omega,by omega,Lib.hid ⟨HL.out.1,HL.out.2,HR.out⟩,HA⟩
  · rw [HL.out.1];exact HR.out.px
  · rw [HL.out.2];exact HR.out.py
 case round=>
  obtain ⟨P',X',Y',S',i,j,rfl,rfl,hgk,hi,hj,him,hjn,HR',HA'⟩:=hrel;clear HA HR HL;by_cases hne:i=j
  · subst hne
    have HC:=Lib.hid (swapRange_calls w0 B g n cp P' X' [] Y' S' F wr (m - i) m i (by have:=HR'.out;have:=this.2.2.at';omega) (by have:=HR'.out;have:=this.2.2.at';simp;omega) (by have:=HR'.out;omega) (by have:=HR'.out;omega) (by have:=HA'.out;simpa using this) HM.out);have hb0:((i:Int) !=i)=false:=by simp
    have e1:((m - i:Nat):Int)=(m:Int) - i:=by omega
    rw [e1] at HC;clear e1;have hc1:(i:Int)<=m:=by omega
    have hc2:(m:Int)<=9223372036854775807:=by omega
    clear hgk;go_wp2_with fail;(with_reducible refine HC.out.mono ?_);rintro e w1 ⟨rfl,hA1⟩;have H1:=Lib.hid hA1;clear hA1;go_wp2;go_end0;refine ⟨rfl,?_⟩;have:=H1.out;rw [HR'.out.2.2.eq];simpa using this
  · have hbn:((i:Int) !=j)=true:=by simp;omega
    have hc1:(i:Int)<=m:=by omega
    have hc2:(m:Int)<=9223372036854775807:=by omega
    have hc3:(m:Int)+j<=9223372036854775807:=by omega
    have Hgk:=Lib.hid hgk;clear hgk;by_cases hgt:j < i
    · obtain ⟨X1,X2,hX12,hl1,hl2⟩:=split2 X' j (by have:=HR'.out;omega)
      have HC:=Lib.hid (swapRange_calls w0 B g n cp P' X1 X2 Y' S' F wr (m - i) m j (by have:=HR'.out;have:=this.2.2.at';omega) (by have:=HR'.out;have:=this.2.2.at';have:=congrArg List.length hX12;simp at this;omega) hl1 (by have:=HR'.out;omega) (by have:=HA'.out;rw [hX12] at this;simpa using this) HM.out);have e1:((m - i:Nat):Int)=(m:Int) - i:=by omega
      rw [e1] at HC;have HN:Hid (i - j=X2.length/\j=X1.length/\RotS (P++Y++X++S) (P'++Y') X2 X1 S' m):=by
       obtain ⟨a1,a2,a3⟩:=HR'.out;refine ⟨by omega,hl1.symm,⟨?_,?_,by omega,by omega⟩⟩
       · rw [a3.eq,hX12];simp
       · have:=a3.at';rw [List.length_append];omega
      clear e1 hX12 hl1 hl2;have hij:(j:Int) < i:=by omega
      go_wp2_with fail;(with_reducible refine HC.out.mono ?_);rintro e w1 ⟨rfl,hA1⟩;have H1:=Lib.hid (show Arr w0 B g n cp ((P'++Y')++X2++X1++S') w1 by simpa using hA1);clear hA1 HC;go_wp2;go_roundg (i - j+j)
      case rel=> exact ⟨P'++Y',X2,X1,S',i - j,j,by go_num,rfl,rfl,by omega,hj,by omega,hjn,HN,H1⟩
      case measure=> have:=Hgk.out;omega
    · obtain ⟨Y1,Y2,hY12,hl1,hl2⟩:=split2 Y' (j - i) (by have:=HR'.out;omega)
      have HC:=Lib.hid (swapRange_calls w0 B g n cp P' X' Y1 Y2 S' F wr (m - i) (m+j - i) i (by have:=HR'.out;have:=this.2.2.at';omega) (by have:=HR'.out;have:=this.2.2.at';omega) (by have:=HR'.out;omega) (by have:=HR'.out;omega) (by have:=HA'.out;rw [hY12] at this;simpa using this) HM.out);have e1:((m - i:Nat):Int)=(m:Int) - i:=by omega
      have e2:((m+j - i:Nat):Int)=(m:Int)+j - i:=by omega
      rw [e1,e2] at HC;have HN:Hid (i=Y2.length/\j - i=Y1.length/\RotS (P++Y++X++S) P' Y2 Y1 (X'++S') m):=by
       obtain ⟨a1,a2,a3⟩:=HR'.out;refine ⟨by omega,hl1.symm,⟨?_,?_,by omega,by omega⟩⟩
       · rw [a3.eq,hY12];simp
       · have:=a3.at';omega
      clear e1 e2 hY12 hl1 hl2;have hij:¬ (j:Int) < i:=by omega
      have hij2:(i:Int)<=j:=by omega
      go_wp2_with fail;(with_reducible refine HC.out.mono ?_);rintro e w1 ⟨rfl,hA1⟩;have H1:=Lib.hid (show Arr w0 B g n cp (P'++Y2++Y1++(X'++S')) w1 by simpa using hA1);clear hA1 HC;go_wp2;go_roundg (i+(j - i))
      case rel=> exact ⟨P',Y2,Y1,X'++S',i,j - i,rfl,by go_num,rfl,hi,by omega,him,by omega,HN,H1⟩
      case measure=> have:=Hgk.out;omega
def cc (c:Rw->Rw->Int) (x y:Ri):Int:=c x.r y.r
structure CmpOk (K:FuncId) (cap:Array Value) (c:Rw->Rw->Int) (d0:List Ri) (w0:World) (g:Nat):Prop where
 enter:∀args w,(callFunc K args).run Tryz.prog w=.ok (.enter K args) w
 call:∀x∈d0,∀y∈d0,∀w',w0.grownBy w' (some g)->Calls Tryz.prog K (#[.agg #[.int .i64 x.id, .slice x.a x.n x.c], .agg #[.int .i64 y.id, .slice y.a y.n y.c]]++cap) w' λ e w''=> e=.returned (.int .i64 (c x.r y.r))/\Below w'.heap.size w' w''
 ord:Ord3 (cc c)
structure SrA (c:Rw->Rw->Int) (x:Ri) (Y:List Ri) (i j:Nat):Prop where
 lo:∀y∈Y.take i,cc c y x < 0
 hi:∀y∈Y.drop j,¬ cc c y x < 0
theorem SrA.up {c:Rw->Rw->Int} (hc:Ord3 (cc c)) {x:Ri} {Y:List Ri} {i j h:Nat} (s:SrA c x Y i j) (ha:AscC (cc c) Y) (hh:h < Y.length) (hl:cc c Y[h] x < 0):SrA c x Y (h+1) j:=by
 refine ⟨λ y hy=> ?_,s.hi⟩;rw [List.take_succ_eq_append_getElem hh] at hy;rcases List.mem_append.1 hy with hy | hy
 · have:AscC (cc c) (Y.take h++Y[h]::Y.drop (h+1)):=by rwa [<-List.drop_eq_getElem_cons hh,List.take_append_drop]
   exact hc.le_lt (this.cross y hy Y[h] (List.mem_cons_self ..)) hl
 · rw [List.mem_singleton.1 hy];exact hl
theorem SrA.dn {c:Rw->Rw->Int} (hc:Ord3 (cc c)) {x:Ri} {Y:List Ri} {i j h:Nat} (s:SrA c x Y i j) (ha:AscC (cc c) Y) (hh:h < Y.length) (hl:¬ cc c Y[h] x < 0):SrA c x Y i h:=by
 refine ⟨s.lo,λ y hy h2=> hl ?_⟩;rw [List.drop_eq_getElem_cons hh] at hy;rcases List.mem_cons.1 hy with rfl | hy
 · exact h2
 · have:AscC (cc c) (Y.take h++(Y[h]::Y.drop (h+1))):=by rwa [<-List.drop_eq_getElem_cons hh,List.take_append_drop]
   exact hc.le_lt ((List.pairwise_cons.1 this.right).1 y hy) h2
theorem SrA.done {c:Rw->Rw->Int} (hc:Ord3 (cc c)) {x:Ri} {Y:List Ri} {i:Nat} (s:SrA c x Y i i) (ha:AscC (cc c) Y):AscC (cc c) (Y.take i++[x]++Y.drop i)/\StEq (cc c) ([x]++Y) (Y.take i++[x]++Y.drop i):=by
 have h:AscC (cc c) (Y.take i++Y.drop i):=by rwa [List.take_append_drop]
 refine ⟨(h.left.app (List.pairwise_singleton _ _) λ a ha b hb=> ?_).app h.right λ a ha b hb=> ?_,?_⟩
 · rw [List.mem_singleton.1 hb];have:=s.lo a ha;omega
 · rcases List.mem_append.1 ha with ha | ha
   · exact h.cross a ha b hb
   · rw [List.mem_singleton.1 ha];exact hc.le (s.hi b hb)
 · have h1:StEq (cc c) ([x]++Y.take i) (Y.take i++[x]):=StEq.swap hc λ a ha b hb=> by rw [List.mem_singleton.1 ha];exact s.lo b hb
   have:=h1.app (StEq.refl (c:=cc c) (Y.drop i))
   rwa [List.append_assoc,List.take_append_drop] at this
theorem symA_calls (K:FuncId) (cap:Array Value) (c:Rw->Rw->Int) (d0:List Ri) (w0:World) (B g n cp:Nat) (P Y S:List Ri) (x:Ri) (w:World) (a m b:Nat) (hp:P.length=a) (hm:a+1=m) (hb:m+Y.length=b)
 (hC:CmpOk K cap c d0 w0 g) (hmem:∀y∈x::Y,y∈d0) (hY:AscC (cc c) Y) (hA:Arr w0 B g n cp (P++[x]++Y++S) w) (hmx:n<=1099511627776):
 Calls Tryz.prog 113 #[.slice (some ⟨g,0,none⟩) n cp, .int .i64 a, .int .i64 m, .int .i64 b, .func (.func K) #[] cap] w λ e w'=> e=.returned (.tuple #[])/\∃Z,AscC (cc c) Z/\StEq (cc c) ([x]++Y) Z/\Arr w0 B g n cp (P++Z++S) w':=by
 have hlen:=hA.len;simp only [List.length_append,List.length_cons,List.length_nil] at hlen;have b1:b<=n:=by omega
 have b2:m<=b:=by omega
 have b3:a < m:=by omega
 have ht:((m:Int) - a==1)=true:=by simp;omega
 have HL:=Lib.hid (show P.length=a/\a+1=m/\m+Y.length=b from ⟨hp,hm,hb⟩);have HA:=Lib.hid hA;have HC:=Lib.hid hC;have HY:=Lib.hid hY;have HMem:=Lib.hid hmem;have eg:=hC.enter;clear hA hlen hp hm hb hC hmem hY;go_enter Tryz.func113,Tryz.ntmps113;go_wp2;go_loopw [10,11] (λ z10 z11 wr=> ∃i j:Nat,m<=i/\i<=j/\j<=b/\z10=.int .i64 i/\z11=.int .i64 j/\Hid (SrA c x Y (i - m) (j - m))/\Hid (Arr w0 B g n cp (P++[x]++Y++S) wr)) (λ z10 z11 _=> (intOf z11).toNat - (intOf z10).toNat)
 case atStart=> exact ⟨m,b,Nat.le_refl _,b2,Nat.le_refl _,rfl,rfl,⟨by simp,by rw [List.drop_of_length_le (by have:=HL.out;omega)];simp⟩,HA⟩
 case round=>
  obtain ⟨i,j,hmi,hij,hjb,rfl,rfl,Hs,H⟩:=hrel;by_cases hlt:i < j
  · obtain ⟨h,hh⟩:∃h:Nat,h=(i+j) / 2:=⟨_,rfl⟩
    have hh1:i<=h:=by omega
    have hh2:h < j:=by omega
    have hk:h - m < Y.length:=by have:=HL.out;omega
    have hget:(P++[x]++Y++S)[h]? =some Y[h - m]:=by
     have e:(P++[x]).length=m:=by have:=HL.out;simp;omega
     have:=mid_get (P:=P++[x]) (u:=Y) (S:=S) hk
     rwa [e,show m+(h - m)=h by omega] at this
    have hgx:(P++[x]++Y++S)[a]? =some x:=by have:=mid_get (P:=P) (u:=[x]) (S:=Y++S) (i:=0) (by simp);have e:=HL.out.1;rw [Nat.add_zero,e] at this;rw [List.append_assoc];exact this
    obtain ⟨cy,cy'⟩:=H.out.cell hget;obtain ⟨cx,cx'⟩:=H.out.cell hgx;have hg:=H.out.lt;have hup:=λ hl=> Hs.out.up HC.out.ord HY.out hk (j:=j - m) hl;have hdn:=λ hl=> Hs.out.dn HC.out.ord HY.out hk (i:=i - m) hl;have HU:=Lib.hid (show (cc c Y[h - m] x < 0->SrA c x Y (h+1 - m) (j - m))/\(¬ cc c Y[h - m] x < 0->SrA c x Y (i - m) (h - m)) from ⟨λ hl=> by have:=hup hl;rwa [show h - m+1=h+1 - m by omega] at this,hdn⟩);have HK:=Lib.hid (λ w' (hb:Below wr.heap.size wr w')=> HC.out.call Y[h - m] (HMem.out _ (List.mem_cons_of_mem _ (List.getElem_mem _))) x (HMem.out _ (List.mem_cons_self ..)) w' (grownBy_bel H.out.gr hb));clear hup hdn hget hgx;unfold cc at HU;generalize Y[h - m]=y at *;generalize c y.r x.r=r at *;clear hk;have Hh:=Lib.hid hh;have i1:(0:Int)<=h:=by omega
    have i2:(h:Int) < n:=by omega
    have i3:(0:Int)<=a:=by omega
    have i4:(a:Int) < n:=by omega
    clear hh;go_upto_region 4 with (fail)
    go_cut [12] (λ z wx=> z=.int .i64 h/\wx=wr)
    case first=>
     go_wp2_with fail;go_meet;exact ⟨by have:=Hh.out;congr 1;omega,rfl⟩
    obtain ⟨rfl,rfl⟩:=hcut;go_upto_region 5 with (fail)
    go_cut [50] (λ z wx=> ∃q:Bool,z=.bool q/\Hid (q=decide (r < 0))/\Hid (Below wc.heap.size wc wx))
    case first=>
     go_region_held3 (λ w'=> Below wc.heap.size wc w'/\∀b o,b < wc.heap.size->w'.cell? ⟨b,o,none⟩=wc.cell? ⟨b,o,none⟩)
      (first | assumption | exact S_of (Below.drew (Below.refl _ _)) | exact S_step (by assumption) (by assumption))
      (first | ((with_reducible refine (HK.out _ (by first | assumption | exact And.left (by assumption))).mono ?_);rintro e w1 ⟨rfl,hb1⟩))
     all_goals
      rename_i hH
      have Hb:=Lib.hid hH.1;clear hH;go_step;go_step;go_meet;exact ⟨_,rfl,rfl,Hb⟩
    obtain ⟨q,rfl,Hq,Hb⟩:=hcut;have HA1:=Lib.hid (H.out.below Hb.out);clear cy cx hg HK H Hb cy' cx';cases q
    · have hr:¬ r < 0:=by simpa using Hq.out
      have Hs1:=Lib.hid (HU.out.2 hr);clear HU Hq hr Hs;go_wp2;go_roundw
      case rel=> exact ⟨i,h,hmi,hh1,by omega,rfl,rfl,Hs1,HA1⟩
      case measure=> simp [intOf];omega
    · have hr:r < 0:=by simpa using Hq.out
      have Hs1:=Lib.hid (HU.out.1 hr);clear HU Hq hr Hs;go_wp2;go_roundw
      case rel=> exact ⟨h+1,j,by omega,by omega,hjb,by go_num,rfl,Hs1,HA1⟩
      case measure=> simp [intOf];omega
  · obtain rfl:i=j:=by omega
    obtain ⟨hs1,hs2⟩:=Hs.out.done HC.out.ord HY.out;have HZ:=Lib.hid hs1;have HE:=Lib.hid hs2;have HL2:=Lib.hid (show (Y.take (i - m)).length=i - m by rw [List.length_take,Nat.min_eq_left];have:=HL.out;omega);have HA1:Hid (Arr w0 B g n cp (P++[x]++Y.take (i - m)++(Y.drop (i - m)++S)) wr):=by have:=H.out;rw [<-List.take_append_drop (i - m) Y] at this;exact Lib.hid (by simpa only [List.append_assoc] using this)
    have HM2:=Lib.hid HL.out.1;generalize Y.take (i - m)=Y1 at *;generalize Y.drop (i - m)=Y2 at *;clear hs1 hs2 Hs H HA HC HMem HY hlt hij;go_wp2;go_loopw [13] (λ z wr=> ∃k t:Nat,k=a+t/\t<=i - m/\z=.int .i64 k/\Hid (Arr w0 B g n cp (P++Y1.take t++[x]++Y1.drop t++(Y2++S)) wr)) (λ z _=> i - (intOf z).toNat)
    case atStart=> exact ⟨a,0,by omega,Nat.zero_le _,rfl,Lib.hid (by simpa using HA1.out)⟩
    case round=>
     clear HA1;obtain ⟨k,t,hkt,hti,rfl,H⟩:=hrel;have hai:a+(i - m)+1=i:=by have:=HL.out;omega
     have hi1:(0:Int)<=i - 1:=by omega
     by_cases hlt:t < i - m
     · obtain ⟨y,hy⟩:∃y,Y1[t]? =some y:=⟨_,List.getElem?_eq_getElem (by rw [HL2.out];exact hlt)⟩
       have ht1:t < Y1.length:=by rw [HL2.out];exact hlt
       have e0:Y1.drop t=y::Y1.drop (t+1):=by rw [List.drop_eq_getElem_cons ht1];rw [List.getElem?_eq_getElem ht1] at hy;rw [Option.some.inj hy]
       have e1:Y1.take (t+1)=Y1.take t++[y]:=by rw [List.take_succ_eq_append_getElem ht1];rw [List.getElem?_eq_getElem ht1] at hy;rw [Option.some.inj hy]
       have eq0:P++Y1.take t++[x]++Y1.drop t++(Y2++S)=(P++Y1.take t)++x::[]++y::(Y1.drop (t+1)++(Y2++S)):=by rw [e0];simp only [List.append_assoc,List.cons_append,List.nil_append]
       have hA:=H.out;rw [eq0] at hA;have lP:(P++Y1.take t).length=k:=by rw [List.length_append,List.length_take,HL2.out,HM2.out,Nat.min_eq_left (by omega)];omega
       have hs:=swp_at (P:=P++Y1.take t) (Q:=[]) (S:=Y1.drop (t+1)++(Y2++S)) (x:=x) (y:=y);rw [lP,List.length_nil,Nat.add_zero] at hs;have hx:((P++Y1.take t)++x::[]++y::(Y1.drop (t+1)++(Y2++S)))[k]? =some x:=by rw [List.append_assoc,List.getElem?_append_right (by rw [lP];exact Nat.le_refl _),lP];simp
       have hyy:((P++Y1.take t)++x::[]++y::(Y1.drop (t+1)++(Y2++S)))[k+1]? =some y:=by rw [List.append_assoc,List.getElem?_append_right (by rw [lP];omega),lP];simp
       have hA2:=hA.drew.swap hx hyy;have hA3:=hA.drew.swap hyy hx;rw [swp_comm] at hA3;rw [hs] at hA2 hA3;have e2:P++Y1.take (t+1)++[x]++Y1.drop (t+1)++(Y2++S)=(P++Y1.take t)++y::[]++x::(Y1.drop (t+1)++(Y2++S)):=by rw [e1];simp only [List.append_assoc,List.cons_append,List.nil_append]
       rw [<-e2] at hA2 hA3;have H2:=Lib.hid hA2;have H3:=Lib.hid hA3;obtain ⟨cx,cx'⟩:=hA.cell hx;obtain ⟨cy,cy'⟩:=hA.cell hyy;have fx:=hA.free (k * 2);have fx':=hA.free (k * 2+1);have fy:=hA.free ((k+1) * 2);have fy':=hA.free ((k+1) * 2+1);have hg:=hA.lt;have hki:(k:Int) < i - 1:=by omega
       have hkn:(k:Int)+1 < n:=by omega
       clear hA hA2 hA3 e2 e1 e0 eq0 hx hyy hs lP hy ht1 H;clear hai;have Hkt:=Lib.hid hkt;clear hkt;go_wp2;go_region;go_wp2;go_roundw
       case rel=> exact ⟨k+1,t+1,by have:=Hkt.out;omega,by omega,by go_num,by first | exact H2 | exact H3⟩
       case measure=> simp [intOf];omega
     · obtain rfl:t=i - m:=by omega
       have hki:¬ (k:Int) < i - 1:=by omega
       have Hkt:=Lib.hid hkt;clear hkt hai;go_wp2;refine bodyPost_ret (v:=.tuple #[]) (results_none rfl _ _ _) rfl ?_;refine ⟨rfl,_,HZ.out,HE.out,?_⟩;have:=H.out;rw [List.take_of_length_le (by rw [HL2.out];exact Nat.le_refl _),List.drop_of_length_le (by rw [HL2.out];exact Nat.le_refl _)] at this;simpa only [List.append_assoc,List.append_nil,List.nil_append] using this
end
end Go.Proofs.YtnefkkidfhmggaaGreat
