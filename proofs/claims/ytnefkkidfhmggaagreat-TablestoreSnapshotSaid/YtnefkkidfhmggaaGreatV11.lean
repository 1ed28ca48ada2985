/- Part 11 of the proof: Lz, Kr, Ga, Gb, Gc, Gd, Ge, Gf, Gg, Gh, Gi, Gj -/
import Derived.Test.YtnefkkidfhmggaaGreatV10
import Derived.Test.YtnefkkidfhmggaaGreatV01
import Derived.Test.YtnefkkidfhmggaaGreatV07
import Derived.RegionTactic
import Derived.BigRegion
import Derived.ChangeAlike
import Derived.Deep.QuietTactic
import Derived.BigQuiet
set_option maxHeartbeats 16000000
set_option maxRecDepth 100000
namespace Go.Proofs.YtnefkkidfhmggaaGreat
open Go Go.RowKit
noncomputable section
def OpsOk (l:List Opr):Prop:=∀o∈l,o.kd < 256/\I64 o.id/\∀v∈o.r,I64 v.int
theorem OpsOk.play {l:List Opr} {kl fl:Nat} {most:Int} (h:OpsOk l) (hf:fairB kl fl l most=true):∀o∈l,o.kd < 256/\I64 o.id/\o.r.length<=1000/\∀v∈o.r,I64 v.int:=λ o ho=> by
 have h1:=h o ho;have h2:=(fair_ok hf).2.2.2 o ho;exact ⟨h1.1,h1.2.1,by omega,h1.2.2⟩
theorem st_below {W w:World} {L:List Asn} (h:St W [] L w):Below W.heap.size W w:=by
 obtain ⟨fp, -,ht⟩:=h;exact ht.below (Nat.le_refl _) λ k hk=> nomatch hk
theorem of_rix {w:World} {l:List Opr} {v lv:Value} {m:List Ri} (hl:OpsX w l v) (hm:∀x∈m,Of l x) (hs:SlX [] w 2 m.length (riV m) lv):RiX w m lv:=⟨hs,λ x hx=> by
 obtain ⟨o,ho,e1,e2⟩:=hm x hx;rw [<-e1,<-e2];exact hl.row o ho⟩
section
open Go.ChangeShapes Go.ChangeAt Go.WideShapes
theorem cOP:Tryz.prog.cellsOf 58=3:=by kernel_rfl
theorem cSHAPE:Tryz.prog.cellsOf 24=3:=by kernel_rfl
instance:Inhabited Opr:=⟨⟨0,0,none,0,0,[]⟩⟩
section
variable {H:Type} {enc:TypeId×Value->H} {w:World}
theorem read_op {fuel:Nat} {cs:List Value} {x:DataW H×List MemPlace} (h:DataW.trod enc Tryz.prog w 0 (λ _=> true) true fuel 58 cs=some x):∃y:Opr,cs=[.int .u8 y.kd, .int .i64 y.id,y.v]/\ValsAt w y.r y.v/\y.kd < 256/\I64 y.id/\∀v∈y.r,I64 v.int:=by
 obtain ⟨xs,n, -,rfl,hl,hxl,hx⟩:=DataW.trod_struct Tryz.underlying58 h;rw [cOP] at hl
 match cs,hl,hx with
 | [a,b,c],_,hx=>
  match xs,hxl,hx with
  | [x0,x1,x2],_,hx=>
   have h0:=hx 0 _ rfl;have h1:=hx 1 _ rfl;have h2:=hx 2 _ rfl;simp only [List.getElem_toArray,List.getElem_cons_zero,List.getElem_cons_succ,cU8,cI64,cRW] at h0 h1 h2;obtain ⟨k,e0, -,hk⟩:=DataW.trod_int Tryz.underlying5 (by simpa using h0);obtain ⟨i,e1, -,hi⟩:=DataW.trod_int Tryz.underlying2 (by simpa using h1);obtain ⟨R,hR,hRi⟩:=read_row (s:=c) (x:=x2) (by simpa using h2);obtain ⟨ra,rn,rc,rfl, -, -⟩:=hR.shape;cases e0;cases e1;have hk':0<=k/\k < 256:=by unfold Lit.wf at hk;simp [IntKind.min,IntKind.max,IntKind.bits,IntKind.signed] at hk;omega
   refine ⟨⟨k.toNat,i,ra,rn,rc,R⟩,?_,hR,by show k.toNat < 256;omega,wf64 hi,λ v hv=> (hRi v hv).1⟩;show _=[Value.int .u8 (k.toNat:Int),_,_]
   rw [Int.toNat_of_nonneg hk'.1];rfl
theorem read_ops {fuel:Nat} {s:Value} {x:DataW H×List MemPlace} (h:DataW.trod enc Tryz.prog w 0 (λ _=> true) true fuel 25 [s]=some x):∃l:List Opr,OpsX w l s/\OpsOk l/\∀a n c,s=.slice a n c->n<=c:=by
 rcases slice_read Tryz.underlying25 cOP (by omega) h with ⟨a,e⟩ | ⟨b,o,len,cap,k,D,R,e,hb,hlc,hcm,rfl,hxD,hDl,hel⟩
 · cases e
   exact ⟨[],⟨SlX.nil _ _ _ _ _,by simp⟩,(by intro o ho;cases ho),(by intro a n c e;cases e;exact Nat.le_refl _)⟩
 · cases e
   obtain ⟨l,h1,h2⟩:=slx_read (w:=w) (cap:=cap) (sz:=3) (by omega) (λ y:Opr=> [.int .u8 y.kd, .int .i64 y.id,y.v]) (λ _=> rfl) (P:=λ y=> ValsAt w y.r y.v/\y.kd < 256/\I64 y.id/\∀v∈y.r,I64 v.int) (b:=b) (o:=o) (len:=len) (Nat.le_trans hlc hcm) (λ i hi=> by obtain ⟨cs',pl, -,hc,ht⟩:=hel i (by rw [hDl];exact hi);obtain ⟨y,rfl,hy⟩:=read_op ht;exact ⟨y,hc,hy⟩);exact ⟨l,⟨h1,λ y hy=> (h2 y hy).1⟩,λ y hy=> (h2 y hy).2,(by intro a n c e;cases e;exact hlc)⟩
theorem open_shape {W:World} {base:Nat} {v:Value} {d:DataW H} {p:List MemPlace} (hok:Value.okWide Tryz.prog W .any base 24 v) (h:DataW.Trod enc Tryz.prog W 0 (λ _=> true) true 24 v d p):
 ∃u ka kn kc fa fn fc K F,v=.agg #[.int .u8 (u:Nat), .slice ka kn kc, .slice fa fn fc]/\u < 256/\IntsX [] W K (.slice ka kn kc)/\IntsX [] W F (.slice fa fn fc):=by
 obtain ⟨cs,rfl, -⟩:=okWide_struct Tryz.underlying24 hok;obtain ⟨fuel,h⟩:=h;obtain ⟨xs,n, -, -,hl,hxl,hx⟩:=DataW.trod_struct Tryz.underlying24 h;rw [cSHAPE] at hl;obtain ⟨cl⟩:=cs;have hcl:(Value.agg ⟨cl⟩).cells.toList=cl:=rfl;rw [hcl] at hl hx
 match cl,hl,hx with
 | [a,b,c],_,hx=>
  match xs,hxl,hx with
  | [x0,x1,x2],_,hx=>
   have h0:=hx 0 _ rfl;have h1:=hx 1 _ rfl;have h2:=hx 2 _ rfl;simp only [List.getElem_toArray,List.getElem_cons_zero,List.getElem_cons_succ,cU8,cIS] at h0 h1 h2;obtain ⟨k,e0, -,hk⟩:=DataW.trod_int Tryz.underlying5 (by simpa using h0);obtain ⟨K,hK, -⟩:=read_ints (s:=b) (x:=x1) (by simpa using h1);obtain ⟨F,hF, -⟩:=read_ints (s:=c) (x:=x2) (by simpa using h2);obtain ⟨ka,kn,kc,rfl, -, -⟩:=hK.shape;obtain ⟨fa,fn,fc,rfl, -, -⟩:=hF.shape;cases e0;have hk':0<=k/\k < 256:=by unfold Lit.wf at hk;simp [IntKind.min,IntKind.max,IntKind.bits,IntKind.signed] at hk;omega
   refine ⟨k.toNat,ka,kn,kc,fa,fn,fc,K,F,?_,by omega,hK,hF⟩;rw [Int.toNat_of_nonneg hk'.1]
theorem open_ops {W:World} {base:Nat} {v:Value} {d:DataW H} {p:List MemPlace} (hok:Value.okWide Tryz.prog W .any base 25 v) (h:DataW.Trod enc Tryz.prog W 0 (λ _=> true) true 25 v d p):∃l,OpsX W l v/\OpsOk l/\∀a n c,v=.slice a n c->n<=c:=by
 obtain ⟨fuel,h⟩:=h;rw [cell_of_one_slice W Tryz.underlying25 hok] at h;exact read_ops h
end
end
end
end Go.Proofs.YtnefkkidfhmggaaGreat
noncomputable section
namespace Go.Proofs.YtnefkkidfhmggaaGreat
section
variable {α:Type}
structure Ord3 (c:α->α->Int):Prop where
 anti:∀x y,c x y < 0↔0 < c y x
 trans:∀x y z,c x y<=0->c y z<=0->c x z<=0
variable {c:α->α->Int}
theorem Ord3.self (h:Ord3 c) (x:α):c x x=0:=by have:=h.anti x x;omega
theorem Ord3.le (h:Ord3 c) {x y:α} (hn:¬ c x y < 0):c y x<=0:=by have:=h.anti x y;omega
theorem Ord3.lt_le (h:Ord3 c) {x y z:α} (h1:c x y < 0) (h2:c y z<=0):c x z < 0:=by
 have h3:=h.trans x y z (by omega) h2;refine Int.not_le.1 λ h4=> ?_;have h5:c x z=0:=by omega
 have a1:=h.anti x z;have a2:=h.anti z x;have h6:c z x<=0:=by omega
 have h7:=h.trans y z x h2 h6;have:=h.anti x y;omega
theorem Ord3.le_lt (h:Ord3 c) {x y z:α} (h1:c x y<=0) (h2:c y z < 0):c x z < 0:=by
 have h3:=h.trans x y z h1 (by omega);refine Int.not_le.1 λ h4=> ?_;have h5:c x z=0:=by omega
 have a1:=h.anti x z;have a2:=h.anti z x;have h6:c z x<=0:=by omega
 have h7:=h.trans z x y h6 h1;have:=h.anti y z;omega
theorem Ord3.eq_cases (h:Ord3 c) {x y z:α} (h1:c x z=0) (h2:c y z=0):c y x=0:=by
 have a1:=h.anti x z;have a2:=h.anti z x;have a3:=h.anti y z;have a4:=h.anti z y;have h3:=h.trans y z x (by omega) (by omega);have h4:=h.trans x z y (by omega) (by omega);have a5:=h.anti y x;have a6:=h.anti x y;omega
def AscC (c:α->α->Int) (l:List α):Prop:=l.Pairwise λ x y=> c x y<=0
def StEq (c:α->α->Int) (l m:List α):Prop:=∀z,l.filter (λ x=> c x z==0)=m.filter (λ x=> c x z==0)
theorem StEq.refl (l:List α):StEq c l l:=λ _=> rfl
theorem StEq.symm {l m:List α} (h:StEq c l m):StEq c m l:=λ z=> (h z).symm
theorem StEq.trans {l m n:List α} (h:StEq c l m) (h':StEq c m n):StEq c l n:=λ z=> (h z).trans (h' z)
theorem StEq.app {l m l' m':List α} (h:StEq c l m) (h':StEq c l' m'):StEq c (l++l') (m++m'):=λ z=> by rw [List.filter_append,List.filter_append,h z,h' z]
theorem StEq.swap (hc:Ord3 c) {u v:List α} (h:∀x∈u,∀y∈v,c y x < 0):StEq c (u++v) (v++u):=λ z=> by
 rw [List.filter_append,List.filter_append];rcases hu:u.filter (λ x=> c x z==0) with _ | ⟨x,l⟩
 · simp
 rcases hv:v.filter (λ x=> c x z==0) with _ | ⟨y,m⟩
 · simp
 have hx:x∈u.filter (λ x=> c x z==0):=by rw [hu];simp
 have hy:y∈v.filter (λ x=> c x z==0):=by rw [hv];simp
 simp only [List.mem_filter,beq_iff_eq] at hx hy;have h1:=h x hx.1 y hy.1;have h2:=hc.eq_cases hx.2 hy.2;omega
theorem StEq.mem (hc:Ord3 c) {l m:List α} (h:StEq c l m) {x:α} (hx:x∈m):x∈l:=by
 have h1:x∈m.filter (λ y=> c y x==0):=by simp [hx,hc.self x]
 rw [<-h x] at h1;exact (List.mem_filter.1 h1).1
open Classical in
theorem StEq.perm (hc:Ord3 c) {l m:List α} (h:StEq c l m):l.Perm m:=by
 rw [List.perm_iff_count];intro x;have e:∀l:List α,(l.filter (λ y=> c y x==0)).count x=l.count x:=λ l=> List.count_filter (by simp [hc.self x]);rw [<-e l,<-e m,h x]
theorem AscC.app {l m:List α} (h:AscC c l) (h':AscC c m) (hb:∀x∈l,∀y∈m,c x y<=0):AscC c (l++m):=List.pairwise_append.2 ⟨h,h',hb⟩
theorem AscC.left {l m:List α} (h:AscC c (l++m)):AscC c l:=(List.pairwise_append.1 h).1
theorem AscC.right {l m:List α} (h:AscC c (l++m)):AscC c m:=(List.pairwise_append.1 h).2.1
theorem AscC.cross {l m:List α} (h:AscC c (l++m)):∀x∈l,∀y∈m,c x y<=0:=(List.pairwise_append.1 h).2.2
theorem split2 (d:List α) (a:Nat) (h:a<=d.length):∃P S,d=P++S/\P.length=a/\S.length=d.length - a:=
 ⟨d.take a,d.drop a,(List.take_append_drop a d).symm,by rw [List.length_take,Nat.min_eq_left h],List.length_drop⟩
theorem mid_get {P u S:List α} {i:Nat} (h:i < u.length):(P++u++S)[P.length+i]? =some u[i]:=by
 rw [List.append_assoc,List.getElem?_append_right (by omega),Nat.add_sub_cancel_left,List.getElem?_append_left h,List.getElem?_eq_getElem h]
def swp (d:List α) (i j:Nat):List α:=match d[i]?,d[j]? with
 | some x,some y=> (d.set i y).set j x
 | _,_=> d
theorem swp_at {P Q S:List α} {x y:α}:swp (P++x::Q++y::S) P.length (P.length+1+Q.length)=P++y::Q++x::S:=by
 have h1:(P++x::Q++y::S)[P.length]? =some x:=by simp
 have h2:(P++x::Q++y::S)[P.length+1+Q.length]? =some y:=by rw [List.getElem?_append_right (by simp;omega)];simp [show P.length+1+Q.length - (P.length+(Q.length+1))=0 by omega]
 unfold swp;rw [h1,h2];show (List.set _ _ _).set _ _=_;rw [show (P++x::Q++y::S).set P.length y=P++y::Q++y::S by simp];rw [List.set_append_right _ _ (by simp;omega)];simp [show P.length+1+Q.length - (P.length+(Q.length+1))=0 by omega]
theorem swp_comm (d:List α) (i j:Nat):swp d j i=swp d i j:=by
 unfold swp;rcases hi:d[i]? with _ | x <;> rcases hj:d[j]? with _ | y <;> (try rfl)
 show (d.set j x).set i y=(d.set i y).set j x;by_cases h:i=j
 · subst h
   rw [hi] at hj;obtain rfl:=Option.some.inj hj;rfl
 · exact List.set_comm _ _ (λ e=> h e.symm)
end
end Go.Proofs.YtnefkkidfhmggaaGreat
end
namespace Go.Proofs.YtnefkkidfhmggaaGreat
open Go Go.RowKit
noncomputable section
structure Arr (w0:World) (B g n cp:Nat) (d:List Ri) (w:World):Prop where
 own:w.ownsRow B 114 2 (.slice (some ⟨g,0,none⟩) n cp) n (riV d)
 gr:w0.grownBy w (some g)
theorem Arr.len {w0 w:World} {B g n cp:Nat} {d:List Ri} (h:Arr w0 B g n cp d w):d.length=n:=by
 have:=h.own.1;rw [riV_len] at this;omega
theorem Arr.lt {w0 w:World} {B g n cp:Nat} {d:List Ri} (h:Arr w0 B g n cp d w):g < w.heap.size:=(h.own.lt g rfl).2
theorem Arr.cell {w0 w:World} {B g n cp:Nat} {d:List Ri} (h:Arr w0 B g n cp d w) {j:Nat} {x:Ri} (hj:d[j]? =some x):w.cell? ⟨g,j * 2,none⟩=some (.int .i64 x.id)/\w.cell? ⟨g,j * 2+1,none⟩=some (.slice x.a x.n x.c):=by
 obtain ⟨hl,e⟩:=List.getElem?_eq_some_iff.1 hj;have:=h.len;obtain ⟨h1,h2⟩:=riV_at d j hl;rw [e] at h1 h2;exact ⟨by rw [h.own.cellAt (j * 2) (by omega),h1],by rw [h.own.cellAt (j * 2+1) (by omega),h2];rfl⟩
theorem Arr.free {w0 w:World} {B g n cp:Nat} {d:List Ri} (h:Arr w0 B g n cp d w) (j:Nat):w.frozen? ⟨g,j,none⟩=false:=h.own.frozenAt j
theorem grownBy_set1 {w0 w:World} {g:Nat} (h:w0.grownBy w (some g)) (j:Nat) (v:Value):w0.grownBy (w.setCell ⟨g,j,none⟩ v) (some g):=
 ⟨h.os,h.tape,h.output,by simpa using h.size,λ k hk hne=> (Below.heap_setCell w ⟨g,j,none⟩ v k (λ e=> hne (by rw [e]))).trans (h.block k hk hne)⟩
theorem riV_set:∀(d:List Ri) (j:Nat) (x:Ri),j < d.length->riV (d.set j x)=((riV d).set (j * 2) (.int .i64 x.id)).set (j * 2+1) (.slice x.a x.n x.c)
 | [],j,x,h=> absurd h (Nat.not_lt_zero j)
 | y::d,0,x,_=> rfl
 | y::d,j+1,x,h=> by have ih:=riV_set d j x (Nat.lt_of_succ_lt_succ h);show .int .i64 y.id::y.v::riV (d.set j x)=((.int .i64 y.id::y.v::riV d).set ((j+1) * 2) _).set ((j+1) * 2+1) _;rw [show (j+1) * 2=j * 2+1+1 by omega,ih];rfl
theorem Arr.set {w0 w:World} {B g n cp:Nat} {d:List Ri} (h:Arr w0 B g n cp d w) (j:Nat) (x:Ri) (hj:j < d.length):Arr w0 B g n cp (d.set j x) ((w.setCell ⟨g,j * 2,none⟩ (.int .i64 x.id)).setCell ⟨g,j * 2+1,none⟩ (.slice x.a x.n x.c)):=
 ⟨by rw [riV_set d j x hj];exact ((h.own.stored (j * 2) (.int .i64 x.id)).1.stored (j * 2+1) (.slice x.a x.n x.c)).1,grownBy_set1 (grownBy_set1 h.gr _ _) _ _⟩
theorem grownBy_bel {w0 w w':World} {row:Option Nat} (h:w0.grownBy w row) (hb:Below w.heap.size w w'):w0.grownBy w' row:=
 ⟨hb.os.trans h.os,hb.tape.trans h.tape,hb.output.trans h.output,Nat.le_trans h.size hb.size,λ k hk hne=> (hb.block k (Nat.lt_of_lt_of_le hk h.size)).trans (h.block k hk hne)⟩
theorem Arr.below {w0 w w':World} {B g n cp:Nat} {d:List Ri} (h:Arr w0 B g n cp d w) (hb:Below w.heap.size w w'):Arr w0 B g n cp d w':=
 ⟨own_below h.own hb,grownBy_bel h.gr hb⟩
theorem Arr.drew {w0 w:World} {B g n cp:Nat} {d:List Ri} (h:Arr w0 B g n cp d w):Arr w0 B g n cp d w.drew:=h.below (Below.drew (Below.refl _ _))
theorem Arr.swap {w0 w:World} {B g n cp:Nat} {d:List Ri} (h:Arr w0 B g n cp d w) {i j:Nat} {x y:Ri} (hx:d[i]? =some x) (hy:d[j]? =some y):
 Arr w0 B g n cp (swp d i j) ((((w.setCell ⟨g,i * 2,none⟩ (.int .i64 y.id)).setCell ⟨g,i * 2+1,none⟩ (.slice y.a y.n y.c)).setCell ⟨g,j * 2,none⟩ (.int .i64 x.id)).setCell ⟨g,j * 2+1,none⟩ (.slice x.a x.n x.c)):=by
 have hi:=(List.getElem?_eq_some_iff.1 hx).1;have hj:=(List.getElem?_eq_some_iff.1 hy).1;have h2:=(h.set i y hi).set j x (by rw [List.length_set];exact hj);unfold swp;rw [hx,hy];exact h2
theorem swapRange_calls (w0:World) (B g n cp:Nat) (P X Q Y S:List Ri) (F:Value) (w:World) (p q l:Nat) (hp:P.length=p) (hq:P.length+X.length+Q.length=q) (hl:X.length=l) (hXY:X.length=Y.length) (hA:Arr w0 B g n cp (P++X++Q++Y++S) w) (hm:n<=maxLen):
 Calls Tryz.prog 157 #[.slice (some ⟨g,0,none⟩) n cp, .int .i64 p, .int .i64 q, .int .i64 l,F] w λ e w'=> e=.returned (.tuple #[])/\Arr w0 B g n cp (P++Y++Q++X++S) w':=by
 have hlen:=hA.len;unfold maxLen at hm;simp only [List.length_append] at hlen;have h1:q+l<=n:=by omega
 have h2:p+l<=q:=by omega
 have HL:=Lib.hid (show P.length=p/\P.length+X.length+Q.length=q/\X.length=l/\Y.length=l by omega);have HA:=Lib.hid hA;clear hA hlen hp hq hl hXY;go_enter Tryz.func157,Tryz.ntmps157;go_wp2;go_loopw [10] (λ i wr=> ∃k:Nat,k<=l/\i=.int .i64 k/\Hid (Arr w0 B g n cp (P++(Y.take k++X.drop k)++Q++(X.take k++Y.drop k)++S) wr)) (λ i _=> l - (intOf i).toNat)
 case atStart=> exact ⟨0,Nat.zero_le _,rfl,Lib.hid (by have:=HA.out;simpa using this)⟩
 case round=>
  obtain ⟨k,hk,rfl,H⟩:=hrel;by_cases hlt:k < l
  · obtain ⟨h3,h4,h5,h6⟩:=HL.out
    have hX:k < X.length:=by omega
    have hY:k < Y.length:=by omega
    have eX:X.drop k=X[k]::X.drop (k+1):=List.drop_eq_getElem_cons hX;have eY:Y.drop k=Y[k]::Y.drop (k+1):=List.drop_eq_getElem_cons hY;have tX:X.take (k+1)=X.take k++[X[k]]:=by rw [List.take_succ_eq_append_getElem hX]
    have tY:Y.take (k+1)=Y.take k++[Y[k]]:=by rw [List.take_succ_eq_append_getElem hY]
    have hs:=swp_at (P:=P++Y.take k) (Q:=X.drop (k+1)++Q++X.take k) (S:=Y.drop (k+1)++S) (x:=X[k]) (y:=Y[k]);rw [show (P++Y.take k).length=p+k by simp;omega,show p+k+1+(X.drop (k+1)++Q++X.take k).length=q+k by simp;omega] at hs;have hA:=H.out;rw [eX,eY] at hA;rw [show P++(Y.take k++X[k]::X.drop (k+1))++Q++(X.take k++Y[k]::Y.drop (k+1))++S=P++Y.take k++X[k]::(X.drop (k+1)++Q++X.take k)++Y[k]::(Y.drop (k+1)++S) by simp only [List.append_assoc,List.cons_append]] at hA;have hx:(P++Y.take k++X[k]::(X.drop (k+1)++Q++X.take k)++Y[k]::(Y.drop (k+1)++S))[p+k]? =some X[k]:=by rw [List.append_assoc,List.getElem?_append_right (by simp;omega)];simp [show p+k - (P.length+min k Y.length)=0 by omega]
    have hy:(P++Y.take k++X[k]::(X.drop (k+1)++Q++X.take k)++Y[k]::(Y.drop (k+1)++S))[q+k]? =some Y[k]:=by rw [List.getElem?_append_right (by simp;omega)];simp only [List.length_append,List.length_cons,List.length_take,List.length_drop];rw [show q+k - (P.length+min k Y.length+(X.length - (k+1)+Q.length+min k X.length+1))=0 by omega];rfl
    have hA2:=hA.drew.swap hx hy;have hA3:=hA.drew.swap hy hx;rw [swp_comm] at hA3;rw [hs] at hA2 hA3;have e2:P++(Y.take (k+1)++X.drop (k+1))++Q++(X.take (k+1)++Y.drop (k+1))++S=P++Y.take k++Y[k]::(X.drop (k+1)++Q++X.take k)++X[k]::(Y.drop (k+1)++S):=by rw [tX,tY];simp only [List.append_assoc,List.cons_append,List.nil_append]
    rw [<-e2] at hA2 hA3;have H2:=Lib.hid hA2;have H3:=Lib.hid hA3;obtain ⟨cx,cx'⟩:=hA.cell hx;obtain ⟨cy,cy'⟩:=hA.cell hy;have fx:=hA.free ((p+k) * 2);have fx':=hA.free ((p+k) * 2+1);have fy:=hA.free ((q+k) * 2);have fy':=hA.free ((q+k) * 2+1);have hg:=hA.lt;clear hA hA2 hA3 e2 hx hy hs tX tY eX eY h3 h4 h5 h6;generalize X[k]=x at *;generalize Y[k]=y at *;clear hX hY H;go_wp2;go_region;go_wp2;go_roundw
    case rel=> exact ⟨k+1,by omega,by go_num,by first | exact H2 | exact H3⟩
    case measure=> simp [intOf];omega
  · obtain rfl:k=l:=by omega
    have hk0:¬ k < k:=Nat.lt_irrefl _;go_wp2;go_end0;refine ⟨rfl,?_⟩;have:=H.out
    rwa [List.take_of_length_le (by rw [HL.out.2.2.2];exact Nat.le_refl _),List.drop_of_length_le (by rw [HL.out.2.2.1];exact Nat.le_refl _),List.take_of_length_le (by rw [HL.out.2.2.1];exact Nat.le_refl _),List.drop_of_length_le (by rw [HL.out.2.2.2];exact Nat.le_refl _),List.append_nil,List.append_nil] at this
structure RotS (T P X Y S:List Ri) (m:Nat):Prop where
 eq:T=P++Y++X++S
 at':P.length+X.length=m
 px:0 < X.length
 py:0 < Y.length
theorem rotate_calls (w0:World) (B g n cp:Nat) (P X Y S:List Ri) (F:Value) (w:World) (p m b:Nat) (hp:P.length=p) (hm:P.length+X.length=m) (hb:P.length+X.length+Y.length=b) (hX:0 < X.length) (hY:0 < Y.length)
 (hA:Arr w0 B g n cp (P++X++Y++S) w) (hmx:n<=maxLen):
 Calls Tryz.prog 140 #[.slice (some ⟨g,0,none⟩) n cp, .int .i64 p, .int .i64 m, .int .i64 b,F] w λ e w'=> e=.returned (.tuple #[])/\Arr w0 B g n cp (P++Y++X++S) w':=by
 have hlen:=hA.len;have HM:=Lib.hid hmx;unfold maxLen at hmx;simp only [List.length_append] at hlen;have b1:b<=n:=by omega
 have b2:p<=m:=by omega
 have b3:m<=b:=by omega
 have HL:=Lib.hid (show m - p=X.length/\b - m=Y.length by omega);have HR:Hid (RotS (P++Y++X++S) P X Y S m):=⟨rfl,hm,hX,hY⟩
 have HA:=Lib.hid hA;clear hA hlen hp hm hb hX hY;go_enter Tryz.func140,Tryz.ntmps140;go_wp2;go_loopg [10,11] (m - p+(b - m)) (λ gk z10 z11 wr=> ∃(P' X' Y' S':List Ri) (i j:Nat),z10=.int .i64 i/\z11=.int .i64 j/\gk=i+j/\0 < i/\0 < j/\i<=m/\m+j<=n/\Hid (i=X'.length/\j=Y'.length/\RotS (P++Y++X++S) P' X' Y' S' m)/\Hid (Arr w0 B g n cp (P'++X'++Y'++S') wr))
 case atStart=>
  refine ⟨P,X,Y,S,m - p,b - m,by go_num,by go_num,rfl,?_,?_,by omega,by omega,Lib.hid ⟨HL.out.1,HL.out.2,HR.out⟩,HA⟩
  · rw [HL.out.1];exact HR.out.px
  · rw [HL.out.2];exact HR.out.py
 case round=>
  obtain ⟨P',X',Y',S',i,j,rfl,rfl,hgk,hi,hj,him,hjn,HR',HA'⟩:=hrel;clear HA HR HL;by_cases hne:i=j
  · subst hne
    have HC:=Lib.hid (swapRange_calls w0 B g n cp P' X' [] Y' S' F wr (m - i) m i (by have:=HR'.out;have:=this.2.2.at';omega) (by have:=HR'.out;have:=this.2.2.at';simp;omega) (by have:=HR'.out;omega) (by have:=HR'.out;omega) (by have:=HA'.out;simpa using this) HM.out);have hb0:((i:Int) !=i)=false:=by simp
    have e1:((m - i:Nat):Int)=(m:Int) - i:=by omega
    rw [e1] at HC;clear e1;have hc1:(i:Int)<=m:=by omega
    have hc2:(m:Int)<=9223372036854775807:=by omega
    clear hgk;go_wp2_with fail;(with_reducible refine HC.out.mono ?_);rintro e w1 ⟨rfl,hA1⟩;have H1:=Lib.hid hA1;clear hA1;go_wp2;go_end0;refine ⟨rfl,?_⟩;have:=H1.out;rw [HR'.out.2.2.eq];simpa using this
  · have hbn:((i:Int) !=j)=true:=by simp;omega
    have hc1:(i:Int)<=m:=by omega
    have hc2:(m:Int)<=9223372036854775807:=by omega
    have hc3:(m:Int)+j<=9223372036854775807:=by omega
    have Hgk:=Lib.hid hgk;clear hgk;by_cases hgt:j < i
    · obtain ⟨X1,X2,hX12,hl1,hl2⟩:=split2 X' j (by have:=HR'.out;omega)
      have HC:=Lib.hid (swapRange_calls w0 B g n cp P' X1 X2 Y' S' F wr (m - i) m j (by have:=HR'.out;have:=this.2.2.at';omega) (by have:=HR'.out;have:=this.2.2.at';have:=congrArg List.length hX12;simp at this;omega) hl1 (by have:=HR'.out;omega) (by have:=HA'.out;rw [hX12] at this;simpa using this) HM.out);have e1:((m - i:Nat):Int)=(m:Int) - i:=by omega
      rw [e1] at HC;have HN:Hid (i - j=X2.length/\j=X1.length/\RotS (P++Y++X++S) (P'++Y') X2 X1 S' m):=by
       obtain ⟨a1,a2,a3⟩:=HR'.out;refine ⟨by omega,hl1.symm,⟨?_,?_,by omega,by omega⟩⟩
       · rw [a3.eq,hX12];simp
       · have:=a3.at';rw [List.length_append];omega
      clear e1 hX12 hl1 hl2;have hij:(j:Int) < i:=by omega
      go_wp2_with fail;(with_reducible refine HC.out.mono ?_);rintro e w1 ⟨rfl,hA1⟩;have H1:=Lib.hid (show Arr w0 B g n cp ((P'++Y')++X2++X1++S') w1 by simpa using hA1);clear hA1 HC;go_wp2;go_roundg (i - j+j)
      case rel=> exact ⟨P'++Y',X2,X1,S',i - j,j,by go_num,rfl,rfl,by omega,hj,by omega,hjn,HN,H1⟩
      case measure=> have:=Hgk.out;omega
    · obtain ⟨Y1,Y2,hY12,hl1,hl2⟩:=split2 Y' (j - i) (by have:=HR'.out;omega)
      have HC:=Lib.hid (swapRange_calls w0 B g n cp P' X' Y1 Y2 S' F wr (m - i) (m+j - i) i (by have:=HR'.out;have:=this.2.2.at';omega) (by have:=HR'.out;have:=this.2.2.at';omega) (by have:=HR'.out;omega) (by have:=HR'.out;omega) (by have:=HA'.out;rw [hY12] at this;simpa using this) HM.out);have e1:((m - i:Nat):Int)=(m:Int) - i:=by omega
      have e2:((m+j - i:Nat):Int)=(m:Int)+j - i:=by omega
      rw [e1,e2] at HC;have HN:Hid (i=Y2.length/\j - i=Y1.length/\RotS (P++Y++X++S) P' Y2 Y1 (X'++S') m):=by
       obtain ⟨a1,a2,a3⟩:=HR'.out;refine ⟨by omega,hl1.symm,⟨?_,?_,by omega,by omega⟩⟩
       · rw [a3.eq,hY12];simp
       · have:=a3.at';omega
      clear e1 e2 hY12 hl1 hl2;have hij:¬ (j:Int) < i:=by omega
      have hij2:(i:Int)<=j:=by omega
      go_wp2_with fail;(with_reducible refine HC.out.mono ?_);rintro e w1 ⟨rfl,hA1⟩;have H1:=Lib.hid (show Arr w0 B g n cp (P'++Y2++Y1++(X'++S')) w1 by simpa using hA1);clear hA1 HC;go_wp2;go_roundg (i+(j - i))
      case rel=> exact ⟨P',Y2,Y1,X'++S',i,j - i,rfl,by go_num,rfl,hi,by omega,him,by omega,HN,H1⟩
      case measure=> have:=Hgk.out;omega
def cc (c:Rw->Rw->Int) (x y:Ri):Int:=c x.r y.r
structure CmpOk (K:FuncId) (cap:Array Value) (c:Rw->Rw->Int) (d0:List Ri) (w0:World) (g:Nat):Prop where
 enter:∀args w,(callFunc K args).run Tryz.prog w=.ok (.enter K args) w
 call:∀x∈d0,∀y∈d0,∀w',w0.grownBy w' (some g)->Calls Tryz.prog K (#[.agg #[.int .i64 x.id, .slice x.a x.n x.c], .agg #[.int .i64 y.id, .slice y.a y.n y.c]]++cap) w' λ e w''=> e=.returned (.int .i64 (c x.r y.r))/\Below w'.heap.size w' w''
 ord:Ord3 (cc c)
structure SrA (c:Rw->Rw->Int) (x:Ri) (Y:List Ri) (i j:Nat):Prop where
 lo:∀y∈Y.take i,cc c y x < 0
 hi:∀y∈Y.drop j,¬ cc c y x < 0
theorem SrA.up {c:Rw->Rw->Int} (hc:Ord3 (cc c)) {x:Ri} {Y:List Ri} {i j h:Nat} (s:SrA c x Y i j) (ha:AscC (cc c) Y) (hh:h < Y.length) (hl:cc c Y[h] x < 0):SrA c x Y (h+1) j:=by
 refine ⟨λ y hy=> ?_,s.hi⟩;rw [List.take_succ_eq_append_getElem hh] at hy;rcases List.mem_append.1 hy with hy | hy
 · have:AscC (cc c) (Y.take h++Y[h]::Y.drop (h+1)):=by rwa [<-List.drop_eq_getElem_cons hh,List.take_append_drop]
   exact hc.le_lt (this.cross y hy Y[h] (List.mem_cons_self ..)) hl
 · rw [List.mem_singleton.1 hy];exact hl
theorem SrA.dn {c:Rw->Rw->Int} (hc:Ord3 (cc c)) {x:Ri} {Y:List Ri} {i j h:Nat} (s:SrA c x Y i j) (ha:AscC (cc c) Y) (hh:h < Y.length) (hl:¬ cc c Y[h] x < 0):SrA c x Y i h:=by
 refine ⟨s.lo,λ y hy h2=> hl ?_⟩;rw [List.drop_eq_getElem_cons hh] at hy;rcases List.mem_cons.1 hy with rfl | hy
 · exact h2
 · have:AscC (cc c) (Y.take h++(Y[h]::Y.drop (h+1))):=by rwa [<-List.drop_eq_getElem_cons hh,List.take_append_drop]
   exact hc.le_lt ((List.pairwise_cons.1 this.right).1 y hy) h2
theorem SrA.done {c:Rw->Rw->Int} (hc:Ord3 (cc c)) {x:Ri} {Y:List Ri} {i:Nat} (s:SrA c x Y i i) (ha:AscC (cc c) Y):AscC (cc c) (Y.take i++[x]++Y.drop i)/\StEq (cc c) ([x]++Y) (Y.take i++[x]++Y.drop i):=by
 have h:AscC (cc c) (Y.take i++Y.drop i):=by rwa [List.take_append_drop]
 refine ⟨(h.left.app (List.pairwise_singleton _ _) λ a ha b hb=> ?_).app h.right λ a ha b hb=> ?_,?_⟩
 · rw [List.mem_singleton.1 hb];have:=s.lo a ha;omega
 · rcases List.mem_append.1 ha with ha | ha
   · exact h.cross a ha b hb
   · rw [List.mem_singleton.1 ha];exact hc.le (s.hi b hb)
 · have h1:StEq (cc c) ([x]++Y.take i) (Y.take i++[x]):=StEq.swap hc λ a ha b hb=> by rw [List.mem_singleton.1 ha];exact s.lo b hb
   have:=h1.app (StEq.refl (c:=cc c) (Y.drop i))
   rwa [List.append_assoc,List.take_append_drop] at this
theorem symA_calls (K:FuncId) (cap:Array Value) (c:Rw->Rw->Int) (d0:List Ri) (w0:World) (B g n cp:Nat) (P Y S:List Ri) (x:Ri) (w:World) (a m b:Nat) (hp:P.length=a) (hm:a+1=m) (hb:m+Y.length=b)
 (hC:CmpOk K cap c d0 w0 g) (hmem:∀y∈x::Y,y∈d0) (hY:AscC (cc c) Y) (hA:Arr w0 B g n cp (P++[x]++Y++S) w) (hmx:n<=1099511627776):
 Calls Tryz.prog 113 #[.slice (some ⟨g,0,none⟩) n cp, .int .i64 a, .int .i64 m, .int .i64 b, .func (.func K) #[] cap] w λ e w'=> e=.returned (.tuple #[])/\∃Z,AscC (cc c) Z/\StEq (cc c) ([x]++Y) Z/\Arr w0 B g n cp (P++Z++S) w':=by
 have hlen:=hA.len;simp only [List.length_append,List.length_cons,List.length_nil] at hlen;have b1:b<=n:=by omega
 have b2:m<=b:=by omega
 have b3:a < m:=by omega
 have ht:((m:Int) - a==1)=true:=by simp;omega
 have HL:=Lib.hid (show P.length=a/\a+1=m/\m+Y.length=b from ⟨hp,hm,hb⟩);have HA:=Lib.hid hA;have HC:=Lib.hid hC;have HY:=Lib.hid hY;have HMem:=Lib.hid hmem;have eg:=hC.enter;clear hA hlen hp hm hb hC hmem hY;go_enter Tryz.func113,Tryz.ntmps113;go_wp2;go_loopw [10,11] (λ z10 z11 wr=> ∃i j:Nat,m<=i/\i<=j/\j<=b/\z10=.int .i64 i/\z11=.int .i64 j/\Hid (SrA c x Y (i - m) (j - m))/\Hid (Arr w0 B g n cp (P++[x]++Y++S) wr)) (λ z10 z11 _=> (intOf z11).toNat - (intOf z10).toNat)
 case atStart=> exact ⟨m,b,Nat.le_refl _,b2,Nat.le_refl _,rfl,rfl,⟨by simp,by rw [List.drop_of_length_le (by have:=HL.out;omega)];simp⟩,HA⟩
 case round=>
  obtain ⟨i,j,hmi,hij,hjb,rfl,rfl,Hs,H⟩:=hrel;by_cases hlt:i < j
  · obtain ⟨h,hh⟩:∃h:Nat,h=(i+j) / 2:=⟨_,rfl⟩
    have hh1:i<=h:=by omega
    have hh2:h < j:=by omega
    have hk:h - m < Y.length:=by have:=HL.out;omega
    have hget:(P++[x]++Y++S)[h]? =some Y[h - m]:=by
     have e:(P++[x]).length=m:=by have:=HL.out;simp;omega
     have:=mid_get (P:=P++[x]) (u:=Y) (S:=S) hk
     rwa [e,show m+(h - m)=h by omega] at this
    have hgx:(P++[x]++Y++S)[a]? =some x:=by have:=mid_get (P:=P) (u:=[x]) (S:=Y++S) (i:=0) (by simp);have e:=HL.out.1;rw [Nat.add_zero,e] at this;rw [List.append_assoc];exact this
    obtain ⟨cy,cy'⟩:=H.out.cell hget;obtain ⟨cx,cx'⟩:=H.out.cell hgx;have hg:=H.out.lt;have hup:=λ hl=> Hs.out.up HC.out.ord HY.out hk (j:=j - m) hl;have hdn:=λ hl=> Hs.out.dn HC.out.ord HY.out hk (i:=i - m) hl;have HU:=Lib.hid (show (cc c Y[h - m] x < 0->SrA c x Y (h+1 - m) (j - m))/\(¬ cc c Y[h - m] x < 0->SrA c x Y (i - m) (h - m)) from ⟨λ hl=> by have:=hup hl;rwa [show h - m+1=h+1 - m by omega] at this,hdn⟩);have HK:=Lib.hid (λ w' (hb:Below wr.heap.size wr w')=> HC.out.call Y[h - m] (HMem.out _ (List.mem_cons_of_mem _ (List.getElem_mem _))) x (HMem.out _ (List.mem_cons_self ..)) w' (grownBy_bel H.out.gr hb));clear hup hdn hget hgx;unfold cc at HU;generalize Y[h - m]=y at *;generalize c y.r x.r=r at *;clear hk;have Hh:=Lib.hid hh;have i1:(0:Int)<=h:=by omega
    have i2:(h:Int) < n:=by omega
    have i3:(0:Int)<=a:=by omega
    have i4:(a:Int) < n:=by omega
    clear hh;go_upto_region 4 with (fail)
    go_cut [12] (λ z wx=> z=.int .i64 h/\wx=wr)
    case first=>
     go_wp2_with fail;go_meet;exact ⟨by have:=Hh.out;congr 1;omega,rfl⟩
    obtain ⟨rfl,rfl⟩:=hcut;go_upto_region 5 with (fail)
    go_cut [50] (λ z wx=> ∃q:Bool,z=.bool q/\Hid (q=decide (r < 0))/\Hid (Below wc.heap.size wc wx))
    case first=>
     go_region_held3 (λ w'=> Below wc.heap.size wc w'/\∀b o,b < wc.heap.size->w'.cell? ⟨b,o,none⟩=wc.cell? ⟨b,o,none⟩)
      (first | assumption | exact S_of (Below.drew (Below.refl _ _)) | exact S_step (by assumption) (by assumption))
      (first | ((with_reducible refine (HK.out _ (by first | assumption | exact And.left (by assumption))).mono ?_);rintro e w1 ⟨rfl,hb1⟩))
     all_goals
      rename_i hH
      have Hb:=Lib.hid hH.1;clear hH;go_step;go_step;go_meet;exact ⟨_,rfl,rfl,Hb⟩
    obtain ⟨q,rfl,Hq,Hb⟩:=hcut;have HA1:=Lib.hid (H.out.below Hb.out);clear cy cx hg HK H Hb cy' cx';cases q
    · have hr:¬ r < 0:=by simpa using Hq.out
      have Hs1:=Lib.hid (HU.out.2 hr);clear HU Hq hr Hs;go_wp2;go_roundw
      case rel=> exact ⟨i,h,hmi,hh1,by omega,rfl,rfl,Hs1,HA1⟩
      case measure=> simp [intOf];omega
    · have hr:r < 0:=by simpa using Hq.out
      have Hs1:=Lib.hid (HU.out.1 hr);clear HU Hq hr Hs;go_wp2;go_roundw
      case rel=> exact ⟨h+1,j,by omega,by omega,hjb,by go_num,rfl,Hs1,HA1⟩
      case measure=> simp [intOf];omega
  · obtain rfl:i=j:=by omega
    obtain ⟨hs1,hs2⟩:=Hs.out.done HC.out.ord HY.out;have HZ:=Lib.hid hs1;have HE:=Lib.hid hs2;have HL2:=Lib.hid (show (Y.take (i - m)).length=i - m by rw [List.length_take,Nat.min_eq_left];have:=HL.out;omega);have HA1:Hid (Arr w0 B g n cp (P++[x]++Y.take (i - m)++(Y.drop (i - m)++S)) wr):=by have:=H.out;rw [<-List.take_append_drop (i - m) Y] at this;exact Lib.hid (by simpa only [List.append_assoc] using this)
    have HM2:=Lib.hid HL.out.1;generalize Y.take (i - m)=Y1 at *;generalize Y.drop (i - m)=Y2 at *;clear hs1 hs2 Hs H HA HC HMem HY hlt hij;go_wp2;go_loopw [13] (λ z wr=> ∃k t:Nat,k=a+t/\t<=i - m/\z=.int .i64 k/\Hid (Arr w0 B g n cp (P++Y1.take t++[x]++Y1.drop t++(Y2++S)) wr)) (λ z _=> i - (intOf z).toNat)
    case atStart=> exact ⟨a,0,by omega,Nat.zero_le _,rfl,Lib.hid (by simpa using HA1.out)⟩
    case round=>
     clear HA1;obtain ⟨k,t,hkt,hti,rfl,H⟩:=hrel;have hai:a+(i - m)+1=i:=by have:=HL.out;omega
     have hi1:(0:Int)<=i - 1:=by omega
     by_cases hlt:t < i - m
     · obtain ⟨y,hy⟩:∃y,Y1[t]? =some y:=⟨_,List.getElem?_eq_getElem (by rw [HL2.out];exact hlt)⟩
       have ht1:t < Y1.length:=by rw [HL2.out];exact hlt
       have e0:Y1.drop t=y::Y1.drop (t+1):=by rw [List.drop_eq_getElem_cons ht1];rw [List.getElem?_eq_getElem ht1] at hy;rw [Option.some.inj hy]
       have e1:Y1.take (t+1)=Y1.take t++[y]:=by rw [List.take_succ_eq_append_getElem ht1];rw [List.getElem?_eq_getElem ht1] at hy;rw [Option.some.inj hy]
       have eq0:P++Y1.take t++[x]++Y1.drop t++(Y2++S)=(P++Y1.take t)++x::[]++y::(Y1.drop (t+1)++(Y2++S)):=by rw [e0];simp only [List.append_assoc,List.cons_append,List.nil_append]
       have hA:=H.out;rw [eq0] at hA;have lP:(P++Y1.take t).length=k:=by rw [List.length_append,List.length_take,HL2.out,HM2.out,Nat.min_eq_left (by omega)];omega
       have hs:=swp_at (P:=P++Y1.take t) (Q:=[]) (S:=Y1.drop (t+1)++(Y2++S)) (x:=x) (y:=y);rw [lP,List.length_nil,Nat.add_zero] at hs;have hx:((P++Y1.take t)++x::[]++y::(Y1.drop (t+1)++(Y2++S)))[k]? =some x:=by rw [List.append_assoc,List.getElem?_append_right (by rw [lP];exact Nat.le_refl _),lP];simp
       have hyy:((P++Y1.take t)++x::[]++y::(Y1.drop (t+1)++(Y2++S)))[k+1]? =some y:=by rw [List.append_assoc,List.getElem?_append_right (by rw [lP];omega),lP];simp
       have hA2:=hA.drew.swap hx hyy;have hA3:=hA.drew.swap hyy hx;rw [swp_comm] at hA3;rw [hs] at hA2 hA3;have e2:P++Y1.take (t+1)++[x]++Y1.drop (t+1)++(Y2++S)=(P++Y1.take t)++y::[]++x::(Y1.drop (t+1)++(Y2++S)):=by rw [e1];simp only [List.append_assoc,List.cons_append,List.nil_append]
       rw [<-e2] at hA2 hA3;have H2:=Lib.hid hA2;have H3:=Lib.hid hA3;obtain ⟨cx,cx'⟩:=hA.cell hx;obtain ⟨cy,cy'⟩:=hA.cell hyy;have fx:=hA.free (k * 2);have fx':=hA.free (k * 2+1);have fy:=hA.free ((k+1) * 2);have fy':=hA.free ((k+1) * 2+1);have hg:=hA.lt;have hki:(k:Int) < i - 1:=by omega
       have hkn:(k:Int)+1 < n:=by omega
       clear hA hA2 hA3 e2 e1 e0 eq0 hx hyy hs lP hy ht1 H;clear hai;have Hkt:=Lib.hid hkt;clear hkt;go_wp2;go_region;go_wp2;go_roundw
       case rel=> exact ⟨k+1,t+1,by have:=Hkt.out;omega,by omega,by go_num,by first | exact H2 | exact H3⟩
       case measure=> simp [intOf];omega
     · obtain rfl:t=i - m:=by omega
       have hki:¬ (k:Int) < i - 1:=by omega
       have Hkt:=Lib.hid hkt;clear hkt hai;go_wp2;refine bodyPost_ret (v:=.tuple #[]) (results_none rfl _ _ _) rfl ?_;refine ⟨rfl,_,HZ.out,HE.out,?_⟩;have:=H.out;rw [List.take_of_length_le (by rw [HL2.out];exact Nat.le_refl _),List.drop_of_length_le (by rw [HL2.out];exact Nat.le_refl _)] at this;simpa only [List.append_assoc,List.append_nil,List.nil_append] using this
structure SrB (c:Rw->Rw->Int) (y:Ri) (X:List Ri) (i j:Nat):Prop where
 lo:∀x∈X.take i,¬ cc c y x < 0
 hi:∀x∈X.drop j,cc c y x < 0
theorem SrB.up {c:Rw->Rw->Int} (hc:Ord3 (cc c)) {y:Ri} {X:List Ri} {i j h:Nat} (s:SrB c y X i j) (ha:AscC (cc c) X) (hh:h < X.length) (hl:¬ cc c y X[h] < 0):SrB c y X (h+1) j:=by
 refine ⟨λ x hx h2=> hl ?_,s.hi⟩;rw [List.take_succ_eq_append_getElem hh] at hx;rcases List.mem_append.1 hx with hx | hx
 · have:AscC (cc c) (X.take h++X[h]::X.drop (h+1)):=by rwa [<-List.drop_eq_getElem_cons hh,List.take_append_drop]
   exact hc.lt_le h2 (this.cross x hx X[h] (List.mem_cons_self ..))
 · rw [List.mem_singleton.1 hx] at h2;exact h2
theorem SrB.dn {c:Rw->Rw->Int} (hc:Ord3 (cc c)) {y:Ri} {X:List Ri} {i j h:Nat} (s:SrB c y X i j) (ha:AscC (cc c) X) (hh:h < X.length) (hl:cc c y X[h] < 0):SrB c y X i h:=by
 refine ⟨s.lo,λ x hx=> ?_⟩;rw [List.drop_eq_getElem_cons hh] at hx;rcases List.mem_cons.1 hx with rfl | hx
 · exact hl
 · have:AscC (cc c) (X.take h++(X[h]::X.drop (h+1))):=by rwa [<-List.drop_eq_getElem_cons hh,List.take_append_drop]
   exact hc.lt_le hl ((List.pairwise_cons.1 this.right).1 x hx)
theorem SrB.done {c:Rw->Rw->Int} (hc:Ord3 (cc c)) {y:Ri} {X:List Ri} {i:Nat} (s:SrB c y X i i) (ha:AscC (cc c) X):AscC (cc c) (X.take i++[y]++X.drop i)/\StEq (cc c) (X++[y]) (X.take i++[y]++X.drop i):=by
 have h:AscC (cc c) (X.take i++X.drop i):=by rwa [List.take_append_drop]
 refine ⟨(h.left.app (List.pairwise_singleton _ _) λ a ha b hb=> ?_).app h.right λ a ha b hb=> ?_,?_⟩
 · rw [List.mem_singleton.1 hb];exact hc.le (s.lo a ha)
 · rcases List.mem_append.1 ha with ha | ha
   · exact h.cross a ha b hb
   · rw [List.mem_singleton.1 ha];have:=s.hi b hb;omega
 · have h1:StEq (cc c) (X.drop i++[y]) ([y]++X.drop i):=StEq.swap hc λ a ha b hb=> by rw [List.mem_singleton.1 hb];exact s.hi a ha
   have:=(StEq.refl (c:=cc c) (X.take i)).app h1
   rwa [<-List.append_assoc,List.take_append_drop,<-List.append_assoc] at this
theorem symB_calls (K:FuncId) (cap:Array Value) (c:Rw->Rw->Int) (d0:List Ri) (w0:World) (B g n cp:Nat) (P X S:List Ri) (y:Ri) (w:World) (a m b:Nat) (hp:P.length=a) (hm:a+X.length=m) (hb:m+1=b) (hX2:2<=X.length)
 (hC:CmpOk K cap c d0 w0 g) (hmem:∀x∈y::X,x∈d0) (hX:AscC (cc c) X) (hA:Arr w0 B g n cp (P++X++[y]++S) w) (hmx:n<=1099511627776):
 Calls Tryz.prog 113 #[.slice (some ⟨g,0,none⟩) n cp, .int .i64 a, .int .i64 m, .int .i64 b, .func (.func K) #[] cap] w λ e w'=> e=.returned (.tuple #[])/\∃Z,AscC (cc c) Z/\StEq (cc c) (X++[y]) Z/\Arr w0 B g n cp (P++Z++S) w':=by
 have hlen:=hA.len;simp only [List.length_append,List.length_cons,List.length_nil] at hlen;have b1:b<=n:=by omega
 have b2:m<=b:=by omega
 have b3:a < m:=by omega
 have b4:m < n:=by omega
 have ht:((m:Int) - a==1)=false:=by simp;omega
 have ht2:((b:Int) - m==1)=true:=by simp;omega
 have HL:=Lib.hid (show P.length=a/\a+X.length=m/\m+1=b from ⟨hp,hm,hb⟩);have HA:=Lib.hid hA;have HC:=Lib.hid hC;have HX:=Lib.hid hX;have HMem:=Lib.hid hmem;have eg:=hC.enter;clear hA hlen hp hm hb hC hmem hX hX2;go_enter Tryz.func113,Tryz.ntmps113;go_wp2;go_loopw [14,15] (λ z10 z11 wr=> ∃i j:Nat,a<=i/\i<=j/\j<=m/\z10=.int .i64 i/\z11=.int .i64 j/\Hid (SrB c y X (i - a) (j - a))/\Hid (Arr w0 B g n cp (P++X++[y]++S) wr)) (λ z10 z11 _=> (intOf z11).toNat - (intOf z10).toNat)
 case atStart=> exact ⟨a,m,Nat.le_refl _,by omega,Nat.le_refl _,rfl,rfl,⟨by simp,by rw [List.drop_of_length_le (by have:=HL.out;omega)];simp⟩,HA⟩
 case round=>
  obtain ⟨i,j,hmi,hij,hjb,rfl,rfl,Hs,H⟩:=hrel;by_cases hlt:i < j
  · obtain ⟨h,hh⟩:∃h:Nat,h=(i+j) / 2:=⟨_,rfl⟩
    have hh1:i<=h:=by omega
    have hh2:h < j:=by omega
    have hk:h - a < X.length:=by have:=HL.out;omega
    have hget:(P++X++[y]++S)[h]? =some X[h - a]:=by have:=mid_get (P:=P) (u:=X) (S:=[y]++S) hk;rw [HL.out.1,show a+(h - a)=h by omega] at this;rw [List.append_assoc (P++X)];exact this
    have hgx:(P++X++[y]++S)[m]? =some y:=by have:=mid_get (P:=P++X) (u:=[y]) (S:=S) (i:=0) (by simp);rw [Nat.add_zero,List.length_append,HL.out.1,HL.out.2.1] at this;exact this
    obtain ⟨cx,cx'⟩:=H.out.cell hget;obtain ⟨cy,cy'⟩:=H.out.cell hgx;have hg:=H.out.lt;have hup:=λ hl=> Hs.out.up HC.out.ord HX.out hk (j:=j - a) hl;have hdn:=λ hl=> Hs.out.dn HC.out.ord HX.out hk (i:=i - a) hl;have HU:=Lib.hid (show (¬ cc c y X[h - a] < 0->SrB c y X (h+1 - a) (j - a))/\(cc c y X[h - a] < 0->SrB c y X (i - a) (h - a)) from ⟨λ hl=> by have:=hup hl;rwa [show h - a+1=h+1 - a by omega] at this,hdn⟩);have HK:=Lib.hid (λ w' (hb:Below wr.heap.size wr w')=> HC.out.call y (HMem.out _ (List.mem_cons_self ..)) X[h - a] (HMem.out _ (List.mem_cons_of_mem _ (List.getElem_mem _))) w' (grownBy_bel H.out.gr hb));clear hup hdn hget hgx;unfold cc at HU;generalize X[h - a]=x at *;generalize c y.r x.r=r at *;clear hk;have Hh:=Lib.hid hh;have i1:(0:Int)<=h:=by omega
    have i2:(h:Int) < n:=by omega
    have i3:(0:Int)<=m:=by omega
    have i4:(m:Int) < n:=by omega
    clear hh;go_upto_region 16 with (fail)
    go_cut [16] (λ z wx=> z=.int .i64 h/\wx=wr)
    case first=>
     go_wp2_with fail;go_meet;exact ⟨by have:=Hh.out;congr 1;omega,rfl⟩
    obtain ⟨rfl,rfl⟩:=hcut;go_upto_region 17 with (fail)
    go_cut [103] (λ z wx=> ∃q:Bool,z=.bool q/\Hid (q=!decide (r < 0))/\Hid (Below wc.heap.size wc wx))
    case first=>
     go_region_held3 (λ w'=> Below wc.heap.size wc w'/\∀b o,b < wc.heap.size->w'.cell? ⟨b,o,none⟩=wc.cell? ⟨b,o,none⟩)
      (first | assumption | exact S_of (Below.drew (Below.refl _ _)) | exact S_step (by assumption) (by assumption))
      (first | ((with_reducible refine (HK.out _ (by first | assumption | exact And.left (by assumption))).mono ?_);rintro e w1 ⟨rfl,hb1⟩))
     all_goals
      rename_i hH
      have Hb:=Lib.hid hH.1;clear hH;go_step;go_step;go_meet;exact ⟨_,rfl,rfl,Hb⟩
    obtain ⟨q,rfl,Hq,Hb⟩:=hcut;have HA1:=Lib.hid (H.out.below Hb.out);clear cy cx hg HK H Hb cy' cx';cases q
    · have hr:r < 0:=by simpa using Hq.out
      have Hs1:=Lib.hid (HU.out.2 hr);clear HU Hq hr Hs;go_wp2;go_roundw
      case rel=> exact ⟨i,h,hmi,hh1,by omega,rfl,rfl,Hs1,HA1⟩
      case measure=> simp [intOf];omega
    · have hr:¬ r < 0:=by simpa using Hq.out
      have Hs1:=Lib.hid (HU.out.1 hr);clear HU Hq hr Hs;go_wp2;go_roundw
      case rel=> exact ⟨h+1,j,by omega,by omega,hjb,by go_num,rfl,Hs1,HA1⟩
      case measure=> simp [intOf];omega
  · obtain rfl:i=j:=by omega
    obtain ⟨hs1,hs2⟩:=Hs.out.done HC.out.ord HX.out;have HZ:=Lib.hid hs1;have HE:=Lib.hid hs2;have HL2:=Lib.hid (show (P++X.take (i - a)).length=i/\(X.drop (i - a)).length=m - i by rw [List.length_append,List.length_take,Nat.min_eq_left (by have:=HL.out;omega),List.length_drop];have:=HL.out;omega);have HA1:Hid (Arr w0 B g n cp ((P++X.take (i - a))++X.drop (i - a)++[y]++S) wr):=by have:=H.out;rw [<-List.take_append_drop (i - a) X] at this;exact Lib.hid (by simpa only [List.append_assoc] using this)
    generalize X.take (i - a)=X1 at *;generalize X.drop (i - a)=X2 at *;clear hs1 hs2 Hs H HA HC HMem HX hlt hij;go_wp2;go_loopw [17] (λ z wr=> ∃k t:Nat,k=i+t/\k<=m/\z=.int .i64 k/\Hid (Arr w0 B g n cp ((P++X1)++X2.take t++[y]++X2.drop t++S) wr)) (λ z _=> (intOf z).toNat - i)
    case atStart=> exact ⟨m,m - i,by omega,Nat.le_refl _,rfl,Lib.hid (by rw [List.take_of_length_le (by rw [HL2.out.2];exact Nat.le_refl _),List.drop_of_length_le (by rw [HL2.out.2];exact Nat.le_refl _)];simpa using HA1.out)⟩
    case round=>
     clear HA1;obtain ⟨k,t,hkt,hkm,rfl,H⟩:=hrel;by_cases hlt:0 < t
     · obtain ⟨t',rfl⟩:∃t',t=t'+1:=⟨t - 1,by omega⟩
       have ht1:t' < X2.length:=by rw [HL2.out.2];omega
       obtain ⟨x,hy⟩:∃x,X2[t']=x:=⟨_,rfl⟩
       have e0:X2.drop t'=x::X2.drop (t'+1):=by rw [List.drop_eq_getElem_cons ht1,hy]
       have e1:X2.take (t'+1)=X2.take t'++[x]:=by rw [List.take_succ_eq_append_getElem ht1,hy]
       have eq0:(P++X1)++X2.take (t'+1)++[y]++X2.drop (t'+1)++S=(P++X1++X2.take t')++x::[]++y::(X2.drop (t'+1)++S):=by rw [e1];simp only [List.append_assoc,List.cons_append,List.nil_append]
       have hA:=H.out;rw [eq0] at hA;obtain ⟨k',rfl⟩:∃k',k=k'+1:=⟨k - 1,by omega⟩
       have lP:(P++X1++X2.take t').length=k':=by rw [List.length_append,List.length_take,HL2.out.1,HL2.out.2,Nat.min_eq_left (by omega)];omega
       have hs:=swp_at (P:=P++X1++X2.take t') (Q:=[]) (S:=X2.drop (t'+1)++S) (x:=x) (y:=y);rw [lP,List.length_nil,Nat.add_zero] at hs;have hx:((P++X1++X2.take t')++x::[]++y::(X2.drop (t'+1)++S))[k']? =some x:=by rw [List.append_assoc,List.getElem?_append_right (by rw [lP];exact Nat.le_refl _),lP];simp
       have hyy:((P++X1++X2.take t')++x::[]++y::(X2.drop (t'+1)++S))[k'+1]? =some y:=by rw [List.append_assoc,List.getElem?_append_right (by rw [lP];omega),lP];simp
       have hA2:=hA.drew.swap hx hyy;have hA3:=hA.drew.swap hyy hx;rw [swp_comm] at hA3;rw [hs] at hA2 hA3;have e2:(P++X1)++X2.take t'++[y]++X2.drop t'++S=(P++X1++X2.take t')++y::[]++x::(X2.drop (t'+1)++S):=by rw [e0];simp only [List.append_assoc,List.cons_append,List.nil_append]
       rw [<-e2] at hA2 hA3;have H2:=Lib.hid hA2;have H3:=Lib.hid hA3;obtain ⟨cx,cx'⟩:=hA.cell hx;obtain ⟨cy,cy'⟩:=hA.cell hyy;have fx:=hA.free (k' * 2);have fx':=hA.free (k' * 2+1);have fy:=hA.free ((k'+1) * 2);have fy':=hA.free ((k'+1) * 2+1);have hg:=hA.lt;have hki:(i:Int) < (k'+1:Nat):=by omega
       have hkn:(k':Int)+1 < n:=by omega
       clear hA hA2 hA3 e2 e1 e0 eq0 hx hyy hs lP hy ht1 H;have Hkt:=Lib.hid hkt;clear hkt;go_wp2;go_region;go_wp2;go_roundw
       case rel=> exact ⟨k',t',by have:=Hkt.out;omega,by omega,by go_num,by first | exact H2 | exact H3⟩
       case measure=> simp [intOf];omega
     · obtain rfl:t=0:=by omega
       obtain rfl:k=i:=by omega
       clear hkt;go_wp2;refine bodyPost_ret (v:=.tuple #[]) (results_none rfl _ _ _) rfl ?_;refine ⟨rfl,_,HZ.out,HE.out,?_⟩;have:=H.out;rw [List.take_zero,List.drop_zero] at this;simpa only [List.append_assoc,List.append_nil,List.nil_append] using this
structure SrC (c:Rw->Rw->Int) (X Y:List Ri) (k i j:Nat):Prop where
 lo:i=0\/Y.length<=k - i\/∃x y,1<=i/\X[i - 1]? =some x/\Y[k - i]? =some y/\¬ cc c y x < 0
 hi:X.length<=j\/k<=j\/∃x y,X[j]? =some x/\Y[k - (j+1)]? =some y/\j+1<=k/\cc c y x < 0
theorem asc_last {c:Ri->Ri->Int} {l:List Ri} (h:AscC c l) {i j:Nat} {x y:Ri} (hx:l[i]? =some x) (hy:l[j]? =some y) (hij:i<=j) (hc:Ord3 c):c x y<=0:=by
 obtain ⟨h1,rfl⟩:=List.getElem?_eq_some_iff.1 hx;obtain ⟨h2,rfl⟩:=List.getElem?_eq_some_iff.1 hy;by_cases e:i=j
 · subst e;rw [hc.self];exact Int.le_refl _
 · exact (List.pairwise_iff_getElem.1 h) i j h1 h2 (by omega)
theorem SrC.done {c:Rw->Rw->Int} (hc:Ord3 (cc c)) {X Y:List Ri} {k s:Nat} (h:SrC c X Y k s s) (hX:AscC (cc c) X) (hY:AscC (cc c) Y):
 (∀x∈X.drop s,∀y∈Y.take (k - s),cc c y x < 0)/\(∀x∈X.take s,∀y∈Y.drop (k - s),cc c x y<=0):=by
 constructor
 · intro x hx y hy
   obtain ⟨i,hi⟩:=List.mem_iff_getElem?.1 hx;obtain ⟨j,hj⟩:=List.mem_iff_getElem?.1 hy;rw [List.getElem?_drop] at hi;rw [List.getElem?_take] at hj;split at hj
   · have h1:=(List.getElem?_eq_some_iff.1 hi).1
     rcases h.hi with h2 | h2 | ⟨x',y',hx',hy',h2,h3⟩
     · omega
     · omega
     · exact hc.lt_le (hc.le_lt (asc_last hY hj hy' (by omega) hc) h3) (asc_last hX hx' hi (by omega) hc)
   · cases hj
 · intro x hx y hy
   obtain ⟨i,hi⟩:=List.mem_iff_getElem?.1 hx;obtain ⟨j,hj⟩:=List.mem_iff_getElem?.1 hy;rw [List.getElem?_drop] at hj;rw [List.getElem?_take] at hi;split at hi
   · have h1:=(List.getElem?_eq_some_iff.1 hj).1
     rcases h.lo with h2 | h2 | ⟨x',y',h2,hx',hy',h3⟩
     · omega
     · omega
     · exact hc.trans _ _ _ (asc_last hX hi hx' (by omega) hc) (hc.trans _ _ _ (hc.le h3) (asc_last hY hy' hj (by omega) hc))
   · cases hi
theorem merge_join {c:Rw->Rw->Int} (hc:Ord3 (cc c)) {u1 u2 v1 v2 W1 W2:List Ri} (hX:AscC (cc c) (u1++u2)) (hY:AscC (cc c) (v1++v2)) (h1:∀x∈u2,∀y∈v1,cc c y x < 0) (h2:∀x∈u1,∀y∈v2,cc c x y<=0)
 (a1:AscC (cc c) W1) (a2:AscC (cc c) W2) (e1:StEq (cc c) (u1++v1) W1) (e2:StEq (cc c) (u2++v2) W2):AscC (cc c) (W1++W2)/\StEq (cc c) ((u1++u2)++(v1++v2)) (W1++W2):=by
 refine ⟨a1.app a2 λ x hx y hy=> ?_,?_⟩
 · have hx':=e1.mem hc hx
   have hy':=e2.mem hc hy;rcases List.mem_append.1 hx' with hx' | hx' <;> rcases List.mem_append.1 hy' with hy' | hy'
   · exact hX.cross x hx' y hy'
   · exact h2 x hx' y hy'
   · have:=h1 y hy' x hx';omega
   · exact hY.cross x hx' y hy'
 · have h3:StEq (cc c) (u2++v1) (v1++u2):=StEq.swap hc h1
   have h4:=((StEq.refl (c:=cc c) u1).app h3).app (StEq.refl (c:=cc c) v2);have h5:=h4.trans (show StEq (cc c) _ (W1++W2) from by rw [show u1++(v1++u2)++v2=(u1++v1)++(u2++v2) by simp];exact e1.app e2)
   rwa [show u1++(u2++v1)++v2=(u1++u2)++(v1++v2) by simp] at h5
def MergesTo (w0:World) (B g n cp:Nat) (c:Rw->Rw->Int) (P X Y S:List Ri) (e:Ending) (w':World):Prop:=e=.returned (.tuple #[])/\∃Z,AscC (cc c) Z/\StEq (cc c) (X++Y) Z/\Arr w0 B g n cp (P++Z++S) w'
def SymLaw (N:Nat) (K:FuncId) (cap:Array Value) (c:Rw->Rw->Int) (d0:List Ri) (w0:World) (B g n cp:Nat):Prop:=
 ∀(P X Y S:List Ri) (w:World) (a m b:Nat),b - a < N->P.length=a->a+X.length=m->m+Y.length=b->0 < X.length->0 < Y.length->(∀x∈X++Y,x∈d0)->AscC (cc c) X->AscC (cc c) Y->Arr w0 B g n cp (P++X++Y++S) w->
  Calls Tryz.prog 113 #[.slice (some ⟨g,0,none⟩) n cp, .int .i64 a, .int .i64 m, .int .i64 b, .func (.func K) #[] cap] w (MergesTo w0 B g n cp c P X Y S)
theorem symC_calls (K:FuncId) (cap:Array Value) (c:Rw->Rw->Int) (d0:List Ri) (w0:World) (B g n cp:Nat) (P X Y S:List Ri) (w:World) (a m b:Nat) (hp:P.length=a) (hm:a+X.length=m) (hb:m+Y.length=b) (hX2:2<=X.length) (hY2:2<=Y.length)
 (hC:CmpOk K cap c d0 w0 g) (hmem:∀x∈X++Y,x∈d0) (hX:AscC (cc c) X) (hY:AscC (cc c) Y) (hA:Arr w0 B g n cp (P++X++Y++S) w) (hmx:n<=1099511627776)
 (IH:Hid (SymLaw (b - a) K cap c d0 w0 B g n cp)):
 Calls Tryz.prog 113 #[.slice (some ⟨g,0,none⟩) n cp, .int .i64 a, .int .i64 m, .int .i64 b, .func (.func K) #[] cap] w (MergesTo w0 B g n cp c P X Y S):=by
 have hlen:=hA.len;simp only [List.length_append] at hlen;have b1:b<=n:=by omega
 have b2:m+2<=b:=by omega
 have b3:a+2<=m:=by omega
 have ht:((m:Int) - a==1)=false:=by simp;omega
 have ht2:((b:Int) - m==1)=false:=by simp;omega
 have HL:=Lib.hid (show P.length=a/\a+X.length=m/\m+Y.length=b from ⟨hp,hm,hb⟩);have HA:=Lib.hid hA;have HC:=Lib.hid hC;have HX:=Lib.hid hX;have HY:=Lib.hid hY;have HMem:=Lib.hid hmem;have eg:=hC.enter;obtain ⟨md,hmd⟩:∃md,md=(a+b) / 2:=⟨_,rfl⟩
 have d1:a < md:=by omega
 have d2:md < b:=by omega
 have Hmd:=Lib.hid hmd;clear hA hlen hp hm hb hC hmem hX hY hX2 hY2 hmd;go_enter Tryz.func113,Tryz.ntmps113;go_upto_region 24 with (fail)
 go_cut [18] from 129 to 134 (λ z wx=> z=.int .i64 md/\wx=w)
 case first=> as_aux_lemma=>
  go_wp2_with fail;go_meet;exact ⟨by have:=Hmd.out;congr 1;omega,rfl⟩
 obtain ⟨rfl,rfl⟩:=hcut;go_upto_if 140 with (fail)
 have hs1:(md:Int)+m<=9223372036854775807:=by omega
 go_cut [20,21] from 138 to 146 (λ z20 z21 wx=> ∃i j:Nat,a<=i/\i<=j/\j<=m/\md+m<=i+b/\j<=md/\z20=.int .i64 i/\z21=.int .i64 j/\Hid (SrC c X Y (md - a) (i - a) (j - a))/\wx=wc)
 case first=> as_aux_lemma=>
  by_cases hgt:md < m
  · have hs2:(md:Int)+m - b<=9223372036854775807:=by omega
    have hs3:(b:Int)<=md+m:=by have:=Hmd.out;omega
    go_wp2_with fail;go_meet;refine ⟨md+m - b,md,by have:=Hmd.out;omega,by omega,by omega,by omega,Nat.le_refl _,by go_num,rfl,Lib.hid ⟨?_, .inr (.inl (Nat.le_refl _))⟩,rfl⟩;right;left;have:=HL.out;have:=Hmd.out;omega
  · go_wp2_with fail
    go_meet;refine ⟨a,m,Nat.le_refl _,by omega,Nat.le_refl _,by have:=Hmd.out;omega,by omega,rfl,rfl,Lib.hid ⟨.inl (by omega), .inl (by have:=HL.out;omega)⟩,rfl⟩
 obtain ⟨i0,j0,g1,g2,g3,g4,g5,rfl,rfl,Hs0,rfl⟩:=hcut;have hs2:(1:Int)<=md+m:=by omega
 go_upto_region 32 with (fail)
 obtain ⟨pp,hpp⟩:∃pp:Nat,pp+1=md+m:=⟨md+m - 1,by omega⟩
 have Hpp:=Lib.hid hpp;go_cut [22] from 147 to 148 (λ z wx=> z=.int .i64 pp/\wx=wc)
 case first=> as_aux_lemma=>
  clear hpp;go_wp2_with fail;go_meet;exact ⟨by have:=Hpp.out;congr 1;omega,rfl⟩
 obtain ⟨rfl,rfl⟩:=hcut;clear hpp hs2;go_wp2_with fail;go_loopw [20,21] (λ z20 z21 wr=> ∃i j:Nat,a<=i/\i<=j/\j<=m/\md+m<=i+b/\j<=md/\z20=.int .i64 i/\z21=.int .i64 j/\Hid (SrC c X Y (md - a) (i - a) (j - a))/\Hid (Arr w0 B g n cp (P++X++Y++S) wr)) (λ z20 z21 _=> (intOf z21).toNat - (intOf z20).toNat)
 case atStart=> exact ⟨i0,j0,g1,g2,g3,g4,g5,rfl,rfl,Hs0,HA⟩
 case round=>
  clear g1 g2 g3 g4 g5 Hs0 HA;obtain ⟨i,j,g1,g2,g3,g4,g5,rfl,rfl,Hs,H⟩:=hrel;by_cases hlt:i < j
  · as_aux_lemma=>
    obtain ⟨h,hh⟩:∃h:Nat,h=(i+j) / 2:=⟨_,rfl⟩
    have hh1:i<=h:=by omega
    have hh2:h < j:=by omega
    obtain ⟨q,hq⟩:∃q:Nat,q+h+1=md+m:=⟨md+m - 1 - h,by omega⟩
    have hx1:h - a < X.length:=by have:=HL.out;omega
    have hy1:q - m < Y.length:=by have:=HL.out;omega
    have hget:(P++X++Y++S)[h]? =some X[h - a]:=by have:=mid_get (P:=P) (u:=X) (S:=Y++S) hx1;rw [HL.out.1,show a+(h - a)=h by omega] at this;rw [List.append_assoc (P++X)];exact this
    have hgy:(P++X++Y++S)[q]? =some Y[q - m]:=by have:=mid_get (P:=P++X) (u:=Y) (S:=S) hy1;rw [List.length_append,HL.out.1,HL.out.2.1,show m+(q - m)=q by omega] at this;exact this
    obtain ⟨cx,cx'⟩:=H.out.cell hget;obtain ⟨cy,cy'⟩:=H.out.cell hgy;have hg:=H.out.lt;have HU:Hid ((¬ cc c Y[q - m] X[h - a] < 0->SrC c X Y (md - a) (h+1 - a) (j - a))/\(cc c Y[q - m] X[h - a] < 0->SrC c X Y (md - a) (i - a) (h - a))):=by
     refine Lib.hid ⟨λ hl=> ⟨.inr (.inr ⟨X[h - a],Y[q - m],by omega,?_,?_,hl⟩),Hs.out.hi⟩,λ hl=> ⟨Hs.out.lo, .inr (.inr ⟨X[h - a],Y[q - m],?_,?_,by omega,hl⟩)⟩⟩
     · rw [show h+1 - a - 1=h - a by omega];exact List.getElem?_eq_getElem hx1
     · rw [show md - a - (h+1 - a)=q - m by omega];exact List.getElem?_eq_getElem hy1
     · exact List.getElem?_eq_getElem hx1
     · rw [show md - a - (h - a+1)=q - m by omega];exact List.getElem?_eq_getElem hy1
    have HK:=Lib.hid (λ w' (hb:Below wr.heap.size wr w')=> HC.out.call Y[q - m] (HMem.out _ (List.mem_append.2 (.inr (List.getElem_mem _)))) X[h - a] (HMem.out _ (List.mem_append.2 (.inl (List.getElem_mem _)))) w' (grownBy_bel H.out.gr hb));clear hget hgy;unfold cc at HU;generalize X[h - a]=x at *;generalize Y[q - m]=y at *;generalize c y.r x.r=r at *;clear hx1 hy1;have Hh:=Lib.hid hh;have Hq:=Lib.hid hq;have e1:(pp:Int) - h=q:=by have:=Hpp.out;omega
    have i1:(0:Int)<=h:=by omega
    have i2:(h:Int) < n:=by omega
    have i3:(0:Int)<=q:=by omega
    have i4:(q:Int) < n:=by omega
    clear hh hq;have He:=Lib.hid e1;clear e1;go_upto_region 34 with (fail)
    go_cut [23] from 152 to 157 (λ z wx=> z=.int .i64 h/\wx=wr)
    case first=> as_aux_lemma=>
     go_wp2_with fail;go_meet;exact ⟨by have:=Hh.out;congr 1;omega,rfl⟩
    obtain ⟨rfl,rfl⟩:=hcut;go_upto_region 35 with (fail)
    have e2:IntKind.i64.wrap ((pp:Int) - h)=q:=by rw [He.out];exact IntWalk.i64_in _ (by omega)
    go_cut [171] from 158 to 171 (λ z wx=> ∃t:Bool,z=.bool t/\Hid (t=!decide (r < 0))/\Hid (Below wc.heap.size wc wx))
    case first=> as_aux_lemma=>
     go_region_held3 (λ w'=> Below wc.heap.size wc w'/\∀b o,b < wc.heap.size->w'.cell? ⟨b,o,none⟩=wc.cell? ⟨b,o,none⟩)
      (first | assumption | exact S_of (Below.drew (Below.refl _ _)) | exact S_step (by assumption) (by assumption))
      (first | ((with_reducible refine (HK.out _ (by first | assumption | exact And.left (by assumption))).mono ?_);rintro e w1 ⟨rfl,hb1⟩))
     all_goals
      rename_i hH
      have Hb:=Lib.hid hH.1;clear hH;go_step;go_step;go_meet;exact ⟨_,rfl,rfl,Hb⟩
    clear e2;obtain ⟨t,rfl,Ht,Hb⟩:=hcut;have HA1:=Lib.hid (H.out.below Hb.out);clear cy cx hg HK H Hb cy' cx';cases t
    · have hr:r < 0:=by simpa using Ht.out
      have Hs1:=Lib.hid (HU.out.2 hr);clear HU Hq hr Hs;go_wp2_with fail;go_roundw
      case rel=> exact ⟨i,h,g1,hh1,by omega,g4,by omega,rfl,rfl,Hs1,HA1⟩
      case measure=> simp [intOf];omega
    · have hr:¬ r < 0:=by simpa using Ht.out
      have Hs1:=Lib.hid (HU.out.1 hr);clear HU Hq hr Hs;go_wp2_with fail;go_roundw
      case rel=> exact ⟨h+1,j,by omega,by omega,g3,by omega,g5,by go_num,rfl,Hs1,HA1⟩
      case measure=> simp [intOf];omega
  · obtain rfl:i=j:=by omega
    obtain ⟨l1,l2,l3⟩:=HL.out;obtain ⟨q1,q2⟩:=Hs.out.done HC.out.ord HX.out HY.out;obtain ⟨u1,u2,hu,lu1,lu2⟩:=split2 X (i - a) (by omega);obtain ⟨v1,v2,hv,lv1,lv2⟩:=split2 Y (md - i) (by omega);have Hj:Hid (∀W1 W2,AscC (cc c) W1->AscC (cc c) W2->StEq (cc c) (u1++v1) W1->StEq (cc c) (u2++v2) W2->AscC (cc c) (W1++W2)/\StEq (cc c) (X++Y) (W1++W2)):=by
     intro W1 W2 a1 a2 e1 e2;have hX:=HX.out;have hY:=HY.out;subst hu hv;refine merge_join HC.out.ord hX hY ?_ ?_ a1 a2 e1 e2
     · have:u2=(u1++u2).drop (i - a):=by rw [<-lu1];simp
       have h2:v1=(v1++v2).take (md - a - (i - a)):=by rw [show md - a - (i - a)=v1.length by omega];simp
       rw [this,h2];exact q1
     · have:u1=(u1++u2).take (i - a):=by rw [<-lu1];simp
       have h2:v2=(v1++v2).drop (md - a - (i - a)):=by rw [show md - a - (i - a)=v1.length by omega];simp
       rw [this,h2];exact q2
    have HXs:=HX.out;have HYs:=HY.out;rw [hu] at HXs;rw [hv] at HYs;have Hu1:=Lib.hid HXs.left;have Hu2:=Lib.hid HXs.right;have Hv1:=Lib.hid HYs.left;have Hv2:=Lib.hid HYs.right;have HM:Hid ((∀x∈u1++v1,x∈d0)/\(∀x∈u2++v2,x∈d0)):=by have:=HMem.out;rw [hu,hv] at this;refine Lib.hid ⟨λ x hx=> this x ?_,λ x hx=> this x ?_⟩ <;> (simp only [List.mem_append] at hx ⊢;rcases hx with hx | hx <;> simp [hx])
    obtain ⟨en,hen⟩:∃en:Nat,en+i=md+m:=⟨md+m - i,by omega⟩
    have HLs:=Lib.hid (show P.length=a/\a+u1.length=i/\u1.length+u2.length=X.length/\i+u2.length=m/\m+v1.length=en/\i+v1.length=md/\en+v2.length=b by omega);have HA1:Hid (Arr w0 B g n cp (P++u1++u2++v1++(v2++S)) wr):=by have:=H.out;rw [hu,hv] at this;exact Lib.hid (by simpa only [List.append_assoc] using this)
    have k1:i<=m:=by omega
    have k2:m<=en:=by omega
    have k3:md<=en:=by omega
    have k4:en<=b:=by omega
    have k5:i<=md:=by omega
    have Hen:=Lib.hid hen;clear l1 l2 l3 q1 q2 hu hv lu1 lu2 lv1 lv2 HXs HYs H Hs HL HX HY HMem hen g2 hlt;go_upto_region 38 with (fail)
    go_cut [24] from 175 to 177 (λ z wx=> z=.int .i64 en/\wx=wr)
    case first=> as_aux_lemma=>
     go_wp2_with fail;go_meet;exact ⟨by have:=Hen.out;congr 1;omega,rfl⟩
    obtain ⟨rfl,rfl⟩:=hcut;go_upto_region 39 with (fail)
    go_cut [185] from 178 to 185 (λ z wx=> ∃t:Bool,z=.bool t/\Hid (t=true↔i < m/\m < en)/\wx=wc)
    case first=> as_aux_lemma=>
     by_cases q1:i < m
     · by_cases q2:m < en
       · go_wp2_with fail
         go_meet;exact ⟨true,rfl,Lib.hid ⟨λ _=> ⟨q1,q2⟩,λ _=> rfl⟩,rfl⟩
       · go_wp2_with fail
         go_meet;exact ⟨false,rfl,Lib.hid ⟨λ h=> (by cases h),λ h=> absurd h.2 q2⟩,rfl⟩
     · go_wp2_with fail
       go_meet;exact ⟨false,rfl,Lib.hid ⟨λ h=> (by cases h),λ h=> absurd h.1 q1⟩,rfl⟩
    obtain ⟨t,rfl,Ht,rfl⟩:=hcut;go_upto_if 185 with (fail)
    go_cut [] from 178 to 191 (λ wx=> Hid (Arr w0 B g n cp (P++u1++v1++u2++(v2++S)) wx))
    case first=> as_aux_lemma=>
     cases t
     · go_wp2_with fail
       go_meet;have:=Ht.out;have hn:¬ (i < m/\m < en):=λ h=> by have:=this.2 h;cases this
       have:=HLs.out;by_cases q1:i < m
       · have e:v1=[]:=List.length_eq_zero_iff.1 (by omega)
         have:=HA1.out;rw [e] at this ⊢;exact Lib.hid (by simpa using this)
       · have e:u2=[]:=List.length_eq_zero_iff.1 (by omega)
         have:=HA1.out;rw [e] at this ⊢;exact Lib.hid (by simpa using this)
     · have HR:=Lib.hid (rotate_calls w0 B g n cp (P++u1) u2 v1 (v2++S) (.func (.func K) #[] cap) wc i m en (by rw [List.length_append];have:=HLs.out;omega) (by rw [List.length_append];have:=HLs.out;omega) (by rw [List.length_append];have:=HLs.out;omega) (by have:=Ht.out.1 rfl;have:=HLs.out;omega) (by have:=Ht.out.1 rfl;have:=HLs.out;omega) HA1.out (by unfold maxLen;omega))
       go_wp2_with fail;(with_reducible refine HR.out.mono ?_);rintro e w1 ⟨rfl,h1⟩;have H1:=Lib.hid h1;clear h1;go_wp2_with fail;go_meet;exact H1
    clear Ht HA1 t
    rename Hid (Arr w0 B g n cp (P++u1++v1++u2++(v2++S)) _)=> HA2
    go_upto_region 41 with (fail)
    go_cut [199] from 192 to 199 (λ z wx=> ∃t:Bool,z=.bool t/\Hid (t=true↔a < i/\i < md)/\wx=wc)
    case first=> as_aux_lemma=>
     by_cases q1:a < i
     · by_cases q2:i < md
       · go_wp2_with fail
         go_meet;exact ⟨true,rfl,Lib.hid ⟨λ _=> ⟨q1,q2⟩,λ _=> rfl⟩,rfl⟩
       · go_wp2_with fail
         go_meet;exact ⟨false,rfl,Lib.hid ⟨λ h=> (by cases h),λ h=> absurd h.2 q2⟩,rfl⟩
     · go_wp2_with fail
       go_meet;exact ⟨false,rfl,Lib.hid ⟨λ h=> (by cases h),λ h=> absurd h.1 q1⟩,rfl⟩
    obtain ⟨t,rfl,Ht,rfl⟩:=hcut;go_upto_if 199 with (fail)
    go_cut [] from 192 to 205 (λ wx=> Hid (∃W,AscC (cc c) W/\StEq (cc c) (u1++v1) W/\Arr w0 B g n cp (P++W++u2++v2++S) wx))
    case first=> as_aux_lemma=>
     cases t
     · go_wp2_with fail
       go_meet;have:=Ht.out;have hn:¬ (a < i/\i < md):=λ h=> by have:=this.2 h;cases this
       have:=HLs.out;refine Lib.hid ⟨u1++v1,?_,StEq.refl _,by have:=HA2.out;simpa only [List.append_assoc] using this⟩;by_cases q1:a < i
       · have e:v1=[]:=List.length_eq_zero_iff.1 (by omega)
         rw [e,List.append_nil];exact Hu1.out
       · have e:u1=[]:=List.length_eq_zero_iff.1 (by omega)
         rw [e,List.nil_append];exact Hv1.out
     · have HR:=Lib.hid (IH.out P u1 v1 (u2++(v2++S)) wc a i md (by omega) HLs.out.1 HLs.out.2.1 (by have:=HLs.out;omega) (by have:=Ht.out.1 rfl;have:=HLs.out;omega) (by have:=Ht.out.1 rfl;have:=HLs.out;omega) HM.out.1 Hu1.out Hv1.out (by have:=HA2.out;simpa only [List.append_assoc] using this))
       go_wp2_with fail;(with_reducible refine HR.out.mono ?_);rintro e w1 ⟨rfl,W,h1,h2,h3⟩;have H1:=Lib.hid (show ∃W,AscC (cc c) W/\StEq (cc c) (u1++v1) W/\Arr w0 B g n cp (P++W++u2++v2++S) w1 from ⟨W,h1,h2,by simpa only [List.append_assoc] using h3⟩);clear h1 h2 h3;go_wp2_with fail;go_meet;exact H1
    clear Ht HA2 t
    rename Hid (∃W,AscC (cc c) W/\StEq (cc c) (u1++v1) W/\Arr w0 B g n cp (P++W++u2++v2++S) _)=> HA3
    obtain ⟨W1,W1a,W1e,W1A⟩:=HA3.out;have HW1a:=Lib.hid W1a;have HW1e:=Lib.hid W1e;have HW1A:=Lib.hid W1A;have HlW:Hid ((P++W1).length=md):=by have h1:=(W1e.perm HC.out.ord).length_eq;have:=HLs.out;rw [List.length_append] at h1;exact Lib.hid (by rw [List.length_append];omega)
    clear W1a W1e W1A HA3;go_upto_region 43 with (fail)
    go_cut [213] from 206 to 213 (λ z wx=> ∃t:Bool,z=.bool t/\Hid (t=true↔md < en/\en < b)/\wx=wc)
    case first=> as_aux_lemma=>
     by_cases q1:md < en
     · by_cases q2:en < b
       · go_wp2_with fail
         go_meet;exact ⟨true,rfl,Lib.hid ⟨λ _=> ⟨q1,q2⟩,λ _=> rfl⟩,rfl⟩
       · go_wp2_with fail
         go_meet;exact ⟨false,rfl,Lib.hid ⟨λ h=> (by cases h),λ h=> absurd h.2 q2⟩,rfl⟩
     · go_wp2_with fail
       go_meet;exact ⟨false,rfl,Lib.hid ⟨λ h=> (by cases h),λ h=> absurd h.1 q1⟩,rfl⟩
    obtain ⟨t,rfl,Ht,rfl⟩:=hcut;cases t
    · go_wp2_with fail
      go_end0;have:=Ht.out;have hn:¬ (md < en/\en < b):=λ h=> by have:=this.2 h;cases this
      have:=HLs.out;have ha:AscC (cc c) (u2++v2):=by
       by_cases q1:md < en
       · have e:v2=[]:=List.length_eq_zero_iff.1 (by omega)
         rw [e,List.append_nil];exact Hu2.out
       · have e:u2=[]:=List.length_eq_zero_iff.1 (by omega)
         rw [e,List.nil_append];exact Hv2.out
      obtain ⟨j1,j2⟩:=Hj.out W1 (u2++v2) HW1a.out ha HW1e.out (StEq.refl _);exact ⟨rfl,_,j1,j2,by have:=HW1A.out;simpa only [List.append_assoc] using this⟩
    · have HR:=Lib.hid (IH.out (P++W1) u2 v2 S wc md en b (by omega) HlW.out (by have:=HLs.out;omega) (by have:=HLs.out;omega) (by have:=Ht.out.1 rfl;have:=HLs.out;omega) (by have:=Ht.out.1 rfl;have:=HLs.out;omega) HM.out.2 Hu2.out Hv2.out HW1A.out)
      go_wp2_with fail;(with_reducible refine HR.out.mono ?_);rintro e w1 ⟨rfl,W,h1,h2,h3⟩;have H1:=Lib.hid (show ∃Z,AscC (cc c) Z/\StEq (cc c) (X++Y) Z/\Arr w0 B g n cp (P++Z++S) w1 from by obtain ⟨j1,j2⟩:=Hj.out W1 W HW1a.out h1 HW1e.out h2;exact ⟨_,j1,j2,by simpa only [List.append_assoc] using h3⟩);clear h1 h2 h3;go_wp2_with fail;go_end0;exact ⟨rfl,H1.out⟩
theorem symMerge_calls (K:FuncId) (cap:Array Value) (c:Rw->Rw->Int) (d0:List Ri) (w0:World) (B g n cp:Nat) (hC:CmpOk K cap c d0 w0 g) (hmx:n<=1099511627776):∀N,SymLaw N K cap c d0 w0 B g n cp:=by
 intro N
 induction N with
 | zero=> intro P X Y S w a m b h;omega
 | succ N ih=>
  intro P X Y S w a m b hN hp hm hb hX hY hmem aX aY hA;have ih':SymLaw (b - a) K cap c d0 w0 B g n cp:=λ P' X' Y' S' w' a' m' b' h=> ih P' X' Y' S' w' a' m' b' (by omega)
  match X,hX with
  | [x],_=>
   have hm':a+1=m:=hm;exact symA_calls K cap c d0 w0 B g n cp P Y S x w a m b hp hm' hb hC (by simpa using hmem) aY hA hmx
  | x::x'::X',_=>
   match Y,hY with
   | [y],_=> exact symB_calls K cap c d0 w0 B g n cp P (x::x'::X') S y w a m b hp hm hb (by simp) hC (λ z hz=> hmem z (List.mem_append.2 (Or.symm ((List.mem_cons.1 hz).imp_left λ h=> List.mem_singleton.2 h)))) aX hA hmx
   | y::y'::Y',_=> exact symC_calls K cap c d0 w0 B g n cp P (x::x'::X') (y::y'::Y') S w a m b hp hm hb (by simp) (by simp) hC hmem aX aY hA hmx (Lib.hid ih')
def SortsTo (w0:World) (B g n cp:Nat) (c:Rw->Rw->Int) (P X S:List Ri) (e:Ending) (w':World):Prop:=e=.returned (.tuple #[])/\∃Z,AscC (cc c) Z/\StEq (cc c) X Z/\Arr w0 B g n cp (P++Z++S) w'
theorem sink_done {c:Rw->Rw->Int} (hc:Ord3 (cc c)) {l r:List Ri} {x:Ri} (h:AscC (cc c) (l++r)) (hr:∀y∈r,cc c x y < 0) (hl:l=[]\/∃l' y,l=l'++[y]/\¬ cc c x y < 0):
 AscC (cc c) (l++[x]++r)/\StEq (cc c) ((l++r)++[x]) (l++[x]++r):=by
 refine ⟨(h.left.app (List.pairwise_singleton _ _) λ a ha b hb=> ?_).app h.right λ a ha b hb=> ?_,?_⟩
 · rw [List.mem_singleton.1 hb]
   rcases hl with rfl | ⟨l',y,rfl,hy⟩
   · cases ha
   · rcases List.mem_append.1 ha with ha' | ha'
     · exact hc.trans _ _ _ (h.left.cross a ha' y (by simp)) (hc.le hy)
     · rw [List.mem_singleton.1 ha'];exact hc.le hy
 · rcases List.mem_append.1 ha with ha | ha
   · exact h.cross a ha b hb
   · rw [List.mem_singleton.1 ha];have:=hr b hb;omega
 · have h1:StEq (cc c) (r++[x]) ([x]++r):=StEq.swap hc λ a ha b hb=> by rw [List.mem_singleton.1 hb];exact hr a ha
   have:=(StEq.refl (c:=cc c) l).app h1
   rwa [<-List.append_assoc,<-List.append_assoc] at this
theorem insertion_calls (K:FuncId) (cap:Array Value) (c:Rw->Rw->Int) (d0:List Ri) (w0:World) (B g n cp:Nat) (P X S:List Ri) (w:World) (a b:Nat) (hp:P.length=a) (hb:a+X.length=b)
 (hC:CmpOk K cap c d0 w0 g) (hmem:∀x∈X,x∈d0) (hA:Arr w0 B g n cp (P++X++S) w) (hmx:n<=1099511627776):
 Calls Tryz.prog 112 #[.slice (some ⟨g,0,none⟩) n cp, .int .i64 a, .int .i64 b, .func (.func K) #[] cap] w (SortsTo w0 B g n cp c P X S):=by
 have hlen:=hA.len;simp only [List.length_append] at hlen;have b1:b<=n:=by omega
 have b2:a<=b:=by omega
 have HL:=Lib.hid (show P.length=a/\a+X.length=b from ⟨hp,hb⟩);have HA:=Lib.hid hA;have HC:=Lib.hid hC;have HMem:=Lib.hid hmem;have eg:=hC.enter;clear hA hlen hp hb hC hmem;by_cases hnil:a=b
 · have hx:X=[]:=List.length_eq_zero_iff.1 (by have:=HL.out;omega)
   have HX:=Lib.hid hx;subst hnil;clear hx HC HMem;have hlt:¬ (a:Int)+1 < a:=by omega
   go_enter Tryz.func112,Tryz.ntmps112;go_wp2;go_loopw [8] (λ z8 wr=> z8=.int .i64 ((a:Int)+1)/\wr=w) (λ _ _=> 0)
   case atStart=> exact ⟨rfl,rfl⟩
   case round=>
    obtain ⟨rfl,rfl⟩:=hrel;go_wp2;go_end0;exact ⟨rfl,[],List.Pairwise.nil,by rw [HX.out];exact StEq.refl _,by have:=HA.out;rwa [HX.out] at this⟩
 · go_enter Tryz.func112,Tryz.ntmps112
   have hab:a < b:=by omega
   go_wp2;go_loopg [8] (b - a) (λ gk z8 wr=> ∃i k:Nat,i=a+k/\1<=k/\i<=b/\z8=.int .i64 i/\gk+k=b - a+1/\Hid (∃W R,X=(X.take k)++R/\AscC (cc c) W/\StEq (cc c) (X.take k) W/\Arr w0 B g n cp (P++W++R++S) wr))
   case atStart=>
    refine ⟨a+1,1,rfl,Nat.le_refl _,hab,by go_num,by omega,?_⟩;refine Lib.hid ⟨X.take 1,X.drop 1,(List.take_append_drop 1 X).symm,?_,StEq.refl _,?_⟩
    · match X with
      | []=> exact List.Pairwise.nil
      | x::X=> exact List.pairwise_singleton _ _
    · have:=HA.out
      rw [<-List.take_append_drop 1 X] at this;simpa only [List.append_assoc] using this
   case round=>
    clear HA;obtain ⟨i,k,hik,hk1,hib,rfl,hgk,Hs⟩:=hrel;obtain ⟨W,R,s1,s2,s3,s4⟩:=Hs.out;have HWa:=Lib.hid s2;have HWe:=Lib.hid s3;have HA:=Lib.hid s4;have HlW:Hid (W.length=k):=Lib.hid (by have:=(s3.perm HC.out.ord).length_eq;rw [List.length_take,Nat.min_eq_left (by have:=HL.out;omega)] at this;omega);by_cases hlt:i < b
    · have hkl:k < X.length:=by have:=HL.out;omega
      obtain ⟨x,hx⟩:∃x,X[k]=x:=⟨_,rfl⟩
      have hR:R=x::X.drop (k+1):=by rw [<-hx,<-List.drop_eq_getElem_cons hkl];have:=s1;exact (List.append_cancel_left ((List.take_append_drop k X).trans this)).symm
      have HN:=Lib.hid (show X.take (k+1)=X.take k++[x]/\X=X.take (k+1)++X.drop (k+1)/\x∈d0/\(∀y∈W,y∈d0) from ⟨by rw [List.take_succ_eq_append_getElem hkl,hx],(List.take_append_drop _ _).symm,HMem.out _ (by rw [<-hx];exact List.getElem_mem _),λ y hy=> HMem.out y (List.mem_of_mem_take (s3.mem HC.out.ord hy))⟩);rw [hR] at s4;have HA':=Lib.hid s4;generalize X.drop (k+1)=R' at *;have Hgk:=Lib.hid hgk;have Hik:=Lib.hid hik;clear s1 s2 s3 s4 HA hR hx hkl Hs hgk hik;have HEnd:Hid (∀l r wx,W=l++r->(∀y∈r,cc c x y < 0)->(l=[]\/∃l' y,l=l'++[y]/\0<=cc c x y)->Arr w0 B g n cp (P++l++x::r++R'++S) wx->Hid (∃W R,X=(X.take (k+1))++R/\AscC (cc c) W/\StEq (cc c) (X.take (k+1)) W/\Arr w0 B g n cp (P++W++R++S) wx)):=by refine Lib.hid λ l r wx h1 h2 h3 h4=> ?_;have hW:=HWa.out;have hE:=HWe.out;rw [h1] at hW hE;obtain ⟨e1,e2⟩:=sink_done HC.out.ord hW h2 (h3.imp_right λ ⟨l',y,e,h⟩=> ⟨l',y,e,Int.not_lt.2 h⟩);refine Lib.hid ⟨l++[x]++r,R',HN.out.2.1,e1,?_,by simpa only [List.append_assoc,List.cons_append,List.nil_append] using h4⟩;rw [HN.out.1];exact (hE.app (StEq.refl _)).trans e2
      go_wp2;go_loopw [9] (λ z9 wr=> ∃j:Nat,a<=j/\j<=i/\z9=.int .i64 j/\Hid (∃l r,W=l++r/\a+l.length=j/\(∀y∈r,cc c x y < 0)/\Arr w0 B g n cp (P++l++x::r++R'++S) wr)) (λ z9 _=> (intOf z9).toNat)
      case atStart=> exact ⟨i,by have:=Hik.out;omega,Nat.le_refl _,rfl,Lib.hid ⟨W,[],by simp,by have:=HlW.out;have:=Hik.out;omega,by simp,by have:=HA'.out;simpa using this⟩⟩
      case round=>
       clear HA';obtain ⟨j,haj,hji,rfl,Hs⟩:=hrel;obtain ⟨l,r,s1,s2,s3,s4⟩:=Hs.out;have HA:=Lib.hid s4;have Hl:=Lib.hid s2;have HW:=Lib.hid s1;have Hr:=Lib.hid s3;clear Hs s1 s2 s3 s4;have hjn:(j:Int) < n:=by omega
       by_cases hja:a < j
       · obtain ⟨l',y,hl'⟩:∃l' y,l=l'++[y]:=by
          rcases List.eq_nil_or_concat l with h | ⟨l',y,h⟩
          · have:=Hl.out;rw [h] at this;simp at this;omega
          · exact ⟨l',y,by rw [h,List.concat_eq_append]⟩
         have lj:(P++l').length+1=j:=by have:=Hl.out;rw [hl'] at this;simp at this;rw [List.length_append];have:=HL.out;omega
         obtain ⟨j',hj'⟩:∃j',j'+1=j:=⟨j - 1,by omega⟩
         have lP:(P++l').length=j':=by omega
         have eq0:P++l++x::r++R'++S=(P++l')++y::[]++x::(r++R'++S):=by rw [hl'];simp only [List.append_assoc,List.cons_append,List.nil_append]
         have hA:=HA.out;rw [eq0] at hA;have hy:((P++l')++y::[]++x::(r++R'++S))[j']? =some y:=by rw [List.append_assoc,List.getElem?_append_right (by rw [lP];exact Nat.le_refl _),lP];simp
         have hx:((P++l')++y::[]++x::(r++R'++S))[j]? =some x:=by rw [List.append_assoc,List.getElem?_append_right (by rw [lP];omega),lP,<-hj'];simp
         have hs:=swp_at (P:=P++l') (Q:=[]) (S:=r++R'++S) (x:=y) (y:=x);rw [lP,List.length_nil,Nat.add_zero,hj'] at hs;obtain ⟨cy,cy'⟩:=hA.cell hy;obtain ⟨cx,cx'⟩:=hA.cell hx;have hg:=hA.lt;have HK:=Lib.hid (λ w' (hb:Below wr.heap.size wr w')=> HC.out.call x HN.out.2.2.1 y (HN.out.2.2.2 y (by rw [HW.out,hl'];simp)) w' (grownBy_bel hA.gr hb));have HSw:Hid (∀w',Below wr.heap.size wr w'->Arr w0 B g n cp (P++l'++x::(y::r)++R'++S) ((((w'.setCell ⟨g,j' * 2,none⟩ (.int .i64 x.id)).setCell ⟨g,j' * 2+1,none⟩ (.slice x.a x.n x.c)).setCell ⟨g,j * 2,none⟩ (.int .i64 y.id)).setCell ⟨g,j * 2+1,none⟩ (.slice y.a y.n y.c))/\Arr w0 B g n cp (P++l'++x::(y::r)++R'++S) ((((w'.setCell ⟨g,j * 2,none⟩ (.int .i64 y.id)).setCell ⟨g,j * 2+1,none⟩ (.slice y.a y.n y.c)).setCell ⟨g,j' * 2,none⟩ (.int .i64 x.id)).setCell ⟨g,j' * 2+1,none⟩ (.slice x.a x.n x.c))):=by refine Lib.hid λ w' hb=> ?_;have hA':=hA.below hb;have hA2:=hA'.swap hy hx;have hA3:=hA'.swap hx hy;rw [swp_comm] at hA3;rw [hs] at hA2 hA3;rw [show P++l'++x::(y::r)++R'++S=(P++l')++x::[]++y::(r++R'++S) by simp only [List.append_assoc,List.cons_append,List.nil_append]];exact ⟨hA2,hA3⟩
         have HFr:=Lib.hid (λ w' (hb:Below wr.heap.size wr w')=> (⟨(hA.below hb).cell hy,(hA.below hb).cell hx,(hA.below hb).free (j' * 2),(hA.below hb).free (j' * 2+1),(hA.below hb).free (j * 2),(hA.below hb).free (j * 2+1),(hA.below hb).lt⟩:_/\_/\_/\_/\_/\_/\_));have Hl':=Lib.hid hl';have HlP:=Lib.hid lP;have i1:(a:Int) < j:=by omega
         have i3:(0:Int)<=(j':Int):=by omega
         have i4:IntKind.i64.wrap ((j:Int) - 1)=j':=by rw [show (j:Int) - 1=j' by omega];exact IntWalk.i64_in _ (by omega)
         have i5:(j':Int) < n:=by omega
         have Hj':=Lib.hid hj';generalize hr':c x.r y.r=rr at *;have Hrr:=Lib.hid hr';clear hA hy hx hs eq0 lP lj hl' hr' hj';go_upto_region 4 with (fail)
         go_cut [34] from 18 to 34 (λ z wx=> ∃q:Bool,z=.bool q/\Hid (q=decide (rr < 0))/\Hid (Below wr.heap.size wr wx))
         case first=>
          go_region_held3 (λ w'=> Below wr.heap.size wr w'/\∀b o,b < wr.heap.size->w'.cell? ⟨b,o,none⟩=wr.cell? ⟨b,o,none⟩)
           (first | assumption | exact S_of (Below.drew (Below.refl _ _)) | exact S_step (by assumption) (by assumption))
           (first | ((with_reducible refine (HK.out _ (by first | assumption | exact And.left (by assumption))).mono ?_);rintro e w1 ⟨rfl,hb1⟩))
          all_goals
           rename_i hH
           have Hb:=Lib.hid hH.1;clear hH;go_step;go_step;go_meet;exact ⟨_,rfl,rfl,Hb⟩
         obtain ⟨q,rfl,Hq,Hb⟩:=hcut;cases q
         · have HR:=Lib.hid (HEnd.out l r wc HW.out Hr.out (.inr ⟨l',y,Hl'.out,(by have:=Hq.out;show 0<=c x.r y.r;rw [Hrr.out];simpa using this)⟩) (HA.out.below Hb.out))
           clear HEnd HK HSw HFr Hb HA cx cy hg Hq i4 cx' cy';have i6:(i:Int)+1<=9223372036854775807:=by omega
           go_wp2;go_roundg (gk - 1)
           case rel=> exact ⟨i+1,k+1,by have:=Hik.out;omega,by omega,by omega,by go_num,by have:=Hgk.out;have:=Hik.out;omega,HR.out⟩
           case measure=> have:=Hgk.out;have:=Hik.out;omega
         · have Hxy:Hid (cc c x y < 0):=Lib.hid (by have:=Hq.out;show c x.r y.r < 0;rw [Hrr.out];simpa using this)
           obtain ⟨⟨d1,d1'⟩,⟨d2,d2'⟩,d3,d3',d4,d4',d5⟩:=HFr.out wc Hb.out;have H2:=HSw.out wc.drew Hb.out.drew;have H3:=Lib.hid H2.1;have H4:=Lib.hid H2.2;clear H2 HEnd HK HSw HFr HA cx cy hg Hq i4 cx' cy';have i6:(j:Int) - 1=j':=by have:=Hj'.out;omega
           go_wp2;go_region;go_wp2;go_roundw
           case rel=> exact ⟨j',by omega,by have:=Hj'.out;omega,by first | rfl | (congr 1;omega),Lib.hid ⟨l',y::r,by rw [HW.out,Hl'.out];simp,by have h1:=Hl.out;rw [Hl'.out] at h1;simp at h1;have:=Hj'.out;omega,by
            intro z hz;rcases List.mem_cons.1 hz with rfl | hz
            · exact Hxy.out
            · exact Hr.out z hz,by first | exact H3.out | exact H4.out⟩⟩
           case measure=> simp [intOf];omega
       · have hl0:l=[]:=List.length_eq_zero_iff.1 (by have:=Hl.out;omega)
         have hd:decide ((a:Int) < j)=false:=by simp;omega
         have hja2:¬ (a:Int) < j:=by omega
         go_upto_region 4 with (fail)
         go_cut [34] from 18 to 34 (λ z wx=> z=.bool false/\Hid (Below wr.heap.size wr wx))
         case first=>
          go_quiet (fail);go_step;go_step;go_meet;exact ⟨rfl,Lib.hid (below_drewN _ _)⟩
         obtain ⟨rfl,Hb⟩:=hcut;have HR:=Lib.hid (HEnd.out l r wc HW.out Hr.out (.inl hl0) (HA.out.below Hb.out));clear HEnd HA hl0 Hb;have i6:(i:Int)+1<=9223372036854775807:=by omega
         go_wp2;go_roundg (gk - 1)
         case rel=> exact ⟨i+1,k+1,by have:=Hik.out;omega,by omega,by omega,by go_num,by have:=Hgk.out;have:=Hik.out;omega,HR.out⟩
         case measure=> have:=Hgk.out;have:=Hik.out;omega
    · have hR:Hid (R=[]/\X.take k=X):=by
       have h1:X.take k=X:=List.take_of_length_le (by have:=HL.out;omega);refine Lib.hid ⟨?_,h1⟩;have:=congrArg List.length s1;rw [h1,List.length_append] at this;exact List.length_eq_zero_iff.1 (by omega)
      clear s1 s2 s3 s4 Hs;have Hgk:=Lib.hid hgk;have hib2:¬ (i:Int) < b:=by omega
      clear hgk hik;go_wp2;go_end0;exact ⟨rfl,W,HWa.out,by have:=HWe.out;rwa [hR.out.2] at this,by have:=HA.out;rwa [hR.out.1,List.append_nil] at this⟩
def Blks (c:Rw->Rw->Int) (s:Nat) (L:List (List Ri)):Prop:=∀l∈L,l.length=s/\AscC (cc c) l
theorem blks_len {c:Rw->Rw->Int} {s:Nat} {L:List (List Ri)} (h:Blks c s L):L.flatten.length=L.length * s:=by
 induction L with
 | nil=> simp
 | cons l L ih=>
  have h1:=(h l (by simp)).1;rw [List.flatten_cons,List.length_append,ih λ x hx=> h x (List.mem_cons_of_mem _ hx),h1,List.length_cons,Nat.add_mul];omega
structure Pass (c:Rw->Rw->Int) (X:List Ri) (s a:Nat) (M L:List (List Ri)) (t:List Ri):Prop where
 m:Blks c (2 * s) M
 l:Blks c s L
 asc:AscC (cc c) t
 lt:t.length < s
 at':M.flatten.length=a
 st:StEq (cc c) X (M.flatten++L.flatten++t)
structure Base (c:Rw->Rw->Int) (X:List Ri) (s a:Nat) (L:List (List Ri)) (R:List Ri):Prop where
 l:Blks c s L
 at':L.flatten.length=a
 st:StEq (cc c) X (L.flatten++R)
theorem base_add {c:Rw->Rw->Int} {X:List Ri} {s a:Nat} {L:List (List Ri)} {u R Z:List Ri} (h:Base c X s a L (u++R)) (hu:u.length=s) (hc:Ord3 (cc c)) (hz:AscC (cc c) Z) (he:StEq (cc c) u Z):Base c X s (a+s) (L++[Z]) R:=by
 have hl:=(he.perm hc).length_eq;refine ⟨λ l hl'=> ?_,?_,?_⟩
 · rcases List.mem_append.1 hl' with h1 | h1
   · exact h.l l h1
   · rw [List.mem_singleton.1 h1];exact ⟨by omega,hz⟩
 · rw [List.flatten_append,List.length_append,h.at'];simp;omega
 · refine h.st.trans ?_
   rw [List.flatten_append,List.append_assoc];refine (StEq.refl _).app ?_;simpa using he.app (StEq.refl R)
theorem pass_start {c:Rw->Rw->Int} (hc:Ord3 (cc c)) {X:List Ri} {s a:Nat} {L:List (List Ri)} {R Z:List Ri} (h:Base c X s a L R) (hz:AscC (cc c) Z) (he:StEq (cc c) R Z) (hl:R.length < s):Pass c X s 0 [] L Z:=
 ⟨(λ l h=> by cases h),h.l,hz,by have:=(he.perm hc).length_eq;omega,rfl,by rw [List.flatten_nil,List.nil_append];exact h.st.trans ((StEq.refl _).app he)⟩
theorem pass_step {c:Rw->Rw->Int} (hc:Ord3 (cc c)) {X:List Ri} {s a:Nat} {M L:List (List Ri)} {x y t Z:List Ri} (h:Pass c X s a M (x::y::L) t) (hz:AscC (cc c) Z) (he:StEq (cc c) (x++y) Z):Pass c X s (a+2 * s) (M++[Z]) L t:=by
 have hl:=(he.perm hc).length_eq;have l1:=(h.l x (by simp)).1;have l2:=(h.l y (by simp)).1;rw [List.length_append] at hl;refine ⟨λ l hl'=> ?_,λ l hl'=> h.l l (by simp [hl']),h.asc,h.lt,?_,?_⟩
 · rcases List.mem_append.1 hl' with h1 | h1
   · exact h.m l h1
   · rw [List.mem_singleton.1 h1];exact ⟨by omega,hz⟩
 · rw [List.flatten_append,List.length_append,h.at'];simp;omega
 · refine h.st.trans ?_
   have:=((StEq.refl (c:=cc c) M.flatten).app he).app (StEq.refl (c:=cc c) (L.flatten++t));simpa only [List.flatten_append,List.flatten_cons,List.flatten_nil,List.append_assoc,List.append_nil] using this
theorem pass_next {c:Rw->Rw->Int} (hc:Ord3 (cc c)) {X:List Ri} {s a:Nat} {M L:List (List Ri)} {t Z:List Ri} (h:Pass c X s a M L t) (hz:AscC (cc c) Z) (he:StEq (cc c) (L.flatten++t) Z) (hl:(L.flatten++t).length < 2 * s):Pass c X (2 * s) 0 [] M Z:=
 ⟨(λ l h=> by cases h),h.m,hz,by have:=(he.perm hc).length_eq;omega,rfl,by rw [List.flatten_nil,List.nil_append];have:=h.st;rw [List.append_assoc] at this;exact this.trans ((StEq.refl _).app he)⟩
theorem pass_end {c:Rw->Rw->Int} {X:List Ri} {s n:Nat} {L:List (List Ri)} {t:List Ri} (h:Pass c X s 0 [] L t) (hn:(L.flatten++t).length=n) (hs:n<=s) (h0:0 < s):AscC (cc c) (L.flatten++t):=by
 have hb:=blks_len h.l;rw [List.length_append,hb] at hn
 match L with
 | []=> simpa using h.asc
 | [l]=> have ht:t=[]:=List.length_eq_zero_iff.1 (by simp at hn;omega);rw [ht];simpa using (h.l l (by simp)).2
 | l::l'::L'=> exfalso;simp only [List.length_cons,Nat.add_mul] at hn;omega
theorem pass_len {c:Rw->Rw->Int} {X:List Ri} {s a n:Nat} {M L:List (List Ri)} {t:List Ri} (h:Pass c X s a M L t) (hn:(M.flatten++L.flatten++t).length=n):a+L.length * s+t.length=n:=by
 have:=blks_len h.l;have:=h.at';simp only [List.length_append] at hn;omega
theorem stable_calls (K:FuncId) (cap:Array Value) (c:Rw->Rw->Int) (w0:World) (B g n cp:Nat) (X:List Ri) (w:World)
 (hC:CmpOk K cap c X w0 g) (hA:Arr w0 B g n cp X w) (hmx:n<=1099511627776):
 Calls Tryz.prog 92 #[.slice (some ⟨g,0,none⟩) n cp, .int .i64 n, .func (.func K) #[] cap] w (SortsTo w0 B g n cp c [] X []):=by
 have hlen:=hA.len;have HL:=Lib.hid hlen;have HA:=Lib.hid hA;have HC:=Lib.hid hC;have HM:=Lib.hid hmx;clear hA hlen hC;go_enter Tryz.func92,Tryz.ntmps92;go_wp2;go_loopg [7,8] n (λ gk z7 z8 wr=> ∃a:Nat,a<=n/\z7=.int .i64 a/\z8=.int .i64 ((a:Int)+20)/\gk+a=n/\Hid (∃L R,Base c X 20 a L R/\Arr w0 B g n cp (L.flatten++R) wr))
 case atStart=> exact ⟨0,Nat.zero_le _,rfl,rfl,by omega,Lib.hid ⟨[],X,⟨(λ l h=> by cases h),rfl,StEq.refl _⟩,by simpa using HA.out⟩⟩
 case round=>
  clear HA;obtain ⟨a,han,rfl,rfl,hgk,Hs⟩:=hrel;obtain ⟨L,R,hb,hA⟩:=Hs.out;have HB:=Lib.hid hb;have HA:=Lib.hid hA;have Hgk:=Lib.hid hgk;have hRl:R.length=n - a:=by have:=hA.len;have:=hb.at';rw [List.length_append] at *;omega
  have HRl:=Lib.hid hRl;have hbm:(a:Int)+20<=9223372036854775807:=by omega
  have hbm2:(a:Int)+20+20<=9223372036854775807:=by omega
  clear Hs hb hA hgk;by_cases hle:a+20<=n
  · obtain ⟨u,R',hu,lu1,lu2⟩:=split2 R 20 (by omega)
    have HI:=Lib.hid (insertion_calls K cap c X w0 B g n cp L.flatten u R' wr a (a+20) HB.out.at' (by omega) HC.out (λ x hx=> HB.out.st.mem HC.out.ord (by rw [hu];simp [hx])) (by have:=HA.out;rw [hu] at this;simpa only [List.append_assoc] using this) HM.out);rw [show ((a+20:Nat):Int)=(a:Int)+20 by omega] at HI;have HN:Hid (∀Z wx,AscC (cc c) Z->StEq (cc c) u Z->Arr w0 B g n cp (L.flatten++Z++R') wx->Hid (∃L R,Base c X 20 (a+20) L R/\Arr w0 B g n cp (L.flatten++R) wx)):=by refine Lib.hid λ Z wx h1 h2 h3=> Lib.hid ⟨L++[Z],R',base_add (by have:=HB.out;rwa [hu] at this) lu1 HC.out.ord h1 h2,?_⟩;simpa only [List.flatten_append,List.flatten_cons,List.flatten_nil,List.append_nil,List.append_assoc] using h3
    clear hu lu1 lu2 hRl;have hle2:(a:Int)+20<=n:=by omega
    go_wp2_with fail;(with_reducible refine HI.out.mono ?_);rintro e w1 ⟨rfl,Z,h1,h2,h3⟩;have H1:=HN.out Z w1 h1 h2 h3;clear h1 h2 h3 HI HN;go_wp2;go_roundg (gk - 20)
    case rel=> exact ⟨a+20,hle,by go_num,by go_num,by have:=Hgk.out;omega,H1⟩
    case measure=> have:=Hgk.out;omega
  · have HI:=Lib.hid (insertion_calls K cap c X w0 B g n cp L.flatten R [] wr a n HB.out.at' (by omega) HC.out (λ x hx=> HB.out.st.mem HC.out.ord (by simp [hx])) (by have:=HA.out;simpa only [List.append_nil] using this) HM.out)
    have HN:Hid (∀Z wx,AscC (cc c) Z->StEq (cc c) R Z->Arr w0 B g n cp (L.flatten++Z++[]) wx->Hid (∃L t,Pass c X 20 0 [] L t/\Arr w0 B g n cp (L.flatten++t) wx)):=
     Lib.hid λ Z wx h1 h2 h3=> Lib.hid ⟨L,Z,pass_start HC.out.ord HB.out h1 h2 (by omega),by simpa only [List.append_nil] using h3⟩
    clear hRl;have hle2:¬ (a:Int)+20<=n:=by omega
    go_wp2_with fail;(with_reducible refine HI.out.mono ?_);rintro e w1 ⟨rfl,Z,h1,h2,h3⟩;have H1:=HN.out Z w1 h1 h2 h3;clear h1 h2 h3 HI HN HB HA HRl Hgk hle hle2 hbm hbm2;go_wp2;go_loopg [6] n (λ gk z6 wr=> ∃s:Nat,20<=s/\s<=2 * n+20/\z6=.int .i64 s/\n<=gk+s/\Hid (∃L t,Pass c X s 0 [] L t/\Arr w0 B g n cp (L.flatten++t) wr))
    case atStart=> exact ⟨20,Nat.le_refl _,by omega,rfl,by omega,H1⟩
    case round=>
     clear H1;obtain ⟨s,hs1,hs2,rfl,hgk,Hs⟩:=hrel;have Hgk:=Lib.hid hgk;clear hgk;by_cases hsn:s < n
     · have hm1:(2:Int) * s<=9223372036854775807:=by omega
       have hm1':(s:Int) * 2<=9223372036854775807:=by omega
       go_wp2;go_loopg [7,8] n (λ gj z7 z8 wr=> ∃a:Nat,a<=n/\z7=.int .i64 a/\z8=.int .i64 ((a:Int)+2 * s)/\gj+a=n/\Hid (∃M L t,Pass c X s a M L t/\Arr w0 B g n cp (M.flatten++L.flatten++t) wr))
       case atStart=>
        refine ⟨0,Nat.zero_le _,rfl,by go_num,by omega,?_⟩;obtain ⟨L,t,h1,h2⟩:=Hs.out;exact Lib.hid ⟨[],L,t,h1,by simpa using h2⟩
       case round=>
        clear Hs;obtain ⟨a,han,rfl,rfl,hgj,Hs⟩:=hrel;obtain ⟨M,L,t,hp,hA⟩:=Hs.out;have HP:=Lib.hid hp;have HA:=Lib.hid hA;have Hgj:=Lib.hid hgj;have hl:=pass_len hp hA.len;have HlL:=Lib.hid hl;have hlt:=hp.lt;have hlat:=hp.at';have hq1:(a:Int)+2 * s<=9223372036854775807:=by omega
        have hq2:(a:Int)+s<=9223372036854775807:=by omega
        have hq3:(a:Int)+2 * s+2 * s<=9223372036854775807:=by omega
        clear Hs hp hA hgj;by_cases hle:a+2 * s<=n
        · have hL2:∃x y L',L=x::y::L':=by
           match L with
           | []=> simp at hl;omega
           | [x]=> simp at hl;omega
           | x::y::L'=> exact ⟨x,y,L',rfl⟩
          obtain ⟨x,y,L',rfl⟩:=hL2;have lx:=HP.out.l x (by simp);have ly:=HP.out.l y (by simp);have HI:=Lib.hid (symMerge_calls K cap c X w0 B g n cp HC.out HM.out (2 * s+1) M.flatten x y (L'.flatten++t) wr a (a+s) (a+2 * s) (by omega) hlat (by omega) (by omega) (by omega) (by omega) (λ z hz=> HP.out.st.mem HC.out.ord (by simp only [List.flatten_cons,List.mem_append] at hz ⊢;rcases hz with hz | hz <;> simp [hz])) lx.2 ly.2 (by have:=HA.out;simpa only [List.flatten_cons,List.append_assoc] using this));rw [show ((a+s:Nat):Int)=(a:Int)+s by omega,show ((a+2 * s:Nat):Int)=(a:Int)+2 * s by omega] at HI;have HN:Hid (∀Z wx,AscC (cc c) Z->StEq (cc c) (x++y) Z->Arr w0 B g n cp (M.flatten++Z++(L'.flatten++t)) wx->Hid (∃M L t,Pass c X s (a+2 * s) M L t/\Arr w0 B g n cp (M.flatten++L.flatten++t) wx)):=by refine Lib.hid λ Z wx h1 h2 h3=> Lib.hid ⟨M++[Z],L',t,pass_step HC.out.ord HP.out h1 h2,?_⟩;simpa only [List.flatten_append,List.flatten_cons,List.flatten_nil,List.append_nil,List.append_assoc] using h3
          clear lx ly hl hlt hlat;have hle2:(a:Int)+2 * s<=n:=by omega
          go_wp2_with fail;(with_reducible refine HI.out.mono ?_);rintro e w1 ⟨rfl,Z,h1,h2,h3⟩;have H1:=HN.out Z w1 h1 h2 h3;clear h1 h2 h3 HI HN;go_wp2;go_roundg (gk - 2 * s)
          case rel=> exact ⟨a+2 * s,hle,by go_num,by go_num,by have:=Hgj.out;omega,H1⟩
          case measure=> have:=Hgj.out;omega
        · have HN:Hid (∀Z wx,AscC (cc c) Z->StEq (cc c) (L.flatten++t) Z->Arr w0 B g n cp (M.flatten++Z) wx->Hid (∃L t,Pass c X (2 * s) 0 [] L t/\Arr w0 B g n cp (L.flatten++t) wx)):=
           Lib.hid λ Z wx h1 h2 h3=> Lib.hid ⟨M,Z,pass_next HC.out.ord HP.out h1 h2 (by rw [List.length_append,blks_len HP.out.l];omega),h3⟩
          have hle2:¬ (a:Int)+2 * s<=n:=by omega
          by_cases hmn:a+s < n
          · have hL1:∃x,L=[x]/\0 < t.length:=by
             match L with
             | []=> simp at hl;omega
             | [x]=> exact ⟨x,rfl,by simp at hl;omega⟩
             | x::y::L'=> exfalso;simp only [List.length_cons,Nat.add_mul] at hl;omega
            obtain ⟨x,rfl,ht0⟩:=hL1;have lx:=HP.out.l x (by simp);have HI:=Lib.hid (symMerge_calls K cap c X w0 B g n cp HC.out HM.out (2 * s+1) M.flatten x t [] wr a (a+s) n (by omega) hlat (by omega) (by simp at hl;omega) (by omega) ht0 (λ z hz=> HP.out.st.mem HC.out.ord (by simp only [List.flatten_cons,List.mem_append] at hz ⊢;rcases hz with hz | hz <;> simp [hz])) lx.2 HP.out.asc (by have:=HA.out;simpa only [List.flatten_cons,List.flatten_nil,List.append_nil,List.append_assoc] using this));rw [show ((a+s:Nat):Int)=(a:Int)+s by omega] at HI;have HN2:Hid (∀Z wx,AscC (cc c) Z->StEq (cc c) (x++t) Z->Arr w0 B g n cp (M.flatten++Z++[]) wx->Hid (∃L t,Pass c X (2 * s) 0 [] L t/\Arr w0 B g n cp (L.flatten++t) wx)):=
             Lib.hid λ Z wx h1 h2 h3=> HN.out Z wx h1 (by simpa using h2) (by simpa using h3)
            clear lx hl hlt hlat ht0 HN;have hmn2:(a:Int)+s < n:=by omega
            go_wp2_with fail;(with_reducible refine HI.out.mono ?_);rintro e w1 ⟨rfl,Z,h1,h2,h3⟩;have H1:=HN2.out Z w1 h1 h2 h3;clear h1 h2 h3 HI HN2;go_wp2;go_roundg (n - 2 * s)
            case rel=> exact ⟨2 * s,by omega,by omega,by go_num,by omega,H1⟩
            case measure=> have:=Hgk.out;omega
          · have H1:=HN.out (L.flatten++t) wr (by
             match L with
             | []=> simpa using HP.out.asc
             | [x]=> have ht:t=[]:=List.length_eq_zero_iff.1 (by simp at hl;omega);rw [ht];simpa using (HP.out.l x (by simp)).2
             | x::y::L'=> exfalso;simp only [List.length_cons,Nat.add_mul] at hl;omega) (StEq.refl _) (by have:=HA.out;rwa [List.append_assoc] at this)
            have hmn2:¬ (a:Int)+s < n:=by omega
            clear HN hl hlt hlat;go_wp2;go_roundg (n - 2 * s)
            case rel=> exact ⟨2 * s,by omega,by omega,by go_num,by omega,H1⟩
            case measure=> have:=Hgk.out;omega
     · obtain ⟨L,t,hp,hA⟩:=Hs.out
       have HE:=Lib.hid (pass_end hp hA.len (by omega) (by omega));have HS:=Lib.hid hp.st;have HA:=Lib.hid hA;have hsn2:¬ (s:Int) < n:=by omega
       clear hp hA Hs;go_wp2;go_end0;exact ⟨rfl,_,HE.out,by have:=HS.out;rwa [List.flatten_nil,List.nil_append] at this,by have:=HA.out;simpa using this⟩
theorem sortStable_calls (K:FuncId) (cap:Array Value) (c:Rw->Rw->Int) (w0:World) (B g n cp:Nat) (X:List Ri) (w:World)
 (hC:CmpOk K cap c X w0 g) (hA:Arr w0 B g n cp X w) (hmx:n<=1099511627776):
 Calls Tryz.prog 60 #[.slice (some ⟨g,0,none⟩) n cp, .func (.func K) #[] cap] w (SortsTo w0 B g n cp c [] X []):=by
 have HS:=Lib.hid (stable_calls K cap c w0 B g n cp X w hC hA hmx);clear hC hA;go_enter Tryz.func60,Tryz.ntmps60;go_wp2_with fail;(with_reducible refine HS.out.mono ?_);rintro e w1 ⟨rfl,Z,h1,h2,h3⟩;have H1:=Lib.hid (show ∃Z,AscC (cc c) Z/\StEq (cc c) X Z/\Arr w0 B g n cp ([]++Z++[]) w1 from ⟨Z,h1,h2,h3⟩);clear h1 h2 h3 HS;go_wp2;go_end0;exact ⟨rfl,H1.out⟩
end
end Go.Proofs.YtnefkkidfhmggaaGreat
