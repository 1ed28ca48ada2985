/- Part 21 of the proof. -/
import Derived.Test.YtcomoomndgbckaaGreatY15
import Derived.Test.YtcomoomndgbckaaGreatY19
set_option maxHeartbeats 16000000
set_option maxRecDepth 100000
open Go Go.RowKit
open Go.Lib (hid)
open List (getElem_mem length_append nil_append length_take mem_cons cons_append length_map mem_of_getElem? getElem?_eq_getElem map_append take_length not_mem_nil take_append_getElem)
open Nat (zero_le lt_of_lt_of_le)
namespace Go.Proofs.YtcomoomndgbckaaGreat
noncomputable section
section
open Go.Sort
def BuildP (w:World) (e:Ending) (w':World):Prop:=∃(v:Value) (i k:Int),e=.returned (.tuple #[v,qi i,qi k])/\Below w.heap.size w w'
def StB (s:Stt):Prop:=SttS s/\s.create.cols.length<=2000000/\(∀k∈s.create.keys,k.length<=100000000)/\∀f∈s.create.fks,f.cols.length<=100000000
theorem SttL.cell {w:World} {xs:List Stt} {a:Option Addr} {n c:Nat} (h:LsAt 22 SttE w xs (qs a n c)) (i:Nat) (hi:i < xs.length):∃b o v,a=some ⟨b,o,none⟩/\b < w.heap.size/\(∀j,j < 22->w.cell? ⟨b,o+i * 22+j,none⟩=(xs[i].cells v)[j]?)/\SttAt w xs[i] v:=by
 obtain ⟨b,o,cs,h1,C,D,A,v,rfl,q⟩:=h.get i hi;exact ⟨b,o,v,h1,C,A,q⟩
theorem wpList_load_stmt2 {ops:Array Oper} {rest:List Oper} {op:Oper} {a:Act} {w:World} {Q:Exit->Act->World->Prop} (hgd:op.guard=none) (x:Operand) (ho:op.op=.load 40 x) (b o:Nat) (hx:a.eval x=.pointer (some ⟨b,o,none⟩)) {cs:List Value} (h:∀j,j < 22->w.cell? ⟨b,o+j,none⟩=cs[j]?) (hl:cs.length=22)
 (hK:wpList Tryz.prog ops Q rest (a.put op.dst (.agg cs.toArray)) w):wpList Tryz.prog ops Q (op::rest) a w:=
 wpList_load_mid hgd 40 x ho b o hx cs _ (λ j v hv=> by have q:=(List.getElem?_eq_some_iff.1 (by simpa using hv)).1;rw [h j (by omega)];simpa using hv) Tryz.underlying40 rfl (by rw [hl];kernel_rfl) hK
theorem bBuild_calls (l:List Stt) (la:Option Addr) (lc:Nat) (w:World) (hl:LsAt 22 SttE w l (qs la l.length lc)) (hz:∀s∈l,StB s):Calls Tryz.prog 75 #[qs la l.length lc] w (BuildP w):=by
 have HZ:=hid hz;obtain ⟨n,hn⟩:=gx l.length
 have aF:n<=2000000000000:=by obtain ⟨_,_,_,h⟩:=hl.shape;omega
 rw [hn] at hl ⊢;have HL:=hid hl;have HN:=hid hn;clear hl hn hz;go_enter Tryz.func75,Tryz.ntmps75;go_wp2;go_loopw [5,6] (λ z5 z6 wr=> ∃(k:Nat) (S:List Tb),k<=n/\k<=8/\z6=qi k/\Hid (S.length=k)/\Hid (Bl 108 5 TbE w.heap.size (λ _=> False) wr S z5)/\Hid (Below w.heap.size w wr)) (λ _ z _=> n - (intOf z).toNat)
 case atStart=> exact ⟨0,[],zero_le _,zero_le _,rfl,rfl,Bl.nil _ _ _ _ _ _,zi⟩
 case round=>
  obtain ⟨k,S,hk,aG,rfl,HS,HB,T⟩:=hrel
  rename World=> wo
  by_cases hlt:k < n
  . have M:k < l.length:=by rw [HN.out];exact hlt
    obtain ⟨b,o,y,rfl,ai,C,F⟩:=SttL.cell HL k M;have hz:=HZ.out _ (getElem_mem M);generalize l[k]=s at *;have aq:Hid (w.cell? ⟨b,o+k * 22,none⟩=some (qi s.kind)):=C 0 (by omega);have ab:Hid (w.cell? ⟨b,o+k * 22+2,none⟩=some y.c1):=C 2 (by omega);have aa:Hid (w.cell? ⟨b,o+k * 22+3,none⟩=some y.c2):=C 3 (by omega);have W:Hid (w.cell? ⟨b,o+k * 22+4,none⟩=some y.c3):=C 4 (by omega);have ap:Hid (w.cell? ⟨b,o+k * 22+5,none⟩=some y.c4):=C 5 (by omega);have ac:=hid C;have D:=hid ai;have U:=hid F;have K:=hid hz;obtain ⟨a1,c1,p1,-⟩:=F.create.cols.shape;obtain ⟨a2,c2,p2,-⟩:=F.create.keys.shape;obtain ⟨a3,c3,p3,-⟩:=F.create.fks.shape;obtain ⟨a4,m4,c4,p4,-,-⟩:=F.create.checks.shape;rw [p1] at ab;rw [p2] at aa;rw [p3] at W;rw [p4] at ap;obtain ⟨m1,q1⟩:=gx s.create.cols.length
    obtain ⟨m2,q2⟩:=gx s.create.keys.length
    obtain ⟨m3,q3⟩:=gx s.create.fks.length
    rw [q1] at ab;rw [q2] at aa;rw [q3] at W;have aB:=hid q2;have aA:=hid q3;obtain ⟨kd,af⟩:=gx s.kind
    rw [af] at aq;have aE:(0:Int)<=(k:Int):=by omega
    have kk:(k:Int) < (n:Int):=by omega
    clear ai C F hz p1 p2 p3 p4 q1 q2 q3 af M;have e2:=(T.cell (p:=⟨b,o+k * 22+2,none⟩) D).trans ab;have e3:=(T.cell (p:=⟨b,o+k * 22+3,none⟩) D).trans aa;have e4:=(T.cell (p:=⟨b,o+k * 22+4,none⟩) D).trans W;have e5:=(T.cell (p:=⟨b,o+k * 22+5,none⟩) D).trans ap;go_wp2_with (refine wpList_store_row rfl _ _ _ rfl _ rfl rfl (VarIs.new _ _ _) rfl (by kernel_rfl) rfl ?_);intro w5 V5 A5;clear e2 e3 e4 e5;have J:Hid (Below wo.heap.size wo w5):=(zi.alloc lr _).trans (A5.below (by simp) (λ k hk=> by show ¬ k=_;omega));clear A5;have G:=hid (T.trans (J.mono T.size));have e0:=(G.cell (p:=⟨b,o+k * 22,none⟩) D).trans aq;go_upto_block 2 with (fail)
    go_cut [8] from 22 to 68 (λ z wx=> ∃e:Int,z=qi e/\Hid (e=0->k < 8/\m2<=4/\m3<=4/\∀f∈s.create.fks,f.cols.length=f.target.length)/\Hid (Below w5.heap.size w5 wx))
    case first=>
     by_cases hk1:kd=1
     . subst hk1
       have d0:=V5.a0;have d1:=V5.a1;have d2:=V5.a2;have d3:=V5.a3;by_cases g0:(8:Int)<=(k:Int)
       . go_wp2
         go_meet;exact ⟨3,rfl,λ h=> (by cases h),zi⟩
       by_cases g1:(8:Int) < (m1:Int)
       . go_wp2
         go_meet;exact ⟨3,rfl,λ h=> (by cases h),zi⟩
       by_cases g2:(4:Int) < (m2:Int)
       . go_wp2
         go_meet;exact ⟨3,rfl,λ h=> (by cases h),zi⟩
       by_cases g3:(4:Int) < (m3:Int)
       . go_wp2
         go_meet;exact ⟨3,rfl,λ h=> (by cases h),zi⟩
       by_cases g4:(4:Int) < (m4:Int)
       . go_wp2
         go_meet;exact ⟨3,rfl,λ h=> (by cases h),zi⟩
       have A:=hid λ j (H:j < 22)=> (G.cell (p:=⟨b,o+k * 22+j,none⟩) D).trans (ac.out j H);have L:=hid (bInval_calls s y w5 (U.mono G) K.1);go_wp2_with (refine wpList_load_stmt2 rfl _ rfl _ _ rfl A.out (by rfl) ?_);refine L.mono ?_;rintro e w6 ⟨q,rfl,hq,al⟩;have H6:=hid al;have HQ:=hid hq;clear hq al A L d0 d1 d2 d3;cases q with
       | true=>
        go_wp2;go_meet;exact ⟨1,rfl,λ h=> (by cases h),H6⟩
       | false=>
        have ao:=hid (G.trans (H6.mono G.size));have A:=hid λ j (H:j < 22)=> (ao.cell (p:=⟨b,o+k * 22+j,none⟩) D).trans (ac.out j H);obtain ⟨va,vc,rfl⟩:=HB.shape;have L:=hid (bExist_calls s y w6 (U.mono ao) S va vc ((HB.at (by have:=HS.out;omega)).mono TbE.mono (J.trans (H6.mono J.size))) K.2.1);go_wp2_with (refine wpList_load_stmt2 rfl _ rfl _ _ rfl A.out (by rfl) ?_);refine L.mono ?_;rintro e w7 ⟨q,rfl,-,ak⟩;have H7:=hid (H6.trans (ak.mono H6.size));clear ak A L;cases q with
        | true=>
         go_wp2;go_meet;exact ⟨5,rfl,λ h=> (by cases h),H7⟩
        | false=>
         go_wp2;go_meet;exact ⟨0,rfl,(λ _=> ⟨by omega,by omega,by omega,HQ.out (by simp)⟩),H7⟩
     . go_wp2
       go_meet;exact ⟨1,rfl,λ h=> (by cases h),zi⟩
    obtain ⟨e,rfl,HE,Hx⟩:=hcut
    rename World=> wx
    clear V5 e0;replace J:=hid (J.trans (Hx.mono J.size));replace G:=hid (G.trans (Hx.mono G.size));clear Hx;by_cases he:e=0
    . subst he
      obtain ⟨aJ,aI,aH,ah⟩:=HE.out rfl;have A:=hid λ j (H:j < 22)=> (G.cell (p:=⟨b,o+k * 22+j,none⟩) D).trans (ac.out j H);obtain ⟨va,vc,rfl⟩:=HB.shape;have L:=hid (bTable_calls s y w wx U G S va vc ((HB.at (by have:=HS.out;omega)).mono TbE.mono J) (by have:=HS.out;omega) ⟨by rw [aB.out];omega,by rw [aA.out];omega⟩ ⟨K.2.2.1,λ f hf=> ⟨K.2.2.2 f hf,ah f hf⟩⟩);clear ah HE;go_wp2_with (refine wpList_load_stmt2 rfl _ rfl _ _ rfl A.out (by rfl) ?_);refine L.mono ?_;rintro e w9 ⟨nm,a1,a2,a3,a4,n1,k1,n2,k2,n3,k3,n4,k4,k9,rfl,ag,aj⟩;have H9:=hid aj;have V:=hid ag;clear aj ag A L;go_wp2_with (refine wpList_store_row rfl _ _ _ rfl _ rfl rfl (VarIs.new _ _ _) rfl (by kernel_rfl) rfl ?_);intro ad I au;have ar:Hid (Below w9.heap.size w9 ad):=(zi.alloc lr _).trans (au.below (by simp) (λ k hk=> by show ¬ k=_;omega));clear au;have an:=hid (H9.trans (ar.mono H9.size));have O:=hid (G.trans (an.mono G.size));by_cases h9:k9=0
      . subst h9
        obtain ⟨t,ay,ae⟩:=V.out rfl;have HT:Hid (Ind (λ j=> False\/(qs va S.length vc).ownBlock=some j) ad λ w=> TbE w t [qt nm,qs a1 n1 k1,qs a2 n2 k2,qs a3 n3 k3,qs a4 n4 k4]):=((ae.mono ar λ _ _ h=> h).imp λ w h=> ⟨_,_,_,_,by rw [ay],h⟩).sub λ j _ H=> by
         rcases H with H | H
         . exact H.elim
         . have:=HB.ge j H
           exact ⟨this.1,lt_of_lt_of_le this.2 J.size⟩
        have aD:=hid (HB.below (J.trans (an.mono J.size)));clear ae V;have t0:=I.a0;have t1:=I.a1;have t2:=I.a2;have t3:=I.a3;have t4:=I.a4;obtain ⟨i0,ii,ax,aw,av⟩:=info_parts Tryz.info108';go_wp2_with (at_builtin;go_loud (refine wpList_push (E:=TbE) rfl _ _ 23 rfl i0 _ 112 Tryz.underlying23 ii ax aw av rfl (by decide) (by decide) rfl aD.out t [_,_,_,_,_] 108 rfl rfl one_t5 HT.out ?c0 O.out.size (λ _ h=> h.elim) ?_))
        case c0=> exact (by have:=HS.out;omega)
        intro v' w' aC am _ _;have az:=hid (O.trans am);clear am t0 t1 t2 t3 t4;go_wp2;go_roundw
        case rel=> exact ⟨k+1,_,by omega,by omega,by go_num,(by show _=_;rw [length_append,HS.out];rfl),aC,az⟩
        case measure=> simp [intOf];omega
      . clear V
        go_wp2;go_ret3;exact ⟨_,_,_,rfl,O⟩
    . clear HE
      go_wp2;go_ret3;exact ⟨_,_,_,rfl,G⟩
  . obtain rfl:n=k:=by omega
    go_wp2;go_ret3;exact ⟨_,_,_,rfl,T⟩
end
section
open Go.Sort
structure TbP (t:Tb):Prop where
 name:t.name.size<=2000000
 cols:t.cols.length<=2000000
 keys:t.keys.length<=2000000
 fks:t.fks.length<=2000000
 key:∀k∈t.keys,k.length<=2000000
 fk:∀f∈t.fks,f.cols.length<=2000000
 col:∀c∈t.cols,c.name.size<=2000000
 check:∀e∈t.checks,ExS e
def SchZ (S:List Tb):Prop:=S.length<=2000000/\∀t∈S,TbP t
def TbV (S:List Tb) (t:Tb):Prop:=(∀i (h:i < t.keys.length),∀c∈t.keys[i],0<=c/\c < (t.cols.length:Int))/\∀i (h:i < t.fks.length),(∀c∈t.fks[i].cols,0<=c/\c < (t.cols.length:Int))/\∃(i2 p:Nat) (q:Tb),t.fks[i].table=i2/\t.fks[i].key=p/\S[i2]? =some q/\p < q.keys.length
theorem tbI_of {S:List Tb} (h:∀i (h:i < S.length),TbV S S[i]) (hz:SchZ S):∀t∈S,TbI S t:=by
 have F:∀t∈S,TbV S t:=λ t ht=> by obtain ⟨i,hi,rfl⟩:=List.getElem_of_mem ht;exact h i hi
 intro t ht;have C:=hz.2 t ht;obtain ⟨H,G⟩:=F t ht;refine ⟨λ k hk=> ?_,λ f hf=> ?_⟩
 . have:=C.key k hk
   obtain ⟨i,hi,rfl⟩:=List.getElem_of_mem hk;exact ⟨H i hi,by omega⟩
 . have:=C.fk f hf
   obtain ⟨i,hi,rfl⟩:=List.getElem_of_mem hf;obtain ⟨h1,I,p,q,K,J,D,o⟩:=G i hi;have A:=mem_of_getElem? D;have:=(hz.2 q A).key _ (getElem_mem o);exact ⟨h1,by omega,I,p,q,q.keys[p],K,J,D,getElem?_eq_getElem o,(F q A).1 p o,by omega⟩
theorem nms_size {cols:List Cl} (h:∀c∈cols,c.name.size<=2000000) (l:List Int):∀x∈nmsOf cols l,x.size<=2000000:=by
 intro x o;obtain ⟨i,-,rfl⟩:=List.mem_map.1 o;cases hc:cols[i.toNat]? with
 | none=> exact zero_le _
 | some c=> exact h c (mem_of_getElem? hc)
theorem stb_def {S:List Tb} (hz:SchZ S) {y:Tb} (hy:y∈S):StB (defS S y):=by
 have o:=hz.2 y hy;have q:(⟨#[]⟩:ByteArray).size<=2000000:=zero_le _;refine ⟨⟨o.name,q,⟨o.col,?_,?_,o.check⟩,λ x h=> (by cases h),λ x h=> (by cases h),λ x h=> (by cases h),λ x h=> (by cases h),?_,λ x h=> (by cases h)⟩,o.cols,?_,?_⟩
 . intro k A
   obtain ⟨l,-,rfl⟩:=List.mem_map.1 A;exact nms_size o.col l
 . intro f hf
   obtain ⟨g,-,rfl⟩:=List.mem_map.1 hf;unfold rfOf;cases C:S[g.table.toNat]? with
   | none=> exact ⟨λ x h=> (by cases h),q,λ x h=> (by cases h)⟩
   | some u=>
    have D:=hz.2 u (mem_of_getElem? C);exact ⟨nms_size o.col _,D.name,nms_size D.col _⟩
 . exact .mk 0 _ _ 0 _ [] q q q (λ e h=> by cases h)
 . intro k A
   obtain ⟨l,hl,rfl⟩:=List.mem_map.1 A;have:=o.key l hl;simp only [nmsOf,length_map];omega
 . intro f hf
   obtain ⟨g,C,rfl⟩:=List.mem_map.1 hf;have:=o.fk g C;unfold rfOf;split
   . simp only [nmsOf,length_map]
     omega
   . simp
theorem snoc_all {α:Type} {l:List α} {P:α->Prop} {k:Nat} (h:∀i (h:i < l.length),i < k->P l[i]) (hk:k < l.length) (hp:P l[k]):∀i (h:i < l.length),i < k+1->P l[i]:=by
 intro i hi o;by_cases e:i=k
 . subst e;exact hp
 . exact h i hi (by omega)
theorem all_done {α:Type} {l:List α} {P:α->Prop} {n:Nat} (h:∀i (h:i < l.length),i < n->P l[i]) (hn:l.length=n):∀i (h:i < l.length),P l[i]:=λ i hi=> h i hi (by omega)
theorem Sch.cells {w:World} {S:List Tb} {bs os n c:Nat} (h:SchAt w S (qs (some ⟨bs,os,none⟩) n c)) (i:Nat) (hi:i < S.length):∃a1 c1 a2 c2 a3 c3 a4 c4,bs < w.heap.size/\w.cell? ⟨bs,os+i * 5,none⟩=some (qt S[i].name)/\w.cell? ⟨bs,os+i * 5+1,none⟩=some (qs a1 S[i].cols.length c1)/\w.cell? ⟨bs,os+i * 5+2,none⟩=some (qs a2 S[i].keys.length c2)/\w.cell? ⟨bs,os+i * 5+3,none⟩=some (qs a3 S[i].fks.length c3)/\w.cell? ⟨bs,os+i * 5+4,none⟩=some (qs a4 S[i].checks.length c4)/\TbAt w S[i] (qs a1 S[i].cols.length c1) (qs a2 S[i].keys.length c2) (qs a3 S[i].fks.length c3) (qs a4 S[i].checks.length c4):=by
 obtain ⟨b,o,a1,c1,a2,c2,a3,c3,a4,c4,e,h⟩:=SchAt.cell h i hi;cases e;exact ⟨a1,c1,a2,c2,a3,c3,a4,c4,h⟩
theorem one_stt {w:World} {s:Stt} {v:StV} (h:SttAt w s v):∀u∈s.cells v,u.oneCell'=true:=by
 obtain ⟨a1,O,k1,a2,M,k2,a3,L,k3,a4,K,k4,a5,J,k5,a6,I,W,a7,H,V,a8,G,U,a9,F,T,a10,A,D,a11,q,C,rfl,-⟩:=h.shapes;intro u o;simp only [Stt.cells,Ex.cells,cons_append,nil_append,mem_cons,not_mem_nil,or_false] at o;rcases o with rfl | rfl | rfl | rfl | rfl | rfl | rfl | rfl | rfl | rfl | rfl | rfl | rfl | rfl | rfl | rfl | rfl | rfl | rfl | rfl | rfl | rfl <;> rfl
theorem Tryz.info40':(Tryz.prog.info? 40).map (λ i=> (i.zero,i.size,i.bytes))=some (some (.agg q0b),22,392):=by kernel_rfl
theorem bValid_calls (S:List Tb) (sa:Option Addr) (sc:Nat) (w:World) (hs:SchAt w S (qs sa S.length sc)) (hz:SchZ S):Calls Tryz.prog 49 #[qs sa S.length sc] w (BoolP True w):=by
 have HZ:=hid hz;obtain ⟨n,hn⟩:=gx S.length
 have bd:n<=2000000:=hn ▸ hz.1;rw [hn] at hs ⊢;have HS:=hid hs;have HN:=hid hn;clear hs hn hz;go_enter Tryz.func49,Tryz.ntmps49;go_wp2;go_loopw [3] (λ z wr=> ∃k:Nat,k<=n/\z=qi k/\Hid (∀i (h:i < S.length),i < k->TbV S S[i])/\Hid (Below w.heap.size w wr)) (λ z _=> n - (intOf z).toNat)
 case atStart=> exact ⟨0,zero_le _,rfl,(λ i _ h=> absurd h (by omega)),zi⟩
 case round=>
  obtain ⟨k,hk,rfl,HG,Hb⟩:=hrel
  rename World=> wo
  by_cases hlt:k < n
  . have G:k < S.length:=by rw [HN.out];exact hlt
    obtain ⟨V,os,rfl⟩:∃b o,sa=some ⟨b,o,none⟩:=by obtain ⟨b,o,_,_,_,_,_,_,_,_,h,-⟩:=SchAt.cell HS.out k G;exact ⟨b,o,h⟩
    obtain ⟨a1,k1,a2,k2,a3,k3,a4,k4,aA,f0,f1,f2,f3,f4,h5⟩:=Sch.cells HS.out k G;have H:=hid aA;obtain ⟨y,hy⟩:=gx (S[k])
    rw [hy] at f0 f1 f2 f3 f4 h5;obtain ⟨tn,ay⟩:=gx y.name
    obtain ⟨n1,h1⟩:=gx y.cols.length
    obtain ⟨n2,K⟩:=gx y.keys.length
    obtain ⟨n3,h3⟩:=gx y.fks.length
    obtain ⟨n4,h4⟩:=gx y.checks.length
    have ba:n2<=2000000000000:=by obtain ⟨_,_,_,h⟩:=h5.keys.shape;omega
    have aZ:n3<=2000000000000:=by obtain ⟨_,_,_,h⟩:=h5.fks.shape;omega
    rw [ay] at f0;rw [h1] at f1;rw [K] at f2;rw [h3] at f3;rw [h4] at f4;rw [h1,K,h3,h4] at h5;have HD:=hid h5;have aH:=hid h1;have aG:=hid K;have aF:=hid h3;have HE:=hid (And.intro f0 (And.intro f1 (And.intro f2 (And.intro f3 f4))));have aM:(0:Int)<=(k:Int):=by omega
    have kk:(k:Int) < (n:Int):=by omega
    have aI:=hid G;have aS:Hid (∀h:k < S.length,S[k]'h=y):=λ _=> hy;clear aA f0 f1 f2 f3 f4 h5 ay h1 K h3 h4 hy G;go_wp2;go_loopw [4] (λ z wr=> ∃j:Nat,j<=n2/\z=qi j/\Hid (∀i (h:i < y.keys.length),i < j->∀c∈y.keys[i],0<=c/\c < (n1:Int))/\Hid (Below w.heap.size w wr)) (λ z _=> n2 - (intOf z).toNat)
    case atStart=> exact ⟨0,zero_le _,rfl,(λ i _ h=> absurd h (by omega)),Hb⟩
    case round=>
     obtain ⟨j,hj,rfl,HK,O⟩:=hrel
     rename World=> wj
     have e0:=(O.out.cell (p:=⟨V,os+k * 5,none⟩) H.out).trans HE.out.1;have e1:=(O.out.cell (p:=⟨V,os+k * 5+1,none⟩) H.out).trans HE.out.2.1;have e2:=(O.out.cell (p:=⟨V,os+k * 5+2,none⟩) H.out).trans HE.out.2.2.1;have W:=(O.out.cell (p:=⟨V,os+k * 5+3,none⟩) H.out).trans HE.out.2.2.2.1;have e4:=(O.out.cell (p:=⟨V,os+k * 5+4,none⟩) H.out).trans HE.out.2.2.2.2;by_cases hlt2:j < n2
     . have G:j < y.keys.length:=by rw [aG.out];exact hlt2
       obtain ⟨b2,o2,a12,an,rfl,aB,d0,hx⟩:=LlAt.cell (HD.out.keys.mono (LlE.mono NoE.mono) O.out) j G;have HT:=hid λ (h:∀c∈y.keys[j],0<=c/\c < (n1:Int))=> snoc_all (P:=λ z:List Int=> ∀c∈z,0<=c/\c < (n1:Int)) HK.out G h;generalize y.keys[j]=z at *;obtain ⟨mz,aa⟩:=gx z.length
       have HI:=hid λ w' h=> bIns_calls tn a1 n1 k1 (qs (some ⟨b2,o2,none⟩) n2 k2) (qs a3 n3 k3) (qs a4 n4 k4) z a12 an w' h;simp only [aa] at HI;have HX:=hid hx;rw [aa] at d0 HX;have aN:(0:Int)<=(j:Int):=by omega
       have jj:(j:Int) < (n2:Int):=by omega
       clear G hx aa;go_upto_region 7 with (fail)
       refine wp_region_segs [([0,1,2,3,4,5,6,7,8,9,10,11],12)] [13] [] (by kernel_rfl) (by kernel_rfl) ?_;simp only [q2c,wpSegs];have af:=cell_regrown (w:=wj.drew) e0;have ae:=cell_regrown (w:=wj.drew) e1;have ad:=cell_regrown (w:=wj.drew) e2;have ac:=cell_regrown (w:=wj.drew) W;have ab:=cell_regrown (w:=wj.drew) e4;have bc:=cell_regrown (w:=wj.drew) d0;clear e0 e1 e2 W e4 d0;have A:Hid (Below (wj).heap.size (wj) (wj).drew):=zi.drew
       repeat (first | go_big_quiet_step (fail) | quiet_step (fail))
       refine wpQuiet_nil ?_;refine ⟨rfl,λ wy hby=> ?_⟩;go_simp;simp only [uponV];have J:=hid (A.out.trans (hby.mono A.out.size));refine (HI.out _ (HX.out.mono NoE.mono J.out)).mono ?_;rintro e T ⟨q,rfl,U,I⟩;refine ⟨_,rfl,I,?_⟩;have HQ:=hid U;replace A:=hid (J.out.trans (I.mono J.out.size));clear I hby J U;go_simp
       repeat (first | go_big_quiet_step (fail) | quiet_step (fail))
       refine wpQuiet_nil ?_;intro wz C;replace A:=hid (A.out.trans (C.mono A.out.size));clear C;simp only [wpList];have Hz:=hid (O.out.trans (A.out.mono O.out.size));cases q with
       | false=>
        go_wp2;go_ret;exact ⟨false,rfl,(λ h=> (by cases h)),Hz.out⟩
       | true=>
        go_wp2;go_roundw
        case rel=> exact ⟨j+1,by omega,by go_num,HT.out (HQ.out (by simp)),Hz⟩
        case measure=> simp [intOf];omega
     . obtain rfl:n2=j:=by omega
       have aW:=hid (all_done (P:=λ z:List Int=> ∀c∈z,0<=c/\c < (n1:Int)) HK.out aG.out);clear HK;go_wp2;go_loopw [5] (λ z wr=> ∃j:Nat,j<=n3/\z=qi j/\Hid (∀i (h:i < y.fks.length),i < j->(∀c∈y.fks[i].cols,0<=c/\c < (n1:Int))/\∃(i2 p:Nat) (q:Tb),y.fks[i].table=i2/\y.fks[i].key=p/\S[i2]? =some q/\p < q.keys.length)/\Hid (Below w.heap.size w wr)) (λ z _=> n3 - (intOf z).toNat)
       case atStart=> exact ⟨0,zero_le _,rfl,(λ i _ h=> absurd h (by omega)),O⟩
       case round=>
        obtain ⟨j,hj,rfl,HK,O⟩:=hrel
        rename World=> wj
        have e0:=(O.out.cell (p:=⟨V,os+k * 5,none⟩) H.out).trans HE.out.1;have e1:=(O.out.cell (p:=⟨V,os+k * 5+1,none⟩) H.out).trans HE.out.2.1;have e2:=(O.out.cell (p:=⟨V,os+k * 5+2,none⟩) H.out).trans HE.out.2.2.1;have W:=(O.out.cell (p:=⟨V,os+k * 5+3,none⟩) H.out).trans HE.out.2.2.2.1;have e4:=(O.out.cell (p:=⟨V,os+k * 5+4,none⟩) H.out).trans HE.out.2.2.2.2;by_cases hlt2:j < n3
        . have G:j < y.fks.length:=by rw [aF.out];exact hlt2
          obtain ⟨b2,o2,a12,an,rfl,aB,d0,d1,d2,hx⟩:=FkAt.cell (HD.out.fks.mono FkE.mono O.out) j G;have HT:=hid λ (h:(∀c∈y.fks[j].cols,0<=c/\c < (n1:Int))/\∃(i p:Nat) (q:Tb),y.fks[j].table=i/\y.fks[j].key=p/\S[i]? =some q/\p < q.keys.length)=> snoc_all (P:=λ f:Fk=> (∀c∈f.cols,0<=c/\c < (n1:Int))/\∃(i2 p:Nat) (q:Tb),f.table=i2/\f.key=p/\S[i2]? =some q/\p < q.keys.length) HK.out G h;generalize y.fks[j]=z at *;obtain ⟨mz,aa⟩:=gx z.cols.length
          obtain ⟨zt,av⟩:=gx z.table
          obtain ⟨zp,aw⟩:=gx z.key
          rw [av] at d1 HT;rw [aw] at d2 HT;have HI:=hid λ w' h=> bIns_calls tn a1 n1 k1 (qs a2 n2 k2) (qs (some ⟨b2,o2,none⟩) n3 k3) (qs a4 n4 k4) z.cols a12 an w' h;simp only [aa] at HI;have HX:=hid hx;rw [aa] at d0 HX;have aN:(0:Int)<=(j:Int):=by omega
          have jj:(j:Int) < (n3:Int):=by omega
          clear G hx aa av aw;go_wp2_with (refine wpList_store_row rfl _ _ _ rfl _ rfl rfl (VarIs.new _ _ _) rfl (by kernel_rfl) rfl ?_);intro D V5 A5;clear W d0 d1 d2;have au:Hid (Below wj.heap.size wj D):=(zi.alloc lr _).trans (A5.out.below (by simp) (λ k hk=> by show ¬ k=_;omega));clear A5;have L:=hid (O.out.trans (au.out.mono O.out.size));replace HX:=hid (HX.out.mono NoE.mono au.out);have h0:=V5.out.a0;have h1:=V5.out.a1;have K:=V5.out.a2;have e0:=(L.out.cell (p:=⟨V,os+k * 5,none⟩) H.out).trans HE.out.1;have e1:=(L.out.cell (p:=⟨V,os+k * 5+1,none⟩) H.out).trans HE.out.2.1;have e2:=(L.out.cell (p:=⟨V,os+k * 5+2,none⟩) H.out).trans HE.out.2.2.1;have W:=(L.out.cell (p:=⟨V,os+k * 5+3,none⟩) H.out).trans HE.out.2.2.2.1;have e4:=(L.out.cell (p:=⟨V,os+k * 5+4,none⟩) H.out).trans HE.out.2.2.2.2;go_upto_region 13 with (fail)
          go_cut [95] from 60 to 94 (λ z95 wx=> ∃q:Bool,z95=.bool q/\Hid (q=false->(∀c∈z.cols,0<=c/\c < (n1:Int))/\∃(i p:Nat) (q:Tb),zt=i/\zp=p/\S[i]? =some q/\p < q.keys.length)/\Hid (Below D.heap.size D wx))
          case first=>
           by_cases g0:zt < 0
           . refine wp_region_segs [([0,1,2,3,4,5],6)] [7,8,9,10,11,12,13,14,15,16,17,18,19,20,21,22,23,24,25,26,27,28,29,30,31,32,33,34,35] [] (by kernel_rfl) (by kernel_rfl) ?_
             simp only [q2c,wpSegs];have af:=cell_regrown (w:=D.drew) e0;have ae:=cell_regrown (w:=D.drew) e1;have ad:=cell_regrown (w:=D.drew) e2;have ac:=cell_regrown (w:=D.drew) W;have ab:=cell_regrown (w:=D.drew) e4;have ai:=cell_regrown (w:=D.drew) h0;clear h1 K e0 e1 e2 W e4 h0;have A:Hid (Below (D).heap.size (D) (D).drew):=zi.drew
             repeat (first | go_big_quiet_step (fail) | quiet_step (fail))
             refine wpQuiet_nil ?_;refine ⟨rfl,λ wy hby=> ?_⟩;go_simp;simp only [uponV];have J:=hid (A.out.trans (hby.mono A.out.size));refine (HI.out _ (HX.out.mono NoE.mono J.out)).mono ?_;rintro e T ⟨q,rfl,U,I⟩;refine ⟨_,rfl,I,?_⟩;have HQ:=hid U;replace A:=hid (J.out.trans (I.mono J.out.size));clear I hby J U;have F:=(V5.out.below A.out V5.out.lt)
             have h1:=F.a1;have K:=F.a2;clear F;have ah:=cell_regrown (w:=T) h1;have ag:=cell_regrown (w:=T) K;clear h1 K;cases q with
             | false=>
              go_simp
              repeat (first | go_big_quiet_step (fail) | quiet_step (fail))
              refine wpQuiet_nil ?_;intro wz C;replace A:=hid (A.out.trans (C.mono A.out.size));clear C;simp only [wpList];go_wp2;go_meet;exact ⟨true,rfl,(λ h=> (by cases h)),A⟩
             | true=>
              go_simp
              repeat (first | go_big_quiet_step (fail) | quiet_step (fail))
              refine wpQuiet_nil ?_;intro wz C;replace A:=hid (A.out.trans (C.mono A.out.size));clear C;simp only [wpList];go_wp2;go_meet;exact ⟨true,rfl,(λ h=> (by cases h)),A⟩
           by_cases g1:(k:Int) < zt
           . refine wp_region_segs [([0,1,2,3,4,5],6)] [7,8,9,10,11,12,13,14,15,16,17,18,19,20,21,22,23,24,25,26,27,28,29,30,31,32,33,34,35] [] (by kernel_rfl) (by kernel_rfl) ?_
             simp only [q2c,wpSegs];have af:=cell_regrown (w:=D.drew) e0;have ae:=cell_regrown (w:=D.drew) e1;have ad:=cell_regrown (w:=D.drew) e2;have ac:=cell_regrown (w:=D.drew) W;have ab:=cell_regrown (w:=D.drew) e4;have ai:=cell_regrown (w:=D.drew) h0;clear h1 K e0 e1 e2 W e4 h0;have A:Hid (Below (D).heap.size (D) (D).drew):=zi.drew
             repeat (first | go_big_quiet_step (fail) | quiet_step (fail))
             refine wpQuiet_nil ?_;refine ⟨rfl,λ wy hby=> ?_⟩;go_simp;simp only [uponV];have J:=hid (A.out.trans (hby.mono A.out.size));refine (HI.out _ (HX.out.mono NoE.mono J.out)).mono ?_;rintro e T ⟨q,rfl,U,I⟩;refine ⟨_,rfl,I,?_⟩;have HQ:=hid U;replace A:=hid (J.out.trans (I.mono J.out.size));clear I hby J U;have F:=(V5.out.below A.out V5.out.lt)
             have h1:=F.a1;have K:=F.a2;clear F;have ah:=cell_regrown (w:=T) h1;have ag:=cell_regrown (w:=T) K;clear h1 K;cases q with
             | false=>
              go_simp
              repeat (first | go_big_quiet_step (fail) | quiet_step (fail))
              refine wpQuiet_nil ?_;intro wz C;replace A:=hid (A.out.trans (C.mono A.out.size));clear C;simp only [wpList];go_wp2;go_meet;exact ⟨true,rfl,(λ h=> (by cases h)),A⟩
             | true=>
              go_simp
              repeat (first | go_big_quiet_step (fail) | quiet_step (fail))
              refine wpQuiet_nil ?_;intro wz C;replace A:=hid (A.out.trans (C.mono A.out.size));clear C;simp only [wpList];go_wp2;go_meet;exact ⟨true,rfl,(λ h=> (by cases h)),A⟩
           by_cases g2:zp < 0
           . refine wp_region_segs [([0,1,2,3,4,5],6)] [7,8,9,10,11,12,13,14,15,16,17,18,19,20,21,22,23,24,25,26,27,28,29,30,31,32,33,34,35] [] (by kernel_rfl) (by kernel_rfl) ?_
             simp only [q2c,wpSegs];have af:=cell_regrown (w:=D.drew) e0;have ae:=cell_regrown (w:=D.drew) e1;have ad:=cell_regrown (w:=D.drew) e2;have ac:=cell_regrown (w:=D.drew) W;have ab:=cell_regrown (w:=D.drew) e4;have ai:=cell_regrown (w:=D.drew) h0;clear h1 K e0 e1 e2 W e4 h0;have A:Hid (Below (D).heap.size (D) (D).drew):=zi.drew
             repeat (first | go_big_quiet_step (fail) | quiet_step (fail))
             refine wpQuiet_nil ?_;refine ⟨rfl,λ wy hby=> ?_⟩;go_simp;simp only [uponV];have J:=hid (A.out.trans (hby.mono A.out.size));refine (HI.out _ (HX.out.mono NoE.mono J.out)).mono ?_;rintro e T ⟨q,rfl,U,I⟩;refine ⟨_,rfl,I,?_⟩;have HQ:=hid U;replace A:=hid (J.out.trans (I.mono J.out.size));clear I hby J U;have F:=(V5.out.below A.out V5.out.lt)
             have h1:=F.a1;have K:=F.a2;clear F;have ah:=cell_regrown (w:=T) h1;have ag:=cell_regrown (w:=T) K;clear h1 K;cases q with
             | false=>
              go_simp
              repeat (first | go_big_quiet_step (fail) | quiet_step (fail))
              refine wpQuiet_nil ?_;intro wz C;replace A:=hid (A.out.trans (C.mono A.out.size));clear C;simp only [wpList];go_wp2;go_meet;exact ⟨true,rfl,(λ h=> (by cases h)),A⟩
             | true=>
              go_simp
              repeat (first | go_big_quiet_step (fail) | quiet_step (fail))
              refine wpQuiet_nil ?_;intro wz C;replace A:=hid (A.out.trans (C.mono A.out.size));clear C;simp only [wpList];go_wp2;go_meet;exact ⟨true,rfl,(λ h=> (by cases h)),A⟩
           obtain ⟨t,rfl⟩:∃t:Nat,zt=t:=⟨zt.toNat,by omega⟩
           obtain ⟨p,rfl⟩:∃t:Nat,zp=t:=⟨zp.toNat,by omega⟩
           have az:t < S.length:=by have:=HN.out;omega
           obtain ⟨x1,y1,x2,y2,x3,y3,x4,y4,-,-,-,M,-⟩:=Sch.cells HS.out t az;have aT:Hid (S[t]? =some S[t]):=getElem?_eq_getElem az;obtain ⟨mq,ar⟩:=gx ((S[t]).keys.length)
           rw [ar] at M;have aV:=hid ar;have ak:=hid M;clear M;have bb:(0:Int)<=(t:Int):=by omega
           have tt:(t:Int) < (n:Int):=by have:=HN.out;omega
           clear ar;by_cases g3:(mq:Int)<=(p:Int)
           . refine wp_region_segs [([0,1,2,3,4,5],6)] [7,8,9,10,11,12,13,14,15,16,17,18,19,20,21,22,23,24,25,26,27,28,29,30,31,32,33,34,35] [] (by kernel_rfl) (by kernel_rfl) ?_
             simp only [q2c,wpSegs];have af:=cell_regrown (w:=D.drew) e0;have ae:=cell_regrown (w:=D.drew) e1;have ad:=cell_regrown (w:=D.drew) e2;have ac:=cell_regrown (w:=D.drew) W;have ab:=cell_regrown (w:=D.drew) e4;have ai:=cell_regrown (w:=D.drew) h0;clear h1 K e0 e1 e2 W e4 h0;have A:Hid (Below (D).heap.size (D) (D).drew):=zi.drew
             repeat (first | go_big_quiet_step (fail) | quiet_step (fail))
             refine wpQuiet_nil ?_;refine ⟨rfl,λ wy hby=> ?_⟩;go_simp;simp only [uponV];have J:=hid (A.out.trans (hby.mono A.out.size));refine (HI.out _ (HX.out.mono NoE.mono J.out)).mono ?_;rintro e T ⟨q,rfl,U,I⟩;refine ⟨_,rfl,I,?_⟩;have HQ:=hid U;replace A:=hid (J.out.trans (I.mono J.out.size));clear I hby J U;have F:=(V5.out.below A.out V5.out.lt)
             have h1:=F.a1;have K:=F.a2;clear F;have M:=((L.out.trans (A.out.mono L.out.size)).cell (p:=⟨V,os+t * 5+2,none⟩) H.out).trans ak.out;have ah:=cell_regrown (w:=T) h1;have ag:=cell_regrown (w:=T) K;have kg:=cell_regrown (w:=T) M;clear M;clear h1 K;cases q with
             | false=>
              go_simp
              repeat (first | go_big_quiet_step (fail) | quiet_step (fail))
              refine wpQuiet_nil ?_;intro wz C;replace A:=hid (A.out.trans (C.mono A.out.size));clear C;simp only [wpList];go_wp2;go_meet;exact ⟨true,rfl,(λ h=> (by cases h)),A⟩
             | true=>
              go_simp
              repeat (first | go_big_quiet_step (fail) | quiet_step (fail))
              refine wpQuiet_nil ?_;intro wz C;replace A:=hid (A.out.trans (C.mono A.out.size));clear C;simp only [wpList];go_wp2;go_meet;exact ⟨true,rfl,(λ h=> (by cases h)),A⟩
           . refine wp_region_segs [([0,1,2,3,4,5],6)] [7,8,9,10,11,12,13,14,15,16,17,18,19,20,21,22,23,24,25,26,27,28,29,30,31,32,33,34,35] [] (by kernel_rfl) (by kernel_rfl) ?_
             simp only [q2c,wpSegs];have af:=cell_regrown (w:=D.drew) e0;have ae:=cell_regrown (w:=D.drew) e1;have ad:=cell_regrown (w:=D.drew) e2;have ac:=cell_regrown (w:=D.drew) W;have ab:=cell_regrown (w:=D.drew) e4;have ai:=cell_regrown (w:=D.drew) h0;clear h1 K e0 e1 e2 W e4 h0;have A:Hid (Below (D).heap.size (D) (D).drew):=zi.drew
             repeat (first | go_big_quiet_step (fail) | quiet_step (fail))
             refine wpQuiet_nil ?_;refine ⟨rfl,λ wy hby=> ?_⟩;go_simp;simp only [uponV];have J:=hid (A.out.trans (hby.mono A.out.size));refine (HI.out _ (HX.out.mono NoE.mono J.out)).mono ?_;rintro e T ⟨q,rfl,U,I⟩;refine ⟨_,rfl,I,?_⟩;have HQ:=hid U;replace A:=hid (J.out.trans (I.mono J.out.size));clear I hby J U;have F:=(V5.out.below A.out V5.out.lt)
             have h1:=F.a1;have K:=F.a2;clear F;have M:=((L.out.trans (A.out.mono L.out.size)).cell (p:=⟨V,os+t * 5+2,none⟩) H.out).trans ak.out;have ah:=cell_regrown (w:=T) h1;have ag:=cell_regrown (w:=T) K;have kg:=cell_regrown (w:=T) M;clear M;clear h1 K;cases q with
             | false=>
              go_simp
              repeat (first | go_big_quiet_step (fail) | quiet_step (fail))
              refine wpQuiet_nil ?_;intro wz C;replace A:=hid (A.out.trans (C.mono A.out.size));clear C;simp only [wpList];go_wp2;go_meet;exact ⟨true,rfl,(λ h=> (by cases h)),A⟩
             | true=>
              go_simp
              repeat (first | go_big_quiet_step (fail) | quiet_step (fail))
              refine wpQuiet_nil ?_;intro wz C;replace A:=hid (A.out.trans (C.mono A.out.size));clear C;simp only [wpList];go_wp2;go_meet;exact ⟨false,rfl,(λ _=> ⟨HQ.out (by simp),t,p,_,rfl,rfl,aT.out,by have:=aV.out;omega⟩),A⟩
          obtain ⟨q,rfl,HQ,Hx⟩:=hcut
          rename World=> wx
          clear V5 h0 h1 K e0 e1 e2 W e4 au;have Hz:=hid (L.out.trans (Hx.out.mono L.out.size));cases q with
          | true=>
           go_wp2;go_ret;exact ⟨false,rfl,(λ h=> (by cases h)),Hz.out⟩
          | false=>
           go_wp2;go_roundw
           case rel=> exact ⟨j+1,by omega,by go_num,HT.out (HQ.out (by simp)),Hz⟩
           case measure=> simp [intOf];omega
        . obtain rfl:n3=j:=by omega
          have aX:=hid (all_done (P:=λ f:Fk=> (∀c∈f.cols,0<=c/\c < (n1:Int))/\∃(i2 p:Nat) (q:Tb),f.table=i2/\f.key=p/\S[i2]? =some q/\p < q.keys.length) HK.out aF.out);go_wp2;go_roundw
          case rel=> exact ⟨k+1,by omega,by go_num,(snoc_all (P:=TbV S) HG.out aI.out (by rw [aS.out aI.out];exact ⟨by rw [aH.out];exact aW.out,by rw [aH.out];exact aX.out⟩)),O⟩
          case measure=> simp [intOf];omega
  . obtain rfl:n=k:=by omega
    have aU:=hid (tbI_of (all_done (P:=TbV S) HG.out HN.out) HZ.out);clear HG;go_wp2;go_loopw [7,8] (λ v z wr=> ∃k:Nat,k<=n/\z=qi k/\Hid (Bl 40 22 SttE w.heap.size (λ _=> False) wr ((S.take k).map (defS S)) v)/\Hid (Below w.heap.size w wr)) (λ _ z _=> n - (intOf z).toNat)
    case atStart=> exact ⟨0,zero_le _,rfl,Bl.nil _ _ _ _ _ _,Hb⟩
    case round=>
     clear Hb;obtain ⟨k,hk,rfl,HB,Hb⟩:=hrel;by_cases hlt:k < n
     . have G:k < S.length:=by rw [HN.out];exact hlt
       have HT:Hid ((S.take (k+1)).map (defS S)=(S.take k).map (defS S)++[defS S S[k]]):=by show _=_;rw [<-take_append_getElem G,map_append];rfl
       have aD:Hid (((S.take k).map (defS S)).length<=1000000000):=by show _<=_;rw [length_map,length_take];have:=HZ.out.1;omega
       have aq:=HZ.out.2 _ (getElem_mem G);have aJ:=hid (bDefn_calls S sa sc k G w wr (by rw [HN.out];exact HS.out) Hb.out (aU.out _ (getElem_mem G)) (by have:=aq.keys;omega) (by have:=aq.fks;omega));rw [HN.out] at aJ;generalize S[k]=y at *;have aM:(0:Int)<=(k:Int):=by omega
       have kk:(k:Int) < (n:Int):=by omega
       clear G aq
       rename World=> wo
       go_wp2_with fail;refine aJ.out.mono ?_;rintro e w1 ⟨v,rfl,hv,I⟩;have H1:=hid I;have HV:=hid hv;clear I hv;have aL:=hid (HB.out.below H1.out);have aE:=hid (Hb.out.trans (H1.out.mono Hb.out.size));obtain ⟨a1,n1,k1,a2,n2,k2,a3,n3,k3,a4,n4,k4,a5,n5,k5,a6,n6,k6,a7,n7,k7,a8,n8,k8,a9,n9,k9,a10,am,ap,a11,al,ao,rfl,-⟩:=HV.out.here.shapes;have HO:Hid (∀u∈[qi 1,qt y.name,qs a1 n1 k1,qs a2 n2 k2,qs a3 n3 k3,qs a4 n4 k4,qs a5 n5 k5,qs a6 n6 k6,qs a7 n7 k7,qs a8 n8 k8,qi 0,qt ⟨#[]⟩,qt ⟨#[]⟩,qi 0,qi 0,qi 0,qt ⟨#[]⟩,qs a9 n9 k9,qs a10 am ap,qs a11 al ao,qi 0,qt ⟨#[]⟩],u.oneCell'=true):=one_stt HV.out.here;obtain ⟨i0,ii,aQ,aP,aO⟩:=info_parts Tryz.info40';have aj:(defS S y).cells ⟨qs a1 n1 k1,qs a2 n2 k2,qs a3 n3 k3,qs a4 n4 k4,qs a5 n5 k5,qs a6 n6 k6,qs a7 n7 k7,qs a8 n8 k8,qs a9 n9 k9,qs a10 am ap,qs a11 al ao⟩=[qi 1,qt y.name,qs a1 n1 k1,qs a2 n2 k2,qs a3 n3 k3,qs a4 n4 k4,qs a5 n5 k5,qs a6 n6 k6,qs a7 n7 k7,qs a8 n8 k8,qi 0,qt ⟨#[]⟩,qt ⟨#[]⟩,qi 0,qi 0,qi 0,qt ⟨#[]⟩,qs a9 n9 k9,qs a10 am ap,qs a11 al ao,qi 0,qt ⟨#[]⟩]:=rfl;rw [aj];clear aj;go_wp2_with (at_builtin;go_loud (refine wpList_push (E:=SttE) rfl _ _ 110 rfl i0 _ 392 Tryz.underlying110 ii aQ aP aO rfl (by decide) (by decide) rfl aL.out (defS S y) [_,_,_,_,_,_,_,_,_,_,_,_,_,_,_,_,_,_,_,_,_,_] 40 rfl rfl HO.out ?hE aD.out aE.out.size (λ _ h=> h.elim) ?_))
       case hE=>
        refine (HV.out.imp λ w h=> ⟨_,rfl,h⟩).sub λ j _ hj=> ?_;rcases hj with hj | hj
        . exact hj.elim
        . exact HB.out.ge j hj
       intro v' w' aY aC _ _;have aR:=hid (aE.out.trans aC.out);clear aC aL;go_wp2;go_roundw
       case rel=> exact ⟨k+1,by omega,by go_num,bl_cast aY.out (by rw [HT.out];simp only [List.map_take]),aR⟩
       case measure=> simp [intOf];omega
     . obtain rfl:n=k:=by omega
       have ax:(S.take n).map (defS S)=S.map (defS S):=by rw [<-HN.out,take_length]
       rw [ax] at HB;obtain ⟨va,vc,hv⟩:=HB.out.shape;rw [length_map,HN.out] at hv;subst hv;have aK:=hid (bBuild_calls (S.map (defS S)) va vc wr (by rw [length_map,HN.out];exact HB.out.at (by rw [length_map,HN.out];omega)) (λ s hs=> by obtain ⟨y,hy,rfl⟩:=List.mem_map.1 hs;exact stb_def HZ.out hy));rw [length_map,HN.out] at aK;clear ax
       rename World=> wo
       go_wp2_with fail;refine aK.out.mono ?_;rintro e w1 ⟨v,i,k,rfl,I⟩;have H1:=hid (Hb.out.trans (I.mono Hb.out.size));clear I;go_wp2;go_ret;exact ⟨_,rfl,(λ _=> trivial),H1.out⟩
end
end
end Go.Proofs.YtcomoomndgbckaaGreat
