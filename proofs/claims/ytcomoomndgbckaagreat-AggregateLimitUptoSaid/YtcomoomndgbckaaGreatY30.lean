/- Part 30 of the proof. -/
import Derived.Test.YtcomoomndgbckaaGreatY17
import Derived.Test.YtcomoomndgbckaaGreatY28
set_option maxHeartbeats 16000000
set_option maxRecDepth 100000
open Go Go.RowKit
open Go.Lib (hid)
open List (getElem?_toArray getElem_mem length_append nil_append mem_cons mem_singleton cons_append mem_append getElem?_eq_getElem drop_eq_getElem_cons take_length length_cons mem_iff_getElem take_append_drop not_mem_nil getElem?_append_right)
open Nat (zero_le le_succ lt_succ_self le_trans)
namespace Go.Proofs.YtcomoomndgbckaaGreat
noncomputable section
section
open Go.Sort
def SrsOk (l:List Srs):Prop:=(∀i (h:i < l.length),l[i].first=((l.take i).flatMap (·.table.cols)).length)/\∀x∈l,x.table.cols.length<=1100000
theorem SrsOk.nil:SrsOk []:=⟨λ i h=> absurd h (by simp),λ x h=> by cases h⟩
theorem SrsOk.flat {l:List Srs} (h:SrsOk l):(l.flatMap (·.table.cols)).length<=l.length * 1100000:=by
 obtain ⟨-,h⟩:=h
 induction l with
 | nil=> simp
 | cons x l ih=>
  have h1:=h x (by simp);have o:=ih λ y hy=> h y (by simp [hy]);simp only [List.flatMap_cons,length_append,length_cons];omega
theorem SrsOk.snoc {l:List Srs} (h:SrsOk l):∀x:Srs,x.first=(l.flatMap (·.table.cols)).length->x.table.cols.length<=1100000->SrsOk (l++[x]):=λ x h1 h2=> by
 refine ⟨λ i hi=> ?_,λ y o=> ?_⟩
 . by_cases hlt:i < l.length
   . rw [List.getElem_append_left hlt,h.1 i hlt,List.take_append_of_le_length (by omega)]
   . obtain rfl:i=l.length:=by simp at hi;omega
     rw [List.getElem_append_right lr,List.take_append_of_le_length lr,take_length];simp [h1]
 . rcases mem_append.1 o with o | o
   . exact h.2 y o
   . rw [mem_singleton.1 o];exact h2
theorem SrsOk.typed {l:List Srs} (h:SrsOk l):SrcT l ((l.flatMap (·.table.cols)).map (·.type)):=by
 rintro N T ⟨x,q,j,o,rfl,rfl⟩;obtain ⟨i,hi,rfl⟩:=mem_iff_getElem.1 q;rw [h.1 i hi];refine ⟨by omega,?_⟩;have e:((((l.take i).flatMap (·.table.cols)).length:Int)+j).toNat=((l.take i).flatMap (·.table.cols)).length+j:=by omega
 have A:l.flatMap (·.table.cols)=(l.take i).flatMap (·.table.cols)++(l[i].table.cols++(l.drop (i+1)).flatMap (·.table.cols)):=by
  conv=> lhs;rw [<-take_append_drop i l,List.flatMap_append,drop_eq_getElem_cons hi,List.flatMap_cons]
 rw [e,List.getElem?_map,A,getElem?_append_right (by omega),Nat.add_sub_cancel_left,List.getElem?_append_left o,getElem?_eq_getElem o];rfl
theorem one_sx {n1 n2:ByteArray} {a1 a2 a3 a4:Option Addr} {m1 m2 m3 m4 c1 c2 c3 c4:Nat} {i:Int}:∀u∈[qt n1,qt n2,qs a1 m1 c1,qs a2 m2 c2,qs a3 m3 c3,qs a4 m4 c4,qi i],u.oneCell'=true:=by
 intro u o;simp only [mem_cons,not_mem_nil,or_false] at o;rcases o with rfl | rfl | rfl | rfl | rfl | rfl | rfl <;> rfl
theorem Tryz.info136':(Tryz.prog.info? 136).map (λ i=> (i.zero,i.size,i.bytes))=some (some (.agg #[qt ⟨#[]⟩,qt ⟨#[]⟩,q0,q0,q0,q0,qi 0]),7,136):=by kernel_rfl
def NoB (_:Nat):Prop:=False
def SrcP (w:World) (e:Ending) (w':World):Prop:=∃(v1 v2:Value) (f:Int),e=.returned (.tuple #[v1,v2,qi f])/\(∃a n c,v1=qs a n c)/\(∃a n c,v2=qs a n c)/\(f=0->∃l:List Srs,SrsOk l/\l.length<=3/\LsAt 7 SxE w' l v1)/\Below w.heap.size w w'
theorem cSrc_calls (s:Stt) (v:StV) (w:World) (h:SttAt w s v) (S:List Tb) (sa:Option Addr) (sc:Nat) (hsc:SchAt w S (qs sa S.length sc)) (hc9:∀t∈S,t.cols.length<=1100000):Calls Tryz.prog 88 #[qs sa S.length sc,.agg (s.cells v).toArray] w (SrcP w):=by
 obtain ⟨a1,n1,k1,a2,n2,k2,a3,n3,k3,a4,n4,k4,a5,n5,k5,a6,n6,k6,a7,n7,k7,a8,U,k8,a9,n9,k9,a10,aD,ag,a11,aC,af,rfl,h1,m1,O,m2,h3,m3,h4,m4,h5,m5,h6,m6,h7,m7,h8,m8,h9,m9,aP,bL,aO,bK⟩:=h.shapes;have bC:=hid h1;have bB:=hid O;have bA:=hid h3;have bz:=hid h4;have bx:=hid h5;have bw:=hid h6;have bv:=hid h7;have aV:=hid h8;have bu:=hid h9;have aX:=hid aP;have aW:=hid aO;clear h1 O h3 h4 h5 h6 h7 h8 h9 aP aO;have aS:=hid hsc;have bf:=hid hc9;have HD:Hid (SttAt w s ⟨qs a1 s.create.cols.length k1,qs a2 s.create.keys.length k2,qs a3 s.create.fks.length k3,qs a4 s.create.checks.length k4,qs a5 s.values.length k5,qs a6 s.sets.length k6,qs a7 s.items.length k7,qs a8 s.src.length k8,qs a9 s.cond.args.length k9,qs a10 s.group.length ag,qs a11 s.order.length af⟩):=by show SttAt _ _ _;rw [bC.out,bB.out,bA.out,bz.out,bx.out,bw.out,bv.out,aV.out,bu.out,aX.out,aW.out];exact h
 clear h hsc hc9;simp only [Stt.cells,Ex.cells,cons_append,nil_append];obtain ⟨aE,hl⟩:=gx s.limit
 have HL:=hid hl;obtain ⟨kd,aw⟩:=gx s.kind
 obtain ⟨tb,au⟩:=gx s.table
 obtain ⟨wo,ao⟩:=gx s.cond.op
 obtain ⟨wt,an⟩:=gx s.cond.table
 obtain ⟨wn,ap⟩:=gx s.cond.name
 obtain ⟨wi,ar⟩:=gx s.cond.index
 obtain ⟨wk,aq⟩:=gx s.cond.v.kind
 obtain ⟨wv,am⟩:=gx s.cond.v.int
 obtain ⟨wx,al⟩:=gx s.cond.v.text
 obtain ⟨nm,av⟩:=gx s.name
 rw [aw,au,ao,an,ap,ar,aq,am,al,av,hl];have HK:=hid aw;have aa:=hid au;have bW:=hid av;have HC:=hid (And.intro ao (And.intro an (And.intro ap (And.intro ar (And.intro aq (And.intro am al))))));clear aw au ao an ap ar aq am al av hl;have Hv:=hid (VarIs.new w (q1a kd tb a1 n1 k1 a2 n2 k2 a3 n3 k3 a4 n4 k4 a5 n5 k5 a6 n6 k6 a7 n7 k7 a8 U k8 wo wt wn wi wk wv wx a9 n9 k9 a10 aD ag a11 aC af aE nm) 40);have W:Hid (∀o,Below w.heap.size w (w.alloc o)):=λ o=> zi.alloc lr o;obtain ⟨i0,ii,bp,bo,bn⟩:=info_parts Tryz.info136';obtain ⟨j0,jj,bm,bl,bk⟩:=info_parts Tryz.info3';go_enter Tryz.func88,Tryz.ntmps88;have c9:=(Hv.below zi (lt_succ_self _)).a9;by_cases h3:(3:Int) < (U:Int)
 . go_wp2
   go_ret3;exact ⟨q0,q0,3,rfl,⟨none,0,0,rfl⟩,⟨none,0,0,rfl⟩,(λ h=> absurd h (by decide)),(W.out _)⟩
 have bO:U<=3:=by omega
 go_wp2;clear c9;go_loopw [7,8,9,10] (λ v y z i wr=> ∃(k:Nat) (l:List Srs) (ts:List Int),k<=U/\i=qi k/\z=qi ((l.flatMap (·.table.cols)).length:Nat)/\Hid (l.length=k)/\Hid (ts.length=k)/\Hid (Bl 136 7 SxE (w.heap.size+1) (λ j=> NoB j\/y.ownBlock=some j) wr l v)/\Hid (Bl 3 1 NoE (w.heap.size+1) (λ j=> NoB j\/v.ownBlock=some j) wr ts y)/\Hid (∀j,v.ownBlock=some j->y.ownBlock≠some j)/\Hid (SrsOk l)/\Hid (Below (w.heap.size+1) (w.alloc (.cells (q1a kd tb a1 n1 k1 a2 n2 k2 a3 n3 k3 a4 n4 k4 a5 n5 k5 a6 n6 k6 a7 n7 k7 a8 U k8 wo wt wn wi wk wv wx a9 n9 k9 a10 aD ag a11 aC af aE nm) 40)) wr)) (λ _ _ _ i _=> U - (intOf i).toNat)
 case atStart=> exact ⟨0,[],[],zero_le _,rfl,rfl,rfl,rfl,Bl.nil _ _ _ _ _ _,Bl.nil _ _ _ _ _ _,(λ j h=> by cases h),SrsOk.nil,zi⟩
 case round=>
  obtain ⟨k,l,ts,hk,rfl,rfl,D,aY,ab,aA,aU,HF,Hb⟩:=hrel
  rename World=> wl
  have ax:Hid (w.heap.size+1<=wl.heap.size):=by have:=Hb.size;simp at this;exact this
  have ay:=hid ((W.out _).trans (Hb.mono (le_succ _)));have ba:Hid ((l.flatMap (·.table.cols)).length<=3300000):=by have h1:=HF.flat;have:=D.out;show _<=_;omega
  have aZ:=hid (HF.snoc);obtain ⟨Fz,ak⟩:=gx ((l.flatMap (·.table.cols)).length)
  have bD:=hid ak;rw [ak] at ba aZ ⊢;clear ak;have c9:=(Hv.below Hb (lt_succ_self _)).a9;by_cases hlt:k < U
  . have aF:k < s.src.length:=by rw [aV.out];exact hlt
    have K:=HD.src.mono SrE.mono ay;obtain ⟨b,o,rfl,aJ,d0,d1⟩:=SrAt.cell K k aF;generalize s.src[k]=y at *;obtain ⟨yt,ya⟩:=y;simp only at d0 d1;have bh:=hid aJ;have bM:(0:Int)<=(k:Int):=by omega
    have kk:(k:Int) < (U:Int):=by omega
    clear K aF aJ;go_wp2_with fail;refine (bFind_calls S sa sc yt _ (aS.mono TbE.mono ay)).mono ?_;rintro e w1 ⟨p,q,rfl,hp,V⟩;have Hp:=hid hp;have az:=hid (Hb.trans (V.mono ax));have aQ:Hid (w.heap.size+1<=w1.heap.size):=le_trans ax V.size;have L:=hid ((W.out _).trans (az.mono (le_succ _)));have J:=hid (ab.below V);have ae:=hid (aA.below V);have bd:=hid ((V.cell (p:=⟨b,o+k * 2,none⟩) bh).trans d0);have bc:=hid ((V.cell (p:=⟨b,o+k * 2+1,none⟩) bh).trans d1);clear V hp d0 d1 c9 ab aA Hb ax;cases q with
    | false=>
     go_wp2;go_ret3;exact ⟨q0,q0,4,rfl,⟨none,0,0,rfl⟩,⟨none,0,0,rfl⟩,(λ h=> absurd h (by decide)),L⟩
    | true=>
     obtain ⟨br,bq⟩:=Hp.out rfl;obtain ⟨p,rfl⟩:∃j:Nat,p=j:=⟨p.toNat,by omega⟩
     have ah:p < S.length:=by omega
     have d0:=bd.out;have d1:=bc.out;have c9:=(Hv.below az (lt_succ_self _)).a9;clear Hp br bq;go_upto_region 13 with (fail)
     go_cut [46] from 45 to 46 (λ z wx=> ∃q:Bool,z=.bool q/\w1=wx)
     case first=> go_wp2 <;> (go_meet;exact ⟨_,rfl,rfl⟩)
     obtain ⟨q2,rfl,rfl⟩:=hcut;go_step;go_cut [13] from 47 to 52 (λ z wx=> ∃x:ByteArray,z=qt x/\w1=wx)
     case first=> cases q2 <;> (go_wp2;go_meet;exact ⟨_,rfl,rfl⟩)
     obtain ⟨H,rfl,rfl⟩:=hcut;clear d0 d1 c9 bd bc;obtain ⟨va,vc,hv⟩:=J.shape;rw [D.out] at hv;subst hv;go_wp2;go_loopw [14] (λ z wy=> ∃i:Nat,i<=k/\z=qi i/\Hid (Below w1.heap.size w1 wy)) (λ z _=> k - (intOf z).toNat)
     case atStart=> exact ⟨0,zero_le _,rfl,zi⟩
     case round=>
      obtain ⟨i,hi,rfl,Hy⟩:=hrel
      rename World=> wy
      have A:=hid (L.trans (Hy.mono L.size));by_cases hik:i < k
      . have aG:i < l.length:=by rw [D.out];exact hik
        have K:=(J.below Hy).at (by rw [D.out];omega)
        obtain ⟨b2,o2,a12,bS,bV,bJ,bR,bU,bI,bQ,bT,bH,bP,rfl,bF,e0,-,-,-,-,-,-,-⟩:=SxAt.cell K i aG;generalize l[i].name=xn at *;have bN:(0:Int)<=(i:Int):=by omega
        have ii:(i:Int) < (k:Int):=by omega
        clear K aG;by_cases hq:(xn.toList==H.toList)=true
        . go_wp2
          go_ret3;exact ⟨q0,q0,5,rfl,⟨none,0,0,rfl⟩,⟨none,0,0,rfl⟩,(λ h=> absurd h (by decide)),A⟩
        . rw [Bool.not_eq_true] at hq
          go_wp2;go_roundw
          case rel=> exact ⟨i+1,by omega,by go_num,Hy⟩
          case measure=> simp [intOf];omega
      . obtain rfl:k=i:=by omega
        obtain ⟨b5,o5,a1,c1,a2,c2,a3,c3,a4,c4,aM,C,e0,e1,e2,e3,e4,aN⟩:=SchAt.cell aS p ah;subst aM;have bb:=hid e1;have bg:=hid C;replace e0:=(A.cell (p:=⟨b5,o5+p * 5,none⟩) C).trans e0;replace e1:=(A.cell (p:=⟨b5,o5+p * 5+1,none⟩) C).trans e1;replace e2:=(A.cell (p:=⟨b5,o5+p * 5+2,none⟩) C).trans e2;replace e3:=(A.cell (p:=⟨b5,o5+p * 5+3,none⟩) C).trans e3;replace e4:=(A.cell (p:=⟨b5,o5+p * 5+4,none⟩) C).trans e4;have be:=hid (bf.out _ (getElem_mem ah));have aa:Hid (Ind (λ j=> w.heap.size<=j) wy λ w'=> SxE w' ⟨H,S[p],Fz⟩ [qt H,qt S[p].name,qs a1 S[p].cols.length c1,qs a2 S[p].keys.length c2,qs a3 S[p].fks.length c3,qs a4 S[p].checks.length c4,qi Fz]):=Ind.of (λ w' V=> ⟨_,_,_,_,rfl,aN.mono V⟩) A;have bE:=hid (aZ.out ⟨H,S[p],Fz⟩ rfl (bf.out _ (getElem_mem ah)));have aR:Hid (((l++[(⟨H,S[p],Fz⟩:Srs)]).flatMap (·.table.cols)).length=Fz+S[p].cols.length):=by show _=_;simp [bD.out]
        have bG:(0:Int)<=(p:Int):=by omega
        have pp:(p:Int) < (S.length:Int):=by omega
        have bt:S[p].cols.length<=1100000:=be;generalize hT:S[p]=T at *;obtain ⟨m1,bs⟩:=gx T.cols.length
        rw [bs] at bt aR aa bb e1;have M:=hid (J.below Hy);have G:=hid (ae.below Hy);have aB:=hid (az.trans (Hy.mono aQ));clear aN J ae be hT;go_wp2_with (at_builtin;go_loud (refine wpList_pushW (E:=SxE) rfl _ _ 132 rfl i0 _ 136 Tryz.underlying132 ii bp bo bn rfl (by decide) (by decide) rfl M.out ⟨H,T,Fz⟩ [qt H,qt T.name,qs a1 m1 c1,qs a2 T.keys.length c2,qs a3 T.fks.length c3,qs a4 T.checks.length c4,qi Fz] 136 rfl rfl one_sx ?hE (by have:=D.out;omega) (by have:=aB.size;simp at this;omega) ?hX ?_))
        case hX=>
         intro j h;rcases h with h | h
         . exact False.elim h
         . exact (G.ge j h).2
        case hE=>
         refine aa.sub λ j _ h=> ?_;rcases h with (h | h) | h
         . exact False.elim h
         . have:=(G.ge j h).1;show _<=j;omega
         . have:=(M.ge j h).1;show _<=j;omega
        intro v7 w7 I aL aI aj;have ad:=hid (G.beside aI aj λ j h O=> aU.out j O h);have ac:=hid (G.apart aj λ j h O=> aU.out j O h);have H7:=hid (aB.trans aL);clear aL aI aj M G aa e0 e1 e2 e3 e4 aB;go_wp2_with (at_builtin;go_loud (refine wpList_pushW (E:=NoE) rfl _ _ 43 rfl j0 _ 8 Tryz.underlying43 jj bm bl bk rfl (by decide) (by decide) rfl ad.out (p:Int) [_] 3 rfl rfl (one_int _) (Ind.triv λ _=> rfl) (by have:=aY.out;omega) (by have:=H7.size;simp at this;omega) ?hX ?_))
        case hX=>
         intro j h;rcases h with h | h
         . exact False.elim h
         . exact (I.ge j h).2
        intro y8 w8 bi aK aH ai;have bj:=hid (I.beside aH ai λ j h O=> ac.out j O h);have aT:=hid (I.apart ai λ j h O=> ac.out j O h);have H8:=hid (H7.trans aK);have e1:=((((W.out _).trans (H8.mono (le_succ _)))).cell (p:=⟨b5,o5+p * 5+1,none⟩) bg).trans bb;clear aK aH ai I ad H7;go_wp2;clear e1;go_roundw
        case rel=> exact ⟨k+1,_,_,by omega,by go_num,(by have h9:Fz<=3300000:=ba;rw [aR.out,IntWalk.wrap64_in _ (by omega),Int.natCast_add]),(by show _=_;rw [length_append,D.out];rfl),(by show _=_;rw [length_append,aY.out];rfl),bj,bi,aT,bE,H8⟩
        case measure=> simp [intOf];omega
  . obtain rfl:U=k:=by omega
    obtain ⟨va,vc,rfl⟩:=ab.shape;obtain ⟨ya,yc,rfl⟩:=aA.shape;go_wp2;go_ret3;exact ⟨_,_,0,rfl,⟨_,_,_,rfl⟩,⟨_,_,_,rfl⟩,(λ _=> ⟨l,HF,by have:=D.out;omega,ab.at (by have:=D.out;omega)⟩),ay⟩
end
theorem bSmSch_calls (l:List Tb) (la:Option Addr) (lc:Nat) (w:World) (hl:SchAt w l (qs la l.length lc)):Calls Tryz.prog 48 #[qs la l.length lc] w (BoolP True w):=by
 have HL:=hid hl;have h1:l.length<=2000000000000:=by obtain ⟨_,_,e,h⟩:=hl.shape;exact h
 obtain ⟨n,hn⟩:=gx l.length
 have HN:=hid hn;rw [hn] at HL h1 ⊢;clear hl hn;go_enter Tryz.func48,Tryz.ntmps48;go_wp2;go_loopw [3] (λ z wr=> ∃k:Nat,k<=n/\z=qi k/\Hid (Below w.heap.size w wr)) (λ z _=> n - (intOf z).toNat)
 case atStart=> exact ⟨0,zero_le _,rfl,zi⟩
 case round=>
  obtain ⟨k,hk,rfl,A⟩:=hrel
  rename World=> H
  by_cases hlt:k < n
  . have F:k < l.length:=by rw [HN.out];exact hlt
    have C:=HL.mono TbE.mono A;rw [<-HN.out] at C;obtain ⟨b,o,a1,T,a2,k2,a3,k3,a4,k4,rfl,ac,e0,e1,e2,e3,e4,h5⟩:=SchAt.cell C k F;rw [HN.out] at C;generalize l[k]=y at *;obtain ⟨J,ab⟩:=gx y.name
    obtain ⟨O,h1⟩:=gx y.cols.length
    obtain ⟨M,h2⟩:=gx y.keys.length
    obtain ⟨L,h3⟩:=gx y.fks.length
    obtain ⟨K,h4⟩:=gx y.checks.length
    rw [ab] at e0;rw [h1] at e1;rw [h2] at e2;rw [h3] at e3;rw [h4] at e4;rw [h1,h2,h3,h4] at h5;have HD:=hid h5;have ah:=hid h2;have ag:=hid h3;clear C F h5 h1 h2 h3 h4 ab;have Hu:=hid (VarIs.new H #[qt J,qs a1 O T,qs a2 M k2,qs a3 L k3,qs a4 K k4] 108);have I:=hid ((Below.refl H.heap.size H).alloc lr (.cells #[qt J,qs a1 O T,qs a2 M k2,qs a3 L k3,qs a4 K k4] 108));by_cases h10:10 < M
    . go_wp2
      go_ret;exact ⟨false,rfl,(λ h=> (by cases h)),(A.trans (I.mono A.size))⟩
    by_cases h11:10 < L
    . go_wp2
      go_ret;exact ⟨false,rfl,(λ h=> (by cases h)),(A.trans (I.mono A.size))⟩
    have ad:=hid (VarIs.new1 H (.cells #[qt J,qs a1 O T,qs a2 M k2,qs a3 L k3,qs a4 K k4] 108) (q1a 0 J a1 O T none 0 0 none 0 0 a4 K k4 none 0 0 none 0 0 none 0 0 none 0 0 0 ⟨#[]⟩ ⟨#[]⟩ 0 0 0 ⟨#[]⟩ none 0 0 none 0 0 none 0 0 0 ⟨#[]⟩) 40);have V:=hid (I.alloc (by simp) (.cells (q1a 0 J a1 O T none 0 0 none 0 0 a4 K k4 none 0 0 none 0 0 none 0 0 none 0 0 0 ⟨#[]⟩ ⟨#[]⟩ 0 0 0 ⟨#[]⟩ none 0 0 none 0 0 none 0 0 0 ⟨#[]⟩) 40));have ae:Hid (LsAt 22 SttE ((H.alloc (.cells #[qt J,qs a1 O T,qs a2 M k2,qs a3 L k3,qs a4 K k4] 108)).alloc (.cells (q1a 0 J a1 O T none 0 0 none 0 0 a4 K k4 none 0 0 none 0 0 none 0 0 none 0 0 0 ⟨#[]⟩ ⟨#[]⟩ 0 0 0 ⟨#[]⟩ none 0 0 none 0 0 none 0 0 0 ⟨#[]⟩) 40)) [Stt.mk 0 J ⟨y.cols,[],[],y.checks⟩ [] [] [] [] (.mk 0 ⟨#[]⟩ ⟨#[]⟩ 0 ⟨0,0,⟨#[]⟩⟩ []) [] [] 0 ⟨#[]⟩] (qs (some ⟨H.heap.size+1,0,none⟩) 1 1)):=by
     refine .inr ⟨_,0,_,_,rfl,rfl,by simp,by simp,λ i hi=> ?_⟩;obtain rfl:i=0:=by simpa using hi
     refine ⟨[qi 0,qt J,qs a1 O T,q0,q0,qs a4 K k4,q0,q0,q0,q0,qi 0,qt ⟨#[]⟩,qt ⟨#[]⟩,qi 0,qi 0,qi 0,qt ⟨#[]⟩,q0,q0,q0,qi 0,qt ⟨#[]⟩],rfl,λ j hj=> ?_,⟨qs a1 O T,q0,q0,qs a4 K k4,q0,q0,q0,q0,q0,q0,q0⟩,rfl,?_⟩
     . rw [show 0+0 * 22+j=j by omega,ad.cell j]
       simp only [getElem?_toArray]
     . exact ⟨⟨HD.cols.mono ClE.mono V,.inl ⟨rfl,none,rfl⟩,.inl ⟨rfl,none,rfl⟩,HD.checks.mono V⟩,.inl ⟨rfl,none,rfl⟩,.inl ⟨rfl,none,rfl⟩,.inl ⟨rfl,none,rfl⟩,.inl ⟨rfl,none,rfl⟩,.mt,.mt,.inl ⟨rfl,none,rfl⟩⟩
    go_wp2_with fail;refine (bSmall_calls [_] (some ⟨H.heap.size+1,0,none⟩) 1 _ ae).mono ?_;rintro e w3 ⟨q,rfl,-,W⟩;have G:Hid (Below (H.heap.size+1) (H.alloc (.cells #[qt J,qs a1 O T,qs a2 M k2,qs a3 L k3,qs a4 K k4] 108)) w3):=hid ((zi.alloc (by simp) _).trans (W.mono (by simp)));have D:=hid (I.trans (G.mono (le_succ _)));clear W e0 e1 e2 e3 e4 V ad ae;obtain ⟨v1,v2,-⟩:=Hu.below G (lt_succ_self _);have g2:=v2 2;simp only [q2a] at g2;clear v2;cases q with
    | false=>
     go_wp2;go_ret;exact ⟨false,rfl,(λ h=> (by cases h)),(A.trans (D.mono A.size))⟩
    | true=>
     go_wp2;go_loopw [5] (λ z wy=> ∃i:Nat,i<=M/\z=qi i/\Hid (Below (H.heap.size+1) (H.alloc (.cells #[qt J,qs a1 O T,qs a2 M k2,qs a3 L k3,qs a4 K k4] 108)) wy)) (λ z _=> M - (intOf z).toNat)
     case atStart=> exact ⟨0,zero_le _,rfl,G⟩
     case round=>
      clear G;obtain ⟨i,hi,rfl,G⟩:=hrel;have D:=hid (I.trans (G.mono (le_succ _)));obtain ⟨v1,v2,-⟩:=Hu.below G (lt_succ_self _);have g2:=v2 2;simp only [q2a] at g2;clear v2;by_cases hil:i < M
      . have F:i < y.keys.length:=by rw [ah.out];exact hil
        have C:=HD.keys.mono (LlE.mono NoE.mono) D;obtain ⟨b,o,a12,af,rfl,ac,d0,-⟩:=LlAt.cell C i F;obtain ⟨m,hm⟩:=gx ((y.keys[i]).length)
        rw [hm] at d0;clear C F hm;go_wp2_with fail;refine (bFew_calls m [] none 0 _ (.inl ⟨rfl,none,rfl⟩)).mono ?_;rintro e w3 ⟨q,rfl,-,W⟩;have aa:=hid (G.trans (W.mono (by have:=G.size;simp at this;omega)));have U:=hid (D.trans (W.mono D.size));clear W d0 g2 v1;cases q with
        | false=>
         go_wp2;go_ret;exact ⟨false,rfl,(λ h=> (by cases h)),(A.trans (U.mono A.size))⟩
        | true=>
         go_wp2;go_roundw
         case rel=> exact ⟨i+1,by omega,by go_num,aa⟩
         case measure=> simp [intOf];omega
      . obtain rfl:M=i:=by omega
        go_wp2;clear g2 v1;go_loopw [6] (λ z wy=> ∃i:Nat,i<=L/\z=qi i/\Hid (Below (H.heap.size+1) (H.alloc (.cells #[qt J,qs a1 O T,qs a2 M k2,qs a3 L k3,qs a4 K k4] 108)) wy)) (λ z _=> L - (intOf z).toNat)
        case atStart=> exact ⟨0,zero_le _,rfl,G⟩
        case round=>
         clear G;obtain ⟨i,hi,rfl,G⟩:=hrel;have D:=hid (I.trans (G.mono (le_succ _)));obtain ⟨v1,v2,-⟩:=Hu.below G (lt_succ_self _);have g3:=v2 3;simp only [q2a] at g3;clear v2;by_cases hil:i < L
         . have F:i < y.fks.length:=by rw [ag.out];exact hil
           have C:=HD.fks.mono FkE.mono D;obtain ⟨b,o,a12,af,rfl,ac,d0,-,-,-⟩:=FkAt.cell C i F;obtain ⟨m,hm⟩:=gx ((y.fks[i]).cols.length)
           rw [hm] at d0;clear C F hm;go_wp2_with fail;refine (bFew_calls m [] none 0 _ (.inl ⟨rfl,none,rfl⟩)).mono ?_;rintro e w3 ⟨q,rfl,-,W⟩;have aa:=hid (G.trans (W.mono (by have:=G.size;simp at this;omega)));have U:=hid (D.trans (W.mono D.size));clear W d0 g3 v1;cases q with
           | false=>
            go_wp2;go_ret;exact ⟨false,rfl,(λ h=> (by cases h)),(A.trans (U.mono A.size))⟩
           | true=>
            go_wp2;go_roundw
            case rel=> exact ⟨i+1,by omega,by go_num,aa⟩
            case measure=> simp [intOf];omega
         . obtain rfl:L=i:=by omega
           have V:=hid (A.trans (D.mono A.size));go_wp2;clear g3 v1;go_roundw
           case rel=> exact ⟨k+1,by omega,by go_num,V⟩
           case measure=> simp [intOf];omega
  . obtain rfl:n=k:=by omega
    go_wp2;go_ret;exact ⟨_,rfl,(λ _=> trivial),A⟩
end
end Go.Proofs.YtcomoomndgbckaaGreat
