/- Part 13 of the proof: Oj, Om, Mp, Mr, Oc, Od, Ju, Jv, Jw, Jp, Jq, Jx -/
import Derived.Test.YtpdlkdoogojboaaGreatU12
import Derived.Test.YtpdlkdoogojboaaGreatU11
import Derived.Test.YtpdlkdoogojboaaGreatU07
import Derived.Test.YtpdlkdoogojboaaGreatU08
set_option maxHeartbeats 16000000
set_option maxRecDepth 100000
namespace Go.Proofs.YtpdlkdoogojboaaGreat
open Go Go.RowKit
noncomputable section
section
def DInv (ns:List Nat) (l:List UInt8) (D:Db) (k:Nat):Option (List UInt8)->Prop
 | some m=> (∀t∈D.take k,TabOk t)/\l=encD (D.take k)++m
 | none=> DecD ns l none
section
variable {ns:List Nat} {l m:List UInt8} {D:Db} {k:Nat}
theorem DInv.start:DInv ns l D 0 (some l):=⟨by simp,by simp [encD]⟩
theorem map_take_eq {D2:Db} (h1:D.map (·.1)=ns) (h2:D2.map (·.1)=ns) (hk:k<=D.length):(D.take k).map (·.1)=(D2.map (·.1)).take (D.take k).length:=by
 rw [h2,<-h1,List.length_take,Nat.min_eq_left hk,List.map_take]
theorem DInv.rest (h:DInv ns l D k (some m)) (hk:k<=D.length) (hn:D.map (·.1)=ns) {D2:Db} (h2:D2.map (·.1)=ns) (hok:∀t∈D2,TabOk t) (e:l=encD D2):∃D',D2=D.take k++D'/\encD D'=m:=by
 obtain ⟨D',e1,e2⟩:=encD_pre (d:=D.take k) (D:=D2) (m:=m) (m':=[]) h.1 hok (map_take_eq hn h2 hk) (by rw [List.append_nil,<-e,h.2]);exact ⟨D',e1,by rwa [List.append_nil] at e2⟩
theorem DInv.step {c:Nat} {L:LL} {next:Int} {o o2:Option (List UInt8)} (hn:D.map (·.1)=ns) (hk:k < D.length) (hc:D[k].1=c) (h:DInv ns l D k o) (ht:TabS c o (c,L,next) o2):DInv ns l (D.set k (c,L,next)) (k+1) o2:=by
 have e1:(D.set k (c,L,next)).take (k+1)=D.take k++[(c,L,next)]:=by rw [List.take_add_one,List.take_set_of_le (Nat.le_refl k),List.getElem?_set_self hk];rfl
 cases o with
 | none=>
  obtain rfl:o2=none:=ht;exact h
 | some m=>
  rcases ht with ⟨m2,g,rfl⟩ | ⟨rfl,g⟩
  · refine ⟨λ t ht=> ?_,?_⟩
    · rw [e1] at ht
      rcases List.mem_append.1 ht with ht | ht
      · exact h.1 t ht
      · rw [List.mem_singleton.1 ht]
        exact g.1
    · rw [e1,encD_app,h.2,g.2,List.append_assoc]
      congr 1;rw [encD_cons];simp [encD]
  · intro D2 h2 hok e
    obtain ⟨D',e2,e3⟩:=h.rest (Nat.le_of_lt hk) hn h2 hok e;cases D' with
    | nil=>
     have:=congrArg List.length e2;rw [<-List.length_map (f:=λ t:Nat×LL×Int=> t.1),h2,<-hn,List.length_map,List.length_append,List.length_take] at this;simp at this;omega
    | cons t D'=>
     refine g t (encD D') ?_ ⟨hok t (by rw [e2];simp),by rw [<-e3,encD_cons]⟩;have h4:(D2.map (·.1))[k]? =some t.1:=by rw [e2,List.map_append,List.getElem?_append_right (by rw [List.length_map,List.length_take];omega),List.length_map,List.length_take,Nat.min_eq_left (Nat.le_of_lt hk)];simp
     rw [h2,<-hn,List.getElem?_map,List.getElem?_eq_getElem hk] at h4;have:=Option.some.inj h4;rw [<-this];exact hc
theorem DInv.done (hn:D.map (·.1)=ns) (h:DInv ns l D D.length (some [])):DecD ns l (some D):=by
 obtain ⟨h1,h2⟩:=h;rw [List.take_length] at h1 h2;rw [List.append_nil] at h2;exact ⟨hn,h1,h2⟩
theorem DInv.more (hn:D.map (·.1)=ns) (h:DInv ns l D D.length (some m)) (hm:m≠[]):DecD ns l none:=λ D2 h2 hok e=> by
 obtain ⟨D',e2,e3⟩:=h.rest (Nat.le_refl _) hn h2 hok e;have:=congrArg List.length e2;rw [<-List.length_map (f:=λ t:Nat×LL×Int=> t.1),h2,<-hn,List.length_map,List.take_length,List.length_append] at this;have:D'=[]:=List.length_eq_zero_iff.1 (by omega);subst this;exact hm e3.symm
end
theorem TabS.len {c:Nat} {o o2:Option (List UInt8)} {t:Nat×LL×Int} (h:TabS c o t o2) {N:Nat} (ho:∀l,o=some l->l.length < N):∀l,o2=some l->l.length < N:=by
 rintro m rfl;cases o with
 | none=> cases h
 | some l=>
  rcases h with ⟨m',g,e⟩ | ⟨e, -⟩
  · obtain rfl:=Option.some.inj e
    have h1:=ho l rfl;rw [g.2,List.length_append] at h1;omega
  · cases e
def DecDP (w0:World) (fp0:List Nat) (R:List Asn) (ns:List Nat) (l:List UInt8) (e:Ending) (w':World):Prop:=
 ∃(q:Option Db) (pv:Value),DecD ns l q/\e=.returned (.tuple #[pv, .int .i64 (if q.isSome then 0 else 2)])/\(match q with
  | some D=> ∃b,pv=.pointer (some ⟨b,0,none⟩)/\St w0 fp0 (stA b D::R) w'
  | none=> pv=.pointer none/\St w0 fp0 R w')
end
theorem decTab_calls (p b k:Nat) (D:Db) (hk:k < D.length) (h0:D[k].2.1=[]/\D[k].2.2=1) (v:Value) (o:Option (List UInt8)) (ho:∀l,o=some l->l.length < 100000000) (w0 w:World) (fp0:List Nat) (R B:List Asn) (hB:∃M,R=M++B)
 (hS:St w0 fp0 (rdrA p 126 v o::stA b D::R) w) (hR:RdrP w0 fp0 B v o):
 Calls Tryz.prog 73 #[.pointer (some ⟨p,0,none⟩), .pointer (some ⟨b,0,none⟩), .int .i64 k] w λ e w'=> ∃(L:LL) (next:Int) (v2:Value) (o2:Option (List UInt8)),e=.returned (.tuple #[])/\St w0 fp0 (rdrA p 126 v2 o2::stA b (D.set k (D[k].1,L,next))::R) w'/\RdrP w0 fp0 B v2 o2/\TabS D[k].1 o (D[k].1,L,next) o2:=by
 obtain ⟨q,hq,hs⟩:=(hS.perm (List.Perm.swap _ _ _)).openD;have hkt:k < q.ts.length:=by rw [hq.tlen];exact hk
 have hat:=hq.at k hkt;rw [List.getElem?_eq_getElem hk] at hat;have hat:=Option.some.inj hat;rw [hat] at h0 ⊢;simp only at h0 ⊢;have h1:=hs.pickT k hkt;have h2:St w0 fp0 (rdrA p 126 v o::tbA q.ts[k]::(dbP b q++((q.ts.eraseIdx k).map tbA++R))) w:=by
  refine h1.perm ?_
  classical refine List.perm_iff_count.2 λ a=> ?_;simp only [List.count_append,List.count_cons];omega
 unfold tbA at h2;rw [h0.1,h0.2] at h2;refine (rdTable_calls p b k q D hq hkt v o ho w0 w fp0 R B hB h2 hR).mono ?_;rintro e w' ⟨L,next,v2,o2,e1,h3,h4,h5⟩;refine ⟨L,next,v2,o2,e1,?_,h4,h5⟩;have h6:St w0 fp0 (tbA { q.ts[k] with L:=L,next:=next }::(dbP b q++((q.ts.eraseIdx k).map tbA++(rdrA p 126 v2 o2::R)))) w':=by
  refine St.perm h3 ?_
  classical refine List.perm_iff_count.2 λ a=> ?_;unfold tbA;simp only [List.count_append,List.count_cons];omega
 have h7:=St.placeT hkt h6;rw [<-dbP_put b q k hkt] at h7;exact (St.shutD (hq.put k hkt L next) h7).perm (List.Perm.swap _ _ _)
theorem stA_len {w0 w:World} {fp0:List Nat} {R:List Asn} {b:Nat} {D:Db} (h:St w0 fp0 (stA b D::R) w):(∃ta tc,w.cell? ⟨b,1,none⟩=some (.slice ta D.length tc))/\b < w.heap.size:=by
 obtain ⟨q,hq,hs⟩:=h.openD;obtain ⟨-,d1,dl, -, -⟩:=db_get hs;refine ⟨⟨q.ta,q.tc,?_⟩,dl⟩;rw [d1,<-hq.tlen];rfl
theorem newD_at (td:List Td) (k:Nat) (hk:k < (newD td).length):(newD td)[k].2.1=[]/\(newD td)[k].2.2=1:=by
 have h:∀t∈newD td,t.2.1=[]/\t.2.2=1:=λ t ht=> by obtain ⟨u, -,rfl⟩:=List.mem_map.1 ht;exact ⟨rfl,rfl⟩
 exact h _ (List.getElem_mem hk)
theorem newD_map (td:List Td):(newD td).map (·.1)=td.map (·.n):=by
 unfold newD;rw [List.map_map];rfl
def FreshD (D:Db) (k:Nat):Prop:=∀i (h:i < D.length),k<=i->D[i].2.1=[]/\D[i].2.2=1
theorem FreshD.set {D:Db} {k:Nat} {t:Nat×LL×Int} (h:FreshD D k):FreshD (D.set k t) (k+1):=λ i hi hk=> by
 rw [List.getElem_set_ne (by omega)];exact h i (by simpa using hi) (by omega)
theorem map_set_same {D:Db} {k:Nat} (hk:k < D.length) (L:LL) (next:Int):(D.set k (D[k].1,L,next)).map (·.1)=D.map (·.1):=by
 refine List.ext_getElem (by simp) λ i h1 h2=> ?_;rw [List.getElem_map,List.getElem_map];by_cases h:k=i
 · subst h
   rw [List.getElem_set_self]
 · rw [List.getElem_set_ne h]
theorem decode_calls (td:List Td) (sv:Value) (l:List UInt8) (bv:Value) (hsm:∀t∈td,t.Sm) (htl:td.length<=1000) (hl:l.length < 100000000) (w0 w:World) (fp0:List Nat) (R B:List Asn) (hB:∃M,R=M++B) (hsv:Rd w0 fp0 R λ w=> SchX w td sv) (hbv:RdrP w0 fp0 B bv (some l)) (hS:St w0 fp0 R w):
 Calls Tryz.prog 34 #[sv,bv] w λ e w'=> DecDP w0 fp0 R (td.map (·.n)) l e w':=by
 have HN:=Lib.hid (StNew_calls td sv hsm htl w0 w fp0 R hsv hS);obtain ⟨sa,sc,rfl⟩:=(hsv.here hS).sl.shape;have HBV:=Lib.hid hbv;obtain ⟨ba,bc,rfl, -, -⟩:=hbv.1;have HB:=Lib.hid hB;have HL:=Lib.hid hl;obtain ⟨bn,hbn⟩:∃bn,l.length=bn:=⟨_,rfl⟩
 rw [hbn] at HBV ⊢;have HLN:=Lib.hid hbn;obtain ⟨m,hm⟩:∃m,td.length=m:=⟨_,rfl⟩
 rw [hm] at HN ⊢;have hmm:=newD_map td;have hnl:(newD td).length<=1000:=by unfold newD;rw [List.length_map];omega
 have hfr:FreshD (newD td) 0:=λ i h _=> newD_at td i h;obtain ⟨D0,hD0⟩:∃D0,newD td=D0:=⟨_,rfl⟩
 rw [hD0] at HN hmm hfr hnl;have HNL:=Lib.hid hnl;obtain ⟨ns,hns⟩:∃ns,td.map (·.n)=ns:=⟨_,rfl⟩
 rw [hns] at hmm ⊢;have HMM:=Lib.hid hmm;have HFR:=Lib.hid hfr;clear hsv hbv hS hsm htl hl hB hbn hm hmm hfr hD0 hns hnl;go_enter Tryz.func34,Tryz.ntmps34;go_wp2_with fail;(with_reducible refine HN.out.mono ?_);rintro e w1 ⟨b,rfl,h1⟩;have h2:=h1.newblk 126 #[.slice ba bn bc, .bool false];obtain ⟨rb,hrb⟩:∃rb,w1.heap.size=rb:=⟨_,rfl⟩
 rw [hrb] at h2;have H2:Hid (St w0 fp0 (rdrA rb 126 (.slice ba bn bc) (some l)::stA b D0::R) (w1.alloc (.cells #[.slice ba bn bc, .bool false] 126))):=h2;obtain ⟨⟨ta,tc,c1⟩,cl⟩:=stA_len h2.drop;obtain ⟨n,hn⟩:∃n,D0.length=n:=⟨_,rfl⟩
 rw [hn] at c1;have HDN:=Lib.hid hn;clear h1 h2 HN hn;go_upto_region 4 with (fail)
 clear c1 cl;generalize w1.alloc _=W at *;have hn1:n<=1000:=by have:=HNL.out;have:=HDN.out;omega
 have HO0:Hid (∀x,some l=some x->x.length < 100000000):=λ x hx=> by obtain rfl:=Option.some.inj hx;exact HL.out
 clear HNL hrb;go_loopg [19] n (λ g z19 wr=> ∃(k:Nat) (D:Db) (v:Value) (o:Option (List UInt8)),z19=.int .i64 k/\g+k=n/\Hid (D.map (·.1)=ns/\D.length=n/\FreshD D k)/\Hid (∀x,o=some x->x.length < 100000000)/\Hid (DInv ns l D k o)/\Hid (St w0 fp0 (rdrA rb 126 v o::stA b D::R) wr)/\Hid (RdrP w0 fp0 B v o))
 case atStart=> exact ⟨0,D0,_,some l,rfl,rfl,⟨HMM.out,HDN.out,HFR.out⟩,HO0,DInv.start,H2,HBV⟩
 case round=>
  clear H2 HBV HO0 HFR HDN HMM;obtain ⟨k,D,v,o,rfl,hgk,Hd,Ho,Hi,Hs,Hr⟩:=hrel;have HGK:=Lib.hid hgk;by_cases hk:k < n
  · have hkd:k < D.length:=by rw [Hd.out.2.1];exact hk
    have HBS:Hid (∃M,R=M++B):=HB;have HT:=Lib.hid (decTab_calls rb b k D hkd (Hd.out.2.2 k hkd (Nat.le_refl _)) v o Ho.out w0 wr fp0 R B HB.out Hs.out Hr.out);have hkn:(k:Int) < n:=by omega
    have hw1:wrap64 ((k:Int)+1)=((k+1:Nat):Int):=by unfold wrap64;omega
    have HKD:=Lib.hid hkd;have HNX:Hid (∀(L:LL) (next:Int) (o2:Option (List UInt8)),TabS D[k].1 o (D[k].1,L,next) o2->((D.set k (D[k].1,L,next)).map (·.1)=ns/\(D.set k (D[k].1,L,next)).length=n/\FreshD (D.set k (D[k].1,L,next)) (k+1))/\DInv ns l (D.set k (D[k].1,L,next)) (k+1) o2):=λ L next o2 h=>
     ⟨⟨(map_set_same hkd L next).trans Hd.out.1,by rw [List.length_set];exact Hd.out.2.1,Hd.out.2.2.set⟩,DInv.step Hd.out.1 hkd rfl Hi.out h⟩
    generalize D[k].1=cN at HT HNX;clear hkd hgk;go_wp2_with fail;(with_reducible refine HT.out.mono ?_);rintro e w3 ⟨L,next,v3,o3,rfl,h3,h4,h5⟩;have HR2:=Lib.hid (HNX.out L next o3 h5);have HO3:=Lib.hid (h5.len Ho.out);have HS3:=Lib.hid h3;have HR3:=Lib.hid h4;clear h3 h4 h5 HT HNX Hd;go_wp2;go_roundg (gk - 1)
    case rel=> exact ⟨k+1,_,v3,o3,by go_num,by have:=HGK.out;omega,HR2.out.1,HO3,HR2.out.2,HS3,HR3⟩
    case measure=> have:=HGK.out;omega
  · obtain rfl:k=n:=by omega
    obtain ⟨_,hp⟩:=Hs.out.has 0 rfl;have c0:=(blk_get hp).1 0;have c1:=(blk_get hp).1 1;have cl:=(blk_get hp).2.2;simp only [List.getElem?_toArray,List.getElem?_cons_zero,List.getElem?_cons_succ] at c0 c1;clear hp;have hdl:=Hd.out.2.1;have hi:=Hi.out;rw [<-hdl] at hi;have HDL:=Lib.hid hdl;cases o with
    | none=>
     have c1:wr.cell? ⟨rb,1,none⟩=some (.bool true):=c1;have HF:Hid (DecDP w0 fp0 R ns l (.returned (.tuple #[.pointer none, .int .i64 2])) wr):=⟨none,_,hi,rfl,rfl,Hs.out.drop.drop⟩
     clear hi hdl;go_wp2;refine bodyPost_ret (v:=.tuple #[.pointer none, .int .i64 2]) (by simp [results,Tryz.results34,go_sem]) rfl HF.out
    | some x=>
     have c1:wr.cell? ⟨rb,1,none⟩=some (.bool false):=c1;obtain ⟨xa,xc,rfl, -, -⟩:=Hr.out.1;cases x with
     | nil=>
      have HF:Hid (DecDP w0 fp0 R ns l (.returned (.tuple #[.pointer (some ⟨b,0,none⟩), .int .i64 0])) wr):=⟨some D,_,DInv.done Hd.out.1 hi,rfl,b,rfl,Hs.out.drop⟩
      have c0:wr.cell? ⟨rb,0,none⟩=some (.slice xa 0 xc):=c0;clear hi hdl;go_wp2;refine bodyPost_ret (v:=.tuple #[.pointer (some ⟨b,0,none⟩), .int .i64 0]) (by simp [results,Tryz.results34,go_sem]) rfl HF.out
     | cons y x=>
      have HF:Hid (DecDP w0 fp0 R ns l (.returned (.tuple #[.pointer none, .int .i64 2])) wr):=⟨none,_,DInv.more Hd.out.1 hi (by simp),rfl,rfl,Hs.out.drop.drop⟩
      obtain ⟨xn,hxn⟩:∃xn,(y::x).length=xn:=⟨_,rfl⟩
      have hx0:0 < xn:=by rw [<-hxn,List.length_cons];omega
      rw [hxn] at c0;clear hi hdl;go_wp2;refine bodyPost_ret (v:=.tuple #[.pointer none, .int .i64 2]) (by simp [results,Tryz.results34,go_sem]) rfl HF.out
def Ver (w0:World) (fp0:List Nat) (R:List Asn) (D:Db) (mv:Value):Prop:=∃(ms:List Rs) (a:Option Addr) (c:Nat),mv=.slice a ms.length c/\MsOk D ms/\Rd w0 fp0 R λ w=> RefX w ms mv
theorem Ver.app {w0:World} {fp0:List Nat} {R:List Asn} {D:Db} {mv:Value} (h:Ver w0 fp0 R D mv) (M:List Asn):Ver w0 fp0 (M++R) D mv:=by
 obtain ⟨ms,a,c,h1,h2,h3⟩:=h;exact ⟨ms,a,c,h1,h2,h3.app M⟩
theorem Ver.shape {w0:World} {fp0:List Nat} {R:List Asn} {D:Db} {mv:Value} (h:Ver w0 fp0 R D mv):∃a c,mv=.slice a D.length c:=by
 obtain ⟨ms,a,c,h1,h2, -⟩:=h;exact ⟨a,c,by rw [h1,h2.len]⟩
theorem same_ver {w0 w:World} {fp0:List Nat} {R:List Asn} {b:Nat} {D:Db} {mv:Value} (h:Ver w0 fp0 R D mv) (hl:∀t∈D,t.2.1.length < 1000000) (hS:St w0 fp0 (stA b D::R) w):Calls Tryz.prog 15 #[.pointer (some ⟨b,0,none⟩),mv] w λ e w'=> e=.returned (.bool true)/\St w0 fp0 (stA b D::R) w':=by
 obtain ⟨ms,a,c,rfl,hm,hr⟩:=h;exact same_calls b D ms _ hm hl w0 w fp0 R hr hS
def VerPost (w0:World) (fp0:List Nat) (L R:List Asn) (D:Db) (ch:Int) (e:Ending) (w:World):Prop:=∃a n c P,e=.returned (.tuple #[.slice a n c, .int .i64 ch])/\Ver w0 fp0 (P++R) D (.slice a n c)/\St w0 fp0 (L++(P++R)) w
theorem rapply_ver {w0 w:World} {fp0:List Nat} {L R:List Asn} {D:Db} {mv:Value} {c:Chg} (h:Ver w0 fp0 R D mv) (hok:c.Ok) (hl:∀t∈D,t.2.1.length < 1000000) (hd:D.length<=1000) (hc:Rd w0 fp0 R λ w=> c.X w) (hS:St w0 fp0 (L++R) w):Calls Tryz.prog 16 #[mv,c.v] w λ e w'=> VerPost w0 fp0 L R (appD D c) (chkD D c) e w':=by
 obtain ⟨ms,a,cc,rfl,hm,hr⟩:=h;refine (RApply_calls ms _ D hm c hok hl (by rw [hm.len];exact hd) w0 w fp0 L R hr hc hS).mono ?_;rintro e w' ⟨ms2,a2,c2,P,rfl,hm2,hr2,hs2⟩;exact ⟨a2,_,c2,P,rfl,⟨ms2,a2,c2,rfl,hm2,hr2⟩,hs2⟩
def gBy5 (b o n mc k ln lc:Nat) (la:Option Addr) (next:Int) (z:Value) (xs:List UInt8):=rgxq Tryz.prog Tryz.f35 5 58 [12,13,14,15,16,17,18,19,20,21,22,23,24,25,3] [(0, .slice (some ⟨b,o,none⟩) n mc),(4, .int .i64 (k:Int))] [(3,z,14)] (Vq 0 12 [Kv z,Kv (.slice (some ⟨b,o,none⟩) n mc),Kv (.int .i64 (k:Int)),Kp b (o+k * 3),Kp b (o+k * 3+2),Kv (.int .i64 next)]++Vq 7 19 [Kv (.slice (some ⟨b,o,none⟩) n mc),Kv (.int .i64 (k:Int)),Kp b (o+k * 3),Kp b (o+k * 3+1),Kv (.slice la ln lc),Kv (.int .i64 (ln:Nat))]++Vq 14 3 [Fv [25] λ g=> g 25]) [.gen [6,13] [18,25] λ L g=> match L 13 with | true=> slA 5 (g 25) (((xs++numL next)++numL (ln:Nat)).map u8C) | false=> match L 6 with | true=> slA 5 (g 18) ((xs++numL next).map u8C) | false=> slA 5 (z) ((xs).map u8C)]
theorem rBy5 (b o n mc k ln lc:Nat) (la:Option Addr) (next:Int) (z:Value) (xs:List UInt8) (w0:World) (fp0:List Nat) (R:List Asn) (hk:k < n) (hc2:∀L w,St w0 fp0 (L++R) w->w.cell? ⟨b,o+k * 3+2,none⟩=some (.int .i64 next)) (hc1:∀L w,St w0 fp0 (L++R) w->w.cell? ⟨b,o+k * 3+1,none⟩=some (.slice la ln lc)) (h1:∀u w,St w0 fp0 ([slA 5 (u) ((xs).map u8C)]++R) w->Calls Tryz.prog 61 #[u, .int .i64 next] w λ e w'=> ∃b',e=.returned b'/\St w0 fp0 (slA 5 (b') ((xs++numL next).map u8C)::R) w') (h2:∀u w,St w0 fp0 ([slA 5 (u) ((xs++numL next).map u8C)]++R) w->Calls Tryz.prog 61 #[u, .int .i64 (ln:Nat)] w λ e w'=> ∃b',e=.returned b'/\St w0 fp0 (slA 5 (b') (((xs++numL next)++numL (ln:Nat)).map u8C)::R) w') {w:World} {c:Code} {a:Act} {Q:Exit->Act->World->Prop} (c1:isReg c=true) (c2:cops c=opsR Tryz.f35 5) (c3:a.tmps.size=58) (_c4:a.defers=a.defers) (i0:a.eval (.tmp 0)=.slice (some ⟨b,o,none⟩) n mc) (i4:a.eval (.tmp 4)=.int .i64 (k:Int)) (i3:a.eval (.tmp 3)=z)
 (hS:St w0 fp0 ([slA 5 (z) ((xs).map u8C)]++R) w)
 (hQ:∀(u18 u25:Value) (w1:World),St w0 fp0 ([slA 5 (u25) (((xs++numL next)++numL (ln:Nat)).map u8C)]++R) w1->Q .normal (putL a [(12,z),(13, .slice (some ⟨b,o,none⟩) n mc),(14, .int .i64 (k:Int)),(15, .pointer (some ⟨b,o+k * 3,none⟩)),(16, .pointer (some ⟨b,o+k * 3+2,none⟩)),(17, .int .i64 next),(18,u18),(19, .slice (some ⟨b,o,none⟩) n mc),(20, .int .i64 (k:Int)),(21, .pointer (some ⟨b,o+k * 3,none⟩)),(22, .pointer (some ⟨b,o+k * 3+1,none⟩)),(23, .slice la ln lc),(24, .int .i64 (ln:Nat)),(25,u25),(3,u25)]) w1):c.wp Tryz.prog Q a w:=by
 have ok:(gBy5 b o n mc k ln lc la next z xs w0 fp0 R).Ok 15:=Rg.ok _ 15 [3,5,6,9,11,13] ⟨.indexO _ 3 b o n mc k 3 hk, .loadR1 _ 5 (.int .i64 next) hc2, .callG _ 6 (f:=61) (args:=λ g=> #[z, .int .i64 next]) (λ g=> [slA 5 (z) ((xs).map u8C)]) (λ g v=> [slA 5 (v) ((xs++numL next).map u8C)]) (λ g w h=> (by refine (h1 z w h).mono ?_;rintro e w2 ⟨b2,rfl,hb2⟩;exact ⟨b2,rfl,kr (by kernel_rfl),hb2⟩)), .indexO _ 9 b o n mc k 3 hk, .loadR1 _ 11 (.slice la ln lc) hc1, .callG _ 13 (f:=61) (args:=λ g=> #[(g 18), .int .i64 (ln:Nat)]) (λ g=> [slA 5 ((g 18)) ((xs++numL next).map u8C)]) (λ g v=> [slA 5 (v) (((xs++numL next)++numL (ln:Nat)).map u8C)]) (λ g w h=> (by refine (h2 (g 18) w h).mono ?_;rintro e w2 ⟨b2,rfl,hb2⟩;exact ⟨b2,rfl,kr (by kernel_rfl),hb2⟩)),trivial⟩;refine wp_regD ok (by kernel_rfl) ⟨c1,c2⟩ ⟨c3,λ p hp=> ?_⟩ hS λ A1 w1 N1 H1=> ?_
 · simp only [gBy5,rgxq,List.map_cons,List.map_nil,List.cons_append,List.nil_append,List.mem_cons,List.not_mem_nil,or_false] at hp
   rcases hp with rfl | rfl | rfl
   · exact i0
   · exact i4
   · exact i3
 exact N1.fin [18,25] (hQ (slots A1 18) (slots A1 25) w1 H1) (by kernel_rfl)
def gBy9 (b o n mc k b2 o2 ln lc j:Nat) (id:Int) (z rv:Value) (xs:List UInt8) (r:Rw):=rgxq Tryz.prog Tryz.f35 9 58 [36,37,38,39,40,41,42,43,44,45,46,47,48,49,50,51,52,53,54,55,56,3] [(0, .slice (some ⟨b,o,none⟩) n mc),(4, .int .i64 (k:Int)),(5, .int .i64 (j:Int))] [(3,z,21)] (Vq 0 36 [Kv z,Kv (.slice (some ⟨b,o,none⟩) n mc),Kv (.int .i64 (k:Int)),Kp b (o+k * 3),Kp b (o+k * 3+1),Kv (.slice (some ⟨b2,o2,none⟩) ln lc),Kv (.int .i64 (j:Int)),Kp b2 (o2+j * 2),Kp b2 (o2+j * 2),Kv (.int .i64 id)]++Vq 11 47 [Kv (.slice (some ⟨b,o,none⟩) n mc),Kv (.int .i64 (k:Int)),Kp b (o+k * 3),Kp b (o+k * 3+1),Kv (.slice (some ⟨b2,o2,none⟩) ln lc),Kv (.int .i64 (j:Int)),Kp b2 (o2+j * 2),Kp b2 (o2+j * 2+1),Kv rv]++Vq 21 3 [Fv [56] λ g=> g 56]) [.gen [10,20] [46,56] λ L g=> match L 20 with | true=> slA 5 (g 56) (((xs++numL id)++rowB r).map u8C) | false=> match L 10 with | true=> slA 5 (g 46) ((xs++numL id).map u8C) | false=> slA 5 (z) ((xs).map u8C)]
theorem rBy9 (b o n mc k b2 o2 ln lc j:Nat) (id:Int) (z rv:Value) (xs:List UInt8) (r:Rw) (w0:World) (fp0:List Nat) (R:List Asn) (hk:k < n) (hj:j < ln) (hc1:∀L w,St w0 fp0 (L++R) w->w.cell? ⟨b,o+k * 3+1,none⟩=some (.slice (some ⟨b2,o2,none⟩) ln lc)) (hd0:∀L w,St w0 fp0 (L++R) w->w.cell? ⟨b2,o2+j * 2,none⟩=some (.int .i64 id)) (hd1:∀L w,St w0 fp0 (L++R) w->w.cell? ⟨b2,o2+j * 2+1,none⟩=some rv) (h1:∀u w,St w0 fp0 ([slA 5 (u) ((xs).map u8C)]++R) w->Calls Tryz.prog 61 #[u, .int .i64 id] w λ e w'=> ∃b',e=.returned b'/\St w0 fp0 (slA 5 (b') ((xs++numL id).map u8C)::R) w') (h2:∀u w,St w0 fp0 ([slA 5 (u) ((xs++numL id).map u8C)]++R) w->Calls Tryz.prog 63 #[u,rv] w λ e w'=> ∃b',e=.returned b'/\St w0 fp0 (slA 5 (b') (((xs++numL id)++rowB r).map u8C)::R) w') {w:World} {c:Code} {a:Act} {Q:Exit->Act->World->Prop} (c1:isReg c=true) (c2:cops c=opsR Tryz.f35 9) (c3:a.tmps.size=58) (_c4:a.defers=a.defers) (i0:a.eval (.tmp 0)=.slice (some ⟨b,o,none⟩) n mc) (i4:a.eval (.tmp 4)=.int .i64 (k:Int)) (i5:a.eval (.tmp 5)=.int .i64 (j:Int)) (i3:a.eval (.tmp 3)=z)
 (hS:St w0 fp0 ([slA 5 (z) ((xs).map u8C)]++R) w)
 (hQ:∀(u46 u56:Value) (w1:World),St w0 fp0 ([slA 5 (u56) (((xs++numL id)++rowB r).map u8C)]++R) w1->Q .normal (putL a [(36,z),(37, .slice (some ⟨b,o,none⟩) n mc),(38, .int .i64 (k:Int)),(39, .pointer (some ⟨b,o+k * 3,none⟩)),(40, .pointer (some ⟨b,o+k * 3+1,none⟩)),(41, .slice (some ⟨b2,o2,none⟩) ln lc),(42, .int .i64 (j:Int)),(43, .pointer (some ⟨b2,o2+j * 2,none⟩)),(44, .pointer (some ⟨b2,o2+j * 2,none⟩)),(45, .int .i64 id),(46,u46),(47, .slice (some ⟨b,o,none⟩) n mc),(48, .int .i64 (k:Int)),(49, .pointer (some ⟨b,o+k * 3,none⟩)),(50, .pointer (some ⟨b,o+k * 3+1,none⟩)),(51, .slice (some ⟨b2,o2,none⟩) ln lc),(52, .int .i64 (j:Int)),(53, .pointer (some ⟨b2,o2+j * 2,none⟩)),(54, .pointer (some ⟨b2,o2+j * 2+1,none⟩)),(55,rv),(56,u56),(3,u56)]) w1):c.wp Tryz.prog Q a w:=by
 have ok:(gBy9 b o n mc k b2 o2 ln lc j id z rv xs r w0 fp0 R).Ok 22:=Rg.ok _ 22 [3,5,7,9,10,13,15,17,19,20] ⟨.indexO _ 3 b o n mc k 3 hk, .loadR1 _ 5 (.slice (some ⟨b2,o2,none⟩) ln lc) hc1, .indexO _ 7 b2 o2 ln lc j 2 hj, .loadR1 _ 9 (.int .i64 id) hd0, .callG _ 10 (f:=61) (args:=λ g=> #[z, .int .i64 id]) (λ g=> [slA 5 (z) ((xs).map u8C)]) (λ g v=> [slA 5 (v) ((xs++numL id).map u8C)]) (λ g w h=> (by refine (h1 z w h).mono ?_;rintro e w2 ⟨b2,rfl,hb2⟩;exact ⟨b2,rfl,kr (by kernel_rfl),hb2⟩)), .indexO _ 13 b o n mc k 3 hk, .loadR1 _ 15 (.slice (some ⟨b2,o2,none⟩) ln lc) hc1, .indexO _ 17 b2 o2 ln lc j 2 hj, .loadR1 _ 19 (rv) hd1, .callG _ 20 (f:=63) (args:=λ g=> #[(g 46),rv]) (λ g=> [slA 5 ((g 46)) ((xs++numL id).map u8C)]) (λ g v=> [slA 5 (v) (((xs++numL id)++rowB r).map u8C)]) (λ g w h=> (by refine (h2 (g 46) w h).mono ?_;rintro e w2 ⟨b2,rfl,hb2⟩;exact ⟨b2,rfl,kr (by kernel_rfl),hb2⟩)),trivial⟩;refine wp_regD ok (by kernel_rfl) ⟨c1,c2⟩ ⟨c3,λ p hp=> ?_⟩ hS λ A1 w1 N1 H1=> ?_
 · simp only [gBy9,rgxq,List.map_cons,List.map_nil,List.cons_append,List.nil_append,List.mem_cons,List.not_mem_nil,or_false] at hp
   rcases hp with rfl | rfl | rfl | rfl
   · exact i0
   · exact i4
   · exact i5
   · exact i3
 exact N1.fin [46,56] (hQ (slots A1 46) (slots A1 56) w1 H1) (by kernel_rfl)
theorem RefX.at {w:World} {l:List Rs} {b o m lc:Nat} (h:RefX w l (.slice (some ⟨b,o,none⟩) m lc)) (k:Nat) (hk:k < l.length) {W:World} (hb:Below w.heap.size w W):W.cell? ⟨b,o+k * 3+1,none⟩=some (l[k]'hk).lv/\W.cell? ⟨b,o+k * 3+2,none⟩=some (.int .i64 (l[k]'hk).next):=by
 obtain ⟨b2,o2,c2,e2, -,d0,d1,d2⟩:=(h.mono hb).cells k hk;obtain ⟨e3, -, -⟩:=Value.slice.inj e2;cases e3;exact ⟨d1,d2⟩
theorem RefX.ptr {w:World} {l:List Rs} {a:Option Addr} {m lc:Nat} (h:RefX w l (.slice a m lc)) (hk:0 < l.length):∃b o,a=some ⟨b,o,none⟩:=by
 obtain ⟨b2,o2,c2,e2, -⟩:=h.cells 0 hk;obtain ⟨e3, -, -⟩:=Value.slice.inj e2;exact ⟨b2,o2,e3⟩
theorem RiX.at {w:World} {l:List Ri} {b o m lc:Nat} (h:RiX w l (.slice (some ⟨b,o,none⟩) m lc)) (k:Nat) (hk:k < l.length) {W:World} (hb:Below w.heap.size w W):W.cell? ⟨b,o+k * 2,none⟩=some (.int .i64 (l[k]'hk).id)/\W.cell? ⟨b,o+k * 2+1,none⟩=some (l[k]'hk).v:=by
 obtain ⟨b2,o2,c2,e2,d0,d1⟩:=ri_cells (h.mono hb).sl k hk;obtain ⟨e3, -, -⟩:=Value.slice.inj e2;cases e3;exact ⟨d0,d1⟩
theorem RiX.ptr {w:World} {l:List Ri} {a:Option Addr} {m lc:Nat} (h:RiX w l (.slice a m lc)) (hk:0 < l.length):∃b o,a=some ⟨b,o,none⟩:=by
 obtain ⟨b2,o2,c2,e2, -⟩:=ri_cells h.sl 0 hk;obtain ⟨e3, -, -⟩:=Value.slice.inj e2;exact ⟨b2,o2,e3⟩
theorem riL_step {l:List Ri} {k:Nat} (h:k < l.length):encI (riL (l.take (k+1)))=encI (riL (l.take k))++(numL (l[k]'h).id++rowB (l[k]'h).r):=by
 have e:l.take (k+1)=l.take k++[l[k]'h]:=by rw [List.take_add_one,List.getElem?_eq_getElem h];rfl
 rw [e,riL_snoc,encI_snoc]
theorem rbytes_calls (ms:List Rs) (mv:Value) (D:Db) (hms:MsOk D ms) (hD:EncOk D) (w:World) (hx:RefX w ms mv):
 Calls Tryz.prog 35 #[mv] w λ e w'=> ∃a m c,e=.returned (.slice a m c)/\St w [] [slA 5 (.slice a m c) ((encD D).map u8C)] w':=by
 obtain ⟨ma,mc,rfl⟩:=hx.sl.shape;obtain ⟨n,hn⟩:∃n,ms.length=n:=⟨_,rfl⟩
 have hn4:n<=4:=by rw [<-hn,hms.len];exact hD.n
 have HX:=Lib.hid hx;have HD:=Lib.hid hD;have HMS:=Lib.hid hms;rw [hn] at HX ⊢;have HN:=Lib.hid hn;have H0:Hid (St w [] [slA 5 (.slice none 0 0) ((encD (D.take 0)).map u8C)] w):=St.nilA (t:=5) (St.start (L:=[]) (fp:=[]) rfl);clear hx hD hms hn;go_enter Tryz.func35,Tryz.ntmps35;go_upto_region 3 with (fail)
 go_loopg [3,4] n (λ g z3 z4 wr=> ∃k:Nat,z4=.int .i64 k/\g+k=n/\Hid (St w [] [slA 5 z3 ((encD (D.take k)).map u8C)] wr))
 case atStart=> exact ⟨0,rfl,rfl,H0⟩
 case round=>
  clear H0;obtain ⟨k,rfl,hgk,Hs⟩:=hrel;by_cases hk:k < n
  · have hkm:k < ms.length:=by rw [HN.out];exact hk
    obtain ⟨mb,mo,rfl⟩:=HX.out.ptr (by omega);have hat:=HMS.out.at k hkm;have hkD:k < D.length:=(List.getElem?_eq_some_iff.1 hat).1;have hDk:D[k]'hkD=(ms[k].cols,riL ms[k].l,ms[k].next):=(List.getElem?_eq_some_iff.1 hat).2;have hmem:(ms[k].cols,riL ms[k].l,ms[k].next)∈D:=List.mem_of_getElem? hat;have hst:=encD_step hkD;rw [hDk] at hst;have HST:=Lib.hid hst;have hle:=encD_len HD.out k;have hcols:=HD.out.c _ hmem;have hll:=HD.out.l _ hmem;have hrows:=HD.out.r _ hmem;have hids:=HD.out.i _ hmem;have HRD:=Lib.hid (λ (W:World) (h:Below w.heap.size w W)=> HX.out.at k hkm h);have HRI:=Lib.hid (HX.out.ri _ (List.getElem_mem hkm));have hkn:(k:Int) < n:=by omega
    have Hgk:=Lib.hid hgk;obtain ⟨xs,hxs⟩:∃xs,encD (D.take k)=xs:=⟨_,rfl⟩
    rw [hxs] at Hs HST hle;generalize ms[k]'hkm=M at *;obtain ⟨cols,la,lc,next,l⟩:=M;unfold Rs.lv at HRD;unfold Rs.lv at HRI;simp only at hcols hll hrows hids HRD HRI HST;obtain ⟨ln,hln⟩:∃ln,l.length=ln:=⟨_,rfl⟩
    have hll2:ln < 1000000:=by rw [<-hln];rw [riL,List.length_map] at hll;exact hll
    rw [hln] at HRD HRI;have HLN:=Lib.hid hln;have hrl:(riL l).length=ln:=by rw [riL,List.length_map,hln]
    have HRL:=Lib.hid hrl;have hids1:=hids.1;have HROW:Hid (∀x∈l,RowOk cols x.r/\I64 x.id):=λ x hx=> ⟨hrows (x.id,x.r) (List.mem_map.2 ⟨x,hx,rfl⟩),hids.2 (x.id,x.r) (List.mem_map.2 ⟨x,hx,rfl⟩)⟩
    have HCL:=Lib.hid hcols;clear hgk hat hDk hmem hst hxs hll hrows hids hln hrl hkD hcols;go_upto_region 5 with (fail)
    refine rBy5 (w0:=w) (fp0:=[]) (R:=[]) mb mo n mc k ln lc la next _ xs hk (λ L W h=> (HRD.out W h.below0).2) (λ L W h=> (HRD.out W h.below0).1)
     (λ u W h=> rnum40_calls u _ next hids1 (by omega) w W [] [] h) (λ u W h=> rnum40_calls u _ (ln:Nat) (by unfold I64;omega) (by rw [List.length_append,numL_length];omega) w W [] [] h)
     rfl (by kernel_rfl) rfl rfl rfl rfl rfl Hs.out ?_
    intro u18 u25 w1 h1;obtain ⟨ys,hys⟩:∃ys,(xs++numL next)++numL (ln:Nat)=ys:=⟨_,rfl⟩
    have HYS:=Lib.hid hys;have H1:Hid (St w [] [slA 5 u25 ((ys++encI (riL (l.take 0))).map u8C)] w1):=by
     show St _ _ _ _;have e:ys++encI (riL (l.take 0))=ys:=by simp [riL,encI]
     rw [e,<-hys];exact h1
    have hyl:ys.length<=164064000080:=by rw [<-hys];simp only [List.length_append,numL_length];omega
    obtain ⟨gk0,rfl⟩:∃x,x=gk:=⟨_,rfl⟩
    clear h1 hys Hs;simp only [putL,List.foldl,Act.put,List.setIfInBounds_toArray,List.set_cons_succ,List.set_cons_zero];go_upto_region 7 with (fail)
    go_loopg [3,5] ln (λ gj z3 z5 wr=> ∃j:Nat,z5=.int .i64 j/\gj+j=ln/\Hid (St w [] [slA 5 z3 ((ys++encI (riL (l.take j))).map u8C)] wr))
    case atStart=> exact ⟨0,rfl,rfl,H1⟩
    case round=>
     clear H1;obtain ⟨j,rfl,hgj,Hs⟩:=hrel;obtain ⟨d1,d2⟩:=HRD.out wr Hs.out.below0;have dl:=World.block_lt_of_cell? wr _ d1;by_cases hj:j < ln
     · have hjl:j < l.length:=by rw [HLN.out];exact hj
       obtain ⟨lb,lo,rfl⟩:=HRI.out.ptr (by omega);have HRJ:=Lib.hid (λ (W:World) (h:Below w.heap.size w W)=> HRI.out.at j hjl h);have HXV:=Lib.hid (λ (W:World) (h:Below w.heap.size w W)=> (HRI.out.mono h).row _ (List.getElem_mem hjl));obtain ⟨hro,hio⟩:=HROW.out _ (List.getElem_mem hjl);have HST2:=Lib.hid (riL_step hjl);have hil:(encI (riL (l.take j))).length<=41016000000:=by
        have h1:=encI_len (c:=cols) (l:=riL (l.take j)) HCL.out λ y hy=> by obtain ⟨z,hz,rfl⟩:=List.mem_map.1 hy;exact (HROW.out z (List.mem_of_mem_take hz)).1
        have h2:(riL (l.take j)).length<=1000000:=by rw [riL,List.length_map,List.length_take];omega
        have:(riL (l.take j)).length * 41016<=1000000 * 41016:=Nat.mul_le_mul_right _ h2;omega
       have hjn:(j:Int) < ln:=by omega
       have Hgj:=Lib.hid hgj;generalize encI (riL (l.take j))=zs at *;generalize l[j]'hjl=X at *;clear hgj hjl;go_upto_region 9 with (fail)
       refine rBy9 (w0:=w) (fp0:=[]) (R:=[]) mb mo n mc k lb lo ln lc j X.id _ X.v (ys++zs) X.r hk hj (λ L W h=> (HRD.out W h.below0).1) (λ L W h=> (HRJ.out W h.below0).1) (λ L W h=> (HRJ.out W h.below0).2)
        (λ u W h=> rnum40_calls u _ X.id hio (by rw [List.length_append];omega) w W [] [] h)
        (λ u W h=> rrow40_calls u _ X.r _ hro.rowS (by have:=HCL.out;have:=hro.1;omega) (by rw [List.length_append,List.length_append,numL_length];omega) w W [] [] h (HXV.out W h.below0))
        rfl (by kernel_rfl) rfl rfl rfl rfl rfl rfl Hs.out ?_
       intro u46 u56 w2 h2;have H2:Hid (St w [] [slA 5 u56 ((ys++encI (riL (l.take (j+1)))).map u8C)] w2):=by show St _ _ _ _;rw [HST2.out];have h3:=h2;simp only [List.append_assoc] at h3 ⊢;exact h3
       clear h2;simp only [putL,List.foldl,Act.put,List.setIfInBounds_toArray,List.set_cons_succ,List.set_cons_zero];go_wp2;go_roundg (gk - 1)
       case rel=> exact ⟨j+1,by go_num,by have:=Hgj.out;omega,H2⟩
       case measure=> have:=Hgj.out;omega
     · obtain rfl:j=ln:=by omega
       have hall:l.take j=l:=List.take_of_length_le (by rw [HLN.out];exact Nat.le_refl _);rw [hall] at Hs;have H3:Hid (St w [] [slA 5 u3 ((encD (D.take (k+1))).map u8C)] wr):=by
        show St _ _ _ _;rw [HST.out];have e:xs++encT (cols,riL l,next)=ys++encI (riL l):=by rw [<-HYS.out];simp only [encT,List.append_assoc,HRL.out]
        rw [e];exact Hs.out
       clear hgj hall Hs;go_wp2;go_roundg (gk0 - 1)
       case rel=> exact ⟨k+1,by go_num,by have:=Hgk.out;omega,H3⟩
       case measure=> have:=Hgk.out;omega
  · obtain rfl:k=n:=by omega
    have hall:D.take k=D:=List.take_of_length_le (by rw [<-HMS.out.len,HN.out];exact Nat.le_refl _);rw [hall] at Hs;obtain ⟨_,hr⟩:=Hs.out.has 0 rfl;obtain ⟨ya,ym,yc,rfl⟩:=sl_shape hr;clear hgk hall hr;go_wp2;go_ret;exact ⟨_,_,_,rfl,Hs.out⟩
end
end Go.Proofs.YtpdlkdoogojboaaGreat
