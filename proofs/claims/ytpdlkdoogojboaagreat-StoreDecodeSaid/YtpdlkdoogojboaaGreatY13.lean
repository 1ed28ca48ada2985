/- Part 13 of the proof: Oi, Oj, Or, Os, Om, Ot, Mp, Mr, Oc, Od, Ju, Jv -/
import Derived.Test.YtpdlkdoogojboaaGreatY12
import Derived.Test.YtpdlkdoogojboaaGreatY09
import Derived.Test.YtpdlkdoogojboaaGreatY08
import Derived.Test.YtpdlkdoogojboaaGreatY11
set_option maxHeartbeats 16000000
set_option maxRecDepth 100000
namespace Go.Proofs.YtpdlkdoogojboaaGreat
open Go Go.RowKit
noncomputable section
theorem rdTable_calls (p b k:Nat) (q:StQ) (D:Db) (hq:q.Ok D) (hk:k < q.ts.length) (v:Value) (o:Option (List UInt8)) (ho:∀l,o=some l->l.length < 100000000) (w0 w:World) (fp0:List Nat) (R B:List Asn) (hB:∃M,R=M++B)
 (hS:St w0 fp0 (rdrA p 126 v o::storeA q.ts[k].S q.ts[k].cols q.ts[k].I [] 1::(dbP b q++((q.ts.eraseIdx k).map tbA++R))) w) (hR:RdrP w0 fp0 B v o):
 Calls Tryz.prog 73 #[.pointer (some ⟨p,0,none⟩), .pointer (some ⟨b,0,none⟩), .int .i64 k] w λ e w'=> RdTabP w0 fp0 (dbP b q++((q.ts.eraseIdx k).map tbA++R)) B p 126 q.ts[k].S q.ts[k].cols q.ts[k].I o e w':=by
 have hkd:k < q.td.length:=by rw [hq.dlen,<-hq.tlen];exact hk
 have htd:=hq.tdn k hk hkd;have hcl:q.ts[k].cols<=1000000:=by have:=(hq.sm _ (List.getElem_mem hkd)).n;rw [htd] at this;omega
 obtain ⟨d0,d1,dl,dsc,dsl⟩:=db_get hS.drop.drop;obtain ⟨b',o',tc,etv,p0⟩:=dsl.some (j:=k) (u:=ptrV q.ts[k].S) (by rw [List.getElem?_map,List.getElem?_eq_getElem hk];rfl);rw [etv,List.length_map] at d1;have pl:=World.block_lt_of_cell? w _ p0;have hk':(k:Int) < q.ts.length:=by omega
 have hkz:(0:Int)<=k:=by omega
 have HADV:Hid (∀(L:LL) (nx next:Int) (v:Value) (o:Option (List UInt8)),nx<=next->next<=4611686018427387905->L.length < 1000000000->∀w',St w0 fp0 (rdrA p 126 v o::storeA q.ts[k].S q.ts[k].cols q.ts[k].I L nx::(dbP b q++((q.ts.eraseIdx k).map tbA++R))) w'->Calls Tryz.prog 107 #[.pointer (some ⟨b,0,none⟩), .int .i64 k, .int .i64 next] w' λ e w2=> e=.returned (.bool true)/\St w0 fp0 (rdrA p 126 v o::storeA q.ts[k].S q.ts[k].cols q.ts[k].I L next::(dbP b q++((q.ts.eraseIdx k).map tbA++R))) w2):=λ L nx next v o h1 h2 h3 w' hs=> by
  have hp:∀(X Y:Asn),(X::Y::(dbP b q++((q.ts.eraseIdx k).map tbA++R))).Perm (Y::(dbP b q++((q.ts.eraseIdx k).map tbA++(X::R)))):=λ X Y=> by classical refine List.perm_iff_count.2 λ a=> ?_;simp only [List.count_append,List.count_cons];omega
  exact (advance_calls b k q D hq hk L nx next h1 h2 h3 w0 w' fp0 (rdrA p 126 v o::R) (hs.perm (hp _ _))).mono λ e w2 ⟨e1,h⟩=> ⟨e1,h.perm (hp _ _).symm⟩
 have HSTO:Hid (∀(M:List Asn) (w':World),St w0 fp0 (M++(dbP b q++((q.ts.eraseIdx k).map tbA++R))) w'->∀(r:Rw) (v:Value),ValsAt w' r v->Calls Tryz.prog 81 #[.pointer (some ⟨b,0,none⟩), .int .i64 k,v] w' λ e w2=> e=.returned (.bool (storB q.ts[k].cols r))/\Below w'.heap.size w' w2):=λ M w' hs r v hv=> by have hd:=db_get hs.dropAll;have h:=storable40_calls b k q.td q.sv hkd r v w' hd.1 hd.2.2.2.1 hv;rw [htd] at h;exact h
 have HB:Hid (∃M,storeA q.ts[k].S q.ts[k].cols q.ts[k].I [] 1::(dbP b q++((q.ts.eraseIdx k).map tbA++R))=M++B):=by obtain ⟨M,rfl⟩:=hB;exact ⟨storeA q.ts[k].S q.ts[k].cols q.ts[k].I [] 1::(dbP b q++((q.ts.eraseIdx k).map tbA++M)),by simp⟩
 have HBF:Hid (∃M,(dbP b q++((q.ts.eraseIdx k).map tbA++R))=M++B):=by obtain ⟨M,rfl⟩:=hB;exact ⟨(dbP b q++((q.ts.eraseIdx k).map tbA++M)),by simp⟩
 have HN1:=Lib.hid (rdNumber_calls p v o w0 w fp0 _ B HB.out hS hR);have HCL:=Lib.hid hcl;have HO:=Lib.hid ho;clear hS hR hq hcl htd dsc dsl etv ho d0;unfold ptrV at *;generalize q.ts[k]=T at *;generalize dbP b q++((q.ts.eraseIdx k).map tbA++R)=F at *;clear hk hkd hB;generalize q.ts.length=n at *;go_enter Tryz.func73,Tryz.ntmps73;go_upto_region 1 with (fail)
 go_wp2_with fail;(with_reducible refine HN1.out.mono ?_);rintro e w1 ⟨next,v1,o1,rfl,hnx,h1,h2,h3⟩;have HN2:=Lib.hid (rdNumber_calls p v1 o1 w0 w1 fp0 _ B HB.out h1 h2);have HNX:=Lib.hid hnx;have HS1:=Lib.hid h3;clear HN1 hnx h1 h2 h3 d1 p0 dl pl;go_wp2_with fail;(with_reducible refine HN2.out.mono ?_);rintro e w2 ⟨cnt,v2,o2,rfl,hcn,h1,h2,h3⟩;have HS2:=Lib.hid h3;have H1:=Lib.hid h1;have H2:=Lib.hid h2;obtain ⟨_,hp⟩:=h1.has 0 rfl;have c1:=(blk_get hp).1 1;have cl:=(blk_get hp).2.2;have f1:=(blk_get hp).2.1 1;simp only [List.getElem?_toArray,List.getElem?_cons_zero,List.getElem?_cons_succ] at c1;have HSET:=Lib.hid (λ i hi u=> St.setB h1 i hi u);clear HN2 h1 h2 h3 hp;go_upto_region 2 with (fail)
 obtain ⟨iv,hiv⟩:∃iv:Bool,(decide (1<=next/\next<=4611686018427387905/\0<=cnt))=iv:=⟨_,rfl⟩
 have HIV:=Lib.hid hiv;clear hiv;go_cut [32] (λ z wx=> z=.bool (!iv)/\wx=w2)
 case first=>
  by_cases h1:next < 1
  · have HE:Hid (iv=false):=by
     show _=_;rw [<-HIV.out];exact decide_eq_false (by omega)
    obtain rfl:=HE.out;clear HE;go_wp2;go_meet;exact ⟨rfl,rfl⟩
  · by_cases h2:4611686018427387905 < next
    · have HE:Hid (iv=false):=by
       show _=_;rw [<-HIV.out];exact decide_eq_false (by omega)
      obtain rfl:=HE.out;clear HE;go_wp2;go_meet;exact ⟨rfl,rfl⟩
    · have HE:Hid (iv=!decide (cnt < 0)):=by
       show _=_;rw [<-HIV.out];by_cases h3:cnt < 0
       · rw [decide_eq_true h3,decide_eq_false (by omega)];rfl
       · rw [decide_eq_false h3,decide_eq_true (by omega)];rfl
      obtain rfl:=HE.out;clear HE;go_wp2;go_meet;exact ⟨by simp,rfl⟩
 obtain ⟨rfl,ew⟩:=hcut;obtain rfl:=ew.symm;clear ew;cases iv with
 | false=>
  have HF:Hid (RdTabP w0 fp0 F B p 126 T.S T.cols T.I o (.returned (.tuple #[])) (w2.setCell ⟨p,1,none⟩ (.bool true))):=⟨[],1,v2,none,rfl,HSET.out 1 (by simp) _,trivial,TabS.bad (TInv.range HS1.out HS2.out (of_decide_eq_false HIV.out))⟩
  obtain ⟨_,hp⟩:=(HSET.out 1 (by simp) (.bool true)).has 0 rfl;have c2:=(blk_get hp).1 1;have cl2:=(blk_get hp).2.2;simp only [List.getElem?_toArray,List.getElem?_cons_zero,List.getElem?_cons_succ,List.setIfInBounds_toArray,List.set_cons_succ,List.set_cons_zero] at c2;clear hp HSET H1 H2 HS1 HS2 HSTO HADV;go_upto_region 5 with (fail)
  generalize w2.setCell _ _=W at *;clear c1 cl f1;go_loopg [8,9] 0 (λ g z8 z9 wr=> z8=.int .i64 cnt/\wr=W)
  case atStart=> exact ⟨rfl,rfl⟩
  case round=>
   obtain ⟨rfl,rfl⟩:=hrel;by_cases hc:0 < cnt
   · go_wp2
     go_end0;exact HF.out
   · go_wp2
     go_end0;exact HF.out
 | true=>
  have HI0:Hid (TInv T.cols o next cnt [] 0 o2):=TInv.start HS1.out HS2.out (of_decide_eq_true HIV.out);clear HSET HIV HS1 HS2 HB c1 cl f1;go_upto_region 5 with (fail)
  go_loopg [8,9] cnt.toNat (λ g z8 z9 wr=> ∃(cn last:Int) (L:LL) (v:Value) (o2:Option (List UInt8)),z8=.int .i64 cn/\z9=.int .i64 last/\I64 cn/\g=cn.toNat/\Hid (TInv T.cols o next cn L last o2)/\Hid (St w0 fp0 (rdrA p 126 v o2::storeA T.S T.cols T.I L (last+1)::F) wr)/\Hid (RdrP w0 fp0 B v o2))
  case atStart=> exact ⟨cnt,0,[],v2,o2,rfl,rfl,hcn,rfl,HI0,H1,H2⟩
  case round=>
   clear H1 H2 HI0 hcn;obtain ⟨cn,last,L,v,o2,rfl,rfl,hcn,hg,Hi,Hs,Hr⟩:=hrel;have HG:=Lib.hid hg;have HCN:=Lib.hid hcn;obtain ⟨_,hp⟩:=Hs.out.has 0 rfl;have c1:=(blk_get hp).1 1;have cl:=(blk_get hp).2.2;simp only [List.getElem?_toArray,List.getElem?_cons_zero,List.getElem?_cons_succ] at c1;clear hp hg;cases o2 with
   | none=>
    have c1:wr.cell? ⟨p,1,none⟩=some (.bool true):=c1;have HF:Hid (RdTabP w0 fp0 F B p 126 T.S T.cols T.I o (.returned (.tuple #[])) wr):=⟨L,last+1,v,none,rfl,Hs.out,trivial,TabS.bad Hi.out⟩
    clear HCN hcn HADV HSTO;by_cases hc:0 < cn
    · go_wp2
      go_end0;exact HF.out
    · go_wp2
      go_end0;exact HF.out
   | some l=>
    have c1:wr.cell? ⟨p,1,none⟩=some (.bool false):=c1;obtain ⟨b0,rfl,hm⟩:=Hi.out;have HM:=Lib.hid hm;have HLL:Hid (L.length < 1000000000/\l.length < 1000000000):=by have:=hm.lens;have:=HO.out b0 rfl;show _/\_;omega
    have HNL:Hid (last+1<=next/\next<=4611686018427387905):=⟨by have:=hm.lt;omega,hm.hi⟩
    by_cases hc:0 < cn
    · have HBL:Hid (∃M,storeA T.S T.cols T.I L (last+1)::F=M++B):=by
       obtain ⟨M,e⟩:=HBF.out;exact ⟨storeA T.S T.cols T.I L (last+1)::M,by rw [e];rfl⟩
      have HT1:=Lib.hid (rdNumber_calls p v (some l) w0 wr fp0 _ B HBL.out Hs.out Hr.out);have hw1:wrap64 (cn - 1)=cn - 1:=by obtain ⟨a1,a2⟩:=hcn;unfold wrap64;omega
      have HC:=Lib.hid hc;clear hm hcn;go_wp2_with fail;(with_reducible refine HT1.out.mono ?_);rintro e w3 ⟨id,v3,o3,rfl,hid,h1,h2,h3⟩;have hO3:∀x,o3=some x->x.length < 1099511627776:=NumS.len h3 (λ x hx=> by obtain rfl:=Option.some.inj hx;have:=HLL.out.2;omega);have HT2:=Lib.hid (rdRow_calls p v3 o3 hO3 w0 w3 fp0 _ B HBL.out h1 h2);have HID:=Lib.hid hid;have HS3:=Lib.hid h3;clear HT1 h1 h2 h3 c1 cl hid hO3;go_wp2_with fail;(with_reducible refine HT2.out.mono ?_);rintro e w4 ⟨rv,r,v4,o4,rfl,h1,h2,h3,hrv,ra,rn,rc,rfl⟩;have HRV:=Lib.hid hrv;have HS4:=Lib.hid h3;have HR4:=Lib.hid h2;have H4:=Lib.hid h1;obtain ⟨_,hp⟩:=h1.has 0 rfl;have c1:=(blk_get hp).1 1;have cl:=(blk_get hp).2.2;have f1:=(blk_get hp).2.1 1;simp only [List.getElem?_toArray,List.getElem?_cons_zero,List.getElem?_cons_succ] at c1;have HFB:Hid ((o4=none\/id<=last\/next<=id\/storB T.cols r=false)->∀w',St w0 fp0 (rdrA p 126 v4 o4::rowA 68 3 (.slice ra rn rc) r.length (flat r)::storeA T.S T.cols T.I L (last+1)::F) w'->RdTabP w0 fp0 F B p 126 T.S T.cols T.I (some b0) (.returned (.tuple #[])) (w'.setCell ⟨p,1,none⟩ (.bool true))):=λ hx w' hs=>
       ⟨L,last+1,v4,none,rfl,((St.setB hs 1 (by simp) (.bool true)).perm (List.Perm.swap _ _ _)).drop,trivial,TabS.bad λ b hb=> by obtain rfl:=Option.some.inj hb;exact HM.out.no HC.out HS3.out HS4.out hx⟩
      clear h1 h2 h3 hrv hp HT2;cases o4 with
      | none=>
       have c1:w4.cell? ⟨p,1,none⟩=some (.bool true):=c1;have HF:=Lib.hid (HFB.out (.inl rfl) w4 H4.out);clear HFB HSTO HADV;go_wp2;go_end0;exact HF.out
      | some m=>
       have c1:w4.cell? ⟨p,1,none⟩=some (.bool false):=c1;by_cases hl:id<=last
       · have HF:=Lib.hid (HFB.out (.inr (.inl hl)) w4 H4.out)
         clear HFB HSTO HADV;go_wp2;go_end0;exact HF.out
       · by_cases hn:next<=id
         · have HF:=Lib.hid (HFB.out (.inr (.inr (.inl hn))) w4 H4.out)
           clear HFB HSTO HADV;go_wp2;go_end0;exact HF.out
         · have hv:ValsAt w4 r (.slice ra rn rc):=by
            obtain ⟨_,hrw⟩:=H4.out.has 1 rfl;exact ⟨SlX.of_row (X:=[]) hrw (length_flat _) (by simp),HRV.out.txt⟩
           have HT:=Lib.hid (HSTO.out [_,_,_] w4 H4.out r _ hv);obtain ⟨sb,hsb⟩:∃sb,storB T.cols r=sb:=⟨_,rfl⟩
           have HSB:=Lib.hid hsb;rw [hsb] at HT;clear hv hsb HSTO;cases sb with
           | false=>
            go_wp2_with fail;(with_reducible refine HT.out.mono ?_);rintro e w5 ⟨rfl,hb5⟩;have h5:=H4.out.mono hb5;obtain ⟨_,hp⟩:=h5.has 0 rfl;have c1:=(blk_get hp).1 1;have cl:=(blk_get hp).2.2;have f1:=(blk_get hp).2.1 1;simp only [List.getElem?_toArray,List.getElem?_cons_zero,List.getElem?_cons_succ] at c1;have HF:=Lib.hid (HFB.out (.inr (.inr (.inr HSB.out))) w5 h5);clear HFB HADV HT hb5 h5 hp;go_wp2;go_end0;exact HF.out
           | true=>
            clear HFB;go_wp2_with fail;(with_reducible refine HT.out.mono ?_);rintro e w5 ⟨rfl,hb5⟩;have h5:=H4.out.mono hb5;have hl':last < id:=by omega
            have hn':id < next:=by omega
            obtain ⟨e1,e2,e3⟩:=HM.out.put hl' hn' HSB.out;have hpm:=h5.perm (L':=storeA T.S T.cols T.I L (last+1)::rowA 68 3 (.slice ra rn rc) r.length (flat r)::rdrA p 126 v4 (some m)::F) (by classical refine List.perm_iff_count.2 λ a=> ?_;simp only [List.count_cons];omega);have hsp:=SPut_calls T.S T.cols T.I L (last+1) id r (.slice ra rn rc) HID.out (λ v hv=> (HRV.out v hv).2) HCL.out (by have:=HLL.out.1;omega) w0 w5 fp0 _ (Rd.of_piece 0 rfl λ w f hb=> ⟨SlX.of_row (X:=[]) hb (length_flat _) (by simp),HRV.out.txt⟩) hpm;rw [e1,e2,e3] at hsp;unfold errV ptrV at hsp;have HP:=Lib.hid hsp;have HMN:=Lib.hid (HM.out.yes HC.out HS3.out HS4.out hl' hn' HSB.out);clear hsp hpm e1 e2 e3 h5 hb5 HT c1 cl f1;go_wp2_with fail;(with_reducible refine HP.out.mono ?_);rintro e w6 ⟨rfl,h6⟩;have H6:Hid (St w0 fp0 (rdrA p 126 v4 (some m)::storeA T.S T.cols T.I (L++[(id,r)]) (id+1)::F) w6):=((h6.perm (List.Perm.swap _ _ _)).drop.perm (List.Perm.swap _ _ _))
            clear h6 HP HADV;go_wp2;go_roundg (cn - 1).toNat
            case rel=> exact ⟨cn - 1,id,L++[(id,r)],v4,some m,by go_num,rfl,by have:=HCN.out;have:=HC.out;unfold I64 at *;omega,rfl,⟨b0,rfl,HMN.out⟩,H6,HR4⟩
            case measure=> have:=HG.out;have:=HC.out;omega
    · have HF:Hid (∀w',St w0 fp0 (rdrA p 126 v (some l)::storeA T.S T.cols T.I L next::F) w'->RdTabP w0 fp0 F B p 126 T.S T.cols T.I (some b0) (.returned (.tuple #[])) w'):=λ w' hs=> ⟨L,next,v,some l,rfl,hs,Hr.out,TInv.ends ⟨b0,rfl,hm⟩ hc⟩
      have HA:=Lib.hid (HADV.out L (last+1) next v (some l) HNL.out.1 HNL.out.2 HLL.out.1 wr Hs.out);clear hm hcn HADV HSTO;go_wp2_with fail;(with_reducible refine HA.out.mono ?_);rintro e w3 ⟨rfl,h3⟩;have HFF:=Lib.hid (HF.out _ h3);clear HA HF h3 c1 cl;go_wp2;go_end0;exact HFF.out
section
def DInv (ns:List Nat) (l:List UInt8) (D:Db) (k:Nat):Option (List UInt8)->Prop
 | some m=> (∀t∈D.take k,TabOk t)/\l=encD (D.take k)++m
 | none=> DecD ns l none
section
variable {ns:List Nat} {l m:List UInt8} {D:Db} {k:Nat}
theorem DInv.start:DInv ns l D 0 (some l):=⟨by simp,by simp [encD]⟩
theorem map_take_eq {D2:Db} (h1:D.map (·.1)=ns) (h2:D2.map (·.1)=ns) (hk:k<=D.length):(D.take k).map (·.1)=(D2.map (·.1)).take (D.take k).length:=by
 rw [h2,<-h1,List.length_take,Nat.min_eq_left hk,List.map_take]
theorem DInv.rest (h:DInv ns l D k (some m)) (hk:k<=D.length) (hn:D.map (·.1)=ns) {D2:Db} (h2:D2.map (·.1)=ns) (hok:∀t∈D2,TabOk t) (e:l=encD D2):∃D',D2=D.take k++D'/\encD D'=m:=by
 obtain ⟨D',e1,e2⟩:=encD_pre (d:=D.take k) (D:=D2) (m:=m) (m':=[]) h.1 hok (map_take_eq hn h2 hk) (by rw [List.append_nil,<-e,h.2]);exact ⟨D',e1,by rwa [List.append_nil] at e2⟩
theorem DInv.step {c:Nat} {L:LL} {next:Int} {o o2:Option (List UInt8)} (hn:D.map (·.1)=ns) (hk:k < D.length) (hc:D[k].1=c) (h:DInv ns l D k o) (ht:TabS c o (c,L,next) o2):DInv ns l (D.set k (c,L,next)) (k+1) o2:=by
 have e1:(D.set k (c,L,next)).take (k+1)=D.take k++[(c,L,next)]:=by rw [List.take_add_one,List.take_set_of_le (Nat.le_refl k),List.getElem?_set_self hk];rfl
 cases o with
 | none=>
  obtain rfl:o2=none:=ht;exact h
 | some m=>
  rcases ht with ⟨m2,g,rfl⟩ | ⟨rfl,g⟩
  · refine ⟨λ t ht=> ?_,?_⟩
    · rw [e1] at ht
      rcases List.mem_append.1 ht with ht | ht
      · exact h.1 t ht
      · rw [List.mem_singleton.1 ht]
        exact g.1
    · rw [e1,encD_app,h.2,g.2,List.append_assoc]
      congr 1;rw [encD_cons];simp [encD]
  · intro D2 h2 hok e
    obtain ⟨D',e2,e3⟩:=h.rest (Nat.le_of_lt hk) hn h2 hok e;cases D' with
    | nil=>
     have:=congrArg List.length e2;rw [<-List.length_map (f:=λ t:Nat×LL×Int=> t.1),h2,<-hn,List.length_map,List.length_append,List.length_take] at this;simp at this;omega
    | cons t D'=>
     refine g t (encD D') ?_ ⟨hok t (by rw [e2];simp),by rw [<-e3,encD_cons]⟩;have h4:(D2.map (·.1))[k]? =some t.1:=by rw [e2,List.map_append,List.getElem?_append_right (by rw [List.length_map,List.length_take];omega),List.length_map,List.length_take,Nat.min_eq_left (Nat.le_of_lt hk)];simp
     rw [h2,<-hn,List.getElem?_map,List.getElem?_eq_getElem hk] at h4;have:=Option.some.inj h4;rw [<-this];exact hc
theorem DInv.done (hn:D.map (·.1)=ns) (h:DInv ns l D D.length (some [])):DecD ns l (some D):=by
 obtain ⟨h1,h2⟩:=h;rw [List.take_length] at h1 h2;rw [List.append_nil] at h2;exact ⟨hn,h1,h2⟩
theorem DInv.more (hn:D.map (·.1)=ns) (h:DInv ns l D D.length (some m)) (hm:m≠[]):DecD ns l none:=λ D2 h2 hok e=> by
 obtain ⟨D',e2,e3⟩:=h.rest (Nat.le_refl _) hn h2 hok e;have:=congrArg List.length e2;rw [<-List.length_map (f:=λ t:Nat×LL×Int=> t.1),h2,<-hn,List.length_map,List.take_length,List.length_append] at this;have:D'=[]:=List.length_eq_zero_iff.1 (by omega);subst this;exact hm e3.symm
end
theorem TabS.len {c:Nat} {o o2:Option (List UInt8)} {t:Nat×LL×Int} (h:TabS c o t o2) {N:Nat} (ho:∀l,o=some l->l.length < N):∀l,o2=some l->l.length < N:=by
 rintro m rfl;cases o with
 | none=> cases h
 | some l=>
  rcases h with ⟨m',g,e⟩ | ⟨e, -⟩
  · obtain rfl:=Option.some.inj e
    have h1:=ho l rfl;rw [g.2,List.length_append] at h1;omega
  · cases e
def DecDP (w0:World) (fp0:List Nat) (R:List Asn) (ns:List Nat) (l:List UInt8) (e:Ending) (w':World):Prop:=
 ∃(q:Option Db) (pv:Value),DecD ns l q/\e=.returned (.tuple #[pv, .int .i64 (if q.isSome then 0 else 2)])/\(match q with
  | some D=> ∃b,pv=.pointer (some ⟨b,0,none⟩)/\St w0 fp0 (stA b D::R) w'
  | none=> pv=.pointer none/\St w0 fp0 R w')
end
def gRr22a (p:Nat) (ov v:Value):=rgx Tryz.prog Tryz.f36 22 117 [103,104,105,106,107,108,109,110,111,112,113,114,115,116,4,5] [(7,ov),(6,pV p 0)] (Vq 0 103 [Kv ov,Kp p 0,Kp p 0,Kp p 1,Kv (.bool true),Kv (.bool false),Kv (.bool false),Kv undef,Kv undef,Kv undef,Kv undef,Kv undef,Kv undef,Kv (.bool false)]++Vq 14 4 [Kv ov,Kv (.bool false)]) [Bk p (130) [v, .bool true]]
theorem rRr22a (p:Nat) (ov v:Value) (w0:World) (fp0:List Nat) (R:List Asn)  {w:World} {c:Code} {a:Act} {Q:Exit->Act->World->Prop} (c1:isReg c=true) (c2:cops c=opsR Tryz.f36 22) (c3:a.tmps.size=117) (_c4:a.defers=a.defers) (i7:a.eval (.tmp 7)=ov) (i6:a.eval (.tmp 6)=.pointer (some ⟨p,0,none⟩))
 (hS:St w0 fp0 ([blkA p (130) #[v, .bool true]]++R) w)
 (hQ:∀(w1:World),St w0 fp0 ([blkA p (130) #[v, .bool true]]++R) w1->Q .normal (putL a [(103,ov),(104, .pointer (some ⟨p,0,none⟩)),(105, .pointer (some ⟨p,0,none⟩)),(106, .pointer (some ⟨p,1,none⟩)),(107, .bool true),(108, .bool false),(109, .bool false),(110,undef),(111,undef),(112,undef),(113,undef),(114,undef),(115,undef),(116, .bool false),(4,ov),(5, .bool false)]) w1):c.wp Tryz.prog Q a w:=by
 have ok:(gRr22a p ov v w0 fp0 R).Ok 16:=Rg.ok _ 16 [4,7,8,9,10,11,12] ⟨.load _ 4 0 1, .skip _ 7, .skip _ 8, .skip _ 9, .skip _ 10, .skip _ 11, .skip _ 12,trivial⟩;refine wp_regD ok (by kernel_rfl) ⟨c1,c2⟩ ⟨c3,λ p hp=> ?_⟩ hS λ A1 w1 N1 H1=> ?_
 · simp only [gRr22a,rgx,List.map_nil,List.append_nil,List.mem_cons,List.not_mem_nil,or_false] at hp
   rcases hp with rfl | rfl
   · exact i7
   · exact i6
 exact N1.fin [] (hQ w1 H1) (by kernel_rfl)
def gRr22b (p n vc:Nat) (ov:Value) (va:Option Addr):=rgx Tryz.prog Tryz.f36 22 117 [103,104,105,106,107,108,109,110,111,112,113,114,115,116,4,5] [(7,ov),(6,pV p 0)] (Vq 0 103 [Kv ov,Kp p 0,Kp p 0,Kp p 1,Kv (.bool false),Kv (.bool true),Kv (.bool true),Kp p 0,Kp p 0,Kp p 0,Kv (.slice va n vc),Kv (.int .i64 (n:Nat)),Kv (.bool true),Kv (.bool true)]++Vq 14 4 [Kv ov,Kv (.bool true)]) [Bk p (130) [.slice va n vc, .bool false]]
theorem rRr22b (p n vc:Nat) (ov:Value) (va:Option Addr) (w0:World) (fp0:List Nat) (R:List Asn) (h0:decide ((n:Int)=0)=true) {w:World} {c:Code} {a:Act} {Q:Exit->Act->World->Prop} (c1:isReg c=true) (c2:cops c=opsR Tryz.f36 22) (c3:a.tmps.size=117) (_c4:a.defers=a.defers) (i7:a.eval (.tmp 7)=ov) (i6:a.eval (.tmp 6)=.pointer (some ⟨p,0,none⟩))
 (hS:St w0 fp0 ([blkA p (130) #[.slice va n vc, .bool false]]++R) w)
 (hQ:∀(w1:World),St w0 fp0 ([blkA p (130) #[.slice va n vc, .bool false]]++R) w1->Q .normal (putL a [(103,ov),(104, .pointer (some ⟨p,0,none⟩)),(105, .pointer (some ⟨p,0,none⟩)),(106, .pointer (some ⟨p,1,none⟩)),(107, .bool false),(108, .bool true),(109, .bool true),(110, .pointer (some ⟨p,0,none⟩)),(111, .pointer (some ⟨p,0,none⟩)),(112, .pointer (some ⟨p,0,none⟩)),(113, .slice va n vc),(114, .int .i64 (n:Nat)),(115, .bool true),(116, .bool true),(4,ov),(5, .bool true)]) w1):c.wp Tryz.prog Q a w:=by
 have ok:(gRr22b p n vc ov va w0 fp0 R).Ok 16:=Rg.ok _ 16 [4,10,12] ⟨.load _ 4 0 1, .load _ 10 0 0, .eqlB _ 12 n 0 true h0,trivial⟩;refine wp_regD ok (by kernel_rfl) ⟨c1,c2⟩ ⟨c3,λ p hp=> ?_⟩ hS λ A1 w1 N1 H1=> ?_
 · simp only [gRr22b,rgx,List.map_nil,List.append_nil,List.mem_cons,List.not_mem_nil,or_false] at hp
   rcases hp with rfl | rfl
   · exact i7
   · exact i6
 exact N1.fin [] (hQ w1 H1) (by kernel_rfl)
def gRr22c (p n vc:Nat) (ov:Value) (va:Option Addr):=rgx Tryz.prog Tryz.f36 22 117 [103,104,105,106,107,108,109,110,111,112,113,114,115,116,4,5] [(7,ov),(6,pV p 0)] (Vq 0 103 [Kv ov,Kp p 0,Kp p 0,Kp p 1,Kv (.bool false),Kv (.bool true),Kv (.bool true),Kp p 0,Kp p 0,Kp p 0,Kv (.slice va n vc),Kv (.int .i64 (n:Nat)),Kv (.bool false),Kv (.bool false)]++Vq 14 4 [Kv ov,Kv (.bool false)]) [Bk p (130) [.slice va n vc, .bool false]]
theorem rRr22c (p n vc:Nat) (ov:Value) (va:Option Addr) (w0:World) (fp0:List Nat) (R:List Asn) (h0:decide ((n:Int)=0)=false) {w:World} {c:Code} {a:Act} {Q:Exit->Act->World->Prop} (c1:isReg c=true) (c2:cops c=opsR Tryz.f36 22) (c3:a.tmps.size=117) (_c4:a.defers=a.defers) (i7:a.eval (.tmp 7)=ov) (i6:a.eval (.tmp 6)=.pointer (some ⟨p,0,none⟩))
 (hS:St w0 fp0 ([blkA p (130) #[.slice va n vc, .bool false]]++R) w)
 (hQ:∀(w1:World),St w0 fp0 ([blkA p (130) #[.slice va n vc, .bool false]]++R) w1->Q .normal (putL a [(103,ov),(104, .pointer (some ⟨p,0,none⟩)),(105, .pointer (some ⟨p,0,none⟩)),(106, .pointer (some ⟨p,1,none⟩)),(107, .bool false),(108, .bool true),(109, .bool true),(110, .pointer (some ⟨p,0,none⟩)),(111, .pointer (some ⟨p,0,none⟩)),(112, .pointer (some ⟨p,0,none⟩)),(113, .slice va n vc),(114, .int .i64 (n:Nat)),(115, .bool false),(116, .bool false),(4,ov),(5, .bool false)]) w1):c.wp Tryz.prog Q a w:=by
 have ok:(gRr22c p n vc ov va w0 fp0 R).Ok 16:=Rg.ok _ 16 [4,10,12] ⟨.load _ 4 0 1, .load _ 10 0 0, .eqlB _ 12 n 0 false h0,trivial⟩;refine wp_regD ok (by kernel_rfl) ⟨c1,c2⟩ ⟨c3,λ p hp=> ?_⟩ hS λ A1 w1 N1 H1=> ?_
 · simp only [gRr22c,rgx,List.map_nil,List.append_nil,List.mem_cons,List.not_mem_nil,or_false] at hp
   rcases hp with rfl | rfl
   · exact i7
   · exact i6
 exact N1.fin [] (hQ w1 H1) (by kernel_rfl)
theorem putR_asc {x:Ri} {l:List Ri} (h:l.Pairwise λ a b=> a.id < b.id):(putR x.id x l).Pairwise λ a b=> a.id < b.id:=by
 unfold putR;refine List.pairwise_append.2 ⟨h.sublist List.filter_sublist,List.pairwise_cons.2 ⟨λ b hb=> ?_,h.sublist List.filter_sublist⟩,λ a ha b hb=> ?_⟩
 · exact of_decide_eq_true (List.mem_filter.1 hb).2
 · have h1:=of_decide_eq_true (List.mem_filter.1 ha).2
   rcases List.mem_cons.1 hb with rfl | hb
   · exact h1
   · have:=of_decide_eq_true (List.mem_filter.1 hb).2
     omega
theorem putR_mem {x y:Ri} {l:List Ri} (h:y∈putR x.id x l):y=x\/y∈l:=by
 unfold putR at h;rcases List.mem_append.1 h with h | h
 · exact .inr ((List.mem_filter.1 h).1)
 · rcases List.mem_cons.1 h with h | h
   · exact .inl h
   · exact .inr ((List.mem_filter.1 h).1)
theorem Rd.appR {w0:World} {fp0:List Nat} {R:List Asn} {Q:World->Prop} (h:Rd w0 fp0 R Q) (R0:List Asn):Rd w0 fp0 (R++R0) Q:=(h.app R0).perm List.perm_append_comm
structure RdI (w:World) (p:Nat) (n:Nat) (oa:Option Addr) (oc:Nat) (ms:List Rs) (v:Value) (o:Option (List UInt8)) (P R0:List Asn) (W:World):Prop where
 st:St w [] (rdrA p 130 v o::rowA 44 3 (.slice oa n oc) n (ms.flatMap Rs.c)::(P++R0)) W
 rd:Rd w [] P λ W=> ∀m∈ms,RiX W m.l m.lv
 asc:∀m∈ms,m.l.Pairwise λ a b=> a.id < b.id
 n:ms.length=n
 rr:RdrP w [] [] v o
theorem RdI.og {w W:World} {p n oc:Nat} {oa:Option Addr} {ms:List Rs} {v:Value} {o:Option (List UInt8)} {P R0:List Asn} (h:RdI w p n oa oc ms v o P R0 W) (hn:0 < n):∃og,oa=some ⟨og,0,none⟩/\og < W.heap.size:=by
 obtain ⟨f,hr⟩:=h.st.has 1 rfl;obtain ⟨_,⟨e, -⟩ | ⟨g,cap,cur,e, -,hg, -⟩⟩:=hr.1
 · have:=(Value.slice.inj e).2.1
   omega
 · exact ⟨g,(Value.slice.inj e).1,(Array.getElem?_eq_some_iff.1 hg).1⟩
theorem RdI.cells {w W:World} {p n oc og:Nat} {ms:List Rs} {v:Value} {o:Option (List UInt8)} {P R0:List Asn} (h:RdI w p n (some ⟨og,0,none⟩) oc ms v o P R0 W) (k:Nat) (_hk:k < n) (hkm:k < ms.length):W.cell? ⟨og,k * 3,none⟩=some (.int .i64 ms[k].cols)/\W.cell? ⟨og,k * 3+1,none⟩=some ms[k].lv/\W.cell? ⟨og,k * 3+2,none⟩=some (.int .i64 ms[k].next):=by
 obtain ⟨f,hr⟩:=h.st.has 1 rfl;have hs:=SlX.of_row (X:=[]) hr (by rw [flatMap_len rsc_len,h.n]) (by simp);rw [<-h.n] at hs;obtain ⟨b,o',c,e, -, -,hc⟩:=rec_cells (by decide) rsc_len hs k hkm;obtain ⟨e1, -, -⟩:=Value.slice.inj e;obtain ⟨rfl,rfl⟩:og=b/\0=o':=by have:=Option.some.inj e1;injection this with h1 h2 h3;exact ⟨h1,h2⟩
 have h0:=hc 0 _ rfl;have h1:=hc 1 _ rfl;have h2:=hc 2 _ rfl;simp only [Nat.zero_add,Nat.add_zero] at h0 h1 h2;exact ⟨h0,h1,h2⟩
theorem set_same {α:Type} {l:List α} {i:Nat} {a:α} (h:l[i]? =some a):l.set i a=l:=by
 obtain ⟨h1,h2⟩:=List.getElem?_eq_some_iff.1 h;rw [<-h2,List.set_getElem_self]
theorem RdI.next {w W:World} {p n oc og:Nat} {ms:List Rs} {v:Value} {o:Option (List UInt8)} {P R0:List Asn} {m:Rs} {k:Nat} (hk:k < ms.length) (h:RdI w p n (some ⟨og,0,none⟩) oc (ms.set k m) v o P R0 W) (next:Int):RdI w p n (some ⟨og,0,none⟩) oc (ms.set k ⟨m.cols,m.la,m.lc,next,m.l⟩) v o P R0 (W.setCell ⟨og,k * 3+2,none⟩ (.int .i64 next)):=by
 have hk2:k < (ms.set k m).length:=by rw [List.length_set];exact hk
 have h1:=St.setR (h.st.perm (List.Perm.swap _ _ _)) (k * 3+2) (.int .i64 next);have e0:=set3 Rs.c rsc_len (ms.set k m) k ⟨m.cols,m.la,m.lc,next,m.l⟩ (.int .i64 m.cols) m.lv (.int .i64 next) hk2 rfl;have hat:∀j u,m.c[j]? =some u->((ms.set k m).flatMap Rs.c)[k * 3+j]? =some u:=λ j u hj=> by have hl:∀l:List Rs,(l.flatMap Rs.c).length=l.length * 3:=λ l=> flatMap_len rsc_len l;rw [<-List.take_append_drop k (ms.set k m),List.flatMap_append,List.getElem?_append_right (by rw [hl,List.length_take];omega),hl,List.length_take,Nat.min_eq_left (by omega),List.drop_eq_getElem_cons hk2,List.flatMap_cons,List.getElem_set_self,List.getElem?_append_left (by have:=(List.getElem?_eq_some_iff.1 hj).1;omega)];rw [show k * 3+j - k * 3=j by omega];exact hj
 have e1:put3 ((ms.set k m).flatMap Rs.c) k (.int .i64 m.cols) m.lv (.int .i64 next)=((ms.set k m).flatMap Rs.c).set (k * 3+2) (.int .i64 next):=by unfold put3;have e2:((ms.set k m).flatMap Rs.c).set (k * 3) (.int .i64 m.cols)=(ms.set k m).flatMap Rs.c:=set_same (hat 0 _ rfl);rw [e2,set_same (hat 1 _ rfl)]
 rw [<-e1,e0,List.set_set] at h1;refine ⟨h1.perm (List.Perm.swap _ _ _),λ L W hW x hx=> ?_,λ x hx=> ?_,by rw [List.length_set];have:=h.n;rwa [List.length_set] at this,h.rr⟩
 · obtain ⟨j,hj,rfl⟩:=List.mem_iff_getElem.1 hx
   have hj2:j < ms.length:=by rwa [List.length_set] at hj
   have hm:=h.rd L W hW ((ms.set k m)[j]'(by rw [List.length_set];exact hj2)) (List.getElem_mem _);by_cases e:k=j
   · subst e
     rw [List.getElem_set_self] at hm ⊢;exact hm
   · rw [List.getElem_set_ne e] at hm ⊢
     exact hm
 · obtain ⟨j,hj,rfl⟩:=List.mem_iff_getElem.1 hx
   have hj2:j < ms.length:=by rwa [List.length_set] at hj
   have hm:=h.asc ((ms.set k m)[j]'(by rw [List.length_set];exact hj2)) (List.getElem_mem _);by_cases e:k=j
   · subst e
     rw [List.getElem_set_self] at hm ⊢;exact hm
   · rw [List.getElem_set_ne e] at hm ⊢
     exact hm
theorem RdI.free {w W:World} {p n oc og:Nat} {ms:List Rs} {v:Value} {o:Option (List UInt8)} {P R0:List Asn} (h:RdI w p n (some ⟨og,0,none⟩) oc ms v o P R0 W) (hn:0 < n):(∀j,W.frozen? ⟨og,j,none⟩=false)/\og < W.heap.size:=by
 obtain ⟨f,hr⟩:=h.st.has 1 rfl;obtain ⟨_,⟨e, -⟩ | ⟨g,cap,cur,e, -,hg, -⟩⟩:=hr.1
 · have:=(Value.slice.inj e).2.1
   omega
 · obtain ⟨e1, -, -⟩:=Value.slice.inj e
   obtain rfl:og=g:=by have:=Option.some.inj e1;injection this
   exact ⟨λ j=> frozen_of_row W og j cur _ hg,(Array.getElem?_eq_some_iff.1 hg).1⟩
theorem put_post {w W:World} {A B:Asn} {P R0:List Asn} {q:Bool} {la ra:Option Addr} {lc rc:Nat} {lv2:Value} {id:Int} {r:Rw} {l:List Ri} (h:PutPostZ emp w [] (A::B::rowA 68 3 (.slice ra r.length rc) r.length (flat r)::(P++R0)) q (.slice la l.length lc) lv2 ⟨id,ra,r.length,rc,r⟩ l W) (hrd:Rd w [] P λ W=> RiX W l (.slice la l.length lc)) (ht:∀v∈r,v.text.size<=maxLen):
 ∃(la2:Option Addr) (lc2:Nat) (l3:List Ri) (M:List Asn),lv2=.slice la2 l3.length lc2/\l3=(if q then putR id ⟨id,ra,r.length,rc,r⟩ l else l)/\St w [] (A::B::((M++P)++R0)) W/\Rd w [] (M++P) λ W=> RiX W l3 (.slice la2 l3.length lc2):=by
 have hrow:∀M:List Asn,Rd w [] (M++(rowA 68 3 (.slice ra r.length rc) r.length (flat r)::P)) λ W=> ValsAt W r (.slice ra r.length rc):=λ M=> by refine Rd.app ?_ M;exact Rd.of_piece 0 rfl λ w f hb=> ⟨SlX.of_row (X:=[]) hb (length_flat _) (by simp),ht⟩
 rcases h with ⟨rfl,h⟩ | ⟨rfl,rfl,h⟩
 · obtain ⟨f,hr⟩:=h.has 0 rfl
   have hsl:=riA_sl hr;obtain ⟨la2,lc2,rfl⟩:=hsl.shape;refine ⟨la2,lc2,_,[riA (.slice la2 (putR id ⟨id,ra,r.length,rc,r⟩ l).length lc2) (putR id ⟨id,ra,r.length,rc,r⟩ l),rowA 68 3 (.slice ra r.length rc) r.length (flat r)],rfl,rfl,?_,λ L W hW=> ⟨?_,λ x hx=> ?_⟩⟩
   · exact (St.emp.1 (St_re (L:=[_,_,_,_,_]) h [1,2,3,0,4] [] (by kernel_rfl)))
   · exact Rd.of_piece (A:=riA (.slice la2 (putR id ⟨id,ra,r.length,rc,r⟩ l).length lc2) (putR id ⟨id,ra,r.length,rc,r⟩ l)) 0 rfl (λ _ _ hb=> riA_sl hb) L W hW
   · rcases putR_mem (x:=⟨id,ra,r.length,rc,r⟩) hx with rfl | hx
     · exact hrow [riA (.slice la2 (putR id ⟨id,ra,r.length,rc,r⟩ l).length lc2) (putR id ⟨id,ra,r.length,rc,r⟩ l)] L W hW
     · exact ((hrd.app [_,_]) L W hW).row x hx
 · exact ⟨la,lc,l,[rowA 68 3 (.slice ra r.length rc) r.length (flat r)],rfl,rfl,St.emp.1 h,hrd.app [_]⟩
theorem RdI.ne {w W:World} {p n oc og:Nat} {ms:List Rs} {v:Value} {o:Option (List UInt8)} {P R0:List Asn} (h:RdI w p n (some ⟨og,0,none⟩) oc ms v o P R0 W):og≠p:=by
 obtain ⟨fp,⟨f,g,hA,⟨f2,g2,hB, -, -,e2⟩,hd,e⟩, -⟩:=h.st;have e1:=hA.2;have e3:=hB.2;subst e1 e2 e3;intro e;subst e;have:=hd og;simp [Value.ownBlock] at this
theorem RdI.upd {w W:World} {p n oc og:Nat} {ms:List Rs} {v:Value} {o:Option (List UInt8)} {P R0:List Asn} {m:Rs} {k:Nat} (hk:k < ms.length) (h:RdI w p n (some ⟨og,0,none⟩) oc (ms.set k m) v o P R0 W) (m':Rs) (hrd:Rd w [] P λ W=> RiX W m'.l m'.lv) (hasc:m'.l.Pairwise λ a b=> a.id < b.id):RdI w p n (some ⟨og,0,none⟩) oc (ms.set k m') v o P R0 (((W.setCell ⟨og,k * 3,none⟩ (.int .i64 m'.cols)).setCell ⟨og,k * 3+1,none⟩ m'.lv).setCell ⟨og,k * 3+2,none⟩ (.int .i64 m'.next)):=by
 have hk2:k < (ms.set k m).length:=by rw [List.length_set];exact hk
 have h1:=St.setR (St.setR (St.setR (h.st.perm (List.Perm.swap _ _ _)) (k * 3) (.int .i64 m'.cols)) (k * 3+1) m'.lv) (k * 3+2) (.int .i64 m'.next);have e0:=set3 Rs.c rsc_len (ms.set k m) k m' (.int .i64 m'.cols) m'.lv (.int .i64 m'.next) hk2 rfl;unfold put3 at e0;rw [e0,List.set_set] at h1;refine ⟨h1.perm (List.Perm.swap _ _ _),λ L W hW x hx=> ?_,λ x hx=> ?_,by rw [List.length_set];have:=h.n;rwa [List.length_set] at this,h.rr⟩
 · obtain ⟨j,hj,rfl⟩:=List.mem_iff_getElem.1 hx
   have hj2:j < ms.length:=by rwa [List.length_set] at hj
   have hm:=h.rd L W hW ((ms.set k m)[j]'(by rw [List.length_set];exact hj2)) (List.getElem_mem _);by_cases e:k=j
   · subst e
     rw [List.getElem_set_self];exact hrd L W hW
   · rw [List.getElem_set_ne e] at hm ⊢
     exact hm
 · obtain ⟨j,hj,rfl⟩:=List.mem_iff_getElem.1 hx
   have hj2:j < ms.length:=by rwa [List.length_set] at hj
   have hm:=h.asc ((ms.set k m)[j]'(by rw [List.length_set];exact hj2)) (List.getElem_mem _);by_cases e:k=j
   · subst e
     rw [List.getElem_set_self];exact hasc
   · rw [List.getElem_set_ne e] at hm ⊢
     exact hm
theorem RdI.mark {w W:World} {p n oc:Nat} {oa:Option Addr} {ms:List Rs} {v:Value} {o:Option (List UInt8)} {P R0:List Asn} (h:RdI w p n oa oc ms v o P R0 W) (o':Option (List UInt8)) (hr:RdrP w [] [] v o'):RdI w p n oa oc ms v o' P R0 (W.setCell ⟨p,1,none⟩ (.bool o'.isNone)):=
 ⟨St.setB h.st 1 (by simp) (.bool o'.isNone),h.rd,h.asc,h.n,hr⟩
theorem TMid.put' {b l:List UInt8} {c:Nat} {next cnt last id:Int} {ml:List Ri} {r:Rw} {x:Ri} (h:TMid b c next cnt (riL ml) last l) (hx:x.id=id) (hr:x.r=r) (hl:last < id) (hn:id < next) (hs:storB c r=true):riL (putR id x ml)=riL ml++[(id,r)]/\putN c id r (last+1)=id+1:=by
 obtain ⟨h1,h2,h3⟩:=h.put (r:=r) hl hn hs;refine ⟨?_,h3⟩;rw [riL_putR id x hx,hr];unfold putLL at h2;rw [if_pos h1] at h2;exact h2
theorem TInv.read {b l:List UInt8} {c:Nat} {next cnt last id:Int} {ml l3:List Ri} {r:Rw} {x:Ri} {o3 o6 o7:Option (List UInt8)} {bq pq:Bool} {pn:Int} (h:TMid b c next cnt (riL ml) last l) (hc:0 < cnt) (h1:NumS (some l) id o3) (h2:RowS2 o3 r o6) (hbq:decide (id<=last\/next<=id)=bq) (hpq:putOk c id r=pq) (hpn:putN c id r (last+1)=pn) (hx:x.id=id) (hr:x.r=r) (hl3:l3=if pq then putR id x ml else ml) (ho7:(if bq=true then none else o6)=o7):
 TInv c (some b) next (cnt - 1) (riL l3) id (if pq then o7 else none)/\((if pq then o7 else none)=none\/pn=id+1):=by
 have hno:(o6=none\/id<=last\/next<=id\/storB c r=false)->TInv c (some b) next (cnt - 1) (riL l3) id none:=λ hx b' e=> by obtain rfl:=Option.some.inj e;exact h.no hc h1 h2 hx
 cases pq with
 | false=>
  refine ⟨?_, .inl rfl⟩;rw [if_neg (by simp)];refine hno ?_;unfold putOk at hpq;by_cases hs:storB c r=true
  · rw [hs,Bool.and_true] at hpq
    have h3:=of_decide_eq_false hpq;have h4:=h.lt;have h5:=h.hi;rcases Int.lt_or_le id 1 with h6 | h6
    · exact .inr (.inl (by omega))
    · exact .inr (.inr (.inl (by omega)))
  · exact .inr (.inr (.inr (by simpa using hs)))
 | true=>
  rw [if_pos rfl] at hl3 ⊢;have hs:storB c r=true:=by unfold putOk at hpq;exact (Bool.and_eq_true_iff.1 hpq).2
  cases bq with
  | true=>
   rw [if_pos rfl] at ho7;subst ho7;have h3:=of_decide_eq_true hbq;exact ⟨hno (by rcases h3 with h3 | h3;exact .inr (.inl h3);exact .inr (.inr (.inl h3))), .inl rfl⟩
  | false=>
   rw [if_neg (by simp)] at ho7;subst ho7;cases o6 with
   | none=> exact ⟨hno (.inl rfl), .inl rfl⟩
   | some m=>
    have h3:=of_decide_eq_false hbq;have hl:last < id:=by omega
    have hn:id < next:=by omega
    obtain ⟨e1,e2⟩:=h.put' hx hr hl hn hs;refine ⟨⟨b,rfl,?_⟩, .inr (hpn.symm.trans e2)⟩;rw [hl3,e1];exact h.yes hc h1 h2 hl hn hs
theorem decTab_calls (p b k:Nat) (D:Db) (hk:k < D.length) (h0:D[k].2.1=[]/\D[k].2.2=1) (v:Value) (o:Option (List UInt8)) (ho:∀l,o=some l->l.length < 100000000) (w0 w:World) (fp0:List Nat) (R B:List Asn) (hB:∃M,R=M++B)
 (hS:St w0 fp0 (rdrA p 126 v o::stA b D::R) w) (hR:RdrP w0 fp0 B v o):
 Calls Tryz.prog 73 #[.pointer (some ⟨p,0,none⟩), .pointer (some ⟨b,0,none⟩), .int .i64 k] w λ e w'=> ∃(L:LL) (next:Int) (v2:Value) (o2:Option (List UInt8)),e=.returned (.tuple #[])/\St w0 fp0 (rdrA p 126 v2 o2::stA b (D.set k (D[k].1,L,next))::R) w'/\RdrP w0 fp0 B v2 o2/\TabS D[k].1 o (D[k].1,L,next) o2:=by
 obtain ⟨q,hq,hs⟩:=(hS.perm (List.Perm.swap _ _ _)).openD;have hkt:k < q.ts.length:=by rw [hq.tlen];exact hk
 have hat:=hq.at k hkt;rw [List.getElem?_eq_getElem hk] at hat;have hat:=Option.some.inj hat;rw [hat] at h0 ⊢;simp only at h0 ⊢;have h1:=hs.pickT k hkt;have h2:St w0 fp0 (rdrA p 126 v o::tbA q.ts[k]::(dbP b q++((q.ts.eraseIdx k).map tbA++R))) w:=by
  refine h1.perm ?_
  classical refine List.perm_iff_count.2 λ a=> ?_;simp only [List.count_append,List.count_cons];omega
 unfold tbA at h2;rw [h0.1,h0.2] at h2;refine (rdTable_calls p b k q D hq hkt v o ho w0 w fp0 R B hB h2 hR).mono ?_;rintro e w' ⟨L,next,v2,o2,e1,h3,h4,h5⟩;refine ⟨L,next,v2,o2,e1,?_,h4,h5⟩;have h6:St w0 fp0 (tbA { q.ts[k] with L:=L,next:=next }::(dbP b q++((q.ts.eraseIdx k).map tbA++(rdrA p 126 v2 o2::R)))) w':=by
  refine St.perm h3 ?_
  classical refine List.perm_iff_count.2 λ a=> ?_;unfold tbA;simp only [List.count_append,List.count_cons];omega
 have h7:=St.placeT hkt h6;rw [<-dbP_put b q k hkt] at h7;exact (St.shutD (hq.put k hkt L next) h7).perm (List.Perm.swap _ _ _)
theorem stA_len {w0 w:World} {fp0:List Nat} {R:List Asn} {b:Nat} {D:Db} (h:St w0 fp0 (stA b D::R) w):(∃ta tc,w.cell? ⟨b,1,none⟩=some (.slice ta D.length tc))/\b < w.heap.size:=by
 obtain ⟨q,hq,hs⟩:=h.openD;obtain ⟨-,d1,dl, -, -⟩:=db_get hs;refine ⟨⟨q.ta,q.tc,?_⟩,dl⟩;rw [d1,<-hq.tlen];rfl
theorem newD_at (td:List Td) (k:Nat) (hk:k < (newD td).length):(newD td)[k].2.1=[]/\(newD td)[k].2.2=1:=by
 have h:∀t∈newD td,t.2.1=[]/\t.2.2=1:=λ t ht=> by obtain ⟨u, -,rfl⟩:=List.mem_map.1 ht;exact ⟨rfl,rfl⟩
 exact h _ (List.getElem_mem hk)
theorem newD_map (td:List Td):(newD td).map (·.1)=td.map (·.n):=by
 unfold newD;rw [List.map_map];rfl
def FreshD (D:Db) (k:Nat):Prop:=∀i (h:i < D.length),k<=i->D[i].2.1=[]/\D[i].2.2=1
theorem FreshD.set {D:Db} {k:Nat} {t:Nat×LL×Int} (h:FreshD D k):FreshD (D.set k t) (k+1):=λ i hi hk=> by
 rw [List.getElem_set_ne (by omega)];exact h i (by simpa using hi) (by omega)
theorem map_set_same {D:Db} {k:Nat} (hk:k < D.length) (L:LL) (next:Int):(D.set k (D[k].1,L,next)).map (·.1)=D.map (·.1):=by
 refine List.ext_getElem (by simp) λ i h1 h2=> ?_;rw [List.getElem_map,List.getElem_map];by_cases h:k=i
 · subst h
   rw [List.getElem_set_self]
 · rw [List.getElem_set_ne h]
theorem decode_calls (td:List Td) (sv:Value) (l:List UInt8) (bv:Value) (hsm:∀t∈td,t.Sm) (htl:td.length<=1000) (hl:l.length < 100000000) (w0 w:World) (fp0:List Nat) (R B:List Asn) (hB:∃M,R=M++B) (hsv:Rd w0 fp0 R λ w=> SchX w td sv) (hbv:RdrP w0 fp0 B bv (some l)) (hS:St w0 fp0 R w):
 Calls Tryz.prog 34 #[sv,bv] w λ e w'=> DecDP w0 fp0 R (td.map (·.n)) l e w':=by
 have HN:=Lib.hid (StNew_calls td sv hsm htl w0 w fp0 R hsv hS);obtain ⟨sa,sc,rfl⟩:=(hsv.here hS).sl.shape;have HBV:=Lib.hid hbv;obtain ⟨ba,bc,rfl, -, -⟩:=hbv.1;have HB:=Lib.hid hB;have HL:=Lib.hid hl;obtain ⟨bn,hbn⟩:∃bn,l.length=bn:=⟨_,rfl⟩
 rw [hbn] at HBV ⊢;have HLN:=Lib.hid hbn;obtain ⟨m,hm⟩:∃m,td.length=m:=⟨_,rfl⟩
 rw [hm] at HN ⊢;have hmm:=newD_map td;have hnl:(newD td).length<=1000:=by unfold newD;rw [List.length_map];omega
 have hfr:FreshD (newD td) 0:=λ i h _=> newD_at td i h;obtain ⟨D0,hD0⟩:∃D0,newD td=D0:=⟨_,rfl⟩
 rw [hD0] at HN hmm hfr hnl;have HNL:=Lib.hid hnl;obtain ⟨ns,hns⟩:∃ns,td.map (·.n)=ns:=⟨_,rfl⟩
 rw [hns] at hmm ⊢;have HMM:=Lib.hid hmm;have HFR:=Lib.hid hfr;clear hsv hbv hS hsm htl hl hB hbn hm hmm hfr hD0 hns hnl;go_enter Tryz.func34,Tryz.ntmps34;go_wp2_with fail;(with_reducible refine HN.out.mono ?_);rintro e w1 ⟨b,rfl,h1⟩;have h2:=h1.newblk 126 #[.slice ba bn bc, .bool false];obtain ⟨rb,hrb⟩:∃rb,w1.heap.size=rb:=⟨_,rfl⟩
 rw [hrb] at h2;have H2:Hid (St w0 fp0 (rdrA rb 126 (.slice ba bn bc) (some l)::stA b D0::R) (w1.alloc (.cells #[.slice ba bn bc, .bool false] 126))):=h2;obtain ⟨⟨ta,tc,c1⟩,cl⟩:=stA_len h2.drop;obtain ⟨n,hn⟩:∃n,D0.length=n:=⟨_,rfl⟩
 rw [hn] at c1;have HDN:=Lib.hid hn;clear h1 h2 HN hn;go_upto_region 4 with (fail)
 clear c1 cl;generalize w1.alloc _=W at *;have hn1:n<=1000:=by have:=HNL.out;have:=HDN.out;omega
 have HO0:Hid (∀x,some l=some x->x.length < 100000000):=λ x hx=> by obtain rfl:=Option.some.inj hx;exact HL.out
 clear HNL hrb;go_loopg [19] n (λ g z19 wr=> ∃(k:Nat) (D:Db) (v:Value) (o:Option (List UInt8)),z19=.int .i64 k/\g+k=n/\Hid (D.map (·.1)=ns/\D.length=n/\FreshD D k)/\Hid (∀x,o=some x->x.length < 100000000)/\Hid (DInv ns l D k o)/\Hid (St w0 fp0 (rdrA rb 126 v o::stA b D::R) wr)/\Hid (RdrP w0 fp0 B v o))
 case atStart=> exact ⟨0,D0,_,some l,rfl,rfl,⟨HMM.out,HDN.out,HFR.out⟩,HO0,DInv.start,H2,HBV⟩
 case round=>
  clear H2 HBV HO0 HFR HDN HMM;obtain ⟨k,D,v,o,rfl,hgk,Hd,Ho,Hi,Hs,Hr⟩:=hrel;have HGK:=Lib.hid hgk;by_cases hk:k < n
  · have hkd:k < D.length:=by rw [Hd.out.2.1];exact hk
    have HBS:Hid (∃M,R=M++B):=HB;have HT:=Lib.hid (decTab_calls rb b k D hkd (Hd.out.2.2 k hkd (Nat.le_refl _)) v o Ho.out w0 wr fp0 R B HB.out Hs.out Hr.out);have hkn:(k:Int) < n:=by omega
    have hw1:wrap64 ((k:Int)+1)=((k+1:Nat):Int):=by unfold wrap64;omega
    have HKD:=Lib.hid hkd;have HNX:Hid (∀(L:LL) (next:Int) (o2:Option (List UInt8)),TabS D[k].1 o (D[k].1,L,next) o2->((D.set k (D[k].1,L,next)).map (·.1)=ns/\(D.set k (D[k].1,L,next)).length=n/\FreshD (D.set k (D[k].1,L,next)) (k+1))/\DInv ns l (D.set k (D[k].1,L,next)) (k+1) o2):=λ L next o2 h=>
     ⟨⟨(map_set_same hkd L next).trans Hd.out.1,by rw [List.length_set];exact Hd.out.2.1,Hd.out.2.2.set⟩,DInv.step Hd.out.1 hkd rfl Hi.out h⟩
    generalize D[k].1=cN at HT HNX;clear hkd hgk;go_wp2_with fail;(with_reducible refine HT.out.mono ?_);rintro e w3 ⟨L,next,v3,o3,rfl,h3,h4,h5⟩;have HR2:=Lib.hid (HNX.out L next o3 h5);have HO3:=Lib.hid (h5.len Ho.out);have HS3:=Lib.hid h3;have HR3:=Lib.hid h4;clear h3 h4 h5 HT HNX Hd;go_wp2;go_roundg (gk - 1)
    case rel=> exact ⟨k+1,_,v3,o3,by go_num,by have:=HGK.out;omega,HR2.out.1,HO3,HR2.out.2,HS3,HR3⟩
    case measure=> have:=HGK.out;omega
  · obtain rfl:k=n:=by omega
    obtain ⟨_,hp⟩:=Hs.out.has 0 rfl;have c0:=(blk_get hp).1 0;have c1:=(blk_get hp).1 1;have cl:=(blk_get hp).2.2;simp only [List.getElem?_toArray,List.getElem?_cons_zero,List.getElem?_cons_succ] at c0 c1;clear hp;have hdl:=Hd.out.2.1;have hi:=Hi.out;rw [<-hdl] at hi;have HDL:=Lib.hid hdl;cases o with
    | none=>
     have c1:wr.cell? ⟨rb,1,none⟩=some (.bool true):=c1;have HF:Hid (DecDP w0 fp0 R ns l (.returned (.tuple #[.pointer none, .int .i64 2])) wr):=⟨none,_,hi,rfl,rfl,Hs.out.drop.drop⟩
     clear hi hdl;go_wp2;refine bodyPost_ret (v:=.tuple #[.pointer none, .int .i64 2]) (by simp [results,Tryz.results34,go_sem]) rfl HF.out
    | some x=>
     have c1:wr.cell? ⟨rb,1,none⟩=some (.bool false):=c1;obtain ⟨xa,xc,rfl, -, -⟩:=Hr.out.1;cases x with
     | nil=>
      have HF:Hid (DecDP w0 fp0 R ns l (.returned (.tuple #[.pointer (some ⟨b,0,none⟩), .int .i64 0])) wr):=⟨some D,_,DInv.done Hd.out.1 hi,rfl,b,rfl,Hs.out.drop⟩
      have c0:wr.cell? ⟨rb,0,none⟩=some (.slice xa 0 xc):=c0;clear hi hdl;go_wp2;refine bodyPost_ret (v:=.tuple #[.pointer (some ⟨b,0,none⟩), .int .i64 0]) (by simp [results,Tryz.results34,go_sem]) rfl HF.out
     | cons y x=>
      have HF:Hid (DecDP w0 fp0 R ns l (.returned (.tuple #[.pointer none, .int .i64 2])) wr):=⟨none,_,DInv.more Hd.out.1 hi (by simp),rfl,rfl,Hs.out.drop.drop⟩
      obtain ⟨xn,hxn⟩:∃xn,(y::x).length=xn:=⟨_,rfl⟩
      have hx0:0 < xn:=by rw [<-hxn,List.length_cons];omega
      rw [hxn] at c0;clear hi hdl;go_wp2;refine bodyPost_ret (v:=.tuple #[.pointer none, .int .i64 2]) (by simp [results,Tryz.results34,go_sem]) rfl HF.out
def ReadP (ns:List Nat) (l:List UInt8) (w:World) (R0:List Asn) (e:Ending) (w':World):Prop:=
 ∃(q:Option Db) (ms:List Rs) (a:Option Addr) (c:Nat) (P:List Asn),e=.returned (.tuple #[.slice a ms.length c, .bool q.isSome])/\DecD ns l q/\St w [] (P++R0) w'/\(Rd w [] P λ W=> RefX W ms (.slice a ms.length c))/\∀D,q=some D->MsOk D ms
theorem RdI.fin {w W W':World} {p n oc:Nat} {oa:Option Addr} {ms:List Rs} {v:Value} {o:Option (List UInt8)} {P R0:List Asn} {ns:List Nat} {l:List UInt8} (h:RdI w p n oa oc ms v o P R0 W) (hs:St w [] (rowA 44 3 (.slice oa n oc) n (ms.flatMap Rs.c)::(P++R0)) W') {q:Option Db} (hq:DecD ns l q) (hd:∀D,q=some D->D=ms.map Rs.d):ReadP ns l w R0 (.returned (.tuple #[.slice oa n oc, .bool q.isSome])) W':=by
 have hn:=h.n;have hst:=h.rd;have hasc:=h.asc;clear h;subst hn;refine ⟨q,ms,oa,oc,rowA 44 3 (.slice oa ms.length oc) ms.length (ms.flatMap Rs.c)::P,rfl,hq,hs,λ L W hW=> ⟨?_,?_⟩,λ D e=> ⟨(hd D e).symm,hasc⟩⟩
 · exact Rd.of_piece (A:=rowA 44 3 (.slice oa ms.length oc) ms.length (ms.flatMap Rs.c)) 0 rfl (λ W f hb=> SlX.of_row (X:=[]) hb (flatMap_len rsc_len _) (by simp)) L W hW
 · exact (hst.cons _) L W hW
theorem ms0_fresh (td:List Td):FreshD ((ms0 td).map Rs.d) 0:=λ i h _=> by
 have hm:∀t∈(ms0 td).map Rs.d,t.2.1=[]/\t.2.2=1:=λ t ht=> by obtain ⟨m,hm,rfl⟩:=List.mem_map.1 ht;obtain ⟨u, -,rfl⟩:=List.mem_map.1 hm;exact ⟨rfl,rfl⟩
 exact hm _ (List.getElem_mem h)
theorem ms0_map (td:List Td):((ms0 td).map Rs.d).map (·.1)=td.map (·.n):=by
 unfold ms0;rw [List.map_map,List.map_map];rfl
theorem rread_calls (td:List Td) (sv:Value) (l:List UInt8) (bv:Value) (htl:td.length<=1000) (hl:l.length < 100000000) (w wi:World) (R0:List Asn) (hS:St w [] R0 wi) (hs:Rd w [] [] λ W=> SchX W td sv) (hb:Rd w [] [] λ W=> BytesX [] W l bv) (hcp:SlC bv l.length):
 Calls Tryz.prog 36 #[sv,bv] wi λ e w'=> ReadP (td.map (·.n)) l w R0 e w':=by
 obtain ⟨rb,hrb⟩:∃rb,wi.heap.size=rb:=⟨_,rfl⟩
 have h1:St w [] (rdrA rb 130 bv (some l)::R0) (wi.alloc (.cells #[bv, .bool false] 130)):=by rw [<-hrb];exact hS.newblk 130 #[bv, .bool false]
 have HRR:Hid (RdrP w [] [] bv (some l)):=⟨hcp,hb⟩
 have HNW:=Lib.hid (RNew40_calls td sv htl w _ [] (rdrA rb 130 bv (some l)::R0) (λ L W h=> hs (L++(rdrA rb 130 bv (some l)::R0)) W (by simpa using h)) h1);obtain ⟨sa,sc,rfl⟩:=(hs R0 wi (by simpa using hS)).sl.shape;obtain ⟨ba,bc,rfl, -, -⟩:=hcp;have HL:=Lib.hid hl;have HM0:=Lib.hid (ms0_map td);have HF0:=Lib.hid (ms0_fresh td);have hml:(ms0 td).length=td.length:=by unfold ms0;rw [List.length_map]
 have HML:=Lib.hid hml;have HAS:Hid ((∀m∈ms0 td,m.l.Pairwise λ a b=> a.id < b.id)/\∀(W:World),∀m∈ms0 td,RiX W m.l m.lv):=⟨(ms0_ok td).asc,λ W m hm=> by obtain ⟨t, -,rfl⟩:=List.mem_map.1 hm;exact ⟨SlX.nil _ _ _ _ _,by simp⟩⟩
 obtain ⟨ns,hns⟩:∃ns,td.map (·.n)=ns:=⟨_,rfl⟩
 rw [hns] at HM0 ⊢;obtain ⟨M0,hM0⟩:∃M0,ms0 td=M0:=⟨_,rfl⟩
 rw [hM0] at HNW HM0 HF0 HML HAS;obtain ⟨n,hn⟩:∃n,td.length=n:=⟨_,rfl⟩
 rw [hn] at HNW HML htl ⊢;have HRB:=Lib.hid hrb;clear h1 hS hs hb hl hml hns hM0 hn hrb;obtain ⟨bn,hbn⟩:∃bn,l.length=bn:=⟨_,rfl⟩
 rw [hbn] at HRR HNW ⊢;clear hbn;go_enter Tryz.func36,Tryz.ntmps36;go_wp2_with fail;(with_reducible refine HNW.out.mono ?_);rintro e w1 ⟨oa,oc,rfl,h2⟩;have HI0:Hid (RdI w rb n oa oc M0 (.slice ba bn bc) (some l) [] R0 w1):=⟨h2.perm (List.Perm.swap _ _ _),λ L W h=> HAS.out.2 W,HAS.out.1,HML.out,HRR.out⟩
 have HO0:Hid (∀x,some l=some x->x.length < 100000000):=λ x hx=> by obtain rfl:=Option.some.inj hx;exact HL.out
 clear h2 HNW HAS HML HRR;rw [HRB.out] at *;go_upto_region 4 with (fail)
 go_loopg [8] n (λ g z8 wr=> ∃(k:Nat) (ms:List Rs) (v:Value) (o:Option (List UInt8)) (P:List Asn),z8=.int .i64 k/\g+k=n/\Hid (RdI w rb n oa oc ms v o P R0 wr)/\Hid ((ms.map Rs.d).map (·.1)=ns/\FreshD (ms.map Rs.d) k)/\Hid (∀x,o=some x->x.length < 100000000)/\Hid (DInv ns l (ms.map Rs.d) k o))
 case atStart=> exact ⟨0,M0,_,some l,[],rfl,rfl,HI0,⟨HM0.out,HF0.out⟩,HO0,DInv.start⟩
 case round=>
  clear HI0 HO0 HM0 HF0;obtain ⟨k,ms,v,o,P,rfl,hgk,Hi,Hd,Ho,Hv⟩:=hrel;have HGK:=Lib.hid hgk;by_cases hk:k < n
  · have hkm:k < ms.length:=by rw [Hi.out.n];exact hk
    have hkn:(k:Int) < n:=by omega
    obtain ⟨og,hog, -⟩:=Hi.out.og (by omega);obtain rfl:=hog;have hw1:wrap64 ((k:Int)+1)=((k+1:Nat):Int):=by unfold wrap64;omega
    have HN1:=Lib.hid (RdNumber_calls rb v o w wr [] _ [] ⟨_,(List.append_nil _).symm⟩ Hi.out.st Hi.out.rr);clear hgk;go_upto_region 6 with (fail)
    go_wp2_with fail;(with_reducible refine HN1.out.mono ?_);rintro e w3 ⟨next,v1,o1,rfl,hnx,h1,h2,h3⟩;have HN2:=Lib.hid (RdNumber_calls rb v1 o1 w w3 [] _ [] ⟨_,(List.append_nil _).symm⟩ h1 h2);have HS1:=Lib.hid h3;clear HN1 h1 h2 h3;go_wp2_with fail;(with_reducible refine HN2.out.mono ?_);rintro e w4 ⟨cnt,v2,o2,rfl,hcn,h1,h2,h3⟩;have HS2:=Lib.hid h3;have H1:=Lib.hid h1;have H2:=Lib.hid h2;obtain ⟨_,hp⟩:=h1.has 0 rfl;have c1:=(blk_get hp).1 1;have cl:=(blk_get hp).2.2;have f1:=(blk_get hp).2.1 1;simp only [List.getElem?_toArray,List.getElem?_cons_zero,List.getElem?_cons_succ] at c1;have HSET:=Lib.hid (λ i hi u=> St.setB h1 i hi u);clear HN2 h1 h2 h3 hp;go_upto_region 7 with (fail)
    obtain ⟨iv,hiv⟩:∃iv:Bool,(decide (1<=next/\next<=4611686018427387905/\0<=cnt))=iv:=⟨_,rfl⟩
    have HIV:=Lib.hid hiv;clear hiv;go_cut [41] (λ z wx=> z=.bool (!iv)/\wx=w4)
    case first=>
     by_cases h1:next < 1
     · have HE:Hid (iv=false):=by
        show _=_;rw [<-HIV.out];exact decide_eq_false (by omega)
       obtain rfl:=HE.out;clear HE;go_wp2;go_meet;exact ⟨rfl,rfl⟩
     · by_cases h2:4611686018427387905 < next
       · have HE:Hid (iv=false):=by
          show _=_;rw [<-HIV.out];exact decide_eq_false (by omega)
         obtain rfl:=HE.out;clear HE;go_wp2;go_meet;exact ⟨rfl,rfl⟩
       · have HE:Hid (iv=!decide (cnt < 0)):=by
          show _=_;rw [<-HIV.out];by_cases h3:cnt < 0
          · rw [decide_eq_true h3,decide_eq_false (by omega)];rfl
          · rw [decide_eq_false h3,decide_eq_true (by omega)];rfl
         obtain rfl:=HE.out;clear HE;go_wp2;go_meet;exact ⟨by simp,rfl⟩
    obtain ⟨rfl,ew⟩:=hcut;obtain rfl:=ew.symm;clear ew;obtain ⟨cN,hcN⟩:∃cN,ms[k].cols=cN:=⟨_,rfl⟩
    have HCN:=Lib.hid hcN;clear hcN;go_step;go_cut [] (λ wx=> ∃(v3:Value) (o3:Option (List UInt8)),Hid (St w [] (rdrA rb 130 v3 o3::rowA 44 3 (.slice (some ⟨og,0,none⟩) n oc) n (ms.flatMap Rs.c)::(P++R0)) wx)/\Hid (RdrP w [] [] v3 o3)/\Hid (TInv cN o next cnt [] 0 o3))
    case first=>
     cases iv with
     | false=>
      have HX:=Lib.hid (HSET.out 1 (by simp) (.bool true));have HT:Hid (TInv cN o next cnt [] 0 none):=TInv.range HS1.out HS2.out (of_decide_eq_false HIV.out);clear HSET H1 H2 HS1 HS2;go_wp2;go_meet;exact ⟨v2,none,HX.out,trivial,HT⟩
     | true=>
      have HT:Hid (TInv cN o next cnt [] 0 o2):=TInv.start HS1.out HS2.out (of_decide_eq_true HIV.out);clear HSET HS1 HS2;go_wp2;go_meet;exact ⟨v2,o2,H1,H2,HT⟩
    obtain ⟨v3,o3,H3,HR3,HT3⟩:=hcut;clear HSET H1 H2 HS1 HS2 HIV c1 cl f1;have hml:ms[k].l=[]/\ms[k].next=1:=by have h:=Hd.out.2 k (by rw [List.length_map];exact hkm) (Nat.le_refl _);rw [List.getElem_map] at h;exact ⟨List.map_eq_nil_iff.1 h.1,h.2⟩
    have HI3:Hid (RdI w rb n (some ⟨og,0,none⟩) oc (ms.set k ms[k]) v3 o3 P R0 wc):=by show RdI _ _ _ _ _ _ _ _ _ _ _;rw [List.set_getElem_self];exact ⟨H3.out,Hi.out.rd,Hi.out.asc,Hi.out.n,HR3.out⟩
    have HT4:Hid (TInv cN o next (cnt - 0) (riL ms[k].l) 0 o3):=by show TInv _ _ _ _ _ _ _;rw [hml.1,Int.sub_zero];exact HT3.out
    have HEND:Hid (∀(m:Rs) (o2:Option (List UInt8)),m.cols=cN->TabS cN o (cN,riL m.l,next) o2->(((ms.set k ⟨m.cols,m.la,m.lc,next,m.l⟩).map Rs.d).map (·.1)=ns/\FreshD ((ms.set k ⟨m.cols,m.la,m.lc,next,m.l⟩).map Rs.d) (k+1))/\DInv ns l ((ms.set k ⟨m.cols,m.la,m.lc,next,m.l⟩).map Rs.d) (k+1) o2):=λ m o2 hc ht=> by
     have hkd:k < (ms.map Rs.d).length:=by rw [List.length_map];exact hkm
     have hc1:(ms.map Rs.d)[k].1=cN:=by rw [List.getElem_map];exact HCN.out
     have e:(ms.set k ⟨m.cols,m.la,m.lc,next,m.l⟩).map Rs.d=(ms.map Rs.d).set k (cN,riL m.l,next):=by rw [List.map_set,<-hc];rfl
     rw [e];refine ⟨⟨?_,Hd.out.2.set⟩,DInv.step Hd.out.1 hkd hc1 Hv.out ht⟩;have h:=map_set_same hkd (riL m.l) next
     rw [hc1] at h;exact h.trans Hd.out.1
    obtain ⟨M0,hM0⟩:∃M0,ms[k]=M0:=⟨_,rfl⟩
    rw [hM0] at HI3 HT4 HCN hml;have HNE:Hid (M0.next=0+1):=hml.2;have HKM:=Lib.hid hkm;have HCNT:=Lib.hid hcn;clear H3 HR3 HT3 Hi hml hM0 hkm hcn hnx;obtain ⟨gk0,rfl⟩:∃x,x=gk:=⟨_,rfl⟩
    go_upto_region 11 with (fail)
    go_loopg [11,12] cnt.toNat (λ g z11 z12 wr=> ∃(kk last:Int) (m:Rs) (v:Value) (o2:Option (List UInt8)) (P:List Asn),z11=.int .i64 last/\z12=.int .i64 kk/\0<=kk/\g=(cnt - kk).toNat/\Hid (m.cols=cN)/\Hid (TInv cN o next (cnt - kk) (riL m.l) last o2)/\Hid (o2=none\/m.next=last+1)/\Hid (RdI w rb n (some ⟨og,0,none⟩) oc (ms.set k m) v o2 P R0 wr))
    case atStart=> exact ⟨0,0,M0,v3,o3,P,rfl,rfl,Int.le_refl _,by rw [Int.sub_zero],HCN,HT4, .inr HNE.out,HI3⟩
    case round=>
     clear HI3 HT4 HCN HNE;obtain ⟨kk,last,m,v,o2,P,rfl,rfl,hkk,hg,Hc,Ht,Hx,Hi⟩:=hrel;have HG:=Lib.hid hg;obtain ⟨_,hp⟩:=Hi.out.st.has 0 rfl;have c1:=(blk_get hp).1 1;have cl:=(blk_get hp).2.2;have f1:=(blk_get hp).2.1 1;simp only [List.getElem?_toArray,List.getElem?_cons_zero,List.getElem?_cons_succ] at c1;clear hp hg;cases o2 with
     | none=>
      have c1:wr.cell? ⟨rb,1,none⟩=some (.bool true):=c1;have HN3:=Lib.hid (Hi.out.next HKM.out next);have HE3:=Lib.hid (HEND.out m none Hc.out (TabS.bad Ht.out));have hfz:=(Hi.out.free (by omega)).1;have ogl:=(Hi.out.free (by omega)).2;have c2:=(Hi.out.cells k hk (by rw [List.length_set];exact HKM.out)).2.2;clear Hi Ht Hx HEND;by_cases hc:kk < cnt
      · go_wp2
        go_roundg (gk0 - 1)
        case rel=> exact ⟨k+1,_,v,none,P,by go_num,by have:=HGK.out;omega,HN3,HE3.out.1,(λ x hx=> nomatch hx),HE3.out.2⟩
        case measure=> have:=HGK.out;omega
      · go_wp2
        go_roundg (gk0 - 1)
        case rel=> exact ⟨k+1,_,v,none,P,by go_num,by have:=HGK.out;omega,HN3,HE3.out.1,(λ x hx=> nomatch hx),HE3.out.2⟩
        case measure=> have:=HGK.out;omega
     | some l2=>
      have c1:wr.cell? ⟨rb,1,none⟩=some (.bool false):=c1;obtain ⟨b0,rfl,hm⟩:=Ht.out;have hmn:m.next=last+1:=by rcases Hx.out with h | h;(cases h);exact h
      have HMN:=Lib.hid hmn;have HM:=Lib.hid hm;have HLL:Hid (m.l.length < 100000000/\l2.length < 100000000):=by have h1:=hm.lens;have h2:=Ho.out b0 rfl;rw [riL_len] at h1;show _/\_;omega
      by_cases hc:kk < cnt
      · have HT1:=Lib.hid (RdNumber_calls rb v (some l2) w wr [] _ [] ⟨_,(List.append_nil _).symm⟩ Hi.out.st Hi.out.rr)
        have HRD:=Lib.hid Hi.out.rd;have HAS:=Lib.hid Hi.out.asc;have HNN:=Lib.hid Hi.out.n;have HC:=Lib.hid hc;clear hm Ht Hx hmn;go_wp2_with fail;(with_reducible refine HT1.out.mono ?_);rintro e w5 ⟨id,v5,o5,rfl,hid,h1,h2,h3⟩;have hO5:∀x,o5=some x->x.length < 1099511627776:=NumS.len h3 (λ x hx=> by obtain rfl:=Option.some.inj hx;have:=HLL.out.2;omega);have HT2:=Lib.hid (RdRow_calls rb v5 o5 hO5 w w5 [] _ [] ⟨_,(List.append_nil _).symm⟩ h1 h2);have HID:=Lib.hid hid;have HS3:=Lib.hid h3;clear HT1 h1 h2 h3 c1 cl hid hO5;go_wp2_with fail;(with_reducible refine HT2.out.mono ?_);rintro e w6 ⟨rv,r,v6,o6,rfl,h1,h2,h3,hrv,ra,rn,rc,rfl⟩;have HRV:=Lib.hid hrv;have HS4:=Lib.hid h3;have HR4:=Lib.hid h2;have H4:=Lib.hid h1;obtain ⟨_,hp⟩:=h1.has 0 rfl;have c1:=(blk_get hp).1 1;have cl:=(blk_get hp).2.2;have f1:=(blk_get hp).2.1 1;simp only [List.getElem?_toArray,List.getElem?_cons_zero,List.getElem?_cons_succ] at c1;have HSET:=Lib.hid (λ i hi u=> St.setB h1 i hi u);obtain ⟨bq,hbq⟩:∃bq:Bool,decide (id<=last\/next<=id)=bq:=⟨_,rfl⟩
        have HBQ:=Lib.hid hbq;clear h1 h2 h3 hrv hp HT2 hbq Hi;go_upto_region 15 with (fail)
        go_cut [68] (λ z wx=> z=.bool bq/\wx=w6)
        case first=>
         by_cases hq:id<=last
         · have HE:Hid (bq=true):=by
            show _=_;rw [<-HBQ.out];exact decide_eq_true (.inl hq)
           obtain rfl:=HE.out;clear HE;go_wp2;go_meet;exact ⟨rfl,rfl⟩
         · have HE:Hid (bq=decide (next<=id)):=by
            show _=_;rw [<-HBQ.out];by_cases h3:next<=id
            · rw [decide_eq_true h3,decide_eq_true (.inr h3)]
            · rw [decide_eq_false h3,decide_eq_false (by omega)]
           obtain rfl:=HE.out;clear HE;go_wp2;go_meet;exact ⟨by simp,rfl⟩
        obtain ⟨rfl,ew⟩:=hcut;obtain rfl:=ew.symm;clear ew;go_step;go_cut [] (λ wx=> Hid (St w [] (rdrA rb 130 v6 (if bq then none else o6)::rowA 68 3 (.slice ra rn rc) r.length (flat r)::rowA 44 3 (.slice (some ⟨og,0,none⟩) n oc) n ((ms.set k m).flatMap Rs.c)::(P++R0)) wx))
        case first=>
         cases bq with
         | true=>
          have HX:=Lib.hid (HSET.out 1 (by simp) (.bool true));clear HSET;go_wp2;go_meet;exact HX.out
         | false=>
          clear HSET;go_wp2;go_meet;exact H4.out
        have H5:=hcut;clear HSET H4 c1 cl f1 hcut;obtain ⟨o7,ho7⟩:∃o7,(if bq=true then none else o6)=o7:=⟨_,rfl⟩
        have HO7:=Lib.hid ho7;rw [ho7] at H5;have HR7:Hid (RdrP w [] [] v6 o7):=by
         show RdrP _ _ _ _ _;rw [<-HO7.out];cases bq with
         | true=> exact trivial
         | false=> exact HR4.out
        clear ho7 HR4;obtain ⟨mcols,mla,mlc,mnx,ml⟩:=m;obtain rfl:mcols=cN:=Hc.out;obtain rfl:mnx=last+1:=HMN.out;have hmem:(⟨mcols,mla,mlc,last+1,ml⟩:Rs)∈ms.set k ⟨mcols,mla,mlc,last+1,ml⟩:=List.mem_set HKM.out _;obtain ⟨_,hr1⟩:=H5.out.has 1 rfl;obtain ⟨_,_,e1, -⟩:=row_shape hr1;obtain ⟨rfl,rfl,rfl⟩:=Value.slice.inj e1;have hst:=St_re (L:=[_,_,_]) H5.out [0,2,1] [] (by kernel_rfl);have HRL:Hid (Rd w [] P λ W=> RiX W ml (.slice mla ml.length mlc)):=HRD.out.imp λ W h=> h _ hmem;have hl9:ml.length < 100000000:=HLL.out.1;have HPU:=Lib.hid (RPut_callsZ emp mcols (.slice mla ml.length mlc) (last+1) ⟨id,ra,r.length,rc,r⟩ ml (HAS.out _ hmem) (by omega) w wc [] _ (Rd.of_piece 2 rfl λ w f hb=> ⟨SlX.of_row (X:=[]) hb (length_flat _) (by simp),HRV.out.txt⟩) (((HRL.out.imp λ W h=> h.sl).appR R0).app [emp,_,_,_]) (St.emp.2 hst));have HI7:Hid (RdI w rb n (some ⟨og,0,none⟩) oc (ms.set k ⟨mcols,mla,mlc,last+1,ml⟩) v6 o7 (_::P) R0 wc):=⟨hst,HRD.out.cons _,HAS.out,HNN.out,HR7.out⟩
        obtain ⟨a0,a1,a2⟩:=HI7.out.cells k hk (by rw [List.length_set];exact HKM.out);rw [List.getElem_set_self] at a0 a1 a2;have ogl:=(HI7.out.free (by omega)).2;obtain ⟨pq,hpq⟩:∃pq,putOk mcols id r=pq:=⟨_,rfl⟩
        have HPQ:=Lib.hid hpq;obtain ⟨pn,hpn⟩:∃pn,putN mcols id r (last+1)=pn:=⟨_,rfl⟩
        have HPN:=Lib.hid hpn;replace HPU:Hid (Calls Tryz.prog 49 #[.agg #[.int .i64 mcols, .slice mla ml.length mlc, .int .i64 (last+1)], .int .i64 id, .slice ra r.length rc] wc λ e w'=> ∃lv2,e=.returned (.tuple #[.agg #[.int .i64 mcols,lv2, .int .i64 pn],errV pq])/\PutPostZ emp w [] (rdrA rb 130 v6 o7::rowA 44 3 (.slice (some ⟨og,0,none⟩) n oc) n ((ms.set k ⟨mcols,mla,mlc,last+1,ml⟩).flatMap Rs.c)::rowA 68 3 (.slice ra r.length rc) r.length (flat r)::(P++R0)) pq (.slice mla ml.length mlc) lv2 ⟨id,ra,r.length,rc,r⟩ ml w'):=by have h:=HPU.out;rw [show putN mcols (⟨id,ra,r.length,rc,r⟩:Ri).id (⟨id,ra,r.length,rc,r⟩:Ri).r (last+1)=pn from hpn,show putOk mcols (⟨id,ra,r.length,rc,r⟩:Ri).id (⟨id,ra,r.length,rc,r⟩:Ri).r=pq from hpq] at h;exact h
        replace a1:wc.cell? ⟨og,k * 3+1,none⟩=some (.slice mla ml.length mlc):=a1;clear hmem hr1 e1 hst HI7 hpq hpn H5;go_upto_region 18 with (fail)
        go_wp2_with fail;(with_reducible refine HPU.out.mono ?_);rintro e w7 ⟨lv2,rfl,h7⟩;obtain ⟨la2,lc2,l3,M7,rfl,hl3,h8,hr8⟩:=put_post h7 HRL.out HRV.out.txt;have h9:=h8.newblk 44 #[.int .i64 mcols, .slice la2 l3.length lc2, .int .i64 pn];have H9:=Lib.hid h9;have HR8:=Lib.hid hr8;have HL3:=Lib.hid hl3;obtain ⟨V0,V1,V2⟩:=VarIs.new w7 #[.int .i64 0, .slice none 0 0, .int .i64 0] 44;have HI9:Hid (RdI w rb n (some ⟨og,0,none⟩) oc (ms.set k ⟨mcols,mla,mlc,last+1,ml⟩) v6 o7 (M7++P) R0 (w7.alloc (.cells #[.int .i64 mcols, .slice la2 l3.length lc2, .int .i64 pn] 44))):=⟨h9.drop,HRD.out.app M7,HAS.out,HNN.out,HR7.out⟩
        obtain ⟨a0,a1,a2⟩:=HI9.out.cells k hk (by rw [List.length_set];exact HKM.out);rw [List.getElem_set_self] at a0 a1 a2;replace a1:(w7.alloc (.cells #[.int .i64 mcols, .slice la2 l3.length lc2, .int .i64 pn] 44)).cell? ⟨og,k * 3+1,none⟩=some (.slice mla ml.length mlc):=a1;have ogf:=(HI9.out.free (by omega)).1;have ogl:=(HI9.out.free (by omega)).2;have hne:=HI9.out.ne;have hne':=Ne.symm hne;obtain ⟨_,hp⟩:=HI9.out.st.has 0 rfl;have c1:=(blk_get hp).1 1;have cl:=(blk_get hp).2.2;have f1:=(blk_get hp).2.1 1;simp only [List.getElem?_toArray,List.getElem?_cons_zero,List.getElem?_cons_succ] at c1;have hw2:wrap64 (kk+1)=kk+1:=by have:=HCNT.out;unfold I64 at this;unfold wrap64;omega
        obtain ⟨hti,hnx⟩:=TInv.read HM.out (by omega) HS3.out HS4.out HBQ.out HPQ.out HPN.out rfl rfl hl3 HO7.out;rw [show cnt - kk - 1=cnt - (kk+1) by omega] at hti;have HTI:=Lib.hid hti;have HNX:=Lib.hid hnx;have hal:l3.Pairwise λ a b=> a.id < b.id:=by
         have ha:=HAS.out _ (List.mem_set (l:=ms) HKM.out (⟨mcols,mla,mlc,last+1,ml⟩:Rs));rw [hl3];split
         · exact putR_asc (x:=⟨id,ra,r.length,rc,r⟩) ha
         · exact ha
        have HI10:Hid (RdI w rb n (some ⟨og,0,none⟩) oc (ms.set k ⟨mcols,la2,lc2,pn,l3⟩) v6 o7 (M7++P) R0 _):=HI9.out.upd HKM.out ⟨mcols,la2,lc2,pn,l3⟩ hr8 hal;have HI11:Hid (RdI w rb n (some ⟨og,0,none⟩) oc (ms.set k ⟨mcols,la2,lc2,pn,l3⟩) v6 (if pq then o7 else none) (M7++P) R0 _):=HI10.out.mark (if pq then o7 else none) (by cases pq with | true=> exact HR7.out | false=> exact trivial);have HGG:Hid ((cnt - (kk+1)).toNat < (cnt - kk).toNat):=by show _ < _;omega
        clear h9 hr8 hl3 hl9 h8 hti hnx hal hp HI9 HI10 H9 HPN HL3;unfold errV;cases o7 with
        | none=>
         have c1:World.cell? _ ⟨rb,1,none⟩=some (.bool true):=c1;cases pq with
         | true=>
          simp only [if_true];go_wp2;go_roundg (cnt - (kk+1)).toNat
          case rel=> exact ⟨kk+1,id,⟨mcols,la2,lc2,pn,l3⟩,v6,none,M7++P,rfl,by go_num,by omega,rfl,rfl,HTI.out,HNX.out,HI11.out⟩
          case measure=> have:=HG.out;have:=HGG.out;omega
         | false=>
          simp only [Bool.false_eq_true,if_false];go_wp2;go_roundg (cnt - (kk+1)).toNat
          case rel=> exact ⟨kk+1,id,⟨mcols,la2,lc2,pn,l3⟩,v6,none,M7++P,rfl,by go_num,by omega,rfl,rfl,HTI.out,HNX.out,HI11.out⟩
          case measure=> have:=HG.out;have:=HGG.out;omega
        | some l7=>
         have c1:World.cell? _ ⟨rb,1,none⟩=some (.bool false):=c1;cases pq with
         | true=>
          simp only [if_true];go_wp2;go_roundg (cnt - (kk+1)).toNat
          case rel=> exact ⟨kk+1,id,⟨mcols,la2,lc2,pn,l3⟩,v6,some l7,M7++P,rfl,by go_num,by omega,rfl,rfl,HTI.out,HNX.out,HI11.out⟩
          case measure=> have:=HG.out;have:=HGG.out;omega
         | false=>
          simp only [Bool.false_eq_true,if_false];go_wp2;go_roundg (cnt - (kk+1)).toNat
          case rel=> exact ⟨kk+1,id,⟨mcols,la2,lc2,pn,l3⟩,v6,none,M7++P,rfl,by go_num,by omega,rfl,rfl,HTI.out,HNX.out,HI11.out⟩
          case measure=> have:=HG.out;have:=HGG.out;omega
      · have HN3:=Lib.hid (Hi.out.next HKM.out next)
        have HE3:=Lib.hid (HEND.out m (some l2) Hc.out (TInv.ends ⟨b0,rfl,hm⟩ (by omega)));have HO3:Hid (∀x,some l2=some x->x.length < 100000000):=λ x hx=> by obtain rfl:=Option.some.inj hx;exact HLL.out.2
        have hfz:=(Hi.out.free (by omega)).1;have ogl:=(Hi.out.free (by omega)).2;have c2:=(Hi.out.cells k hk (by rw [List.length_set];exact HKM.out)).2.2;clear Hi Ht Hx HEND hm hmn;go_wp2;go_roundg (gk0 - 1)
        case rel=> exact ⟨k+1,_,v,some l2,P,by go_num,by have:=HGK.out;omega,HN3,HE3.out.1,HO3.out,HE3.out.2⟩
        case measure=> have:=HGK.out;omega
  · obtain rfl:k=n:=by omega
    have hln:(ms.map Rs.d).length=k:=by rw [List.length_map];exact Hi.out.n
    have hv:=Hv.out;rw [<-hln] at hv;cases o with
    | none=>
     have HFF:Hid (∀W',St w [] (rowA 44 3 (.slice oa k oc) k (ms.flatMap Rs.c)::(P++R0)) W'->ReadP ns l w R0 (.returned (.tuple #[.slice oa k oc, .bool false])) W'):=λ W' hs=> Hi.out.fin hs (q:=none) hv (λ D e=> nomatch e);have hst:=Hi.out.st;clear hv hln hgk;go_upto_region 22 with (fail)
     refine rRr22a (w0:=w) (fp0:=[]) (R:=rowA 44 3 (.slice oa k oc) k (ms.flatMap Rs.c)::(P++R0)) rb (.slice oa k oc) v rfl (by kernel_rfl) rfl rfl rfl rfl hst ?_;intro w3 h3;have HFX:=Lib.hid (HFF.out w3 h3.drop);clear h3 HFF hst;simp only [putL,List.foldl,Act.put,List.setIfInBounds_toArray,List.set_cons_succ,List.set_cons_zero];go_wp2;refine bodyPost_ret (v:=.tuple #[.slice oa k oc, .bool false]) (by simp [results,Tryz.results36,go_sem]) rfl HFX.out
    | some x=>
     obtain ⟨xa,xc,rfl, -, -⟩:=Hi.out.rr.1;have hst:=Hi.out.st;cases x with
     | nil=>
      have HFF:Hid (∀W',St w [] (rowA 44 3 (.slice oa k oc) k (ms.flatMap Rs.c)::(P++R0)) W'->ReadP ns l w R0 (.returned (.tuple #[.slice oa k oc, .bool true])) W'):=λ W' hs=> Hi.out.fin hs (q:=some (ms.map Rs.d)) (DInv.done Hd.out.1 hv) (λ D e=> (Option.some.inj e).symm);clear hv hln hgk;go_upto_region 22 with (fail)
      refine rRr22b (w0:=w) (fp0:=[]) (R:=rowA 44 3 (.slice oa k oc) k (ms.flatMap Rs.c)::(P++R0)) rb 0 xc (.slice oa k oc) xa (by decide) rfl (by kernel_rfl) rfl rfl rfl rfl hst ?_;intro w3 h3;have HFX:=Lib.hid (HFF.out w3 h3.drop);clear h3 HFF hst;simp only [putL,List.foldl,Act.put,List.setIfInBounds_toArray,List.set_cons_succ,List.set_cons_zero];go_wp2;refine bodyPost_ret (v:=.tuple #[.slice oa k oc, .bool true]) (by simp [results,Tryz.results36,go_sem]) rfl HFX.out
     | cons y x=>
      have HFF:Hid (∀W',St w [] (rowA 44 3 (.slice oa k oc) k (ms.flatMap Rs.c)::(P++R0)) W'->ReadP ns l w R0 (.returned (.tuple #[.slice oa k oc, .bool false])) W'):=λ W' hs=> Hi.out.fin hs (q:=none) (DInv.more Hd.out.1 hv (by simp)) (λ D e=> nomatch e);have hne:decide (((y::x).length:Int)=0)=false:=decide_eq_false (by simp only [List.length_cons];omega);clear hv hln hgk;go_upto_region 22 with (fail)
      refine rRr22c (w0:=w) (fp0:=[]) (R:=rowA 44 3 (.slice oa k oc) k (ms.flatMap Rs.c)::(P++R0)) rb (y::x).length xc (.slice oa k oc) xa hne rfl (by kernel_rfl) rfl rfl rfl rfl hst ?_;intro w3 h3;have HFX:=Lib.hid (HFF.out w3 h3.drop);clear h3 HFF hst;simp only [putL,List.foldl,Act.put,List.setIfInBounds_toArray,List.set_cons_succ,List.set_cons_zero];go_wp2;refine bodyPost_ret (v:=.tuple #[.slice oa k oc, .bool false]) (by simp [results,Tryz.results36,go_sem]) rfl HFX.out
end
end Go.Proofs.YtpdlkdoogojboaaGreat
