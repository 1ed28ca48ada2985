/- Part 9 of the proof: En, Lp, Iv, Lq, Ekc, Lk8, Lr, Ls, Lt, Lu, Rp, Rr -/
import Derived.Test.YtnefkkidfhmggaaGreatV08
import Derived.Deep.QuietTactic
import Derived.BigQuiet
import Derived.Test.YtnefkkidfhmggaaGreatV06
set_option maxHeartbeats 16000000
set_option maxRecDepth 100000
namespace Go.Proofs.YtnefkkidfhmggaaGreat
open Go Go.RowKit
noncomputable section
theorem End_calls (p:List UInt8) (h:∃c∈p,c≠255) (hl:p.length < 1099511627776) (w:World):
 Calls Tryz.prog 50 #[.string (textOf p)] w λ e w'=> e=.returned (.tuple #[.string (textOf (endL p)), .bool true])/\Below w.heap.size w w':=by
 obtain ⟨N,hN⟩:∃N,p.length=N:=⟨_,rfl⟩
 have HN:=Lib.hid hN;obtain ⟨t,ht⟩:∃t,textOf p=t:=⟨_,rfl⟩
 have HT:=Lib.hid ht;rw [ht];obtain ⟨r,hr⟩:∃r,textOf (endL p)=r:=⟨_,rfl⟩
 rw [hr];have HR:=Lib.hid hr;have H:=Lib.hid h;have HL:=Lib.hid hl;clear h hr ht hl hN;go_enter Tryz.func50,Tryz.ntmps50;go_wp2;go_loopg [4] N (λ g z wr=> ∃u:ByteArray,z=.string u/\u.size=g/\g<=N/\wr=w/\Hid (∃s:List UInt8,u=textOf s/\(∃c∈s,c≠255)/\endL s=endL p))
 case atStart=> exact ⟨t,rfl,by rw [<-HT.out,text_size,HN.out],Nat.le_refl _,rfl,p,HT.out.symm,H.out,rfl⟩
 case round=>
  obtain ⟨u,rfl,hug,hgN,rfl,Hu⟩:=hrel;obtain ⟨s0,hu,hlow,hend⟩:=Hu.out;clear Hu;have hne:s0≠[]:=by rintro rfl;obtain ⟨c,hc, -⟩:=hlow;cases hc
  obtain ⟨s,c,rfl⟩:∃s c,s0=s++[c]:=⟨_,_,(List.dropLast_concat_getLast hne).symm⟩
  obtain ⟨m,hm⟩:∃m,s.length=m:=⟨_,rfl⟩
  have hg:gk=m+1:=by rw [<-hug,hu,text_size,List.length_append,hm];rfl
  have hgp:0 < gk:=by omega
  have hmg:(m:Int) < gk:=by omega
  have hw:wrap64 ((gk:Int) - 1)=m:=by
   have:(gk:Int) - 1=m:=by omega
   rw [this];have:=HL.out;have:=HN.out;unfold wrap64;omega
  have hcu:∀(h:m < u.size),u[m]'h=c:=by intro h;subst hu;show (s++[c]).toArray[m]'_=c;simp [<-hm]
  have hte:u.toList.isEmpty=false:=by
   cases h:u.toList with
   | nil=>
    have:=(text_mt u).1 h;rw [this] at hug;exact absurd hug (by show ¬ (0=gk);omega)
   | cons a l=> rfl
  have HG:=Lib.hid hg;have HGN:=Lib.hid hgN;have HU:=Lib.hid hu;have HLOW:=Lib.hid hlow;have HEND:=Lib.hid hend;have HMM:=Lib.hid hm;clear hg hgN;by_cases hc:c=255
  · have hcc:((c.toNat:Int)==255)=true:=by rw [hc];rfl
    have hx:u.extract 0 m=textOf s:=by rw [hu,text_take,<-hm,List.take_left]
    have HE:Hid (∃s':List UInt8,u.extract 0 m=textOf s'/\(∃c∈s',c≠255)/\endL s'=endL p):=by
     refine ⟨s,hx,?_,?_⟩
     · obtain ⟨d,hd,hd'⟩:=hlow
       rcases List.mem_append.1 hd with h | h
       · exact ⟨d,h,hd'⟩
       · exact absurd ((List.mem_singleton.1 h).trans hc) hd'
     · rw [<-hend,endL,endL,List.reverse_append,List.reverse_singleton,List.singleton_append,endR,if_pos hc]
    have HX:Hid ((u.extract 0 m).size=m):=by show _=_;rw [hx,text_size,hm]
    clear hx hu hlow hend hne hm hc;go_wp2;go_roundg m
    case rel=> exact ⟨_,rfl,HX.out,by have:=HG.out;have:=HGN.out;omega,rfl,HE.out⟩
    case measure=> have:=HG.out;omega
  · have hcc:((c.toNat:Int)==255)=false:=by
     have:c.toNat≠255:=λ e=> hc (by rw [<-UInt8.toNat_inj];exact e);simp;omega
    have hcv:=run_bytes_of_string (P:=Tryz.prog) wr 9 101 5 u (by kernel_rfl) (by kernel_rfl) (by kernel_rfl);have hcap:gk<=grownCap wr u.size 0 5:=by rw [<-hug];exact grownCap_ge _ _ _ _
    rw [hug] at hcv hcap;obtain ⟨G,hG⟩:∃G,grownCap wr gk 0 5=G:=⟨_,rfl⟩
    rw [hG] at hcv hcap;have hbr:∀j (hj:j < u.size),(bytesRow u G)[j]? =some (.int .u8 (u[j]'hj).toNat):=bytesRow_get u _;have hbs:(bytesRow u G).size=G:=by rw [bytesRow,Array.size_append,Array.size_map,Array.size_replicate,show u.data.size=gk from hug,hug];omega
    obtain ⟨br,hbrr⟩:∃br,bytesRow u G=br:=⟨_,rfl⟩
    rw [hbrr] at hcv hbr hbs;rw [hbs] at hcv;obtain ⟨W2,hW2⟩:∃W2,wr.drew.alloc (.cells br 5 (G,G+1))=W2:=⟨_,rfl⟩
    rw [hW2] at hcv;obtain ⟨B,hB⟩:∃B,wr.heap.size=B:=⟨_,rfl⟩
    have h2:W2.heap[B]? =some (.cells br 5 (G,G+1)):=by rw [<-hW2,<-hB];exact heap_alloc_new wr.drew _
    have hb2:Below wr.heap.size wr W2:=by rw [<-hW2];exact Below.alloc (below_drew wr) (Nat.le_refl _) _
    rw [hB] at hcv;have c0:W2.cell? ⟨B,m,none⟩=some (.int .u8 c.toNat):=by
     have hmu:m < u.size:=by omega
     rw [cell_of_row W2 B m br 5 _ h2,hbr m hmu,hcu hmu]
    have f0:W2.frozen? ⟨B,m,none⟩=false:=by simp [World.frozen?,h2];omega
    have hBl:B < W2.heap.size:=World.block_lt_of_cell? W2 _ c0;have hc1:(c+1).toNat=(c.toNat+1) % 256:=by rw [UInt8.toNat_add];rfl
    have hend2:r=textOf (s++[c+1]):=by rw [<-HR.out,<-hend,endL,List.reverse_append,List.reverse_singleton,List.singleton_append,endR,if_neg hc,List.reverse_cons,List.reverse_reverse]
    have hln:(s++[c+1]).length=gk:=by rw [HG.out,List.length_append,hm];rfl
    have hcv2:(convert 101 9 (.slice (some ⟨B,0,none⟩) gk G)).run Tryz.prog (W2.setCell ⟨B,m,none⟩ (.int .u8 (((c.toNat:Int)+1) % 256)))=.ok (.string r) (W2.setCell ⟨B,m,none⟩ (.int .u8 (((c.toNat:Int)+1) % 256))):=by
     rw [<-hln,hend2];refine run_convert_bytes_back _ 101 9 5 ⟨B,0,none⟩ G (s++[c+1]) (by kernel_rfl) (by kernel_rfl) (by kernel_rfl) λ j hj=> ?_;rw [hln,HG.out] at hj;rw [add_plain,Nat.zero_add];by_cases hjm:j=m
     · subst hjm
       rw [World.cell?_setCell_same _ _ _ c0];have:(s++[c+1])[j]'(by rw [List.length_append,hm];simp)=c+1:=by simp [<-hm]
       rw [this,hc1];simp
     · rw [World.cell?_setCell_other _ _ _ _ (by intro h;injection h with h1 h2;exact hjm h2.symm)]
       have hju:j < u.size:=by omega
       rw [cell_of_row W2 B j br 5 _ h2,hbr j hju];have:(s++[c+1])[j]'(by rw [hln];omega)=u[j]'hju:=by subst hu;rw [List.getElem_append_left (by omega)];rw [text_get,List.getElem_append_left (by omega)]
       rw [this]
    have HB2:=Lib.hid hb2;have HH2:=Lib.hid h2;have HBR:=Lib.hid hbr;have HCAP:=Lib.hid hcap;have HBS:=Lib.hid hbs;have HBB:=Lib.hid hB;clear hend2 hu hlow hend hne hm hc hbr hcap hbs hG hbrr hW2 h2 hb2 hB;go_wp2;refine bodyPost_ret (v:=.tuple #[.string r, .bool true]) (by simp [results,Tryz.results50,go_sem]) rfl ?_;exact ⟨rfl,HB2.out.setCell (by show wr.heap.size<=B;have:=HBB.out;omega) _⟩
theorem colV_at {r:Rw} {c:Int} (h:0<=c) (hc:c.toNat < r.length):colV r c=r[c.toNat]:=by
 rw [colV,if_pos h,List.getD,List.getElem?_eq_getElem hc];rfl
theorem lookup1_calls (cs:List Int) (vals r:Rw) (cv vv rv:Value) (b4 b5:Nat) (w:World) (hc:IntsX [] w cs cv) (hv:ValsAt w vals vv) (hr:ValsAt w r rv) (e4:w.cell? ⟨b4,0,none⟩=some cv) (e5:w.cell? ⟨b5,0,none⟩=some vv) (hlen:cs.length=vals.length) (hcs:∀c∈cs,0<=c/\c < r.length):
 Calls Tryz.prog 38 #[rv, .pointer (some ⟨b4,0,none⟩), .pointer (some ⟨b5,0,none⟩)] w λ e w'=> e=.returned (.bool (decide (cs.map (colV r)=vals)))/\Below w.heap.size w w':=by
 obtain ⟨a1,n1,c1,rfl,hn1, -⟩:=hc.shape;obtain ⟨a2,n2,c2,rfl,hn2, -⟩:=hv.shape;obtain ⟨a3,n3,c3,rfl,hn3,hm3⟩:=hr.shape;have hln:cs.length<=maxLen:=hc.1;unfold maxLen at hln hm3;obtain ⟨n,hn⟩:∃n,cs.length=n:=⟨_,rfl⟩
 have hb1:n<=9223372036854775807:=by omega
 have hb3:n3<=9223372036854775807:=by omega
 obtain rfl:n2=n:=by omega
 obtain rfl:n1=n2:=by omega
 have e4l:=World.block_lt_of_cell? w _ e4;have e5l:=World.block_lt_of_cell? w _ e5;have HC:=Lib.hid hc;have HV:=Lib.hid hv;have HR:=Lib.hid hr;obtain ⟨q,hq⟩:∃q,decide (cs.map (colV r)=vals)=q:=⟨_,rfl⟩
 have HQ:=Lib.hid hq;have HN:=Lib.hid hn;have HN2:=Lib.hid hn2;have HN3:=Lib.hid hn3;have HCS:=Lib.hid hcs;have E4:=Lib.hid e4;have E5:=Lib.hid e5;rw [hq];have HE:Hid ((cs.drop 0).map (colV r)=vals.drop 0↔cs.map (colV r)=vals):=by show _↔_;simp
 clear hc hv hr hq hn1 hn2 hn3 hm3 hln hlen hcs hn;go_enter Tryz.func38,Tryz.ntmps38;go_wp2;clear e4 e5;go_loopg [9] n1 (λ g z wr=> ∃k:Nat,z=.int .i64 k/\g+k=n1/\Hid ((cs.drop k).map (colV r)=vals.drop k↔cs.map (colV r)=vals)/\Hid (Below w.heap.size w wr))
 case atStart=> exact ⟨0,rfl,rfl,HE,Below.refl _ _⟩
 case round=>
  clear HE;obtain ⟨k,rfl,hgk,He,Hb⟩:=hrel;by_cases hk:k < n1
  · have hkc:k < cs.length:=by rw [HN.out];exact hk
    have hkv:k < vals.length:=by rw [<-HN2.out];exact hk
    have hcw:=HC.out.mono Hb.out;have hvw:=HV.out.mono Hb.out;have hrw':=HR.out.mono Hb.out;obtain ⟨hj0,hj1⟩:=HCS.out _ (List.getElem_mem hkc);obtain ⟨j,hj⟩:∃j:Nat,cs[k]=(j:Int):=⟨cs[k].toNat,by omega⟩
    have hjr:j < r.length:=by omega
    obtain ⟨b1,o1,rfl⟩:=hcw.has k hk;obtain ⟨b2,o2,rfl⟩:=hvw.has k hk;obtain ⟨b3,o3,rfl⟩:=hrw'.has j (by rw [HN3.out];exact hjr);have p1:=hcw.cell k hkc;obtain ⟨p2,p3,p4⟩:=hvw.cell k hkv;obtain ⟨p5,p6,p7⟩:=hrw'.cell j hjr;rw [hj] at p1;have p8:wr.cell? ⟨b4,0,none⟩=_:=(Hb.out.cell (p:=⟨b4,0,none⟩) e4l).trans E4.out;have p9:wr.cell? ⟨b5,0,none⟩=_:=(Hb.out.cell (p:=⟨b5,0,none⟩) e5l).trans E5.out;have hp1:=World.block_lt_of_cell? wr _ p1;have hp2:=World.block_lt_of_cell? wr _ p2;have hp5:=World.block_lt_of_cell? wr _ p5;have hp8:=World.block_lt_of_cell? wr _ p8;have hp9:=World.block_lt_of_cell? wr _ p9;have hk':(k:Int) < n1:=by omega
    have hjn:(j:Int) < n3:=by have:=HN3.out;omega
    have HD:Hid ((cs.drop k).map (colV r)=vals.drop k↔r[j]=vals[k]/\(cs.drop (k+1)).map (colV r)=vals.drop (k+1)):=by show _↔_;rw [List.drop_eq_getElem_cons hkc,List.drop_eq_getElem_cons hkv,List.map_cons,List.cons.injEq,hj,colV_at (by omega) (by simpa using hjr)];simp
    generalize r[j]=x at *;generalize vals[k]=y at *;have HX:=Lib.hid (λ w'=> cmpV_calls x y w');have Hgk:=Lib.hid hgk;clear hgk hcw hvw hrw' hj0 hj1 hj hkc hkv hjr;by_cases hxy:x=y
    · subst hxy
      have HZ:cmpV x x=0:=cmpV_zero.2 rfl;rw [HZ] at HX;clear HZ;go_upto_region 4 with (fail)
      go_region_held3 (λ w'=> Below wr.heap.size wr w'/\∀b o,b < wr.heap.size->w'.cell? ⟨b,o,none⟩=wr.cell? ⟨b,o,none⟩)
       (first | assumption | exact S_of (Below.drew (Below.refl _ _)) | exact S_step (by assumption) (by assumption))
       (first | (go_at_call 39;(with_reducible refine (HX.out _).mono ?_);rintro e w1 ⟨rfl,hb1⟩))
      all_goals
       rename_i hH
       have Hb1:=Lib.hid (Hb.out.trans (hH.1.mono Hb.out.size));clear hH;go_wp2;go_roundg (gk - 1)
       case rel=>
        refine ⟨k+1,by go_num,by have:=Hgk.out;omega,?_,Hb1⟩;show _↔_;rw [<-He.out,HD.out];simp only [true_and]
       case measure=> have:=Hgk.out;omega
    · have HZ:(cmpV x y !=0)=true:=by
       have:cmpV x y≠0:=λ h=> hxy (cmpV_zero.1 h);simpa using this
      generalize cmpV x y=z at *;have HF:Hid (q=false):=by have:¬ cs.map (colV r)=vals:=λ h=> hxy (HD.out.1 (He.out.2 h)).1;show _=_;rw [<-HQ.out,decide_eq_false this]
      obtain rfl:=HF.out;clear hxy;go_upto_region 4 with (fail)
      go_region_held3 (λ w'=> Below wr.heap.size wr w'/\∀b o,b < wr.heap.size->w'.cell? ⟨b,o,none⟩=wr.cell? ⟨b,o,none⟩)
       (first | assumption | exact S_of (Below.drew (Below.refl _ _)) | exact S_step (by assumption) (by assumption))
       (first | (go_at_call 39;(with_reducible refine (HX.out _).mono ?_);rintro e w1 ⟨rfl,hb1⟩))
      all_goals
       rename_i hH
       have Hb1:=Lib.hid (Hb.out.trans (hH.1.mono Hb.out.size));clear hH;go_wp2;go_ret;exact ⟨rfl,Hb1.out⟩
  · obtain rfl:k=n1:=by omega
    have HR1:Hid (q=true):=by have:cs.map (colV r)=vals:=He.out.1 (by rw [List.drop_of_length_le (by rw [HN.out];exact Nat.le_refl _),List.drop_of_length_le (by rw [<-HN2.out];exact Nat.le_refl _)];rfl);show _=_;rw [<-HQ.out,decide_eq_true this]
    obtain rfl:=HR1.out;clear hgk hk;go_wp2;go_ret;exact ⟨rfl,Hb.out⟩
instance:OkI true:=⟨rfl⟩
theorem From_calls (tb:Nat) (k:ByteArray) (w0 w:World) (fp0:List Nat) (R:List Asn) (hS:St w0 fp0 R w):
 Calls Tryz.prog 58 #[.pointer (some ⟨tb,0,none⟩), .string k] w λ e w'=> ∃bt bl bh lb,e=.returned (iterF true bt bl bh)/\St w0 fp0 (iterL true tb bt bl bh lb 0 (some (.str k)) none++(optB true lb (some (.str k))::R)) w':=by
 have HC:=Lib.hid (between_calls (β:=true) tb w.heap.size 0 (some (.str k)) none w0 _ fp0 _ (hS.newblk 9 #[.string k]));clear hS;unfold iterF at *;dsimp only [fBetween,optP] at HC;go_enter Tryz.func58,Tryz.ntmps58;go_wp2_with fail;(with_reducible refine HC.out.mono ?_);rintro e w1 ⟨bt,bl,bh,rfl,hs⟩;have HS:=Lib.hid hs;clear hs HC;go_wp2;go_ret;exact ⟨_,_,_,_,rfl,HS.out⟩
theorem Between_calls (tb:Nat) (k k2:ByteArray) (w0 w:World) (fp0:List Nat) (R:List Asn) (hS:St w0 fp0 R w):
 Calls Tryz.prog 52 #[.pointer (some ⟨tb,0,none⟩), .string k, .string k2] w λ e w'=> ∃bt bl bh lb hb,e=.returned (iterF true bt bl bh)/\St w0 fp0 (iterL true tb bt bl bh lb hb (some (.str k)) (some (.str k2))++(optB true hb (some (.str k2))::optB true lb (some (.str k))::R)) w':=by
 have h2:=(hS.newblk 9 #[.string k]).newblk 9 #[.string k2];simp only [World.size_alloc] at h2;have HC:=Lib.hid (between_calls (β:=true) tb w.heap.size (w.heap.size+1) (some (.str k)) (some (.str k2)) w0 _ fp0 _ h2);clear hS h2;unfold iterF at *;dsimp only [fBetween,optP] at HC;go_enter Tryz.func52,Tryz.ntmps52;go_wp2_with fail;(with_reducible refine HC.out.mono ?_);rintro e w1 ⟨bt,bl,bh,rfl,hs⟩;have HS:=Lib.hid hs;clear hs HC;go_wp2;go_ret;exact ⟨_,_,_,_,_,rfl,HS.out⟩
theorem asc_ext {A B:List Re} (hA:A.Pairwise λ a b=> a.id < b.id) (hB:B.Pairwise λ a b=> a.id < b.id) (h:∀e,e∈A↔e∈B):A=B:=by
 induction A generalizing B with
 | nil=>
  cases B with
  | nil=> rfl
  | cons b B=> exact absurd ((h b).2 (by simp)) (by simp)
 | cons a A ih=>
  obtain ⟨a1,a2⟩:=List.pairwise_cons.1 hA;cases B with
  | nil=> exact absurd ((h a).1 (by simp)) (by simp)
  | cons b B=>
   obtain ⟨b1,b2⟩:=List.pairwise_cons.1 hB;have hab:a=b:=by
    rcases List.mem_cons.1 ((h a).1 (by simp)) with e | e
    · exact e
    · rcases List.mem_cons.1 ((h b).2 (by simp)) with e2 | e2
      · exact e2.symm
      · have:=b1 a e
        have:=a1 b e2;omega
   subst hab;rw [ih a2 b2 λ e=> ⟨λ he=> ?_,λ he=> ?_⟩]
   · rcases List.mem_cons.1 ((h e).1 (List.mem_cons_of_mem _ he)) with rfl | h2
     · have:=a1 e he;omega
     · exact h2
   · rcases List.mem_cons.1 ((h e).2 (List.mem_cons_of_mem _ he)) with rfl | h2
     · have:=b1 e he;omega
     · exact h2
theorem entM_of (kf:Re->Ky) (es:List Re):∀km:MM,(∀e∈km,∃a∈es,e=(kf a,Va.int a.id))->∃ess,entM kf ess=km/\∀e∈ess,e∈es
 | [],_=> ⟨[],rfl,by simp⟩
 | x::km,h=> by
  obtain ⟨a,ha,e⟩:=h x (by simp);obtain ⟨ess,h1,h2⟩:=entM_of kf es km λ y hy=> h y (List.mem_cons_of_mem _ hy);refine ⟨a::ess,?_,λ y hy=> ?_⟩
  · show (kf a,Va.int a.id)::entM kf ess=_
    rw [h1,e]
  · rcases List.mem_cons.1 hy with rfl | hy
    · exact ha
    · exact h2 y hy
def ixK (cs:List Int) (e:Re):Ky:=.str (ixKey e.id e.r cs)
theorem ix_sel {cols:Nat} {I:List (List Int)} {L:LL} {next:Int} {s:Sto} (hok:s.Ok cols I L next) {x:Ix} (hx:x∈s.ixs) (lo hi:Option Ky):
 ∃ess,entM (ixK x.cs) ess=selM lo hi x.km/\(∀e,e∈ess↔e∈s.es/\inR lo hi (ixK x.cs e,Va.int e.id)=true)/\ess.Pairwise (λ a b=> ltK (ixK x.cs a) (ixK x.cs b))/\ess.length<=L.length:=by
 obtain ⟨-, -, -,hix,hasc⟩:=hok.ixs x hx;have hmem:∀e,e∈x.km↔∃a∈s.es,e=(ixK x.cs a,Va.int a.id):=by
  intro e;rw [hix.mem e,<-hok.rows];constructor
  · rintro ⟨y,hy,rfl⟩
    obtain ⟨a,ha,rfl⟩:=List.mem_map.1 hy;exact ⟨a,ha,rfl⟩
  · rintro ⟨a,ha,rfl⟩
    exact ⟨_,List.mem_map.2 ⟨a,ha,rfl⟩,rfl⟩
 obtain ⟨ess,h1,h2⟩:=entM_of (ixK x.cs) s.es (selM lo hi x.km) λ e he=> (hmem e).1 (List.mem_filter.1 he).1;have hasc2:=reL_asc (by rw [hok.rows];exact hok.asc);refine ⟨ess,h1,λ e=> ⟨λ he=> ⟨h2 e he,?_⟩,λ ⟨he,hr⟩=> ?_⟩,?_,?_⟩
 · have h3:(ixK x.cs e,Va.int e.id)∈selM lo hi x.km:=by rw [<-h1];exact List.mem_map.2 ⟨e,he,rfl⟩
   exact (List.mem_filter.1 h3).2
 · have h3:(ixK x.cs e,Va.int e.id)∈selM lo hi x.km:=List.mem_filter.2 ⟨(hmem _).2 ⟨e,he,rfl⟩,hr⟩
   rw [<-h1] at h3;obtain ⟨a,ha,h4⟩:=List.mem_map.1 h3;have h5:a.id=e.id:=Va.int.inj (Prod.mk.inj h4).2;have h6:=find_id hasc2 (h2 a ha);rw [h5,find_id hasc2 he] at h6;rw [Option.some.inj h6];exact ha
 · have h3:AscM (selM lo hi x.km):=List.Pairwise.sublist List.filter_sublist hasc
   rw [<-h1] at h3;unfold AscM entM at h3;rw [List.pairwise_map] at h3;exact h3
 · have h3:(entM (ixK x.cs) ess).length<=x.km.length:=by rw [h1];exact List.length_filter_le _ _
   rw [entM,List.length_map,hix.len] at h3;exact h3
def itA (v:Value) (tb:Nat) (lo hi:Option Ky):Asn:=exA λ q:(Nat×Nat×Nat)×Nat×Nat=> starA (pureA (v=iterF true q.1.1 q.1.2.1 q.1.2.2)::(iterL true tb q.1.1 q.1.2.1 q.1.2.2 q.2.1 q.2.2 lo hi++[optB true q.2.1 lo,optB true q.2.2 hi]))
theorem St.it {w0 w:World} {fp0:List Nat} {L:List Asn} {v:Value} {tb:Nat} {lo hi:Option Ky}:St w0 fp0 (itA v tb lo hi::L) w↔∃bt bl bh lb hb,v=iterF true bt bl bh/\St w0 fp0 (iterL true tb bt bl bh lb hb lo hi++[optB true lb lo,optB true hb hi]++L) w:=by
 unfold itA;rw [St.exo (F:=λ q:(Nat×Nat×Nat)×Nat×Nat=> pureA (v=iterF true q.1.1 q.1.2.1 q.1.2.2)::(iterL true tb q.1.1 q.1.2.1 q.1.2.2 q.2.1 q.2.2 lo hi++[optB true q.2.1 lo,optB true q.2.2 hi]))];constructor
 · rintro ⟨⟨⟨bt,bl,bh⟩,lb,hb⟩,h⟩
   exact ⟨bt,bl,bh,lb,hb,St.pure.1 h⟩
 · rintro ⟨bt,bl,bh,lb,hb,h⟩
   exact ⟨⟨⟨bt,bl,bh⟩,lb,hb⟩,St.pure.2 h⟩
theorem idx_calls (f:Nat) (caps:Array Value) (p:Re->Bool) (S cols:Nat) (I:List (List Int)) (L:LL) (next:Int) (s:Sto) (hok:s.Ok cols I L next) (LX:List Asn) (he:∀args w,(callFunc f args).run Tryz.prog w=.ok (.enter f args) w) (his:IsC f caps p S s LX)
 (x:Ix) (hx:x∈s.ixs) (lo hi:Option Ky) (hlo:∀k,lo=some k->k.ok true) (hhi:∀k,hi=some k->k.ok true) (ess:List Re) (hess:entM (ixK x.cs) ess=selM lo hi x.km) (hm:∀e∈ess,e∈s.es) (hlen:L.length+1 < 1099511627776) (v:Value)
 (w0 w:World) (fp0:List Nat) (R:List Asn) (hS:St w0 fp0 (itA v x.kb lo hi::(stoL S s++(LX++R))) w):
 Calls Tryz.prog 51 #[ptrV S,v, .func (.func f) #[] caps] w λ e w'=> ∃u,e=.returned u/\St w0 fp0 (rowA 114 2 u (somL p ess).length (riV (somL p ess))::(stoL S s++(LX++R))) w':=by
 obtain ⟨bt,bl,bh,lb,hb,rfl,h1⟩:=St.it.1 hS;obtain ⟨A,B,hAB⟩:=List.append_of_mem hx;obtain ⟨-, -, -,hix,hasc⟩:=hok.ixs x hx;have hkl:x.km.length=L.length:=hix.len;have hel:ess.length<=L.length:=by
  have h3:(entM (ixK x.cs) ess).length<=x.km.length:=by rw [hess];exact List.length_filter_le _ _
  rwa [entM,List.length_map,hkl] at h3
 have hseq:=betw1_seq (β:=true) (o:=16) (h:=x.kh) (by omega) lo hi lb hb hlo hhi x.km (okK hix) x.kb bt bl bh (by rw [hkl];exact hlen) (2 - 1);rw [<-hess] at hseq;let R0:List Asn:=iterL true x.kb bt bl bh lb hb lo hi++[optB true lb lo,optB true hb hi]++R;let R1:List Asn:=slA 3 x.cv (x.cs.map intC)::blkA S 119 #[.int .i64 s.cols,ptrV s.tb, .int .i64 s.next,s.iv]::objA false 16 s.h (reM s.es) s.tb::rowA 97 2 s.iv s.ixs.length (ixV s.ixs)::(s.es.map reA++(A.map ixA++B.map ixA)++(LX++R))
 have hsp:∀Own W,St w0 fp0 ((betL true 16 x.kh x.km x.kb bt bl bh lb hb lo hi++R1)++Own) W↔St w0 fp0 ((stoL S s++(LX++R0))++Own) W:=by
  intro Own W;have e1:((stoL S s++(LX++R0))++Own).Perm (ixA x::(iterL true x.kb bt bl bh lb hb lo hi++[optB true lb lo,optB true hb hi]++(blkA S 119 #[.int .i64 s.cols,ptrV s.tb, .int .i64 s.next,s.iv]::objA false 16 s.h (reM s.es) s.tb::rowA 97 2 s.iv s.ixs.length (ixV s.ixs)::(s.es.map reA++(A.map ixA++B.map ixA)++(LX++R))++Own))):=by
   have e2:s.ixs.map ixA=A.map ixA++ixA x::B.map ixA:=by rw [hAB];simp
   unfold stoL;rw [e2]
   classical refine List.perm_iff_count.2 λ a=> ?_;simp only [R0,List.cons_append,List.count_append,List.count_cons];omega
  have e3:((betL true 16 x.kh x.km x.kb bt bl bh lb hb lo hi++R1)++Own).Perm ([slA 3 x.cv (x.cs.map intC),objA true 16 x.kh x.km x.kb]++(iterL true x.kb bt bl bh lb hb lo hi++[optB true lb lo,optB true hb hi]++(blkA S 119 #[.int .i64 s.cols,ptrV s.tb, .int .i64 s.next,s.iv]::objA false 16 s.h (reM s.es) s.tb::rowA 97 2 s.iv s.ixs.length (ixV s.ixs)::(s.es.map reA++(A.map ixA++B.map ixA)++(LX++R))++Own))):=by
   unfold betL iterL
   classical refine List.perm_iff_count.2 λ a=> ?_;simp only [R1,List.cons_append,List.nil_append,List.count_append,List.count_cons];omega
  constructor
  · intro h
    exact (St.star.2 (h.perm e3)).perm e1.symm
  · intro h
    exact (St.star.1 (h.perm e1)).perm e3.symm
 have h2:St w0 fp0 (stoL S s++(LX++R0)) w:=h1.perm (by classical refine List.perm_iff_count.2 λ a=> ?_;simp only [R0,List.count_append];omega);refine (indexed_calls f caps p S cols I L next s hok LX he his (fBetw1 true) _ (enters_of Tryz.func110 (by kernel_rfl) rfl) (ixK x.cs) ess hm (by omega) _ R1 hseq w0 w fp0 R0 hsp h2).mono ?_;rintro e w' ⟨u,rfl,h3⟩;refine ⟨u,rfl,St.dropAll (A:=iterL true x.kb bt bl bh lb hb lo hi++[optB true lb lo,optB true hb hi]) (h3.perm ?_)⟩
 classical refine List.perm_iff_count.2 λ a=> ?_;simp only [R0,List.count_append,List.count_cons];omega
theorem encode_calls (v:Vl) (hv:I64 v.int) (hl:v.text.size<=1048576) (w:World):
 Calls Tryz.prog 59 #[v.val] w λ e w'=> ∃b,e=.returned b/\St w [] [slA 5 b ((encL v).map u8C)] w':=by
 have H0:Hid (∀w',Below w.heap.size w w'->St w [] [slA 5 (.slice none 0 0) (([]:List UInt8).map u8C)] w'):=λ w' hb=> St.nilA (t:=5) (St.mono (St.start (L:=[]) (fp:=[]) rfl) hb);have HA:Hid (∀w',Below w.heap.size w w'->Calls Tryz.prog 89 #[.slice none 0 0, .agg #[.int .i64 v.kind, .int .i64 v.int, .string v.text]] w' λ e w''=> ∃b',e=.returned b'/\St w [] [slA 5 b' ((encL v).map u8C)] w''):=
  λ w' h=> radd_calls v hv (.slice none 0 0) [] (by simp;omega) w w' [] [] (H0.out w' h)
 unfold Vl.val;clear hv hl H0;go_enter Tryz.func59,Tryz.ntmps59;go_wp2_with fail;(with_reducible refine (HA.out _ ((Below.refl _ _).alloc (Nat.le_refl _) _)).mono ?_);rintro e w1 ⟨b',rfl,h3⟩;have H3:=Lib.hid h3;clear h3 HA;go_wp2;go_ret;exact ⟨_,rfl,H3.out⟩
theorem Between_it (kb:Nat) (k1 k2:ByteArray) (w0 w:World) (fp0:List Nat) (R:List Asn) (h:St w0 fp0 R w):Calls Tryz.prog 52 #[.pointer (some ⟨kb,0,none⟩), .string k1, .string k2] w λ e w'=> ∃v,e=.returned v/\St w0 fp0 (itA v kb (some (.str k1)) (some (.str k2))::R) w':=
 (Between_calls kb k1 k2 w0 w fp0 R h).mono λ e w2 ⟨bt,bl,bh,lb,hb,e1,h2⟩=> ⟨_,e1,St.it.2 ⟨bt,bl,bh,lb,hb,rfl,h2.perm (by classical refine List.perm_iff_count.2 λ a=> ?_;simp only [List.count_append,List.count_cons,List.count_nil];omega)⟩⟩
theorem From_it (kb:Nat) (k1:ByteArray) (w0 w:World) (fp0:List Nat) (R:List Asn) (h:St w0 fp0 R w):Calls Tryz.prog 58 #[.pointer (some ⟨kb,0,none⟩), .string k1] w λ e w'=> ∃v,e=.returned v/\St w0 fp0 (itA v kb (some (.str k1)) none::R) w':=
 (From_calls kb k1 w0 w fp0 R h).mono λ e w2 ⟨bt,bl,bh,lb,e1,h2⟩=> ⟨_,e1,St.it.2 ⟨bt,bl,bh,lb,0,rfl,(show St w0 fp0 (emp::_) w2 from St.emp.2 h2).perm (by
  show List.Perm _ (iterL true kb bt bl bh lb 0 (some (.str k1)) none++[optB true lb (some (.str k1)),emp]++R)
  classical refine List.perm_iff_count.2 λ a=> ?_;simp only [List.count_append,List.count_cons,List.count_nil];omega)⟩⟩
theorem conv1 {P:Program} {o:Oper} {env:Operand->Value} {w:World} {t u:TypeId} {x:Operand} {v r:Value} (hop:o.op=.convert t u x) (hx:env x=v) (hr:(convert t u v).run P w=.ok r w):(execOp env o).run P w=.ok (.value r) w:=by
 simp only [execOp,hop,hx,Sem.run_bind,hr,Result.andThen_ok,Sem.run_pure]
def gLk8 (b3 b6 b7 S kb n:Nat) (cv isv:Value) (k1 k2:ByteArray) (V:List Value):=rgx Tryz.prog Tryz.f46 8 39 [31,32,33,34,35,36,37,38,5] [(1,pV b3 0),(6,pV b6 0),(3,pV b7 0),(8, .string k1),(9, .string k2)] (Vq 0 31 [Kp S 0,Kp b6 1,Kp kb 0,Kv (.string k1),Kv (.string k2)]++Vq 6 37 [Kv isv]++Vq 8 5 [Fv [38] λ g=> g 38]) [Bk b3 (34) [pV S 0],Bk b6 (97) [cv,pV kb 0],Bk b7 (88) [isv], .gen [5,7] [36] λ L g=> match L 7 with | true=> emp | false=> match L 5 with | true=> itA (g 36) kb (some (.str k1)) (some (.str k2)) | false=> emp, .new 7 [38] λ g=> rowA 114 2 (g 38) n V]
theorem rLk8 (b3 b6 b7 S kb n:Nat) (cv isv:Value) (k1 k2:ByteArray) (V:List Value) (w0:World) (fp0:List Nat) (R:List Asn) (hix:∀(v:Value) (w:World),St w0 fp0 ([blkA b3 34 #[.pointer (some ⟨S,0,none⟩)],blkA b6 97 #[cv, .pointer (some ⟨kb,0,none⟩)],blkA b7 88 #[isv],itA v kb (some (.str k1)) (some (.str k2)),emp]++R) w->Calls Tryz.prog 51 #[.pointer (some ⟨S,0,none⟩),v,isv] w λ e w2=> ∃u,e=.returned u/\St w0 fp0 ([blkA b3 34 #[.pointer (some ⟨S,0,none⟩)],blkA b6 97 #[cv, .pointer (some ⟨kb,0,none⟩)],blkA b7 88 #[isv],emp,rowA 114 2 u n V]++R) w2) {w:World} {c:Code} {a:Act} {Q:Exit->Act->World->Prop} (c1:isReg c=true) (c2:cops c=opsR Tryz.f46 8) (c3:a.tmps.size=39) (_c4:a.defers=a.defers) (i1:a.eval (.tmp 1)=.pointer (some ⟨b3,0,none⟩)) (i6:a.eval (.tmp 6)=.pointer (some ⟨b6,0,none⟩)) (i3:a.eval (.tmp 3)=.pointer (some ⟨b7,0,none⟩)) (i8:a.eval (.tmp 8)=.string k1) (i9:a.eval (.tmp 9)=.string k2)
 (hS:St w0 fp0 ([blkA b3 (34) #[.pointer (some ⟨S,0,none⟩)],blkA b6 (97) #[cv, .pointer (some ⟨kb,0,none⟩)],blkA b7 (88) #[isv],emp,emp]++R) w)
 (hQ:∀(u36 u38:Value) (w1:World),St w0 fp0 ([blkA b3 (34) #[.pointer (some ⟨S,0,none⟩)],blkA b6 (97) #[cv, .pointer (some ⟨kb,0,none⟩)],blkA b7 (88) #[isv],emp,rowA 114 2 (u38) n V]++R) w1->Q .normal (putL a [(31, .pointer (some ⟨S,0,none⟩)),(32, .pointer (some ⟨b6,1,none⟩)),(33, .pointer (some ⟨kb,0,none⟩)),(34, .string k1),(35, .string k2),(36,u36),(37,isv),(38,u38),(5,u38)]) w1):c.wp Tryz.prog Q a w:=by
 have ok:(gLk8 b3 b6 b7 S kb n cv isv k1 k2 V w0 fp0 R).Ok 9:=Rg.ok _ 9 [0,2,5,6,7] ⟨.load _ 0 0 0, .load _ 2 1 1, .callG _ 5 (λ g=> [blkA b3 34 #[.pointer (some ⟨S,0,none⟩)],blkA b6 97 #[cv, .pointer (some ⟨kb,0,none⟩)],blkA b7 88 #[isv],emp,emp]) (λ g v=> [blkA b3 34 #[.pointer (some ⟨S,0,none⟩)],blkA b6 97 #[cv, .pointer (some ⟨kb,0,none⟩)],blkA b7 88 #[isv],itA v kb (some (.str k1)) (some (.str k2)),emp]) (λ g w h=> (Between_it kb k1 k2 w0 w fp0 _ h).mono λ e w2 ⟨v,e1,h2⟩=> ⟨_,e1,rfl,St.emp.1 (St_re (L:=[_,_,_,_,_,_]) h2 [4,1,2,3,0,5] [] (by kernel_rfl))⟩), .load _ 6 2 0, .callG _ 7 (λ g=> [blkA b3 34 #[.pointer (some ⟨S,0,none⟩)],blkA b6 97 #[cv, .pointer (some ⟨kb,0,none⟩)],blkA b7 88 #[isv],itA (g 36) kb (some (.str k1)) (some (.str k2)),emp]) (λ g v=> [blkA b3 34 #[.pointer (some ⟨S,0,none⟩)],blkA b6 97 #[cv, .pointer (some ⟨kb,0,none⟩)],blkA b7 88 #[isv],emp,rowA 114 2 v n V]) (λ g w h=> (hix (g 36) w h).mono λ e w2 ⟨u,e1,h2⟩=> ⟨_,e1,rfl,h2⟩),trivial⟩;refine wp_regD ok (by kernel_rfl) ⟨c1,c2⟩ ⟨c3,λ p hp=> ?_⟩ hS λ A1 w1 N1 H1=> ?_
 · simp only [gLk8,rgx,List.map_nil,List.append_nil,List.mem_cons,List.not_mem_nil,or_false] at hp
   rcases hp with rfl | rfl | rfl | rfl | rfl
   · exact i1
   · exact i6
   · exact i3
   · exact i8
   · exact i9
 exact N1.fin [36,38] (hQ (slots A1 36) (slots A1 38) w1 H1) (by kernel_rfl)
def gRn5 (b3 b2 b5 b7 S kb n:Nat) (cv isv:Value) (vk vi:Int) (vt:ByteArray) (V:List Value):=rgx Tryz.prog Tryz.f56 5 40 [24,25,26,27,28,29,30,31,32,4] [(0,pV b3 0),(2,pV b2 0),(5,pV b5 0),(3,pV b7 0)] (Vq 0 24 [Kp S 0,Kp b5 1,Kp kb 0,Kv (.agg #[.int .i64 vk, .int .i64 vi, .string vt])]++Vq 5 29 [Kv (.string (textOf (encL ⟨vk,vi,vt⟩)))]++Vq 7 31 [Kv isv]++Vq 9 4 [Fv [32] λ g=> g 32]) [Bk b3 (34) [pV S 0],Bk b2 (29) [.int .i64 vk, .int .i64 vi, .string vt],Bk b5 (97) [cv,pV kb 0],Bk b7 (88) [isv], .new 4 [28] λ g=> slA 5 (g 28) ((encL ⟨vk,vi,vt⟩).map u8C), .gen [6,8] [30] λ L g=> match L 8 with | true=> emp | false=> match L 6 with | true=> itA (g 30) kb (some (.str (textOf (encL ⟨vk,vi,vt⟩)))) none | false=> emp, .new 8 [32] λ g=> rowA 114 2 (g 32) n V]
theorem rRn5 (b3 b2 b5 b7 S kb n:Nat) (cv isv:Value) (vk vi:Int) (vt:ByteArray) (V:List Value) (w0:World) (fp0:List Nat) (R:List Asn) (hvi:I64 vi) (hvt:vt.size<=1048576) (hix:∀(b v:Value) (w:World),St w0 fp0 ([blkA b3 34 #[.pointer (some ⟨S,0,none⟩)],blkA b2 29 #[.int .i64 vk, .int .i64 vi, .string vt],blkA b5 97 #[cv, .pointer (some ⟨kb,0,none⟩)],blkA b7 88 #[isv],slA 5 b ((encL ⟨vk,vi,vt⟩).map u8C),itA v kb (some (.str (textOf (encL ⟨vk,vi,vt⟩)))) none,emp]++R) w->Calls Tryz.prog 51 #[.pointer (some ⟨S,0,none⟩),v,isv] w λ e w2=> ∃u,e=.returned u/\St w0 fp0 ([blkA b3 34 #[.pointer (some ⟨S,0,none⟩)],blkA b2 29 #[.int .i64 vk, .int .i64 vi, .string vt],blkA b5 97 #[cv, .pointer (some ⟨kb,0,none⟩)],blkA b7 88 #[isv],slA 5 b ((encL ⟨vk,vi,vt⟩).map u8C),emp,rowA 114 2 u n V]++R) w2) {w:World} {c:Code} {a:Act} {Q:Exit->Act->World->Prop} (c1:isReg c=true) (c2:cops c=opsR Tryz.f56 5) (c3:a.tmps.size=40) (_c4:a.defers=a.defers) (i0:a.eval (.tmp 0)=.pointer (some ⟨b3,0,none⟩)) (i2:a.eval (.tmp 2)=.pointer (some ⟨b2,0,none⟩)) (i5:a.eval (.tmp 5)=.pointer (some ⟨b5,0,none⟩)) (i3:a.eval (.tmp 3)=.pointer (some ⟨b7,0,none⟩))
 (hS:St w0 fp0 ([blkA b3 (34) #[.pointer (some ⟨S,0,none⟩)],blkA b2 (29) #[.int .i64 vk, .int .i64 vi, .string vt],blkA b5 (97) #[cv, .pointer (some ⟨kb,0,none⟩)],blkA b7 (88) #[isv],emp,emp,emp]++R) w)
 (hQ:∀(u28 u30 u32:Value) (w1:World),St w0 fp0 ([blkA b3 (34) #[.pointer (some ⟨S,0,none⟩)],blkA b2 (29) #[.int .i64 vk, .int .i64 vi, .string vt],blkA b5 (97) #[cv, .pointer (some ⟨kb,0,none⟩)],blkA b7 (88) #[isv],slA 5 (u28) ((encL ⟨vk,vi,vt⟩).map u8C),emp,rowA 114 2 (u32) n V]++R) w1->Q .normal (putL a [(24, .pointer (some ⟨S,0,none⟩)),(25, .pointer (some ⟨b5,1,none⟩)),(26, .pointer (some ⟨kb,0,none⟩)),(27, .agg #[.int .i64 vk, .int .i64 vi, .string vt]),(28,u28),(29, .string (textOf (encL ⟨vk,vi,vt⟩))),(30,u30),(31,isv),(32,u32),(4,u32)]) w1):c.wp Tryz.prog Q a w:=by
 have ok:(gRn5 b3 b2 b5 b7 S kb n cv isv vk vi vt V w0 fp0 R).Ok 10:=Rg.ok _ 10 [0,2,3,4,5,6,7,8] ⟨.load _ 0 0 0, .load _ 2 2 1, .runG _ 3 (λ g=> [blkA b3 34 #[.pointer (some ⟨S,0,none⟩)],blkA b2 29 #[.int .i64 vk, .int .i64 vi, .string vt],blkA b5 97 #[cv, .pointer (some ⟨kb,0,none⟩)],blkA b7 88 #[isv],emp,emp,emp]) (λ g v=> [blkA b3 34 #[.pointer (some ⟨S,0,none⟩)],blkA b2 29 #[.int .i64 vk, .int .i64 vi, .string vt],blkA b5 97 #[cv, .pointer (some ⟨kb,0,none⟩)],blkA b7 88 #[isv],emp,emp,emp]) (λ a w h=> (by obtain ⟨f,hf⟩:=h.has 1 rfl;have c0:=(blk_get hf).1 0;have c1:=(blk_get hf).1 1;have c2:=(blk_get hf).1 2;exact ⟨.agg #[.int .i64 vk, .int .i64 vi, .string vt],w,load3 rfl (kr (by kernel_rfl)) (kr (by kernel_rfl)) (kr (by kernel_rfl)) c0 c1 c2,kr (by kernel_rfl),h⟩)), .callG _ 4 (λ g=> [blkA b3 34 #[.pointer (some ⟨S,0,none⟩)],blkA b2 29 #[.int .i64 vk, .int .i64 vi, .string vt],blkA b5 97 #[cv, .pointer (some ⟨kb,0,none⟩)],blkA b7 88 #[isv],emp,emp,emp]) (λ g v=> [blkA b3 34 #[.pointer (some ⟨S,0,none⟩)],blkA b2 29 #[.int .i64 vk, .int .i64 vi, .string vt],blkA b5 97 #[cv, .pointer (some ⟨kb,0,none⟩)],blkA b7 88 #[isv],slA 5 v ((encL ⟨vk,vi,vt⟩).map u8C),emp,emp]) (λ g w h=> (encode_calls ⟨vk,vi,vt⟩ hvi hvt w).mono λ e w2 ⟨b,e1,h2⟩=> (by exact ⟨_,e1,rfl,St.emp.1 (St_re (L:=[_,_,_,_,_,_,_,_]) (newB h h2) [5,1,2,3,4,0,6,7] [] (by kernel_rfl))⟩)), .runG _ 5 (λ g=> [blkA b3 34 #[.pointer (some ⟨S,0,none⟩)],blkA b2 29 #[.int .i64 vk, .int .i64 vi, .string vt],blkA b5 97 #[cv, .pointer (some ⟨kb,0,none⟩)],blkA b7 88 #[isv],slA 5 (g 28) ((encL ⟨vk,vi,vt⟩).map u8C),emp,emp]) (λ g v=> [blkA b3 34 #[.pointer (some ⟨S,0,none⟩)],blkA b2 29 #[.int .i64 vk, .int .i64 vi, .string vt],blkA b5 97 #[cv, .pointer (some ⟨kb,0,none⟩)],blkA b7 88 #[isv],slA 5 (g 28) ((encL ⟨vk,vi,vt⟩).map u8C),emp,emp]) (λ a w h=> (by obtain ⟨f,hf⟩:=h.has 4 rfl;exact ⟨.string (textOf (encL ⟨vk,vi,vt⟩)),w,conv1 (v:=slots a 28) rfl (kr (by kernel_rfl)) (by obtain ⟨ya,yn,yc,e⟩:=sl_shape hf;rw [e] at hf ⊢;exact run_back hf),kr (by kernel_rfl),h⟩)), .callG _ 6 (λ g=> [blkA b3 34 #[.pointer (some ⟨S,0,none⟩)],blkA b2 29 #[.int .i64 vk, .int .i64 vi, .string vt],blkA b5 97 #[cv, .pointer (some ⟨kb,0,none⟩)],blkA b7 88 #[isv],slA 5 (g 28) ((encL ⟨vk,vi,vt⟩).map u8C),emp,emp]) (λ g v=> [blkA b3 34 #[.pointer (some ⟨S,0,none⟩)],blkA b2 29 #[.int .i64 vk, .int .i64 vi, .string vt],blkA b5 97 #[cv, .pointer (some ⟨kb,0,none⟩)],blkA b7 88 #[isv],slA 5 (g 28) ((encL ⟨vk,vi,vt⟩).map u8C),itA v kb (some (.str (textOf (encL ⟨vk,vi,vt⟩)))) none,emp]) (λ g w h=> (From_it kb (textOf (encL ⟨vk,vi,vt⟩)) w0 w fp0 _ h).mono λ e w2 ⟨v,e1,h2⟩=> ⟨_,e1,rfl,St.emp.1 (St_re (L:=[_,_,_,_,_,_,_,_]) h2 [6,1,2,3,4,5,0,7] [] (by kernel_rfl))⟩), .load _ 7 3 0, .callG _ 8 (λ g=> [blkA b3 34 #[.pointer (some ⟨S,0,none⟩)],blkA b2 29 #[.int .i64 vk, .int .i64 vi, .string vt],blkA b5 97 #[cv, .pointer (some ⟨kb,0,none⟩)],blkA b7 88 #[isv],slA 5 (g 28) ((encL ⟨vk,vi,vt⟩).map u8C),itA (g 30) kb (some (.str (textOf (encL ⟨vk,vi,vt⟩)))) none,emp]) (λ g v=> [blkA b3 34 #[.pointer (some ⟨S,0,none⟩)],blkA b2 29 #[.int .i64 vk, .int .i64 vi, .string vt],blkA b5 97 #[cv, .pointer (some ⟨kb,0,none⟩)],blkA b7 88 #[isv],slA 5 (g 28) ((encL ⟨vk,vi,vt⟩).map u8C),emp,rowA 114 2 v n V]) (λ g w h=> (hix (g 28) (g 30) w h).mono λ e w2 ⟨u,e1,h2⟩=> ⟨_,e1,rfl,h2⟩),trivial⟩;refine wp_regD ok (by kernel_rfl) ⟨c1,c2⟩ ⟨c3,λ p hp=> ?_⟩ hS λ A1 w1 N1 H1=> ?_
 · simp only [gRn5,rgx,List.map_nil,List.append_nil,List.mem_cons,List.not_mem_nil,or_false] at hp
   rcases hp with rfl | rfl | rfl | rfl
   · exact i0
   · exact i2
   · exact i5
   · exact i3
 exact N1.fin [28,30,32] (hQ (slots A1 28) (slots A1 30) (slots A1 32) w1 H1) (by kernel_rfl)
def lkP (cs:List Int) (vals:Rw) (e:Re):Bool:=decide (cs.map (colV e.r)=vals)
def lkX (b4 b5:Nat) (cv vv:Value) (cs:List Int) (vals:Rw):List Asn:=[blkA b4 22 #[cv],slA 3 cv (cs.map intC),blkA b5 27 #[vv],rowA 29 3 vv vals.length (flat vals)]
structure LkOk (cols:Nat) (cs:List Int) (vals:Rw):Prop where
 len:cs.length=vals.length
 rng:∀c∈cs,0<=c/\c < cols
 ne:cs≠[]
 kd:∀v∈vals,v.kind≠0
theorem lk_reads {S:Nat} {s:Sto} {b4 b5:Nat} {cv vv:Value} {cs:List Int} {vals:Rw} {w0 w:World} {fp0:List Nat} {R:List Asn} (hx:∀v∈vals,v.text.size<=maxLen) (hS:St w0 fp0 (stoL S s++(lkX b4 b5 cv vv cs vals++R)) w):
 IntsX [] w cs cv/\ValsAt w vals vv/\w.cell? ⟨b4,0,none⟩=some cv/\w.cell? ⟨b5,0,none⟩=some vv:=by
 have h1:St w0 fp0 (lkX b4 b5 cv vv cs vals++(stoL S s++R)) w:=hS.perm (by classical refine List.perm_iff_count.2 λ a=> ?_;simp only [List.count_append];omega);obtain ⟨_,h2⟩:=h1.has 0 rfl;obtain ⟨_,h3⟩:=h1.has 1 rfl;obtain ⟨_,h4⟩:=h1.has 2 rfl;obtain ⟨_,h5⟩:=h1.has 3 rfl;have c2:=(blk_get h2).1 0;have c4:=(blk_get h4).1 0;simp only [List.getElem?_toArray,List.getElem?_cons_zero] at c2 c4;refine ⟨?_,⟨SlX.of_row h5 (length_flat vals) (by simp),hx⟩,c2,c4⟩;have h6:=SlX.of_sl (X:=[]) h3 (by simp);unfold IntsX
 rwa [List.length_map] at h6
theorem lk_isc {S cols:Nat} {I:List (List Int)} {L:LL} {next:Int} {s:Sto} (hok:s.Ok cols I L next) (b4 b5:Nat) (cv vv:Value) {cs:List Int} {vals:Rw} (hk:LkOk cols cs vals) (hx:∀v∈vals,v.text.size<=maxLen):
 IsC 38 #[.pointer (some ⟨b4,0,none⟩), .pointer (some ⟨b5,0,none⟩)] (lkP cs vals) S s (lkX b4 b5 cv vv cs vals):=by
 intro w0 fp0 R w e he hs;obtain ⟨h1,h2,h3,h4⟩:=lk_reads hx hs;obtain ⟨f,hf⟩:=hs.star_of;have hm:(e.id,e.r)∈L:=by rw [<-hok.rows];exact List.mem_map.2 ⟨_,he,rfl⟩
 have hl:e.r.length=cols:=(hok.row _ hm).2.2.1;refine (lookup1_calls cs vals e.r cv vv (encV e.va) b4 b5 w h1 h2 (re_at hok hf he) h3 h4 hk.len λ c hc=> by rw [hl];exact hk.rng c hc).mono ?_;rintro ev w' ⟨rfl,hb⟩;exact ⟨rfl,hs.mono hb⟩
theorem lk_ess {cols:Nat} {I:List (List Int)} {L:LL} {next:Int} {s:Sto} (hok:s.Ok cols I L next) {x:Ix} (_hx:x∈s.ixs) {vals:Rw} (hne:vals≠[]) {ess:List Re}
 (h1:∀e,e∈ess↔e∈s.es/\inR (some (.str (textOf (encR vals)))) (some (.str (textOf (endL (encR vals))))) (ixK x.cs e,Va.int e.id)=true) (h2:ess.Pairwise (λ a b=> ltK (ixK x.cs a) (ixK x.cs b))):somL (lkP x.cs vals) ess=somL (lkP x.cs vals) s.es:=by
 have hasc2:=reL_asc (by rw [hok.rows];exact hok.asc);have hkey:∀e:Re,lkP x.cs vals e=true->keyL e.r x.cs=encR vals:=by intro e he;have:x.cs.map (colV e.r)=vals:=of_decide_eq_true he;rw [keyL,encR,<-this,List.flatMap_map]
 have hi64:∀e∈s.es,I64 e.id:=λ e he=> by
  have hm:(e.id,e.r)∈L:=by rw [<-hok.rows];exact List.mem_map.2 ⟨_,he,rfl⟩
  exact AscI.i64 hok.nx.2 (λ y hy=> ⟨(hok.row y hy).1,(hok.row y hy).2.1⟩) _ hm
 unfold somL;congr 1;refine asc_ext ?_ (hasc2.sublist List.filter_sublist) λ e=> ?_
 · rw [List.pairwise_filter]
   refine h2.imp_of_mem ?_;intro a b ha hb hlt hpa hpb;have ha':=(h1 a).1 ha;have hb':=(h1 b).1 hb;have h3:Lib.compareBytes (bytes (ixKey a.id a.r x.cs)) (bytes (ixKey b.id b.r x.cs)) < 0:=hlt;rw [ixKey,ixKey,bytes_textOf,bytes_textOf,hkey a hpa,hkey b hpb,cmpB_pre] at h3;rcases Int.lt_trichotomy a.id b.id with h | h | h
   · exact h
   · rw [h,cmpB_zero.2 rfl] at h3
     omega
   · have h4:=numL_lt (hi64 b hb'.1) (hi64 a ha'.1) h [] []
     rw [List.append_nil,List.append_nil] at h4;have h5:=cmpB_swap (numL b.id) (numL a.id);omega
 · rw [List.mem_filter,List.mem_filter,h1 e]
   constructor
   · rintro ⟨⟨h3, -⟩,h4⟩
     exact ⟨h3,h4⟩
   · rintro ⟨h3,h4⟩
     refine ⟨⟨h3,?_⟩,h4⟩;have hk:=hkey e h4;have a1:¬ ltK (ixK x.cs e) (Ky.str (textOf (encR vals))):=by show ¬ Lib.compareBytes (bytes (ixKey e.id e.r x.cs)) (bytes (textOf (encR vals))) < 0;rw [ixKey,bytes_textOf,bytes_textOf,hk];exact cmpB_le_app _ _
     have a2:ltK (ixK x.cs e) (Ky.str (textOf (endL (encR vals)))):=by show Lib.compareBytes (bytes (ixKey e.id e.r x.cs)) (bytes (textOf (endL (encR vals)))) < 0;rw [ixKey,bytes_textOf,bytes_textOf,hk];exact endL_lt (encR_low hne) _
     show (!decide (ltK (ixK x.cs e) (Ky.str (textOf (encR vals)))) && decide (ltK (ixK x.cs e) (Ky.str (textOf (endL (encR vals))))))=true;rw [decide_eq_false a1,decide_eq_true a2];rfl
def lkIts (none:Bool) (cs:List Int) (vals:Rw) (s:Sto):List Ri:=if none then [] else somL (lkP cs vals) s.es
def isV (b4 b5:Nat):Value:=.func (.func 38) #[] #[.pointer (some ⟨b4,0,none⟩), .pointer (some ⟨b5,0,none⟩)]
theorem lookup4_calls {S cols:Nat} {I:List (List Int)} {L:LL} {next:Int} {s:Sto} (hok:s.Ok cols I L next) (b8 b3 b4 b7 b5:Nat) (cv vv:Value) (none:Bool) {cs:List Int} {vals:Rw} (hk:none=false->LkOk cols cs vals) (hx:RowS vals) (hvl:vals.length<=100000) (hlen:L.length+1 < 1099511627776)
 (w0 w:World) (fp0:List Nat) (R:List Asn) (hS:St w0 fp0 (blkA b8 4 #[.bool none]::blkA b3 34 #[ptrV S]::blkA b7 88 #[isV b4 b5]::(stoL S s++(lkX b4 b5 cv vv cs vals++R))) w):
 Calls Tryz.prog 46 #[.pointer (some ⟨b8,0, .none⟩), .pointer (some ⟨b3,0, .none⟩), .pointer (some ⟨b4,0, .none⟩), .pointer (some ⟨b7,0, .none⟩), .pointer (some ⟨b5,0, .none⟩)] w λ e w'=> ∃v,e=.returned v/\
  St w0 fp0 (rowA 114 2 v (lkIts none cs vals s).length (riV (lkIts none cs vals s))::(blkA b8 4 #[.bool none]::blkA b3 34 #[ptrV S]::blkA b7 88 #[isV b4 b5]::(stoL S s++(lkX b4 b5 cv vv cs vals++R)))) w':=by
 obtain ⟨_,hb8⟩:=hS.has 0 rfl;have d8:=(blk_get hb8).1 0;have d8l:=(blk_get hb8).2.2;simp only [List.getElem?_toArray,List.getElem?_cons_zero] at d8;cases none with
 | true=>
  have HS:=Lib.hid (St.nilR 114 2 hS);clear hS hk hb8;go_enter Tryz.func46,Tryz.ntmps46;go_wp2;go_ret;exact ⟨_,rfl,HS.out⟩
 | false=>
  have hk1:=hk rfl;clear hk;have hk:=hk1;clear hk1;have hxm:∀v∈vals,v.text.size<=maxLen:=λ v hv=> by have:=(hx v hv).2;unfold maxLen;omega
  let R1:List Asn:=blkA b8 4 #[.bool false]::blkA b3 34 #[ptrV S]::blkA b7 88 #[isV b4 b5]::R;have hS1:St w0 fp0 (stoL S s++(lkX b4 b5 cv vv cs vals++R1)) w:=hS.perm (by classical refine List.perm_iff_count.2 λ a=> ?_;simp only [R1,List.count_append,List.count_cons];omega);obtain ⟨r1,r2,d4,d5⟩:=lk_reads hxm hS1;obtain ⟨_,hb3⟩:=hS.has 1 rfl;have d3:=(blk_get hb3).1 0;have d3l:=(blk_get hb3).2.2;obtain ⟨_,hb7⟩:=hS.has 2 rfl;have d7:=(blk_get hb7).1 0;have d7l:=(blk_get hb7).2.2;obtain ⟨_,hbS⟩:=hS.has 3 rfl;have e3:=(blk_get hbS).1 3;obtain ⟨_,hri⟩:=hS.has 5 rfl;have hix:=row_sl hri (ixV_len s.ixs);simp only [List.getElem?_toArray,List.getElem?_cons_zero,List.getElem?_cons_succ] at d3 d7 e3;have d4l:=World.block_lt_of_cell? w _ d4;have d5l:=World.block_lt_of_cell? w _ d5;have hixs:∀x∈s.ixs,IntsX [] w x.cs x.cv:=by
   intro x hx;obtain ⟨f,hf⟩:=hS1.hasM (A:=ixA x) (List.mem_append_left _ (by unfold stoL;exact .tail _ (.tail _ (.tail _ (List.mem_append_right _ (List.mem_map.2 ⟨x,hx,rfl⟩))))));obtain ⟨f1,f2,h1, -⟩:=(show Star w [slA 3 x.cv (x.cs.map intC),objA true 16 x.kh x.km x.kb] f from hf)
   exact intsX_of h1
  have HCVS:Hid (∀x∈s.ixs,∃a n c,x.cv=.slice a n c):=λ x hx=> by obtain ⟨a,n,c,h, -⟩:=(hixs x hx).shape;exact ⟨a,n,c,h⟩
  have HF:=Lib.hid (sfind_calls S s.ixs s.iv cs cv w e3 hix hixs r1);obtain ⟨o,ho⟩:∃o,findIx s.ixs cs=o:=⟨_,rfl⟩
  rw [ho] at HF;have HO:=Lib.hid ho;have HS1:=Lib.hid hS1;have HOK:=Lib.hid hok;have HK:=Lib.hid hk;have HX:=Lib.hid hx;have HXM:=Lib.hid hxm;have HVL:=Lib.hid hvl;have HLEN:=Lib.hid hlen;have HISC:=Lib.hid (lk_isc (S:=S) hok b4 b5 cv vv hk hxm);have hlk:lkIts false cs vals s=somL (lkP cs vals) s.es:=rfl;rw [hlk];clear hS hS1 hk hb8 hb3 hb7 hbS hri hix hixs e3 r1 r2 ho hok hx hxm hvl hlen hlk;go_enter Tryz.func46,Tryz.ntmps46;unfold ptrV at d3;unfold isV at d7;unfold ptrV at HF;go_wp2_with fail;(with_reducible refine HF.out.mono ?_);rintro e w1 ⟨rfl,hb1⟩;have HS2:=Lib.hid (HS1.out.mono hb1);have c3:=(hb1.cell (p:=⟨b3,0,none⟩) d3l).trans d3;have c4:=(hb1.cell (p:=⟨b4,0,none⟩) d4l).trans d4;have c5:=(hb1.cell (p:=⟨b5,0,none⟩) d5l).trans d5;have c7:=(hb1.cell (p:=⟨b7,0,none⟩) d7l).trans d7;have l3:=World.block_lt_of_cell? w1 _ c3;have l4:=World.block_lt_of_cell? w1 _ c4;have l5:=World.block_lt_of_cell? w1 _ c5;have l7:=World.block_lt_of_cell? w1 _ c7;clear HF hb1 d3 d4 d5 d7 d3l d4l d5l d7l d8 d8l HS1;have HLE:Hid (s.es.length+1 < 1099511627776):=by have h1:=congrArg List.length HOK.out.rows;rw [reL,List.length_map] at h1;have:=HLEN.out;show _ < _;omega
  cases o with
  | none=>
   unfold findV;go_upto_region 5 with (fail)
   generalize hW2:w1.alloc _=W2;have hb2:Below w1.heap.size w1 W2:=by rw [<-hW2];exact (Below.refl _ _).alloc (Nat.le_refl _) _
   have HS3:=Lib.hid (HS2.out.mono hb2);have e3:=(hb2.cell (p:=⟨b3,0, .none⟩) l3).trans c3;have e7:=(hb2.cell (p:=⟨b7,0, .none⟩) l7).trans c7;have m3:=World.block_lt_of_cell? W2 _ e3;have m7:=World.block_lt_of_cell? W2 _ e7;clear hb2;generalize w1.heap.size=b6 at *;have HC:=Lib.hid (some_calls 38 #[.pointer (some ⟨b4,0, .none⟩), .pointer (some ⟨b5,0, .none⟩)] (lkP cs vals) S s (lkX b4 b5 cv vv cs vals) (enters_own Tryz.func38 (by kernel_rfl) rfl) HLE.out HISC.out w0 W2 fp0 R1 HS3.out);clear hW2 HS2 HS3 c3 c4 c5 c7 l3 l4 l5 l7;unfold ptrV at HC;go_wp2_with fail;(with_reducible refine HC.out.mono ?_);rintro e w3 ⟨v,rfl,h3⟩;have H3:Hid (St w0 fp0 (rowA 114 2 v (somL (lkP cs vals) s.es).length (riV (somL (lkP cs vals) s.es))::(blkA b8 4 #[.bool false]::blkA b3 34 #[ptrV S]::blkA b7 88 #[isV b4 b5]::(stoL S s++(lkX b4 b5 cv vv cs vals++R)))) w3):=h3.perm (by classical refine List.perm_iff_count.2 λ a=> ?_;simp only [R1,List.count_append,List.count_cons];omega);clear HC h3 e3 e7 m3 m7;go_wp2;go_ret;exact ⟨v,rfl,H3.out⟩
  | some x=>
   have hxm:x∈s.ixs:=List.mem_of_find?_eq_some HO.out;have hxc:x.cs=cs:=of_decide_eq_true (List.find?_some (p:=λ x:Ix=> decide (x.cs=cs)) HO.out);obtain ⟨xa,xn,xc,hxv⟩:=HCVS.out x hxm;have hfv:findV (some x)=.agg #[.slice xa xn xc, .pointer (some ⟨x.kb,0, .none⟩)]:=by rw [findV,hxv];rfl
   rw [hfv];have HXS:=Lib.hid hxm;have HXC:=Lib.hid hxc;obtain ⟨kb,hkb⟩:∃kb,x.kb=kb:=⟨_,rfl⟩
   rw [hkb];have HKB:=Lib.hid hkb;clear hxm hxc hxv hkb hfv HCVS;go_upto_region 6 with (fail)
   generalize hW2:w1.alloc _=W2;have hb2:Below w1.heap.size w1 W2:=by rw [<-hW2];exact (Below.refl _ _).alloc (Nat.le_refl _) _
   have HS3:Hid (St w0 fp0 (blkA w1.heap.size 97 #[.slice xa xn xc, .pointer (some ⟨kb,0, .none⟩)]::(stoL S s++(lkX b4 b5 cv vv cs vals++R1))) W2):=by show St _ _ _ _;rw [<-hW2];exact HS2.out.newblk 97 #[.slice xa xn xc, .pointer (some ⟨kb,0, .none⟩)]
   have e5:=(hb2.cell (p:=⟨b5,0, .none⟩) l5).trans c5;have m5:=World.block_lt_of_cell? W2 _ e5;clear hb2 hW2 HS2 c3 c4 c5 c7 l3 l4 l5 l7;generalize w1.heap.size=b6 at *;have hvv:ValsAt W2 vals vv:=(lk_reads HXM.out (show St w0 fp0 (stoL S s++(lkX b4 b5 cv vv cs vals++(blkA b6 97 #[.slice xa xn xc, .pointer (some ⟨kb,0, .none⟩)]::R1))) W2 from HS3.out.perm (by classical refine List.perm_iff_count.2 λ a=> ?_;simp only [List.count_append,List.count_cons];omega))).2.1;have HENC:=Lib.hid (encodeRow_calls vals vv HX.out HVL.out W2 hvv);clear hvv;go_wp2_with fail;(with_reducible refine HENC.out.mono ?_);rintro e W3 ⟨b,rfl,hb⟩;obtain ⟨_,hbs⟩:=hb.has 0 rfl;obtain ⟨ba,bn,bc,rfl⟩:=sl_shape hbs;have hcv:=run_back hbs;have HS4:=Lib.hid (HS3.out.mono hb.below0);obtain ⟨p,hp⟩:∃p,textOf (encR vals)=p:=⟨_,rfl⟩
   rw [hp] at hcv;have HP:=Lib.hid hp;clear HENC HS3 hb hbs e5 m5 hp;go_upto_region 7 with (fail)
   clear hcv;have hvne:vals≠[]:=by intro h;have h1:=HK.out.len;rw [h] at h1;exact HK.out.ne (List.length_eq_zero_iff.1 h1)
   have HEND:=Lib.hid (End_calls (encR vals) (encR_low hvne) (by have:=encR_len HX.out;have:=HVL.out;omega) W3);rw [HP.out] at HEND;obtain ⟨q,hq⟩:∃q,textOf (endL (encR vals))=q:=⟨_,rfl⟩
   rw [hq] at HEND;have HQ:=Lib.hid hq;clear hvne hq;go_wp2_with fail;(with_reducible refine HEND.out.mono ?_);rintro e W4 ⟨rfl,hb4⟩;have HS5:=Lib.hid (HS4.out.mono hb4);clear HEND HS4 hb4;obtain ⟨ess,hess,hem,hep,hel⟩:=ix_sel HOK.out HXS.out (some (.str p)) (some (.str q));have hits:somL (lkP cs vals) ess=somL (lkP cs vals) s.es:=by
    have hvne:vals≠[]:=by intro h;have h1:=HK.out.len;rw [h] at h1;exact HK.out.ne (List.length_eq_zero_iff.1 h1)
    rw [<-HXC.out];rw [<-HP.out,<-HQ.out] at hem;exact lk_ess HOK.out HXS.out hvne hem hep
   have HIX:Hid (∀(v:Value) (w:World),St w0 fp0 ([blkA b3 34 #[.pointer (some ⟨S,0, .none⟩)],blkA b6 97 #[.slice xa xn xc, .pointer (some ⟨kb,0, .none⟩)],blkA b7 88 #[isV b4 b5],itA v kb (some (.str p)) (some (.str q)),emp]++(blkA b8 4 #[.bool false]::(stoL S s++(lkX b4 b5 cv vv cs vals++R)))) w->
    Calls Tryz.prog 51 #[.pointer (some ⟨S,0, .none⟩),v,isV b4 b5] w λ e w2=> ∃u,e=.returned u/\St w0 fp0 ([blkA b3 34 #[.pointer (some ⟨S,0, .none⟩)],blkA b6 97 #[.slice xa xn xc, .pointer (some ⟨kb,0, .none⟩)],blkA b7 88 #[isV b4 b5],emp,rowA 114 2 u (somL (lkP cs vals) s.es).length (riV (somL (lkP cs vals) s.es))]++(blkA b8 4 #[.bool false]::(stoL S s++(lkX b4 b5 cv vv cs vals++R)))) w2):=by
    intro v W h;rw [<-HKB.out] at h;have h2:St w0 fp0 (itA v x.kb (some (.str p)) (some (.str q))::(stoL S s++(lkX b4 b5 cv vv cs vals++(emp::blkA b3 34 #[.pointer (some ⟨S,0, .none⟩)]::blkA b6 97 #[.slice xa xn xc, .pointer (some ⟨x.kb,0, .none⟩)]::blkA b7 88 #[isV b4 b5]::blkA b8 4 #[.bool false]::R)))) W:=h.perm (by classical refine List.perm_iff_count.2 λ a=> ?_;simp only [List.cons_append,List.nil_append,List.count_append,List.count_cons];omega);refine (idx_calls 38 #[.pointer (some ⟨b4,0, .none⟩), .pointer (some ⟨b5,0, .none⟩)] (lkP cs vals) S cols I L next s HOK.out (lkX b4 b5 cv vv cs vals) (enters_own Tryz.func38 (by kernel_rfl) rfl) HISC.out x HXS.out (some (.str p)) (some (.str q)) (by rintro k ⟨rfl⟩;trivial) (by rintro k ⟨rfl⟩;trivial) ess hess (λ e he=> ((hem e).1 he).1) HLEN.out v w0 W fp0 _ h2).mono ?_;rintro e w2 ⟨u,rfl,h3⟩;refine ⟨u,rfl,?_⟩;rw [hits] at h3;rw [<-HKB.out];refine h3.perm ?_
    classical refine List.perm_iff_count.2 λ a=> ?_;simp only [List.cons_append,List.nil_append,List.count_append,List.count_cons];omega
   clear hits hel hep hem hess;go_upto_region 8 with (fail)
   refine rLk8 (w0:=w0) (fp0:=fp0) b3 b6 b7 S kb (somL (lkP cs vals) s.es).length (.slice xa xn xc) (isV b4 b5) p q (riV (somL (lkP cs vals) s.es)) (blkA b8 4 #[.bool false]::(stoL S s++(lkX b4 b5 cv vv cs vals++R))) HIX.out rfl (by kernel_rfl) rfl rfl rfl rfl rfl rfl rfl ?_ ?_
   · have h5:=St.emp.2 (St.emp.2 HS5.out)
     refine h5.perm ?_
     classical refine List.perm_iff_count.2 λ a=> ?_;simp only [R1,ptrV,List.cons_append,List.nil_append,List.count_append,List.count_cons];omega
   · intro u36 u38 W5 h6
     have H6:Hid (St w0 fp0 (rowA 114 2 u38 (somL (lkP cs vals) s.es).length (riV (somL (lkP cs vals) s.es))::(blkA b8 4 #[.bool false]::blkA b3 34 #[ptrV S]::blkA b7 88 #[isV b4 b5]::(stoL S s++(lkX b4 b5 cv vv cs vals++R)))) W5):=by
      refine St.dropAll (A:=[emp,blkA b6 97 #[.slice xa xn xc, .pointer (some ⟨kb,0, .none⟩)]]) (h6.perm ?_)
      classical refine List.perm_iff_count.2 λ a=> ?_;simp only [ptrV,List.cons_append,List.nil_append,List.count_append,List.count_cons];omega
     clear h6 HS5 HIX;simp only [putL,List.foldl,Act.put,List.setIfInBounds_toArray,List.set_cons_succ,List.set_cons_zero];go_wp2;go_ret;exact ⟨_,rfl,H6.out⟩
theorem lookup2_calls (b3 S cols:Nat) (c:Int) (w:World) (hc:w.cell? ⟨S,0,none⟩=some (.int .i64 cols)) (h3:w.cell? ⟨b3,0,none⟩=some (ptrV S)):
 Calls Tryz.prog 41 #[.int .i64 c, .pointer (some ⟨b3,0,none⟩)] w λ e w'=> e=.returned (.bool (!decide (0<=c/\c < cols)))/\w=w':=by
 have HC:=Lib.hid (has_calls S cols c w hc);have h3l:=World.block_lt_of_cell? w _ h3;obtain ⟨q,hq⟩:∃q,decide (0<=c/\c < (cols:Int))=q:=⟨_,rfl⟩
 rw [hq] at HC ⊢;clear hq hc;unfold ptrV at *;go_enter Tryz.func41,Tryz.ntmps41;go_wp2_with fail;(with_reducible refine HC.out.mono ?_);rintro e w1 ⟨rfl,rfl⟩;clear HC;cases q <;> (go_wp2;go_ret;exact ⟨rfl,rfl⟩)
theorem lookup3_calls (v:Vl) (w:World):Calls Tryz.prog 44 #[v.val] w λ e w'=> e=.returned (.bool (v.kind==0))/\Below w.heap.size w w':=by
 have HB:=Lib.hid ((Below.refl _ w).alloc (Nat.le_refl _) (.cells #[.int .i64 v.kind, .int .i64 v.int, .string v.text] 29));unfold Vl.val;go_enter Tryz.func44,Tryz.ntmps44;go_wp2;go_ret;exact ⟨rfl,HB.out⟩
def gLk1 (b4 b5 n:Nat) (cv vv:Value) (CS XS:List Value):=rgx Tryz.prog Tryz.f15 1 35 [9,10,11,12] [(4,pV b4 0),(5,pV b5 0)] (Vq 0 9 [Kv cv,Vf.slice,Kv vv,Vf.slice]) [.blk b4 (22) [⟨cv,[(4, .s 10)]⟩], .blk b5 (27) [⟨vv,[(5, .s 12)]⟩], .new 1 [10] λ g=> slA 3 (g 10) CS, .new 3 [12] λ g=> rowA 29 3 (g 12) n XS]
theorem rLk1 (b4 b5 n:Nat) (cv vv:Value) (CS XS:List Value) (w0:World) (fp0:List Nat) (R:List Asn) (hcl:∀(L:List Asn) (w:World),St w0 fp0 (L++R) w->Calls Tryz.prog 36 #[cv] w λ e w2=> ∃v f,e=.returned v/\(slA 3 v CS).p w2 f/\Below w.heap.size w w2/\∀k∈f,w.heap.size<=k) (hcr:∀(L:List Asn) (w:World),St w0 fp0 (L++R) w->Calls Tryz.prog 37 #[vv] w λ e w2=> ∃v f,e=.returned v/\(rowA 29 3 v n XS).p w2 f/\Below w.heap.size w w2/\∀k∈f,w.heap.size<=k) {w:World} {c:Code} {a:Act} {Q:Exit->Act->World->Prop} (c1:isReg c=true) (c2:cops c=opsR Tryz.f15 1) (c3:a.tmps.size=35) (_c4:a.defers=a.defers) (i4:a.eval (.tmp 4)=.pointer (some ⟨b4,0,none⟩)) (i5:a.eval (.tmp 5)=.pointer (some ⟨b5,0,none⟩))
 (hS:St w0 fp0 ([blkA b4 (22) #[cv],blkA b5 (27) #[vv],emp,emp]++R) w)
 (hQ:∀(u10 u12:Value) (w1:World),(∃a n c,u10=.slice a n c)->(∃a n c,u12=.slice a n c)->St w0 fp0 ([blkA b4 (22) #[u10],blkA b5 (27) #[u12],slA 3 (u10) CS,rowA 29 3 (u12) n XS]++R) w1->Q .normal (putL a [(9,cv),(10,u10),(11,vv),(12,u12)]) w1):c.wp Tryz.prog Q a w:=by
 have ok:(gLk1 b4 b5 n cv vv CS XS w0 fp0 R).Ok 6:=Rg.ok _ 6 [0,1,2,3,4,5] ⟨.load _ 0 0 0, .callNew _ 1 2 (λ v=> slA 3 v CS) (λ _ _ _ h=> sl_shape h) hcl, .load _ 2 1 0, .callNew _ 3 3 (λ v=> rowA 29 3 v n XS) (λ _ _ _ h=> let ⟨a,c,e,_⟩:=row_shape h;⟨a,_,c,e⟩) hcr, .store _ 4 0 0, .store _ 5 1 0,trivial⟩;refine wp_regD ok (by kernel_rfl) ⟨c1,c2⟩ ⟨c3,λ p hp=> ?_⟩ hS λ A1 w1 N1 H1=> ?_
 · simp only [gLk1,rgx,List.map_nil,List.append_nil,List.mem_cons,List.not_mem_nil,or_false] at hp
   rcases hp with rfl | rfl
   · exact i4
   · exact i5
 exact N1.fin [10,12] (hQ (slots A1 10) (slots A1 12) w1 ⟨_,_,_,(N1.val 1 rfl)⟩ ⟨_,_,_,(N1.val 3 rfl)⟩ H1) (by kernel_rfl)
section
theorem run_storeF {P:Program} {w:World} {a:Addr} {m:Mode} (fn:Fn) (x y:Array Value):(store a (.func fn x y) m).run P w=stored P w a (.func fn x y) m:=run_store P w a _ m rfl
attribute [local go_sem] run_storeF
def noneB (cols:Nat) (cs:List Int) (vals:Rw):Bool:=decide (cs.length=0) || (!decide (cs.length=vals.length) || (cs.any (λ c=> !decide (0<=c/\c < (cols:Int))) || vals.any (λ v=> v.kind==0)))
theorem noneB_ok {cols:Nat} {cs:List Int} {vals:Rw} (h:noneB cols cs vals=false):LkOk cols cs vals:=by
 unfold noneB at h;simp only [Bool.or_eq_false_iff,Bool.not_eq_false',decide_eq_false_iff_not,decide_eq_true_eq,List.any_eq_false] at h;obtain ⟨h1,h2,h3,h4⟩:=h;exact ⟨h2,λ c hc=> by simpa using h3 c hc,λ e=> h1 (by rw [e];rfl),λ v hv e=> h4 v hv (by rw [e];rfl)⟩
def lkCol (b8 b3 b4 b7 b5:Nat):Value:=.func (.func 46) #[] #[.pointer (some ⟨b8,0,none⟩), .pointer (some ⟨b3,0,none⟩), .pointer (some ⟨b4,0,none⟩), .pointer (some ⟨b7,0,none⟩), .pointer (some ⟨b5,0,none⟩)]
def lkB (b8 b3 b7 b4 b5 S:Nat) (nn:Bool):List Asn:=[blkA b8 4 #[.bool nn],blkA b3 34 #[ptrV S],blkA b7 88 #[isV b4 b5]]
theorem Lookup_store {S:Nat} {s:Sto} (cv vv:Value) {cs:List Int} {vals:Rw} (hvl:vals.length<=100000) (hcl:cs.length<=100000) (hx:RowS vals)
 (w0 w:World) (fp0:List Nat) (R:List Asn) (hrc:Rd w0 fp0 R λ w=> IntsX [] w cs cv) (hrv:Rd w0 fp0 R λ w=> ValsAt w vals vv) (hS:St w0 fp0 (stoL S s++R) w):
 Calls Tryz.prog 15 #[ptrV S,cv,vv] w λ e w'=> ∃cb b8 b3 b4 b7 b5 cv' vv',e=.returned (allF cb)/\St w0 fp0 (blkA cb 109 #[lkCol b8 b3 b4 b7 b5]::(lkB b8 b3 b7 b4 b5 S (noneB s.cols cs vals)++(stoL S s++(lkX b4 b5 cv' vv' cs vals++R)))) w':=by
 obtain ⟨a1,n1,c1,rfl,hn1, -⟩:=(hrc.at hS).shape;obtain ⟨a2,n2,c2,rfl,hn2, -⟩:=(hrv.at hS).shape;have HI:Hid (∀(L:List Asn) (w:World),St w0 fp0 (L++(stoL S s++R)) w->Calls Tryz.prog 36 #[.slice a1 n1 c1] w λ e w2=> ∃v f,e=.returned v/\(slA 3 v (cs.map intC)).p w2 f/\Below w.heap.size w w2/\∀k∈f,w.heap.size<=k):=λ L w h=> by have h1:=cloneI (cs.map intC) (cs.map intC).length _ w (by rw [List.length_map];exact (hrc.app (L++stoL S s)).here (by rwa [List.append_assoc])) (by intro u hu;obtain ⟨z, -,rfl⟩:=List.mem_map.1 hu;rfl) (by rw [List.length_map];omega);refine h1.mono ?_;rintro e w2 ⟨v,f,rfl,h2,h3,h4⟩;exact ⟨v,f,rfl,h2,h3,h4⟩
 have HW:Hid (∀(L:List Asn) (w:World),St w0 fp0 (L++(stoL S s++R)) w->Calls Tryz.prog 37 #[.slice a2 n2 c2] w λ e w2=> ∃v f,e=.returned v/\(rowA 29 3 v vals.length (flat vals)).p w2 f/\Below w.heap.size w w2/\∀k∈f,w.heap.size<=k):=λ L w h=>
  cloneW (flat vals) vals.length _ w ((hrv.app (L++stoL S s)).here (by rwa [List.append_assoc])).1 (one_flat _) (by omega)
 have HX:Hid (∀v∈vals,v.text.size<=maxLen):=λ v hv=> by have:=(hx v hv).2;unfold maxLen;omega
 have HS0:Hid (St w0 fp0 ([blkA (w.heap.size+1) 22 #[.slice a1 n1 c1],blkA (w.heap.size+1+1) 27 #[.slice a2 n2 c2],emp,emp]++(blkA w.heap.size 34 #[ptrV S]::(stoL S s++R))) (((w.alloc (.cells #[ptrV S] 34)).alloc (.cells #[.slice a1 n1 c1] 22)).alloc (.cells #[.slice a2 n2 c2] 27))):=by
  have h1:=St.emp.2 (St.emp.2 (((hS.newblk 34 #[ptrV S]).newblk 22 #[.slice a1 n1 c1]).newblk 27 #[.slice a2 n2 c2]));simp only [World.size_alloc] at h1;refine h1.perm ?_
  classical refine List.perm_iff_count.2 λ a=> ?_;simp only [List.cons_append,List.nil_append,List.count_append,List.count_cons];omega
 have HN1:=Lib.hid hn1;have HN2:=Lib.hid hn2;obtain ⟨nn,hnn⟩:∃nn,noneB s.cols cs vals=nn:=⟨_,rfl⟩
 have HNN:=Lib.hid hnn;rw [hnn];have hb1:n1<=100000:=by omega
 have hb2:n2<=100000:=by omega
 clear hrc hrv hS hn1 hn2 hvl hcl hx hnn;unfold ptrV at HS0 ⊢;go_enter Tryz.func15,Tryz.ntmps15;go_upto_region 1 with (fail)
 generalize hWW:((w.alloc _).alloc _).alloc _=W0 at *;clear hWW;obtain ⟨b3,hbm⟩:∃b3,w.heap.size=b3:=⟨_,rfl⟩
 rw [hbm] at HS0 ⊢;clear hbm;obtain ⟨b5,hb5⟩:∃b5,b3+1+1=b5:=⟨_,rfl⟩
 rw [hb5] at HS0 ⊢;obtain ⟨b4,hb4⟩:∃b4,b3+1=b4:=⟨_,rfl⟩
 rw [hb4] at HS0 ⊢;clear hb5 hb4;refine rLk1 (w0:=w0) (fp0:=fp0) b4 b5 vals.length (.slice a1 n1 c1) (.slice a2 n2 c2) (cs.map intC) (flat vals) (blkA b3 34 #[.pointer (some ⟨S,0,none⟩)]::(stoL S s++R)) (λ L w h=> HI.out (L++[blkA b3 34 #[.pointer (some ⟨S,0,none⟩)]]) w (by rw [List.append_assoc];exact h)) (λ L w h=> HW.out (L++[blkA b3 34 #[.pointer (some ⟨S,0,none⟩)]]) w (by rw [List.append_assoc];exact h)) rfl (by kernel_rfl) rfl rfl rfl rfl HS0.out ?_;intro u10 u12 W1 ⟨xa,xn,xc,hu10⟩ ⟨ya,yn,yc,hu12⟩ h1;subst hu10 hu12;obtain ⟨_,hp1⟩:=h1.has 2 rfl;obtain ⟨_,_,e2, -⟩:=sl_get hp1;obtain ⟨_,hp2⟩:=h1.has 3 rfl;obtain ⟨_,_,e3, -⟩:=row_shape hp2;obtain ⟨-,hxn, -⟩:=Value.slice.inj e2;obtain ⟨-,hyn, -⟩:=Value.slice.inj e3;rw [List.length_map,<-HN1.out] at hxn;rw [<-HN2.out] at hyn;subst hxn hyn;have H1:=Lib.hid h1;clear h1 hp1 hp2 e2 e3 HS0;simp only [putL,List.foldl,Act.put,List.setIfInBounds_toArray,List.set_cons_succ,List.set_cons_zero];obtain ⟨V0,V1,V2⟩:=VarIs.new W1 #[.nilFunc] 88;go_upto_region 3 with (fail)
 clear V0 V1 V2;have H2:Hid (St w0 fp0 (blkA W1.heap.size 88 #[isV b4 b5]::(blkA b3 34 #[ptrV S]::(stoL S s++(lkX b4 b5 (.slice xa xn xc) (.slice ya yn yc) cs vals++R)))) (W1.alloc (.cells #[isV b4 b5] 88))):=by
  have h2:=H1.out.newblk 88 #[isV b4 b5];refine h2.perm ?_;unfold lkX ptrV
  classical refine List.perm_iff_count.2 λ a=> ?_;simp only [List.cons_append,List.nil_append,List.count_append,List.count_cons];omega
 unfold isV at H2;obtain ⟨W2,hW2⟩:∃W2,W1.alloc (.cells #[.func (.func 38) #[] #[.pointer (some ⟨b4,0,none⟩), .pointer (some ⟨b5,0,none⟩)]] 88)=W2:=⟨_,rfl⟩
 rw [hW2] at H2 ⊢;change Hid (St w0 fp0 (blkA W1.heap.size 88 #[isV b4 b5]::(blkA b3 34 #[ptrV S]::(stoL S s++(lkX b4 b5 (.slice xa xn xc) (.slice ya yn yc) cs vals++R)))) W2) at H2;clear hW2 H1;generalize W1.heap.size=b7 at *;obtain ⟨d1,d2,d4,d5⟩:=lk_reads (R:=blkA b7 88 #[isV b4 b5]::blkA b3 34 #[ptrV S]::R) HX.out (show St w0 fp0 (stoL S s++(lkX b4 b5 (.slice xa xn xc) (.slice ya yn yc) cs vals++(blkA b7 88 #[isV b4 b5]::blkA b3 34 #[ptrV S]::R))) W2 from H2.out.perm (by classical refine List.perm_iff_count.2 λ a=> ?_;simp only [List.count_append,List.count_cons];omega));have d4l:=World.block_lt_of_cell? W2 _ d4;have d5l:=World.block_lt_of_cell? W2 _ d5;obtain ⟨_,hb3⟩:=H2.out.has 1 rfl;have d3:=(blk_get hb3).1 0;have d3l:=(blk_get hb3).2.2;obtain ⟨_,hbS⟩:=H2.out.has 2 rfl;have dS:=(blk_get hbS).1 0;simp only [List.getElem?_toArray,List.getElem?_cons_zero] at d3 dS;have HCI:=Lib.hid (containsI_calls cs (.slice xa xn xc) 41 (.pointer (some ⟨b3,0,none⟩)) (λ c=> !decide (0<=c/\c < (s.cols:Int))) W2 (enters_own Tryz.func41 (by kernel_rfl) rfl) d1 λ i hi w' hb=> (lookup2_calls b3 S s.cols i w' ((hb.cell (p:=⟨S,0,none⟩) (World.block_lt_of_cell? W2 _ dS)).trans dS) ((hb.cell (p:=⟨b3,0,none⟩) d3l).trans d3)).mono λ e w'' h=> ⟨h.1,by rw [<-h.2];exact Below.refl _ _⟩);have HCV:=Lib.hid (λ w' (hb:Below W2.heap.size W2 w')=> containsV_calls vals (.slice ya yn yc) 44 (λ v=> v.kind==0) w' (enters_own Tryz.func44 (by kernel_rfl) rfl) (d2.mono hb) λ v hv w' hb=> lookup3_calls v w');clear d1 d2 hb3 hbS dS d3 d3l HI HW;have HN:Hid (nn=(decide (xn=0) || (!decide (xn=yn) || (cs.any (λ c=> !decide (0<=c/\c < (s.cols:Int))) || vals.any (λ v=> v.kind==0))))):=by show _=_;rw [<-HNN.out,HN1.out,HN2.out];rfl
 generalize cs.any (λ c=> !decide (0<=c/\c < (s.cols:Int)))=q1 at *;generalize vals.any (λ v=> v.kind==0)=q2 at *;clear HNN;by_cases h1:xn=0
 · have z1:((xn:Int)==0)=true:=by simp [h1]
   have hn:nn=true:=by rw [HN.out,decide_eq_true h1];rfl
   subst hn;clear h1 HN HCI HCV;have H3:Hid (St w0 fp0 (lkB W2.heap.size b3 b7 b4 b5 S true++(stoL S s++(lkX b4 b5 (.slice xa xn xc) (.slice ya yn yc) cs vals++R))) (W2.alloc (.cells #[.bool true] 4))):=by
    have h2:=(H2.out).newblk 4 #[.bool true];exact h2.perm (by
     unfold lkB
     classical refine List.perm_iff_count.2 λ a=> ?_;simp only [List.cons_append,List.nil_append,List.count_append,List.count_cons];omega)
   obtain ⟨V0,V1,V2⟩:=VarIs.new W2 #[.bool false] 4;go_upto_region 4 with (fail)
   clear V0 V1 V2;obtain ⟨W4,hW4⟩:∃W4,W2.alloc (.cells #[.bool true] 4)=W4:=⟨_,rfl⟩
   rw [hW4] at H3 ⊢;clear hW4;generalize W2.heap.size=b8 at *;have HE:=Lib.hid (each_calls (lkCol b8 b3 b4 b7 b5) rfl ⟨_,_,rfl⟩ w0 W4 fp0 _ H3.out);clear H3;unfold lkCol at HE;go_wp2_with fail;(with_reducible refine HE.out.mono ?_);rintro e W5 ⟨cb,rfl,h5⟩;have H5:=Lib.hid h5;clear h5 HE;unfold allF;go_wp2;go_ret;exact ⟨cb,b8,b3,b4,b7,b5,_,_,rfl,H5.out⟩
 · have z1:((xn:Int)==0)=false:=by simp;omega
   by_cases h2:xn=yn
   · have z2:((xn:Int) !=yn)=false:=by simp [h2]
     have hnn:nn=(q1 || q2):=by rw [HN.out,decide_eq_false h1,decide_eq_true h2];rfl
     have HNQ:=Lib.hid hnn;clear h1 h2 HN hnn;go_wp2_with fail;(with_reducible refine HCI.out.mono ?_);rintro e W3 ⟨rfl,hb⟩;have H3:=Lib.hid (H2.out.mono hb);have d5':=(hb.cell (p:=⟨b5,0,none⟩) d5l).trans d5;have d5l':=World.block_lt_of_cell? W3 _ d5';have HCV3:=Lib.hid (HCV.out W3 hb);clear hb HCI HCV H2 d4 d5 d4l d5l;cases q1 with
     | true=>
      obtain rfl:nn=true:=HNQ.out;clear HCV3;have H3:Hid (St w0 fp0 (lkB W3.heap.size b3 b7 b4 b5 S true++(stoL S s++(lkX b4 b5 (.slice xa xn xc) (.slice ya yn yc) cs vals++R))) (W3.alloc (.cells #[.bool true] 4))):=by
       have h2:=(H3.out).newblk 4 #[.bool true];exact h2.perm (by
        unfold lkB
        classical refine List.perm_iff_count.2 λ a=> ?_;simp only [List.cons_append,List.nil_append,List.count_append,List.count_cons];omega)
      obtain ⟨V0,V1,V2⟩:=VarIs.new W3 #[.bool false] 4;go_upto_region 4 with (fail)
      clear V0 V1 V2;obtain ⟨W4,hW4⟩:∃W4,W3.alloc (.cells #[.bool true] 4)=W4:=⟨_,rfl⟩
      rw [hW4] at H3 ⊢;clear hW4;generalize W3.heap.size=b8 at *;have HE:=Lib.hid (each_calls (lkCol b8 b3 b4 b7 b5) rfl ⟨_,_,rfl⟩ w0 W4 fp0 _ H3.out);clear H3;unfold lkCol at HE;go_wp2_with fail;(with_reducible refine HE.out.mono ?_);rintro e W5 ⟨cb,rfl,h5⟩;have H5:=Lib.hid h5;clear h5 HE;unfold allF;go_wp2;go_ret;exact ⟨cb,b8,b3,b4,b7,b5,_,_,rfl,H5.out⟩
     | false=>
      obtain rfl:nn=q2:=HNQ.out;go_wp2_with fail;(with_reducible refine HCV3.out.mono ?_);rintro e W6 ⟨rfl,hb⟩;have H6:=Lib.hid (H3.out.mono hb);clear hb HCV3 H3;have H3:Hid (St w0 fp0 (lkB W6.heap.size b3 b7 b4 b5 S nn++(stoL S s++(lkX b4 b5 (.slice xa xn xc) (.slice ya yn yc) cs vals++R))) (W6.alloc (.cells #[.bool nn] 4))):=by
       have h2:=(H6.out).newblk 4 #[.bool nn];exact h2.perm (by
        unfold lkB
        classical refine List.perm_iff_count.2 λ a=> ?_;simp only [List.cons_append,List.nil_append,List.count_append,List.count_cons];omega)
      obtain ⟨V0,V1,V2⟩:=VarIs.new W6 #[.bool false] 4;go_upto_region 4 with (fail)
      clear V0 V1 V2;obtain ⟨W4,hW4⟩:∃W4,W6.alloc (.cells #[.bool nn] 4)=W4:=⟨_,rfl⟩
      rw [hW4] at H3 ⊢;clear hW4;generalize W6.heap.size=b8 at *;have HE:=Lib.hid (each_calls (lkCol b8 b3 b4 b7 b5) rfl ⟨_,_,rfl⟩ w0 W4 fp0 _ H3.out);clear H3;unfold lkCol at HE;go_wp2_with fail;(with_reducible refine HE.out.mono ?_);rintro e W5 ⟨cb,rfl,h5⟩;have H5:=Lib.hid h5;clear h5 HE;unfold allF;go_wp2;go_ret;exact ⟨cb,b8,b3,b4,b7,b5,_,_,rfl,H5.out⟩
   · have z2:((xn:Int) !=yn)=true:=by simp;omega
     have hn:nn=true:=by rw [HN.out,decide_eq_false h1,decide_eq_false h2];rfl
     subst hn;clear h1 h2 HN HCI HCV;have H3:Hid (St w0 fp0 (lkB W2.heap.size b3 b7 b4 b5 S true++(stoL S s++(lkX b4 b5 (.slice xa xn xc) (.slice ya yn yc) cs vals++R))) (W2.alloc (.cells #[.bool true] 4))):=by
      have h2:=(H2.out).newblk 4 #[.bool true];exact h2.perm (by
       unfold lkB
       classical refine List.perm_iff_count.2 λ a=> ?_;simp only [List.cons_append,List.nil_append,List.count_append,List.count_cons];omega)
     obtain ⟨V0,V1,V2⟩:=VarIs.new W2 #[.bool false] 4;go_upto_region 4 with (fail)
     clear V0 V1 V2;obtain ⟨W4,hW4⟩:∃W4,W2.alloc (.cells #[.bool true] 4)=W4:=⟨_,rfl⟩
     rw [hW4] at H3 ⊢;clear hW4;generalize W2.heap.size=b8 at *;have HE:=Lib.hid (each_calls (lkCol b8 b3 b4 b7 b5) rfl ⟨_,_,rfl⟩ w0 W4 fp0 _ H3.out);clear H3;unfold lkCol at HE;go_wp2_with fail;(with_reducible refine HE.out.mono ?_);rintro e W5 ⟨cb,rfl,h5⟩;have H5:=Lib.hid h5;clear h5 HE;unfold allF;go_wp2;go_ret;exact ⟨cb,b8,b3,b4,b7,b5,_,_,rfl,H5.out⟩
end
def rgV (v low high:Vl):Bool:=!decide (v.kind=0) && ((decide (low.kind=0) || decide (0<=cmpV v low)) && (decide (high.kind=0) || decide (cmpV v high<=0)))
theorem range1_calls (c:Nat) (low high:Vl) (r:Rw) (rv:Value) (b5 b6 b7:Nat) (w:World) (hr:ValsAt w r rv) (e5:w.cell? ⟨b5,0,none⟩=some (.int .i64 c))
 (l0:w.cell? ⟨b6,0,none⟩=some (.int .i64 low.kind)) (l1:w.cell? ⟨b6,1,none⟩=some (.int .i64 low.int)) (l2:w.cell? ⟨b6,2,none⟩=some (.string low.text))
 (h0:w.cell? ⟨b7,0,none⟩=some (.int .i64 high.kind)) (h1:w.cell? ⟨b7,1,none⟩=some (.int .i64 high.int)) (h2:w.cell? ⟨b7,2,none⟩=some (.string high.text)) (hc:c < r.length):
 Calls Tryz.prog 55 #[rv, .pointer (some ⟨b5,0,none⟩), .pointer (some ⟨b6,0,none⟩), .pointer (some ⟨b7,0,none⟩)] w λ e w'=> e=.returned (.bool (rgV (r[c]'hc) low high))/\Below w.heap.size w w':=by
 obtain ⟨a,n,cc,rfl,hn,hm⟩:=hr.shape;unfold maxLen at hm;obtain ⟨b,o,rfl⟩:=hr.has c (by omega);obtain ⟨p0,p1,p2⟩:=hr.cell c hc;obtain ⟨x,hx⟩:∃x,r[c]'hc=x:=⟨_,rfl⟩
 rw [hx] at p0 p1 p2 ⊢;have pl:=World.block_lt_of_cell? w _ p0;have el:=World.block_lt_of_cell? w _ e5;have ll:=World.block_lt_of_cell? w _ l0;have hl:=World.block_lt_of_cell? w _ h0;have hcn:(c:Int) < n:=by omega
 have hn63:n<=9223372036854775807:=by omega
 obtain ⟨q,hq⟩:∃q,rgV x low high=q:=⟨_,rfl⟩
 have HQ:=Lib.hid hq;rw [hq];clear hr hn hx hc hq hm;obtain ⟨lk,li,lt⟩:=low;obtain ⟨hk,hi,ht⟩:=high;obtain ⟨xk,xi,xt⟩:=x;simp only at p0 p1 p2 l0 l1 l2 h0 h1 h2;have HB:=Lib.hid ((Below.refl _ w).alloc (Nat.le_refl _) (.cells #[.int .i64 xk, .int .i64 xi, .string xt] 29));have d0:=World.cell?_alloc_new w #[.int .i64 xk, .int .i64 xi, .string xt] 29 0;have d1:=World.cell?_alloc_new w #[.int .i64 xk, .int .i64 xi, .string xt] 29 1;have d2:=World.cell?_alloc_new w #[.int .i64 xk, .int .i64 xi, .string xt] 29 2;simp only [List.getElem?_toArray,List.getElem?_cons_zero,List.getElem?_cons_succ] at d0 d1 d2;have HK:=Lib.hid (show rgV ⟨xk,xi,xt⟩ ⟨lk,li,lt⟩ ⟨hk,hi,ht⟩=(!decide (xk=0) && ((decide (lk=0) || decide (0<=cmpV ⟨xk,xi,xt⟩ ⟨lk,li,lt⟩)) && (decide (hk=0) || decide (cmpV ⟨xk,xi,xt⟩ ⟨hk,hi,ht⟩<=0)))) from rfl);rw [HQ.out] at HK;clear HQ;have HC1:=Lib.hid (λ w'=> cmpV_calls ⟨xk,xi,xt⟩ ⟨lk,li,lt⟩ w');have HC2:=Lib.hid (λ w'=> cmpV_calls ⟨xk,xi,xt⟩ ⟨hk,hi,ht⟩ w');simp only at HC1 HC2;generalize cmpV ⟨xk,xi,xt⟩ ⟨lk,li,lt⟩=z1 at *;generalize cmpV ⟨xk,xi,xt⟩ ⟨hk,hi,ht⟩=z2 at *;obtain ⟨W,hW⟩:∃W,w.alloc (.cells #[.int .i64 xk, .int .i64 xi, .string xt] 29)=W:=⟨_,rfl⟩
 have q0:W.cell? ⟨b6,0,none⟩=some (.int .i64 lk):=by rw [<-hW];exact (HB.out.cell (p:=⟨b6,0,none⟩) ll).trans l0
 have q1:W.cell? ⟨b6,1,none⟩=some (.int .i64 li):=by rw [<-hW];exact (HB.out.cell (p:=⟨b6,1,none⟩) ll).trans l1
 have q2:W.cell? ⟨b6,2,none⟩=some (.string lt):=by rw [<-hW];exact (HB.out.cell (p:=⟨b6,2,none⟩) ll).trans l2
 have s0:W.cell? ⟨b7,0,none⟩=some (.int .i64 hk):=by rw [<-hW];exact (HB.out.cell (p:=⟨b7,0,none⟩) hl).trans h0
 have s1:W.cell? ⟨b7,1,none⟩=some (.int .i64 hi):=by rw [<-hW];exact (HB.out.cell (p:=⟨b7,1,none⟩) hl).trans h1
 have s2:W.cell? ⟨b7,2,none⟩=some (.string ht):=by rw [<-hW];exact (HB.out.cell (p:=⟨b7,2,none⟩) hl).trans h2
 rw [hW] at HB d0 d1 d2;have ll2:=World.block_lt_of_cell? W _ q0;have hl2:=World.block_lt_of_cell? W _ s0;have dl2:=World.block_lt_of_cell? W _ d0;go_enter Tryz.func55,Tryz.ntmps55;go_upto_region 2 with (fail)
 clear hW l0 l1 l2 h0 h1 h2 p0 p1 p2 e5 pl el ll hl;by_cases k1:xk=0
 · have z0:(xk !=0)=false:=by simp [k1]
   have HQ2:Hid (q=false):=by show _=_;rw [HK.out,decide_eq_true k1];rfl
   clear k1 HK HC1 HC2;obtain rfl:q=false:=HQ2.out;go_wp2;go_ret;exact ⟨rfl,HB.out⟩
 · have z0:(xk !=0)=true:=by simp [k1]
   by_cases k2:lk=0
   · have z2':(lk==0)=true:=by simp [k2]
     by_cases k3:hk=0
     · have z3:(hk==0)=true:=by simp [k3]
       have HQ2:Hid (q=true):=by show _=_;rw [HK.out,decide_eq_false k1,decide_eq_true k2,decide_eq_true k3];rfl
       clear k3 HK HC1 HC2;obtain rfl:q=true:=HQ2.out;go_wp2;go_ret;exact ⟨rfl,HB.out⟩
     · have z3:(hk==0)=false:=by simp [k3]
       have HQ2:Hid (q=decide (z2<=0)):=by show _=_;rw [HK.out,decide_eq_false k1,decide_eq_true k2,decide_eq_false k3];rfl
       clear k3 HK HC1;go_wp2_with fail;(with_reducible refine (HC2.out _).mono ?_);rintro e W9 ⟨rfl,hb9⟩;have HB9:=Lib.hid ((HB.out).trans (hb9.mono (HB.out).size));clear hb9 HC2;go_wp2;go_ret;exact ⟨by rw [HQ2.out];rfl,HB9.out⟩
   · have z2':(lk==0)=false:=by simp [k2]
     go_wp2_with fail;(with_reducible refine (HC1.out _).mono ?_);rintro e W3 ⟨rfl,hb3⟩;have HB3:=Lib.hid (HB.out.trans (hb3.mono HB.out.size));have q0:W3.cell? ⟨w.heap.size,0,none⟩=_:=(hb3.cell (p:=⟨w.heap.size,0,none⟩) dl2).trans d0;have q1:W3.cell? ⟨w.heap.size,1,none⟩=_:=(hb3.cell (p:=⟨w.heap.size,1,none⟩) dl2).trans d1;have q2:W3.cell? ⟨w.heap.size,2,none⟩=_:=(hb3.cell (p:=⟨w.heap.size,2,none⟩) dl2).trans d2;have t0:W3.cell? ⟨b7,0,none⟩=_:=(hb3.cell (p:=⟨b7,0,none⟩) hl2).trans s0;have t1:W3.cell? ⟨b7,1,none⟩=_:=(hb3.cell (p:=⟨b7,1,none⟩) hl2).trans s1;have t2:W3.cell? ⟨b7,2,none⟩=_:=(hb3.cell (p:=⟨b7,2,none⟩) hl2).trans s2;have ql:=World.block_lt_of_cell? W3 _ q0;have tl:=World.block_lt_of_cell? W3 _ t0;clear hb3 HC1 HB d0 d1 d2 s0 s1 s2 ll2 hl2 dl2;by_cases k4:0<=z1
     · have z4:decide (0<=z1)=true:=by simp [k4]
       by_cases k3:hk=0
       · have z3:(hk==0)=true:=by simp [k3]
         have HQ2:Hid (q=true):=by show _=_;rw [HK.out,decide_eq_false k1,decide_eq_false k2,decide_eq_true k4,decide_eq_true k3];rfl
         clear k3 HK HC2;obtain rfl:q=true:=HQ2.out;go_wp2;go_ret;exact ⟨rfl,HB3.out⟩
       · have z3:(hk==0)=false:=by simp [k3]
         have HQ2:Hid (q=decide (z2<=0)):=by show _=_;rw [HK.out,decide_eq_false k1,decide_eq_false k2,decide_eq_true k4,decide_eq_false k3];rfl
         clear k3 HK;go_wp2_with fail;(with_reducible refine (HC2.out _).mono ?_);rintro e W9 ⟨rfl,hb9⟩;have HB9:=Lib.hid ((HB3.out).trans (hb9.mono (HB3.out).size));clear hb9 HC2;go_wp2;go_ret;exact ⟨by rw [HQ2.out];rfl,HB9.out⟩
     · have z4:decide (0<=z1)=false:=by simp;omega
       have HQ2:Hid (q=false):=by show _=_;rw [HK.out,decide_eq_false k1,decide_eq_false k2,decide_eq_false k4];rfl
       clear k4 HK HC2;obtain rfl:q=false:=HQ2.out;go_wp2;go_ret;exact ⟨rfl,HB3.out⟩
def rgP (c:Nat) (low high:Vl) (e:Re):Bool:=rgV (colV e.r c) low high
def vlA (b:Nat) (v:Vl):Asn:=blkA b 29 #[.int .i64 v.kind, .int .i64 v.int, .string v.text]
def rgX (b5 b6 b7:Nat) (c:Int) (low high:Vl):List Asn:=[blkA b5 3 #[.int .i64 c],vlA b6 low,vlA b7 high]
def rgF (b5 b6 b7:Nat):Value:=.func (.func 55) #[] #[.pointer (some ⟨b5,0,none⟩), .pointer (some ⟨b6,0,none⟩), .pointer (some ⟨b7,0,none⟩)]
theorem rg_isc {S cols:Nat} {I:List (List Int)} {L:LL} {next:Int} {s:Sto} (hok:s.Ok cols I L next) (b5 b6 b7 c:Nat) (low high:Vl) (hc:c < cols):IsC 55 #[.pointer (some ⟨b5,0,none⟩), .pointer (some ⟨b6,0,none⟩), .pointer (some ⟨b7,0,none⟩)] (rgP c low high) S s (rgX b5 b6 b7 c low high):=by
 intro w0 fp0 R w e he hs;have h1:St w0 fp0 (rgX b5 b6 b7 c low high++(stoL S s++R)) w:=hs.perm (by classical refine List.perm_iff_count.2 λ a=> ?_;simp only [List.count_append];omega);obtain ⟨_,h2⟩:=h1.has 0 rfl;obtain ⟨_,h3⟩:=h1.has 1 rfl;obtain ⟨_,h4⟩:=h1.has 2 rfl;obtain ⟨f,hf⟩:=hs.star_of;have hm:(e.id,e.r)∈L:=by rw [<-hok.rows];exact List.mem_map.2 ⟨_,he,rfl⟩
 have hl:e.r.length=cols:=(hok.row _ hm).2.2.1;have hcl:c < e.r.length:=by omega
 refine (range1_calls c low high e.r (encV e.va) b5 b6 b7 w (re_at hok hf he) ((blk_get h2).1 0) ((blk_get h3).1 0) ((blk_get h3).1 1) ((blk_get h3).1 2) ((blk_get h4).1 0) ((blk_get h4).1 1) ((blk_get h4).1 2) hcl).mono ?_;rintro ev w' ⟨rfl,hb⟩;refine ⟨?_,hs.mono hb⟩;rw [rgP,colV_at (by omega) (by simpa using hcl)];rfl
def rgL (b4 b9 b5 b6 b7 S:Nat):List Asn:=[blkA b4 34 #[ptrV S],blkA b9 88 #[rgF b5 b6 b7]]
theorem range2_calls {S cols:Nat} {I:List (List Int)} {L:LL} {next:Int} {s:Sto} (hok:s.Ok cols I L next) (b4 b5 b6 b7 b9 c:Nat) (low high:Vl) (hc:c < cols) (hlv:okV low=true) (hli:I64 low.int) (hlen:L.length+1 < 1099511627776) (x:Ix) (hx:findIx s.ixs [(c:Int)]=some x)
 (ess:List Re) (hess:entM (ixK x.cs) ess=selM (some (.str (textOf (encL low)))) none x.km) (hem:∀e∈ess,e∈s.es)
 (w0 w:World) (fp0:List Nat) (R:List Asn) (hS:St w0 fp0 (rgL b4 b9 b5 b6 b7 S++(stoL S s++(rgX b5 b6 b7 c low high++R))) w):
 Calls Tryz.prog 56 #[.pointer (some ⟨b4,0,none⟩), .pointer (some ⟨b5,0,none⟩), .pointer (some ⟨b6,0,none⟩), .pointer (some ⟨b9,0,none⟩)] w λ e w'=> ∃v,e=.returned v/\
  St w0 fp0 (rowA 114 2 v (somL (rgP c low high) ess).length (riV (somL (rgP c low high) ess))::(rgL b4 b9 b5 b6 b7 S++(stoL S s++(rgX b5 b6 b7 c low high++R)))) w':=by
 have hxm:x∈s.ixs:=List.mem_of_find?_eq_some hx;have hltx:low.text.size<=16:=by
  rcases okV_cases hlv with ⟨-, -,h⟩ | ⟨-,h⟩ | ⟨-, -, -,h⟩
  · rw [h];exact Nat.zero_le _
  · rw [h];exact Nat.zero_le _
  · exact h
 obtain ⟨_,hb4⟩:=hS.has 0 rfl;have d4:=(blk_get hb4).1 0;have d4l:=(blk_get hb4).2.2;obtain ⟨_,hb9⟩:=hS.has 1 rfl;have d9:=(blk_get hb9).1 0;have d9l:=(blk_get hb9).2.2;obtain ⟨_,hbS⟩:=hS.has 2 rfl;have e0:=(blk_get hbS).1 0;have e3:=(blk_get hbS).1 3;obtain ⟨_,hri⟩:=hS.has 4 rfl;have hix:=row_sl hri (ixV_len s.ixs);have hXS:St w0 fp0 (rgX b5 b6 b7 c low high++(rgL b4 b9 b5 b6 b7 S++(stoL S s++R))) w:=hS.perm (by classical refine List.perm_iff_count.2 λ a=> ?_;simp only [List.count_append];omega);obtain ⟨_,hb5⟩:=hXS.has 0 rfl;have d5:=(blk_get hb5).1 0;have d5l:=(blk_get hb5).2.2;obtain ⟨_,hb6⟩:=hXS.has 1 rfl;have d60:=(blk_get hb6).1 0;have d61:=(blk_get hb6).1 1;have d62:=(blk_get hb6).1 2;have d6l:=(blk_get hb6).2.2;simp only [List.getElem?_toArray,List.getElem?_cons_zero,List.getElem?_cons_succ] at d4 d9 d5 d60 d61 d62 e0 e3;have hixs:∀x∈s.ixs,IntsX [] w x.cs x.cv:=by
  intro x hx;obtain ⟨f,hf⟩:=hS.hasM (A:=ixA x) (List.mem_append_right _ (List.mem_append_left _ (by unfold stoL;exact .tail _ (.tail _ (.tail _ (List.mem_append_right _ (List.mem_map.2 ⟨x,hx,rfl⟩)))))));obtain ⟨f1,f2,h1, -⟩:=(show Star w [slA 3 x.cv (x.cs.map intC),objA true 16 x.kh x.km x.kb] f from hf)
  exact intsX_of h1
 obtain ⟨xa,xn,xc,hxv, -⟩:=(hixs x hxm).shape;have HH:=Lib.hid (has_calls S s.cols c w e0);have hcd:decide (0<=(c:Int)/\(c:Int) < (s.cols:Int))=true:=by rw [hok.ecols];simp;omega
 rw [hcd] at HH;have HB0:Hid (Below w.heap.size w (w.alloc (.cells #[.int .i64 c] 3))):=(Below.refl _ _).alloc (Nat.le_refl _) _;have hne:=World.cell?_alloc_new w #[.int .i64 c] 3 0;have HF:=Lib.hid (sfind_calls S s.ixs s.iv [(c:Int)] (.slice (some ⟨w.heap.size,0,none⟩) 1 1) (w.alloc (.cells #[.int .i64 c] 3)) ((HB0.out.cell (p:=⟨S,3,none⟩) (World.block_lt_of_cell? w _ e3)).trans e3) (hix.mono HB0.out) (λ y hy=> (hixs y hy).mono HB0.out) (SlX.of_blk (X:=[]) (heap_alloc_new w _) (by simp) (by show 1<=maxLen;unfold maxLen;omega) rfl));rw [hx] at HF;have hfv:findV (some x)=.agg #[.slice xa xn xc, .pointer (some ⟨x.kb,0,none⟩)]:=by rw [findV,hxv];rfl
 rw [hfv] at HF;have HS:=Lib.hid hS;have HOK:=Lib.hid hok;have HXM:=Lib.hid hxm;have HLEN:=Lib.hid hlen;have HISC:=Lib.hid (rg_isc (S:=S) hok b5 b6 b7 c low high hc);have HESS:=Lib.hid hess;have HEM:=Lib.hid hem;have HLV:=Lib.hid hlv;have HLI:=Lib.hid hli;have HLT:=Lib.hid hltx;obtain ⟨kb,hkb⟩:∃kb,x.kb=kb:=⟨_,rfl⟩
 have HKB:=Lib.hid hkb;rw [hkb] at HF;clear hS hok hxm hx hlen hess hem hlv hli hltx hkb hb4 hb9 hbS hri hix hXS hb5 hb6 hixs hxv hcd hfv e0 e3 hc hne;unfold ptrV at d4;unfold rgF at d9;unfold ptrV at HF HH;obtain ⟨lk,li,lt⟩:=low;simp only at d60 d61 d62;go_enter Tryz.func56,Tryz.ntmps56;go_wp2_with fail;(with_reducible refine HH.out.mono ?_);rintro e w1 ⟨rfl,rfl⟩;clear HH;go_wp2_with fail;(with_reducible refine HF.out.mono ?_);rintro e w2 ⟨rfl,hb1⟩;have hb2:=HB0.out.trans (hb1.mono HB0.out.size);have HS2:=Lib.hid (HS.out.mono hb2);have c60:=(hb2.cell (p:=⟨b6,0,none⟩) d6l).trans d60;have c61:=(hb2.cell (p:=⟨b6,1,none⟩) d6l).trans d61;have c62:=(hb2.cell (p:=⟨b6,2,none⟩) d6l).trans d62;have l6:=World.block_lt_of_cell? w2 _ c60;have c4:=(hb2.cell (p:=⟨b4,0,none⟩) d4l).trans d4;have l4:=World.block_lt_of_cell? w2 _ c4;clear HF hb1 hb2 HS d4 d4l d9 d9l d5 d5l d60 d61 d62 d6l HB0;rw [show (some x).isSome=true from rfl];go_upto_region 4 with (fail)
 have HS3:=Lib.hid (HS2.out.newblk 97 #[.slice xa xn xc, .pointer (some ⟨kb,0,none⟩)]);have hb3:Below w2.heap.size w2 (w2.alloc (.cells #[.slice xa xn xc, .pointer (some ⟨kb,0,none⟩)] 97)):=(Below.refl _ _).alloc (Nat.le_refl _) _;have c60:=(hb3.cell (p:=⟨b6,0,none⟩) l6).trans c60;have c61:=(hb3.cell (p:=⟨b6,1,none⟩) l6).trans c61;have c62:=(hb3.cell (p:=⟨b6,2,none⟩) l6).trans c62;obtain ⟨W3,hW3⟩:∃W3,w2.alloc (.cells #[.slice xa xn xc, .pointer (some ⟨kb,0,none⟩)] 97)=W3:=⟨_,rfl⟩
 rw [hW3] at HS3 c60 c61 c62 ⊢;clear hb3 hW3 HS2 c4 l4 l6;generalize w2.heap.size=b10 at *;have l6:=World.block_lt_of_cell? W3 _ c60;have HVA:=Lib.hid (valid_calls ⟨lk,li,lt⟩ W3 (by have:lt.size<=16:=HLT.out;unfold maxLen;show lt.size<=_;omega));rw [HLV.out] at HVA;unfold Vl.val at HVA;simp only at HVA;go_wp2_with fail;(with_reducible refine HVA.out.mono ?_);rintro e W4 ⟨rfl,hb4⟩;have HS4:=Lib.hid (HS3.out.mono hb4);clear HVA hb4 HS3 c60 c61 c62 l6;have HIX:Hid (∀(b v:Value) (w:World),St w0 fp0 ([blkA b4 34 #[.pointer (some ⟨S,0,none⟩)],blkA b6 29 #[.int .i64 lk, .int .i64 li, .string lt],blkA b10 97 #[.slice xa xn xc, .pointer (some ⟨kb,0,none⟩)],blkA b9 88 #[rgF b5 b6 b7],slA 5 b ((encL ⟨lk,li,lt⟩).map u8C),itA v kb (some (.str (textOf (encL ⟨lk,li,lt⟩)))) none,emp]++(stoL S s++(blkA b5 3 #[.int .i64 c]::vlA b7 high::R))) w->
  Calls Tryz.prog 51 #[.pointer (some ⟨S,0,none⟩),v,rgF b5 b6 b7] w λ e w2=> ∃u,e=.returned u/\St w0 fp0 ([blkA b4 34 #[.pointer (some ⟨S,0,none⟩)],blkA b6 29 #[.int .i64 lk, .int .i64 li, .string lt],blkA b10 97 #[.slice xa xn xc, .pointer (some ⟨kb,0,none⟩)],blkA b9 88 #[rgF b5 b6 b7],slA 5 b ((encL ⟨lk,li,lt⟩).map u8C),emp,rowA 114 2 u (somL (rgP c ⟨lk,li,lt⟩ high) ess).length (riV (somL (rgP c ⟨lk,li,lt⟩ high) ess))]++(stoL S s++(blkA b5 3 #[.int .i64 c]::vlA b7 high::R))) w2):=by
  intro b v W h;rw [<-HKB.out] at h;have h2:St w0 fp0 (itA v x.kb (some (.str (textOf (encL ⟨lk,li,lt⟩)))) none::(stoL S s++(rgX b5 b6 b7 c ⟨lk,li,lt⟩ high++(emp::slA 5 b ((encL ⟨lk,li,lt⟩).map u8C)::blkA b4 34 #[.pointer (some ⟨S,0,none⟩)]::blkA b10 97 #[.slice xa xn xc, .pointer (some ⟨x.kb,0,none⟩)]::blkA b9 88 #[rgF b5 b6 b7]::R)))) W:=h.perm (by
   unfold rgX
   classical refine List.perm_iff_count.2 λ a=> ?_;simp only [vlA,List.cons_append,List.nil_append,List.count_append,List.count_cons];omega)
  refine (idx_calls 55 #[.pointer (some ⟨b5,0,none⟩), .pointer (some ⟨b6,0,none⟩), .pointer (some ⟨b7,0,none⟩)] (rgP c ⟨lk,li,lt⟩ high) S cols I L next s HOK.out (rgX b5 b6 b7 c ⟨lk,li,lt⟩ high) (enters_own Tryz.func55 (by kernel_rfl) rfl) HISC.out x HXM.out (some (.str (textOf (encL ⟨lk,li,lt⟩)))) none (by rintro k ⟨rfl⟩;trivial) (by rintro k ⟨⟩) ess HESS.out HEM.out HLEN.out v w0 W fp0 _ h2).mono ?_;rintro e w2 ⟨u,rfl,h3⟩;refine ⟨u,rfl,?_⟩;rw [<-HKB.out];refine h3.perm ?_;unfold rgX
  classical refine List.perm_iff_count.2 λ a=> ?_;simp only [vlA,List.cons_append,List.nil_append,List.count_append,List.count_cons];omega
 go_upto_region 5 with (fail)
 refine rRn5 (w0:=w0) (fp0:=fp0) b4 b6 b10 b9 S kb (somL (rgP c ⟨lk,li,lt⟩ high) ess).length (.slice xa xn xc) (rgF b5 b6 b7) lk li lt (riV (somL (rgP c ⟨lk,li,lt⟩ high) ess)) (stoL S s++(blkA b5 3 #[.int .i64 c]::vlA b7 high::R)) HLI.out (by have:lt.size<=16:=HLT.out;omega) HIX.out rfl (by kernel_rfl) rfl rfl rfl rfl rfl rfl ?_ ?_
 · have h5:=St.emp.2 (St.emp.2 (St.emp.2 HS4.out))
   refine h5.perm ?_;unfold rgL rgX
   classical refine List.perm_iff_count.2 λ a=> ?_;simp only [vlA,ptrV,List.cons_append,List.nil_append,List.count_append,List.count_cons];omega
 · intro u28 u30 u32 W5 h6
   have H6:Hid (St w0 fp0 (rowA 114 2 u32 (somL (rgP c ⟨lk,li,lt⟩ high) ess).length (riV (somL (rgP c ⟨lk,li,lt⟩ high) ess))::(rgL b4 b9 b5 b6 b7 S++(stoL S s++(rgX b5 b6 b7 c ⟨lk,li,lt⟩ high++R)))) W5):=by
    refine St.dropAll (A:=[emp,slA 5 u28 ((encL ⟨lk,li,lt⟩).map u8C),blkA b10 97 #[.slice xa xn xc, .pointer (some ⟨kb,0,none⟩)]]) (h6.perm ?_);unfold rgL rgX
    classical refine List.perm_iff_count.2 λ a=> ?_;simp only [vlA,ptrV,List.cons_append,List.nil_append,List.count_append,List.count_cons];omega
   clear h6 HS4 HIX;simp only [putL,List.foldl,Act.put,List.setIfInBounds_toArray,List.set_cons_succ,List.set_cons_zero];go_wp2;go_ret;exact ⟨_,rfl,H6.out⟩
end
end Go.Proofs.YtnefkkidfhmggaaGreat
