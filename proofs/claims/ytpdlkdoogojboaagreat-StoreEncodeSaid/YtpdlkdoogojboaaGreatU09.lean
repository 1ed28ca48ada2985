/- Part 9 of the proof: Md, Mg, Mh, Mir, Mi, Mj, Ja, Jb, Jd, Jc, Je, Jl -/
import Derived.Test.YtpdlkdoogojboaaGreatU08
import Derived.Test.YtpdlkdoogojboaaGreatU05
import Derived.Test.YtpdlkdoogojboaaGreatU01
import Derived.Lib.Bytealg
import Derived.Lib.IndexLaws
import Derived.Test.YtpdlkdoogojboaaGreatU06
set_option maxHeartbeats 16000000
set_option maxRecDepth 100000
namespace Go.Proofs.YtpdlkdoogojboaaGreat
open Go Go.RowKit
noncomputable section
theorem tbA_mk (S cols:Nat) (I:List (List Int)) (L:LL) (next:Int):tbA ⟨S,cols,I,L,next⟩=storeA S cols I L next:=rfl
theorem getL_at {L:LL} (ha:AscI L) (k:Nat) (hk:k < L.length):getL L L[k].1=some L[k].2:=by
 have e:L=L.take k++L[k]::L.drop (k+1):=by rw [<-List.drop_eq_getElem_cons hk,List.take_append_drop]
 have h:∀a∈L.take k,a.1 < L[k].1:=by intro a hm;obtain ⟨i,hi,rfl⟩:=List.mem_iff_getElem.1 hm;rw [List.getElem_take];rw [List.length_take] at hi;exact (List.pairwise_iff_getElem.1 ha) i k (by omega) hk (by omega)
 obtain ⟨x,hx⟩:∃x,L[k]=x:=⟨_,rfl⟩
 rw [hx] at e h ⊢;rw [e];exact getL_split1 h rfl
theorem rows_calls (b:Nat) (q:StQ) (D:Db) (hq:q.Ok D) (i:Nat) (hi:i < q.ts.length) (l:List Ri) (lv:Value) (hl:riL l=q.ts[i].L) (hlen:l.length < 1000000) (w0 w:World) (fp0:List Nat) (R:List Asn) (hx:Rd w0 fp0 R λ w=> RiX w l lv) (hS:St w0 fp0 (dbP b q++(q.ts.map tbA++R)) w):
 Calls Tryz.prog 20 #[.pointer (some ⟨b,0,none⟩), .int .i64 i,lv] w λ e w'=> e=.returned (.bool true)/\St w0 fp0 (dbP b q++(q.ts.map tbA++R)) w':=by
 have hdb:=db_get hS;have HT:=Lib.hid (table_in b i _ q.tv (ptrV q.ts[i].S) w hdb.2.1 hdb.2.2.2.2 (by rw [List.getElem?_map,List.getElem?_eq_getElem hi];rfl));have hid:i < q.td.length:=by rw [hq.dlen,<-hq.tlen];exact hi
 have hcl:q.ts[i].cols<=1000000:=by have:=(hq.sm _ (List.getElem_mem hid)).n;rw [hq.tdn i hi hid] at this;omega
 have HS0:=Lib.hid (hS.pickT i hi);have HEND:Hid (∀w,St w0 fp0 (tbA q.ts[i]::(dbP b q++((q.ts.eraseIdx i).map tbA++R))) w->St w0 fp0 (dbP b q++(q.ts.map tbA++R)) w):=λ w h=> St.unpickT hi h;generalize q.ts[i]=T at *;obtain ⟨S,cols,I,L,next⟩:=T;simp only [tbA_mk] at hl hcl HS0 HEND HT;obtain ⟨R1,hR1⟩:∃R1,dbP b q++((q.ts.eraseIdx i).map tbA++R)=R1:=⟨_,rfl⟩
 have HX:Hid (Rd w0 fp0 R1 λ w=> RiX w l lv):=by show Rd _ _ _ _;rw [<-hR1,<-List.append_assoc];exact hx.app _
 rw [hR1] at HS0;obtain ⟨E,hE⟩:∃E:World->Prop,(λ w=> St w0 fp0 (dbP b q++(q.ts.map tbA++R)) w)=E:=⟨_,rfl⟩
 have HEND2:Hid (∀w,St w0 fp0 (storeA S cols I L next::R1) w->E w):=λ w h=> by rw [<-hE];refine HEND.out w ?_;rw [hR1];exact h
 have hgoal:∀(e:Ending) (w':World),(e=.returned (.bool true)/\E w')->(e=.returned (.bool true)/\St w0 fp0 (dbP b q++(q.ts.map tbA++R)) w'):=λ e w' h=> by rw [<-hE] at h;exact h
 refine Calls.mono ?_ hgoal;clear hgoal HEND hE hS hdb hx hq hid hR1;obtain ⟨n,hn⟩:∃n,l.length=n:=⟨_,rfl⟩
 have hL:L.length=n:=by rw [<-hl,riL_len,hn]
 obtain ⟨a,c,rfl⟩:=(HX.out.at (M:=[_]) HS0.out).sl.shape;have HN:=Lib.hid hn;have hasc:AscI L:=by obtain ⟨_,h⟩:=HS0.out.has 0 rfl;exact (storeA_ok h).1
 have HG:Hid (∀k (hk:k < l.length),getL L l[k].id=some l[k].r):=λ k hk=> by
  have hk2:k < L.length:=by rw [<-hl,riL_len];exact hk
  have h:=getL_at hasc k hk2;have e:L[k]=(l[k].id,l[k].r):=by simp only [<-hl];exact List.getElem_map _
  rw [e] at h;exact h
 have HLn:Hid (Calls Tryz.prog 53 #[ptrV S] w λ e w'=> e=.returned (.int .i64 n)/\w=w'):=by obtain ⟨_,h⟩:=HS0.out.has 0 rfl;have:=SLen_calls h;rw [hL] at this;exact this
 rw [hn] at HX hlen ⊢;unfold ptrV at HT HLn;clear hn hasc hL hl;go_enter Tryz.func20,Tryz.ntmps20;go_wp2_with fail;(with_reducible refine HT.out.mono ?_);rintro e w1 ⟨rfl,rfl⟩;clear HT;go_wp2_with fail;(with_reducible refine HLn.out.mono ?_);rintro e w1 ⟨rfl,rfl⟩;clear HLn;go_upto_region 5 with (fail)
 go_loopg [26] n (λ g z wr=> ∃k:Nat,z=.int .i64 k/\g+k=n/\Hid (St w0 fp0 (storeA S cols I L next::R1) wr))
 case atStart=> exact ⟨0,rfl,rfl,HS0⟩
 case round=>
  clear HS0;obtain ⟨k,rfl,hgk,Hs⟩:=hrel;by_cases hk:k < n
  · have hkl:k < l.length:=by rw [HN.out];exact hk
    have hkn:(k:Int) < n:=by omega
    have hxr:=HX.out.at (M:=[_]) Hs.out;obtain ⟨b',o,c',e1,q0,q1⟩:=ri_cells (by rw [HN.out];have:=hxr.sl;rw [HN.out] at this;exact this) k hkl;rw [HN.out] at e1;obtain ⟨rfl, -,rfl⟩:=Value.slice.inj e1;have hgl:=HG.out k hkl;have HROW:Hid (∀M w,St w0 fp0 (M++R1) w->ValsAt w l[k].r l[k].v):=λ M w h=> ((HX.out M w h).row _ (List.getElem_mem hkl))
    have hql:=World.block_lt_of_cell? _ _ q0;have Hgk:=Lib.hid hgk;have HGL:=Lib.hid hgl;clear e1 hxr hgk hgl;generalize l[k]=x at *;clear hkl;obtain ⟨xid,xa,xn,xc,xr⟩:=x;unfold Ri.v at q1 HROW;simp only at q0 q1 HROW HGL;have HS1:=Lib.hid (Hs.out.newblk 109 #[.int .i64 xid, .slice xa xn xc]);go_upto_region 7 with (fail)
    generalize hW:wr.alloc _=W at *;clear hW q0 q1 hql Hs;obtain ⟨xb,hxb⟩:∃xb,wr.heap.size=xb:=⟨_,rfl⟩
    rw [hxb] at HS1 ⊢;clear hxb;obtain ⟨_,hb⟩:=HS1.out.has 0 rfl;have c0:=(blk_get hb).1 0;have c1:=(blk_get hb).1 1;have cl:=(blk_get hb).2.2;simp only [List.getElem?_toArray,List.getElem?_cons_zero,List.getElem?_cons_succ] at c0 c1;have HGT:=Lib.hid (SGet_calls S cols I L next xid w0 W fp0 _ hcl (HS1.out.perm (List.Perm.swap _ _ _)));rw [HGL.out] at HGT;unfold ptrV at HGT;simp only [Option.isSome_some,Option.getD_some] at HGT;clear hb;go_wp2_with fail;(with_reducible refine HGT.out.mono ?_);rintro e w2 ⟨gv,rfl,h2⟩;clear HGT c0 c1 cl;obtain ⟨_,hrow⟩:=h2.has 0 rfl;obtain ⟨ga,gc,rfl, -⟩:=row_shape hrow;obtain ⟨_,hst⟩:=h2.has 1 rfl;have htx:=get_txt hst xid;rw [HGL.out] at htx;have hg:ValsAt w2 xr (.slice ga xr.length gc):=⟨SlX.of_row (X:=[]) hrow (length_flat _) (by simp),htx⟩
    have HSM:=Lib.hid (rsame_calls xr xr _ (.slice xa xn xc) w2 hg (HROW.out [_,_,_] w2 h2));rw [decide_eq_true rfl] at HSM;have H2:=Lib.hid h2;obtain ⟨_,hb⟩:=h2.has 2 rfl;have c0:=(blk_get hb).1 0;have c1:=(blk_get hb).1 1;have cl:=(blk_get hb).2.2;simp only [List.getElem?_toArray,List.getElem?_cons_zero,List.getElem?_cons_succ] at c0 c1;obtain ⟨gn,hgn⟩:∃gn,xr.length=gn:=⟨_,rfl⟩
    rw [hgn] at HSM ⊢;clear hb h2 hrow hst htx hg hgn HS1;go_wp2_with fail;(with_reducible refine HSM.out.mono ?_);rintro e w3 ⟨rfl,hb3⟩;have H3:=Lib.hid (((H2.out.mono hb3).drop.perm (List.Perm.swap _ _ _)).drop);clear HSM H2 hb3 c0 c1 cl;go_wp2;go_roundg (gk - 1)
    case rel=> exact ⟨k+1,by go_num,by have:=Hgk.out;omega,H3⟩
    case measure=> have:=Hgk.out;omega
  · obtain rfl:k=n:=by omega
    have HF:=Lib.hid (HEND2.out _ Hs.out);clear Hs hgk hk;go_wp2;go_ret;exact ⟨rfl,HF.out⟩
theorem same_calls (b:Nat) (D:Db) (ms:List Rs) (mv:Value) (hms:MsOk D ms) (hlen:∀t∈D,t.2.1.length < 1000000) (w0 w:World) (fp0:List Nat) (R:List Asn) (hx:Rd w0 fp0 R λ w=> RefX w ms mv) (hS:St w0 fp0 (stA b D::R) w):
 Calls Tryz.prog 15 #[.pointer (some ⟨b,0,none⟩),mv] w λ e w'=> e=.returned (.bool true)/\St w0 fp0 (stA b D::R) w':=by
 obtain ⟨q,hq,hs⟩:=hS.openD;obtain ⟨ma,mc,rfl⟩:=(hx.at (M:=[_]) hS).sl.shape;obtain ⟨A,hA⟩:∃A,starA (dbP b q++q.ts.map tbA)=A:=⟨_,rfl⟩
 have HOP:Hid (∀w,St w0 fp0 (A::R) w↔St w0 fp0 (dbP b q++(q.ts.map tbA++R)) w):=λ w=> by rw [<-hA,St.star,List.append_assoc]
 have HAP:Hid (∀w f,A.p w f->∃R',St w [] (dbP b q++R') w\/Star w (dbP b q++q.ts.map tbA) f):=λ w f h=> ⟨[], .inr (by rw [<-hA] at h;exact h)⟩
 have HS0:=Lib.hid ((HOP.out w).2 hs);have HEND:Hid (∀w,St w0 fp0 (A::R) w->St w0 fp0 (stA b D::R) w):=λ w h=> St.shutD hq ((HOP.out w).1 h);have HTB:Hid (∀w f,A.p w f->w.cell? ⟨b,1,none⟩=some q.tv/\SlX [] w 1 (q.ts.map λ t=> ptrV t.S).length (q.ts.map λ t=> ptrV t.S) q.tv):=λ w f h=> by rw [<-hA] at h;have h1:Star w (dbP b q++q.ts.map tbA) f:=h;obtain ⟨f0,h2, -⟩:=Star.get 0 rfl h1;obtain ⟨f1,h3, -⟩:=Star.get 2 rfl h1;exact ⟨(blk_get h2).1 1,SlX.of_sl h3 (by simp)⟩
 have HNX:Hid (∀w f,A.p w f->∀i (hi:i < q.ts.length),∃g,(tbA q.ts[i]).p w g):=λ w f h i hi=> by rw [<-hA] at h;have h1:Star w (dbP b q++q.ts.map tbA) f:=h;obtain ⟨g,h2, -⟩:=Star.get (3+i) (A:=tbA q.ts[i]) (by show (dbP b q++q.ts.map tbA)[3+i]? =_;rw [List.getElem?_append_right (by show 3<=3+i;omega)];show (q.ts.map tbA)[3+i - 3]? =_;rw [show 3+i - 3=i by omega,List.getElem?_map,List.getElem?_eq_getElem hi];rfl) h1;exact ⟨g,h2⟩
 have hqn:q.ts.length=ms.length:=by rw [hq.tlen,hms.len]
 have HQN:=Lib.hid hqn;have HQ:=Lib.hid hq;have HMS:=Lib.hid hms;have HX:=Lib.hid hx;have HLEN:=Lib.hid hlen;obtain ⟨n,hn⟩:∃n,ms.length=n:=⟨_,rfl⟩
 have HN:=Lib.hid hn;have hn63:n<=9223372036854775807:=by have:=(hx.at (M:=[_]) hS).sl.1;unfold maxLen at this;omega
 rw [hn] at HX HQN ⊢;clear hS hs hA hq hms hx hlen hqn hn HAP;go_enter Tryz.func15,Tryz.ntmps15;go_upto_region 2 with (fail)
 go_loopg [8] n (λ g z wr=> ∃k:Nat,z=.int .i64 k/\g+k=n/\Hid (St w0 fp0 (A::R) wr))
 case atStart=> exact ⟨0,rfl,rfl,HS0⟩
 case round=>
  clear HS0;obtain ⟨k,rfl,hgk,Hs⟩:=hrel;by_cases hk:k < n
  · have hkm:k < ms.length:=by rw [HN.out];exact hk
    have hkt:k < q.ts.length:=by rw [HQN.out];exact hk
    have hkn:(k:Int) < n:=by omega
    have hxr:=HX.out.at (M:=[_]) Hs.out;obtain ⟨mb,mo,mc',e1,mbl,p0,p1,p2⟩:=hxr.cells k hkm;rw [HN.out] at e1;obtain ⟨rfl, -,rfl⟩:=Value.slice.inj e1;have hat:(ms[k].cols,riL ms[k].l,ms[k].next)=(q.ts[k].cols,q.ts[k].L,q.ts[k].next):=by have h1:=HMS.out.at k hkm;have h2:=HQ.out.at k hkt;rw [h1] at h2;exact Option.some.inj h2
    injection hat with e1 e2;injection e2 with e2 e3;have hcell:∀M w,St w0 fp0 (M++R) w->w.cell? ⟨mb,mo+k * 3+1,none⟩=some ms[k].lv/\w.cell? ⟨mb,mo+k * 3+2,none⟩=some (.int .i64 ms[k].next):=λ M w h=> by obtain ⟨b',o',c',e1, -,q0,q1,q2⟩:=(HX.out M w h).cells k hkm;rw [HN.out] at e1;obtain ⟨e1, -, -⟩:=Value.slice.inj e1;injection e1 with e1;injection e1 with e1 e2;subst e1 e2;exact ⟨q1,q2⟩
    have hll:ms[k].l.length < 1000000:=by have:=HLEN.out _ (List.mem_of_getElem? (HMS.out.at k hkm));rw [riL_len] at this;exact this
    have Hgk:=Lib.hid hgk;go_upto_region 4 with (fail)
    refine rSma4 (w0:=w0) (fp0:=fp0) (R:=R) b n mb mo mc k ms[k].lv (ptrV q.ts[k].S) ms[k].next A hk (λ M w h=> (hcell M w h).1) (λ M w h=> (hcell M w h).2) ?_ ?_ ?_ rfl (by kernel_rfl) rfl rfl rfl rfl rfl Hs.out ?_
    · intro w' h'
      refine (rows_calls b q D HQ.out k hkt ms[k].l ms[k].lv e2 hll w0 w' fp0 R (HX.out.imp λ w h=> h.ri _ (List.getElem_mem hkm)) ((HOP.out _).1 h')).mono ?_;rintro e w2 ⟨rfl,h2⟩;exact ⟨rfl,(HOP.out _).2 h2⟩
    · intro w' f h'
      obtain ⟨h1,h2⟩:=HTB.out w' f h';refine (table_in b k _ q.tv (ptrV q.ts[k].S) w' h1 h2 (by rw [List.getElem?_map,List.getElem?_eq_getElem hkt];rfl)).mono ?_;rintro e w2 ⟨rfl,rfl⟩;exact ⟨rfl,Below.refl _ _⟩
    · intro w' f h'
      obtain ⟨g,h1⟩:=HNX.out w' f h' k hkt;refine (Next_calls h1).mono ?_;rintro e w2 ⟨rfl,rfl⟩;exact ⟨by rw [e3],Below.refl _ _⟩
    intro w1 h1;have H1:Hid (St w0 fp0 (A::R) w1):=h1;clear h1 hcell hll e2 e3 e1 hxr p0 p1 p2 mbl hgk;simp only [putL,List.foldl,Act.put,List.setIfInBounds_toArray,List.set_cons_succ,List.set_cons_zero];go_wp2;go_roundg (gk - 1)
    case rel=> exact ⟨k+1,by go_num,by have:=Hgk.out;omega,H1⟩
    case measure=> have:=Hgk.out;omega
  · obtain rfl:k=n:=by omega
    obtain ⟨f,hf⟩:=Hs.out.has 0 rfl;obtain ⟨h1, -⟩:=HTB.out _ f hf;unfold StQ.tv at h1;have HT1:=Lib.hid (table_out b _ q.tc q.ta (-1) wr h1 (by omega));have HT2:=Lib.hid (table_out b _ q.tc q.ta k wr h1 (by rw [HQN.out];omega));have HF:=Lib.hid (HEND.out _ Hs.out);clear h1 hf Hs hgk hk;go_wp2_with fail;(with_reducible refine HT1.out.mono ?_);rintro e w1 ⟨rfl,rfl⟩;clear HT1;go_wp2_with fail;(with_reducible refine HT2.out.mono ?_);rintro e w1 ⟨rfl,rfl⟩;clear HT2;go_wp2;go_ret;exact ⟨rfl,HF.out⟩
theorem appD_length (D:Db) (c:Chg):(appD D c).length=D.length:=by
 unfold appD;cases rowD D c.tb with
 | none=> rfl
 | some t=>
  simp only;split
  · rw [List.length_set]
  · rfl
theorem appT_len (cols:Nat) (id:Int) (new:Rw) (L:LL):(appT cols id new L).length<=L.length+1:=by
 unfold appT;split
 · have:(delL id L).length<=L.length:=List.length_filter_le _ _
   omega
 · unfold putLL
   split
   · exact putL_len _ _ _
   · omega
theorem appD_max {D:Db} {c:Chg} {N:Nat} (h:∀t∈D,t.2.1.length<=N):∀t∈appD D c,t.2.1.length<=N+1:=by
 intro t ht;unfold appD at ht;cases e:rowD D c.tb with
 | none=>
  rw [e] at ht;have:=h t ht;omega
 | some u=>
  rw [e] at ht;simp only at ht;split at ht
  · rcases List.mem_or_eq_of_mem_set ht with ht | rfl
    · have:=h t ht
      omega
    · have h1:=appT_len u.1 c.id c.new u.2.1
      have hu:u∈D:=by
       unfold rowD at e;split at e
       · exact List.mem_of_getElem? e
       · cases e
      have:=h u hu;simp only;omega
  · have:=h t ht
    omega
def runD (D:Db) (l:List Chg):Db:=l.foldl appD D
theorem runD_snoc (D:Db) (l:List Chg) (k:Nat) (hk:k < l.length):runD D (l.take (k+1))=appD (runD D (l.take k)) l[k]:=by
 unfold runD;rw [List.take_add_one,List.getElem?_eq_getElem hk,List.foldl_append];rfl
theorem runD_length (D:Db) (l:List Chg):(runD D l).length=D.length:=by
 unfold runD
 induction l generalizing D with
 | nil=> rfl
 | cons c l ih=> rw [List.foldl_cons,ih,appD_length]
theorem runD_max {D:Db} {N:Nat} (h:∀t∈D,t.2.1.length<=N) (l:List Chg):∀t∈runD D l,t.2.1.length<=N+l.length:=by
 unfold runD
 induction l generalizing D N with
 | nil=> exact h
 | cons c l ih=>
  intro t ht;have:=ih (appD_max h) t ht;rw [List.length_cons];omega
theorem newD_max (td:List Td):∀t∈newD td,t.2.1.length<=0:=by
 intro t ht;obtain ⟨u, -,rfl⟩:=List.mem_map.1 ht;exact Nat.le_refl _
def Both (w0:World) (fp0:List Nat) (R:List Asn) (b:Nat) (D:Db) (mv:Value) (w:World):Prop:=∃(ms:List Rs) (a:Option Addr) (c:Nat) (P:List Asn),mv=.slice a ms.length c/\MsOk D ms/\Rd w0 fp0 (P++R) (λ w=> RefX w ms mv)/\St w0 fp0 (stA b D::(P++R)) w
def RunPost (w0:World) (fp0:List Nat) (R:List Asn) (D:Db) (e:Ending) (w:World):Prop:=∃b mv,e=.returned (.tuple #[.pointer (some ⟨b,0,none⟩),mv, .bool true])/\Both w0 fp0 R b D mv w
theorem run_calls (td:List Td) (sv:Value) (l:List Chg) (lv:Value) (hsm:∀t∈td,t.Sm) (htl:td.length<=1000) (hll:l.length<=100000) (hok:∀c∈l,c.Ok) (w0 w:World) (fp0:List Nat) (R:List Asn) (hs:Rd w0 fp0 R λ w=> SchX w td sv) (hl:Rd w0 fp0 R λ w=> ChsX w l lv) (hS:St w0 fp0 R w):
 Calls Tryz.prog 14 #[sv,lv] w λ e w'=> RunPost w0 fp0 R (runD (newD td) l) e w':=by
 obtain ⟨sa,sc,rfl⟩:=(hs.here hS).sl.shape;obtain ⟨la,lc,rfl⟩:=(hl.here hS).sl.shape;have HNW:=Lib.hid (StNew_calls td _ hsm htl w0 w fp0 R hs hS);have HRN:Hid (∀b w',St w0 fp0 (stA b (newD td)::R) w'->_):=λ b w' h=> RNew40_calls td _ htl w0 w' fp0 _ (hs.cons (stA b (newD td))) h;have HL:=Lib.hid hl;have HOK:=Lib.hid hok;obtain ⟨m,hm⟩:∃m,l.length=m:=⟨_,rfl⟩
 obtain ⟨n,hn⟩:∃n,td.length=n:=⟨_,rfl⟩
 have HM:=Lib.hid hm;have HN:=Lib.hid hn;rw [hm] at HL hll ⊢;rw [hn] at HNW HRN htl ⊢;clear hs hl hS hsm hok hm hn;go_enter Tryz.func14,Tryz.ntmps14;go_wp2_with fail;(with_reducible refine HNW.out.mono ?_);rintro e w1 ⟨b,rfl,h1⟩;have HR1:=Lib.hid (HRN.out b w1 h1);clear HNW HRN h1;go_wp2_with fail;(with_reducible refine HR1.out.mono ?_);rintro e w2 ⟨ra,rc,rfl,h2⟩;clear HR1;have HI:Hid (Both w0 fp0 R b (runD (newD td) (l.take 0)) (.slice ra n rc) w2):=by
  have hn0:(ms0 td).length=n:=by rw [ms0,List.length_map,HN.out]
  refine ⟨ms0 td,ra,rc,[rowA 44 3 (.slice ra n rc) n ((ms0 td).flatMap Rs.c)],by rw [hn0],ms0_ok td,Rd.of_piece 0 rfl λ w f h=> ?_,h2.perm (List.Perm.swap _ _ _)⟩;exact ms0_x (by rw [hn0];exact h)
 clear h2;go_upto_region 4 with (fail)
 go_loopg [8,9,22] m (λ g z8 z9 z wr=> ∃k:Nat,z=.int .i64 k/\z9=.bool true/\g+k=m/\Hid (Both w0 fp0 R b (runD (newD td) (l.take k)) z8 wr))
 case atStart=> exact ⟨0,rfl,rfl,rfl,HI⟩
 case round=>
  clear HI;obtain ⟨k,rfl,rfl,hgk,Hi⟩:=hrel;obtain ⟨ms,a,c,P,rfl,hms,hrx,hs⟩:=Hi.out;by_cases hk:k < m
  · have hkl:k < l.length:=by rw [HM.out];exact hk
    have hkn:(k:Int) < m:=by omega
    have hlx:=HL.out.at (M:=_::P) hs;obtain ⟨b',o,c',e1,hbl,p0,p1,p2,p3⟩:=hlx.cells k hkl;rw [HM.out] at e1;obtain ⟨rfl, -,rfl⟩:=Value.slice.inj e1;have hD:=runD_snoc (newD td) l k hkl;have hcx:Rd w0 fp0 R λ w=> l[k].X w:=HL.out.imp λ w h=> h.ch _ (List.getElem_mem hkl);have hco:=HOK.out _ (List.getElem_mem hkl);have hmax:∀t∈runD (newD td) (l.take k),t.2.1.length < 1000000:=λ t ht=> by have:=runD_max (newD_max td) (l.take k) t ht;rw [List.length_take] at this;omega
    have hmn:ms.length<=1000:=by rw [hms.len,runD_length,newD,List.length_map,HN.out];exact htl
    have HX:=Lib.hid (And.intro hms (And.intro hrx hD));have HC:=Lib.hid hcx;have HCO:=Lib.hid hco;have HMAX:=Lib.hid hmax;have Hgk:=Lib.hid hgk;clear e1 hlx hD hcx hco hmax hgk Hi hms hrx;generalize l[k]=ch at *;clear hkl;obtain ⟨mn,hmn0⟩:∃mn,ms.length=mn:=⟨_,rfl⟩
    have hs1:=hs.newblk 35 #[.int .i64 ch.tb, .int .i64 ch.id,ch.ov,ch.nv];have HRA:Hid (∀L w,St w0 fp0 (L++(P++R)) w->Calls Tryz.prog 16 #[.slice a mn c,ch.v] w λ e w'=> RaPost w0 fp0 L (P++R) (appD (runD (newD td) (l.take k)) ch) (chkD (runD (newD td) (l.take k)) ch) e w'):=λ L w h=> by rw [<-hmn0];exact RApply_calls ms _ _ HX.out.1 ch HCO.out HMAX.out hmn w0 w fp0 L (P++R) HX.out.2.1 (HC.out.app P) h
    have HAP:Hid (∀(Q:List Asn) w,St w0 fp0 (stA b (runD (newD td) (l.take k))::(Q++R)) w->Calls Tryz.prog 19 #[.pointer (some ⟨b,0,none⟩),ch.v] w λ e w'=> e=.returned (.int .i64 (chkD (runD (newD td) (l.take k)) ch))/\St w0 fp0 (stA b (appD (runD (newD td) (l.take k)) ch)::(Q++R)) w'):=λ Q w h=> Apply_calls b _ ch HCO.out HMAX.out w0 w fp0 (Q++R) (HC.out.app Q) h;have HD:=Lib.hid HX.out.2.2;have HS1:=Lib.hid hs1;rw [hmn0];generalize runD (newD td) (l.take k)=Dk at *;generalize chkD Dk ch=er at *;generalize appD Dk ch=D2 at *;clear hs hs1 HX HC HCO HMAX hmn hmn0;unfold Chg.v at HRA HAP;unfold Chg.ov Chg.nv at *;go_upto_region 7 with (fail)
    generalize hW:wr.alloc _=W at *;clear hW p0 p1 p2 p3 hbl;obtain ⟨cb,hcb⟩:∃cb,wr.heap.size=cb:=⟨_,rfl⟩
    rw [hcb] at HS1 ⊢;clear hcb;obtain ⟨c0,c1,c2,c3,cl⟩:=cells4 HS1.out 0 rfl;have HR:=Lib.hid (HRA.out [_,_] W HS1.out);clear HRA;go_wp2_with fail;(with_reducible refine HR.out.mono ?_);rintro e w3 ⟨ms2,a2,cc2,P2,rfl,hm2,hr2,h3⟩;clear HR HS1 c0 c1 c2 c3 cl;obtain ⟨c0,c1,c2,c3,cl⟩:=cells4 h3 0 rfl;have h4:St w0 fp0 (stA b Dk::((P2++P++[blkA cb 35 #[.int .i64 ch.tb, .int .i64 ch.id, .slice ch.oa ch.old.length ch.oc, .slice ch.na ch.new.length ch.nc]])++R)) w3:=by
     refine h3.perm ?_
     classical refine List.perm_iff_count.2 λ x=> ?_;simp only [List.count_append,List.count_cons,List.count_nil,List.cons_append,List.nil_append];omega
    have HA:=Lib.hid (HAP.out _ w3 h4);have HM2:=Lib.hid (And.intro hm2 hr2);obtain ⟨mn2,hmn2⟩:∃mn2,ms2.length=mn2:=⟨_,rfl⟩
    have HMN2:=Lib.hid hmn2;rw [hmn2];clear HAP h3 h4 hm2 hr2 hmn2;go_wp2_with fail;(with_reducible refine HA.out.mono ?_);rintro e w4 ⟨rfl,h5⟩;have HI2:Hid (Both w0 fp0 R b (runD (newD td) (l.take (k+1))) (.slice a2 mn2 cc2) w4):=by
     refine ⟨ms2,a2,cc2,P2++P,by rw [HMN2.out],by rw [HD.out];exact HM2.out.1,?_,?_⟩
     · have:=HM2.out.2
       rw [HMN2.out] at this;rw [List.append_assoc];exact this
     · rw [HD.out]
       have h6:St w0 fp0 (blkA cb 35 #[.int .i64 ch.tb, .int .i64 ch.id, .slice ch.oa ch.old.length ch.oc, .slice ch.na ch.new.length ch.nc]::(stA b D2::((P2++P)++R))) w4:=by
        refine h5.perm ?_
        classical refine List.perm_iff_count.2 λ x=> ?_;simp only [List.count_append,List.count_cons,List.count_nil];omega
       exact h6.drop
    clear HA HM2 HMN2 h5 c0 c1 c2 c3 cl HD;go_wp2;go_roundg (gk - 1)
    case rel=> exact ⟨k+1,by go_num,by go_num,by have:=Hgk.out;omega,HI2⟩
    case measure=> have:=Hgk.out;omega
  · obtain rfl:k=m:=by omega
    have HF:Hid (Both w0 fp0 R b (runD (newD td) l) (.slice a ms.length c) wr):=by have h:=Hi.out;rw [List.take_of_length_le (by rw [HM.out];exact Nat.le_refl _)] at h;exact h
    clear Hi hgk hk hms hrx hs;generalize ms.length=mn at *;go_wp2;refine bodyPost_ret (v:=.tuple #[.pointer (some ⟨b,0,none⟩), .slice a mn c, .bool true]) (by simp [results,Tryz.results14,go_sem]) rfl ?_;exact ⟨b,_,rfl,HF.out⟩
def wrA (b:Nat) (xs:List UInt8):Asn:=exA λ v=> starA [blkA b 116 #[v],slA 5 v (xs.map u8C)]
def gWn0 (b:Nat) (n:Int) (v:Value) (xs:List UInt8):=rgx Tryz.prog Tryz.f55 0 14 [4,5,6,7,8,9,10,11,12,13] [(0,pV b 0),(1, .int .i64 n)] (Vq 0 4 [Kp b 0,Kp b 0,Kp b 0,Kp b 0,Kv v,Kv (.int .i64 n),Kv (.string (textOf (numL n))),Vf.slice,Kp b 0,Kp b 0]) [.blk b (116) [⟨v,[(10, .s 11)]⟩], .gen [7] [11] λ L g=> match L 7 with | true=> slA 5 (g 11) (xs.map u8C++(bytes (textOf (numL n))).map u8C) | false=> slA 5 (v) (xs.map u8C)]
theorem rWn0 (b:Nat) (n:Int) (v:Value) (xs:List UInt8) (w0:World) (fp0:List Nat) (R:List Asn) (hl:xs.length+8 < 1099511627776) (hnum:∀L w,St w0 fp0 (L++R) w->Calls Tryz.prog 86 #[.int .i64 n] w λ e w'=> e=.returned (.string (textOf (numL n)))/\Below w.heap.size w w') {w:World} {c:Code} {a:Act} {Q:Exit->Act->World->Prop} (c1:isReg c=true) (c2:cops c=opsR Tryz.f55 0) (c3:a.tmps.size=14) (_c4:a.defers=a.defers) (i0:a.eval (.tmp 0)=.pointer (some ⟨b,0,none⟩)) (i1:a.eval (.tmp 1)=.int .i64 n)
 (hS:St w0 fp0 ([blkA b (116) #[v],slA 5 (v) (xs.map u8C)]++R) w)
 (hQ:∀(u11:Value) (w1:World),(∃a n c,u11=.slice a n c)->St w0 fp0 ([blkA b (116) #[u11],slA 5 (u11) (xs.map u8C++(bytes (textOf (numL n))).map u8C)]++R) w1->Q .normal (putL a [(4, .pointer (some ⟨b,0,none⟩)),(5, .pointer (some ⟨b,0,none⟩)),(6, .pointer (some ⟨b,0,none⟩)),(7, .pointer (some ⟨b,0,none⟩)),(8,v),(9, .int .i64 n),(10, .string (textOf (numL n))),(11,u11),(12, .pointer (some ⟨b,0,none⟩)),(13, .pointer (some ⟨b,0,none⟩))]) w1):c.wp Tryz.prog Q a w:=by
 have ok:(gWn0 b n v xs w0 fp0 R).Ok 11:=Rg.ok _ 11 [4,6,7,10] ⟨.load _ 4 0 0, .askR _ 6 hnum, .appG _ 7 (λ _=> [blkA b 116 #[v],slA 5 (v) (xs.map u8C)]) (λ _ u=> [blkA b 116 #[v],slA 5 (u) (xs.map u8C++(bytes (textOf (numL n))).map u8C)]) (λ ty g w h=> (by obtain ⟨u,w2,h1,h2⟩:=appT1 appBT (by kernel_rfl) ty (textOf (numL n)) (by rw [num_size,List.length_map];omega) (h.perm (List.Perm.swap _ _ _));obtain ⟨_,hr⟩:=h2.has 0 rfl;obtain ⟨a,m,c,rfl⟩:=sl_shape hr;exact ⟨_,w2,h1,kr (by kernel_rfl),h2.perm (List.Perm.swap _ _ _)⟩)), .store _ 10 0 0,trivial⟩;refine wp_regD ok (by kernel_rfl) ⟨c1,c2⟩ ⟨c3,λ p hp=> ?_⟩ hS λ A1 w1 N1 H1=> ?_
 · simp only [gWn0,rgx,List.map_nil,List.append_nil,List.mem_cons,List.not_mem_nil,or_false] at hp
   rcases hp with rfl | rfl
   · exact i0
   · exact i1
 exact N1.fin [11] (hQ (slots A1 11) w1 ⟨_,_,_,(N1.val 7 rfl)⟩ H1) (by kernel_rfl)
theorem St.wr {w0 w:World} {fp0:List Nat} {R:List Asn} {b:Nat} {xs:List UInt8}:St w0 fp0 (wrA b xs::R) w↔∃v,St w0 fp0 (blkA b 116 #[v]::slA 5 v (xs.map u8C)::R) w:=by
 constructor
 · intro h
   obtain ⟨v,h1⟩:=St.exE h;exact ⟨v,St.star.1 h1⟩
 · rintro ⟨v,h⟩
   have h1:St w0 fp0 (starA [blkA b 116 #[v],slA 5 v (xs.map u8C)]::R) w:=St.star.2 h;exact St.exI (F:=λ v=> starA [blkA b 116 #[v],slA 5 v (xs.map u8C)]) v h1
theorem wNumber_calls (b:Nat) (xs:List UInt8) (n:Int) (hn:I64 n) (hl:xs.length+8 < 1099511627776) (w0 w:World) (fp0:List Nat) (R:List Asn) (hS:St w0 fp0 (wrA b xs::R) w):
 Calls Tryz.prog 55 #[.pointer (some ⟨b,0,none⟩), .int .i64 n] w λ e w'=> e=.returned (.tuple #[])/\St w0 fp0 (wrA b (xs++numL n)::R) w':=by
 obtain ⟨v,h⟩:=St.wr.1 hS;have HS:=Lib.hid h;have HN:=Lib.hid hn;have HL:=Lib.hid hl;clear hS h hn hl;go_enter Tryz.func55,Tryz.ntmps55;go_upto_region 0 with (fail)
 refine rWn0 (w0:=w0) (fp0:=fp0) (R:=R) b n v xs HL.out (λ L w h=> number_calls n HN.out w) rfl (by kernel_rfl) rfl rfl rfl rfl HS.out ?_;intro u11 w1 ⟨a,m,c,e11⟩ h1;subst e11;have HF:Hid (St w0 fp0 (wrA b (xs++numL n)::R) w1):=by refine St.wr.2 ⟨.slice a m c,?_⟩;rw [List.map_append];have h2:St w0 fp0 (blkA b 116 #[.slice a m c]::slA 5 (.slice a m c) (xs.map u8C++(bytes (textOf (numL n))).map u8C)::R) w1:=h1;rw [bytes_textOf] at h2;exact h2
 clear h1;simp only [putL,List.foldl,Act.put,List.setIfInBounds_toArray,List.set_cons_succ,List.set_cons_zero];go_end0;exact ⟨rfl,HF.out⟩
def numT (n:Int) (k:Nat):List UInt8:=(List.range 8).map λ j=> if 8 - k<=j then numB n j else 0
theorem numT_next (n:Int) (k:Nat) (hk:k < 8):(numT n k).set (7 - k) (numB n (7 - k))=numT n (k+1):=by
 match k,hk with
 | 0,_=> rfl
 | 1,_=> rfl
 | 2,_=> rfl
 | 3,_=> rfl
 | 4,_=> rfl
 | 5,_=> rfl
 | 6,_=> rfl
 | 7,_=> rfl
theorem numB_of (n:Int) (k:Nat) (hk:k < 8):(numB n (7 - k)).toNat=uN n / 256 ^ k % 256:=by
 have h:uN n / 2 ^ (56 - 8 * (7 - k)) % 256 < 256:=Nat.mod_lt _ (by decide);rw [numB,UInt8.toNat_ofNat_of_lt' h,show 56 - 8 * (7 - k)=8 * k by omega,Nat.pow_mul]
theorem rnumber05_calls (n:Int) (hn:I64 n) (w:World):Calls Tryz.prog 76 #[.int .i64 n] w λ e w'=> ∃c,e=.returned (.slice (some ⟨c,0,none⟩) 8 8)/\St w [] [slA 5 (.slice (some ⟨c,0,none⟩) 8 8) ((numL n).map u8C)] w':=by
 have HX:=Lib.hid (xor_num hn);have HU:=Lib.hid (uN_lt hn);have HB8:=Lib.hid (λ k hk=> numB_of n k hk);clear hn;go_enter Tryz.func76,Tryz.ntmps76;have hx:=HX.out;have hmk:∀w,Sem.run Tryz.prog (Instr.makeSlice 52 (.int .i64 8) (.int .i64 8)) w=.ok (.slice (some ⟨w.heap.size,0,none⟩) 8 8) (w.alloc (.cells #[.int .u8 0, .int .u8 0, .int .u8 0, .int .u8 0, .int .u8 0, .int .u8 0, .int .u8 0, .int .u8 0] 5)):=λ w=> by kernel_rfl
 go_upto_region 4 with (fail)
 have HS0:Hid (St w [] (slA 5 (.slice (some ⟨w.heap.size,0,none⟩) 8 8) ((numT n 0).map u8C)::[]) (w.alloc (.cells #[.int .u8 0, .int .u8 0, .int .u8 0, .int .u8 0, .int .u8 0, .int .u8 0, .int .u8 0, .int .u8 0] 5))):=by refine St.addF (f:=[w.heap.size]) (St.start (w:=w) (L:=[]) (fp:=[]) rfl) ?_ ((Below.refl _ _).alloc (Nat.le_refl _) _) (λ k hk=> by rw [List.mem_singleton.1 hk];exact Nat.le_refl _);have h:=World.ownsRow_lit (base:=0) (e:=5) (size:=1) w #[.int .u8 0, .int .u8 0, .int .u8 0, .int .u8 0, .int .u8 0, .int .u8 0, .int .u8 0, .int .u8 0] 8 (Nat.zero_le _) (by decide) rfl;exact ⟨h,rfl⟩
 clear hx hmk HX;obtain ⟨u,hu⟩:∃u,uN n=u:=⟨_,rfl⟩
 have h0:(u:Int)=((u / 256 ^ 0:Nat):Int):=by simp
 rw [hu] at HU HB8 ⊢;generalize hW:w.alloc _=W at *;clear hW hu;obtain ⟨g,hg⟩:∃g,w.heap.size=g:=⟨_,rfl⟩
 rw [hg] at HS0 ⊢;clear hg;rw [h0];clear h0;go_loopg [3,5] 8 (λ gm z3 z5 wr=> ∃k:Nat,z5=.int .i64 (7 - (k:Int))/\z3=.int .u64 ((u / 256 ^ k:Nat):Int)/\gm+k=8/\Hid (St w [] (slA 5 (.slice (some ⟨g,0,none⟩) 8 8) ((numT n k).map u8C)::[]) wr))
 case atStart=> exact ⟨0,rfl,rfl,rfl,HS0⟩
 case round=>
  clear HS0;obtain ⟨k,rfl,rfl,hgk,Hs⟩:=hrel;by_cases hk:k < 8
  · have hk':(0:Int)<=7 - (k:Int):=by omega
    obtain ⟨j,hj⟩:∃j:Nat,7 - k=j:=⟨_,rfl⟩
    have hji:(7 - (k:Int))=(j:Int):=by omega
    have hj8:j < 8:=by omega
    obtain ⟨_,hrow⟩:=Hs.out.has 0 rfl;obtain ⟨hc,hf,hl⟩:=row_at (i:=j) (u:=u8C ((numT n k)[j]'(by simp [numT];omega))) (show (rowA 5 1 (.slice (some ⟨g,0,none⟩) 8 8) 8 ((numT n k).map u8C)).p wr _ from hrow) (by simp [numT]) (by rw [List.getElem?_map,List.getElem?_eq_getElem];rfl);have Hgk:=Lib.hid hgk;have HJ:=Lib.hid hj;rw [hji];have hm:(u / 256 ^ k % 256:Nat) < 256:=Nat.mod_lt _ (by decide);have hkb:(((u / 256 ^ k % 256:Nat):Int))=((numB n j).toNat:Int):=by rw [<-hj,HB8.out k hk]
    have hq:(((u / 256 ^ k:Nat):Int)) / 256=((u / 256 ^ (k+1):Nat):Int):=by rw [Nat.pow_succ,<-Nat.div_div_eq_div_mul];rfl
    have hq2:(((u / 256 ^ k:Nat):Int)) % 256=((numB n j).toNat:Int):=by rw [<-hkb];rfl
    have HQ:=Lib.hid hq;have HQ2:=Lib.hid hq2;have hv:u / 256 ^ k < 18446744073709551616:=Nat.lt_of_le_of_lt (Nat.div_le_self _ _) HU.out;generalize u / 256 ^ k=v at *;clear hgk hj hji hrow hm hkb hq hq2;have HN:Hid (St w [] (slA 5 (.slice (some ⟨g,0,none⟩) 8 8) ((numT n (k+1)).map u8C)::[]) (wr.setCell ⟨g,j,none⟩ (.int .u8 ((v:Int) % 256)))):=by
     show St _ _ _ _;rw [HQ2.out,<-numT_next n k hk,List.map_set];have h:=Hs.out;have h2:St w [] (rowA 5 1 (.slice (some ⟨g,0,none⟩) 8 8) ((numT n k).map u8C).length ((numT n k).map u8C)::[]) wr:=h;have e8:((numT n k).map u8C).length=8:=by simp [numT]
     rw [e8] at h2;have h3:=h2.setR j (u8C (numB n j));have h4:St w [] (rowA 5 1 (.slice (some ⟨g,0,none⟩) 8 8) (((numT n k).map u8C).set j (u8C (numB n j))).length (((numT n k).map u8C).set j (u8C (numB n j)))::[]) (wr.setCell ⟨g,j,none⟩ (u8C (numB n j))):=by rw [List.length_set,e8];exact h3
     rw [HJ.out];exact h4
    clear Hs;go_wp2;go_roundg (gk - 1)
    case rel=> exact ⟨k+1,by have:=HJ.out;congr 1;omega,by rw [HQ.out],by have:=Hgk.out;omega,HN⟩
    case measure=> have:=Hgk.out;omega
  · obtain rfl:k=8:=by omega
    have HF:Hid (St w [] [slA 5 (.slice (some ⟨g,0,none⟩) 8 8) ((numL n).map u8C)] wr):=Hs.out;have hneg:(7 - ((8:Nat):Int))= -1:=by omega
    rw [hneg];clear Hs hgk hk;go_wp2;go_ret;exact ⟨g,rfl,HF.out⟩
theorem RNumber_calls (n:Int) (hn:I64 n) (w:World):Calls Tryz.prog 42 #[.int .i64 n] w λ e w'=> e=.returned (.string (textOf (numL n)))/\Below w.heap.size w w':=by
 have HC:=Lib.hid (rnumber05_calls n hn w);clear hn;go_enter Tryz.func42,Tryz.ntmps42;go_wp2_with fail;(with_reducible refine HC.out.mono ?_);rintro e w1 ⟨c,rfl,h1⟩;have hcv:(convert 52 9 (.slice (some ⟨c,0,none⟩) 8 8)).run Tryz.prog w1=.ok (.string (textOf (numL n))) w1:=by obtain ⟨_,hr⟩:=h1.has 0 rfl;exact run_back hr
 have HB:=Lib.hid h1.below0;clear HC h1;go_wp2;go_ret;exact ⟨rfl,HB.out⟩
def unN (l:List UInt8):Nat:=l.foldl (λ u c=> u * 256+c.toNat) 0
theorem unN_snoc (l:List UInt8) (c:UInt8):unN (l++[c])=unN l * 256+c.toNat:=by simp [unN,List.foldl_append]
theorem unN_acc (l:List UInt8) (u:Nat):l.foldl (λ u c=> u * 256+c.toNat) u=u * 256 ^ l.length+unN l:=by
 induction l generalizing u with
 | nil=> simp [unN]
 | cons c l ih=>
  rw [unN,List.foldl_cons,List.foldl_cons,ih,ih (0 * 256+c.toNat),List.length_cons,Nat.pow_succ];rw [Nat.add_mul,Nat.zero_mul,Nat.zero_add,Nat.mul_assoc,Nat.mul_comm 256];omega
theorem unN_cons (c:UInt8) (l:List UInt8):unN (c::l)=c.toNat * 256 ^ l.length+unN l:=by
 rw [unN,List.foldl_cons,unN_acc];simp
theorem unN_lt (l:List UInt8):unN l < 256 ^ l.length:=by
 induction l with
 | nil=> simp [unN]
 | cons c l ih=>
  rw [unN_cons,List.length_cons,Nat.pow_succ];have h:=c.toNat_lt;have:c.toNat * 256 ^ l.length<=255 * 256 ^ l.length:=Nat.mul_le_mul_right _ (by omega);omega
theorem beL_len:∀(k u:Nat),(beL k u).length=k
 | 0,_=> rfl
 | k+1,u=> by rw [beL,List.length_cons,beL_len k u]
theorem unN_be:∀(k u:Nat),unN (beL k u)=u % 256 ^ k
 | 0,u=> by simp [beL,unN,Nat.mod_one]
 | k+1,u=> by have hl:(beL k u).length=k:=beL_len k u;have h:u / 256 ^ k % 256 < 256:=Nat.mod_lt _ (by decide);rw [beL,unN_cons,hl,unN_be k u,UInt8.toNat_ofNat_of_lt' h,Nat.pow_succ,Nat.mod_mul,Nat.mul_comm];omega
theorem be_unN:∀(l:List UInt8),beL l.length (unN l)=l
 | []=> rfl
 | c::l=> by
  have hc:=c.toNat_lt;have hl:=unN_lt l;have hp:0 < 256 ^ l.length:=Nat.pow_pos (by decide);have h1:unN (c::l) / 256 ^ l.length % 256=c.toNat:=by rw [unN_cons,Nat.mul_comm,Nat.mul_add_div hp,Nat.div_eq_of_lt hl];omega
  have h2:beL l.length (unN (c::l))=beL l.length (unN l):=by
   have key:∀(k a b:Nat),a % 256 ^ k=b % 256 ^ k->beL k a=beL k b:=by
    intro k
    induction k with
    | zero=> intro a b _;rfl
    | succ k ih=>
     intro a b h;rw [Nat.pow_succ,Nat.mod_mul,Nat.mod_mul] at h;have hq:0 < 256 ^ k:=Nat.pow_pos (by decide);have a1:=Nat.mod_lt a hq;have b1:=Nat.mod_lt b hq;have e1:a % 256 ^ k=b % 256 ^ k:=by have:=congrArg (· % 256 ^ k) h;simpa [Nat.add_mul_mod_self_left,Nat.mod_mod] using this
     have e2:a / 256 ^ k % 256=b / 256 ^ k % 256:=by rw [e1] at h;exact Nat.eq_of_mul_eq_mul_left hq (by omega)
     rw [beL,beL,e2,ih a b e1]
   refine key _ _ _ ?_;rw [unN_cons,Nat.mul_comm,Nat.mul_add_mod]
  rw [List.length_cons,beL,h1,h2,be_unN l];simp
def unL (l:List UInt8):Int:=(unN l:Int) - 9223372036854775808
theorem unL_i64 {l:List UInt8} (h:l.length=8):I64 (unL l):=by
 have:=unN_lt l;rw [h] at this;unfold unL I64;omega
theorem numL_unL {l:List UInt8} (h:l.length=8):numL (unL l)=l:=by
 have h1:=be_unN l;rw [h] at h1;rw [numL_be];have e:uN (unL l)=unN l:=by unfold uN unL;omega
 rw [e,h1]
theorem unL_numL {n:Int} (h:I64 n):unL (numL n)=n:=by
 have:=unN_be 8 (uN n);rw [<-numL_be,Nat.mod_eq_of_lt (uN_lt h)] at this;unfold unL;rw [this];obtain ⟨h1,h2⟩:=h;unfold uN;omega
theorem numL_take {l:List UInt8} {n:Int} {m:List UInt8} (h:l=numL n++m):l.take 8=numL n/\l.drop 8=m:=by
 subst h;rw [<-numL_length n,List.take_left,List.drop_left];exact ⟨rfl,rfl⟩
theorem num_split {l:List UInt8} (h:8<=l.length):l=numL (unL (l.take 8))++l.drop 8:=by
 rw [numL_unL (by rw [List.length_take];omega),List.take_append_drop]
def RowV (r:Rw):Prop:=∀v∈r,okV v=true/\I64 v.int
def fstL:List UInt8->Option (Vl×List UInt8)
 | []=> none
 | c::l=> if c=1 then some (nullV,l) else if c=2 then (if 8<=l.length then some (⟨1,unL (l.take 8),⟨#[]⟩⟩,l.drop 8) else none)
  else if c=3 then (if (l.drop (l.takeWhile prB).length).head? =some 0/\(l.takeWhile prB).length<=16 then some (⟨2,0,textOf (l.takeWhile prB)⟩,l.drop ((l.takeWhile prB).length+1)) else none) else none
theorem takeW_app {p:UInt8->Bool} {a:List UInt8} {c:UInt8} {m:List UInt8} (h:a.all p=true) (hc:p c=false):(a++c::m).takeWhile p=a:=by
 induction a with
 | nil=> simp [hc]
 | cons x a ih=>
  rw [List.all_cons,Bool.and_eq_true] at h;rw [List.cons_append,List.takeWhile_cons,h.1,if_pos rfl,ih h.2]
theorem fstL_enc {v:Vl} (h:okV v=true) (hi:I64 v.int) (m:List UInt8):fstL (encL v++m)=some (v,m):=by
 obtain ⟨K,I,T⟩:=v;rcases okV_cases h with ⟨a1,a2,a3⟩ | ⟨a1,a2⟩ | ⟨a1,a2,a3,a4⟩ <;> simp only at a1 a2 hi
 · simp only at a3
   subst a1 a2 a3;rfl
 · subst a1 a2
   have hl:(numL I).length=8:=numL_length I;have h8:8<=(numL I++m).length:=by rw [List.length_append];omega
   obtain ⟨t1,t2⟩:=numL_take (m:=m) (n:=I) rfl;show fstL (2::(numL I++m))=_;rw [fstL,if_neg (by decide),if_pos rfl,if_pos h8,t1,t2,unL_numL hi];rfl
 · simp only at a3 a4
   subst a1 a2;obtain ⟨e1, -⟩:=esc_ok a3;have e2:encL ⟨2,0,T⟩++m=3::(bytes T++0::m):=by simp [encL,e1]
   have e3:=takeW_app (p:=prB) (m:=m) (c:=0) (a:=bytes T) a3 (by decide);have hl:(bytes T).length=T.size:=by simp [bytes]
   rw [e2,fstL,if_neg (by decide),if_neg (by decide),if_pos rfl,e3,List.drop_left,if_pos ⟨rfl,by rw [hl];exact a4⟩];have e4:textOf (bytes T)=T:=bytes_inj (bytes_textOf _);rw [e4];congr 2;rw [List.drop_append,List.drop_of_length_le (by omega),List.nil_append];have:(bytes T).length+1 - (bytes T).length=1:=by omega
   rw [this];rfl
theorem fstL_some {l m:List UInt8} {v:Vl} (h:fstL l=some (v,m)):okV v=true/\I64 v.int/\l=encL v++m:=by
 have i0:I64 0:=by unfold I64;omega
 cases l with
 | nil=> cases h
 | cons c l=>
  rw [fstL] at h;by_cases h1:c=1
  · rw [if_pos h1] at h
    cases h;subst h1;exact ⟨rfl,i0,rfl⟩
  · rw [if_neg h1] at h
    by_cases h2:c=2
    · rw [if_pos h2] at h
      by_cases h3:8<=l.length
      · rw [if_pos h3] at h
        cases h;subst h2;exact ⟨rfl,unL_i64 (by rw [List.length_take];omega),by
         show _=2::(numL _++_)
         rw [<-num_split h3]⟩
      · rw [if_neg h3] at h
        cases h
    · rw [if_neg h2] at h
      by_cases h3:c=3
      · rw [if_pos h3] at h
        by_cases h4:(l.drop (l.takeWhile prB).length).head? =some 0/\(l.takeWhile prB).length<=16
        · rw [if_pos h4] at h
          cases h;subst h3;have ha:(l.takeWhile prB).all prB=true:=List.all_takeWhile;have hp:prS (textOf (l.takeWhile prB))=true:=by rw [prS,bytes_textOf];exact ha
          have hs:(textOf (l.takeWhile prB)).size<=16:=by show (l.takeWhile prB).toArray.size<=16;simpa using h4.2
          refine ⟨by simp [okV,hp,hs],i0,?_⟩;obtain ⟨e1, -⟩:=esc_ok hp;rw [bytes_textOf] at e1;have e2:encL ⟨2,0,textOf (l.takeWhile prB)⟩=3::(l.takeWhile prB++[0]):=by simp [encL,bytes_textOf,e1]
          rw [e2];have e3:l=l.takeWhile prB++l.drop (l.takeWhile prB).length:=by
           have h5:l.take (l.takeWhile prB).length=l.takeWhile prB:=by
            have:=List.takeWhile_append_dropWhile (p:=prB) (l:=l)
            conv=> lhs;arg 2;rw [<-this]
            rw [List.take_left]
           conv=> lhs;rw [<-List.take_append_drop (l.takeWhile prB).length l,h5]
          have e4:l.drop (l.takeWhile prB).length=0::l.drop ((l.takeWhile prB).length+1):=by
           rw [<-List.drop_drop];generalize l.drop (l.takeWhile prB).length=d at h4 ⊢;cases d with
           | nil=> simp at h4
           | cons x d=>
            have:x=0:=by simpa using h4.1
            rw [this];rfl
          rw [List.cons_append,List.append_assoc,List.singleton_append,<-e4,<-e3]
        · rw [if_neg h4] at h
          cases h
      · rw [if_neg h3] at h
        cases h
def DecP (l:List UInt8):Option Rw->Prop
 | some r=> RowV r/\encR r=l
 | none=> ∀r,RowV r->encR r≠l
theorem encR_cons (v:Vl) (r:Rw):encR (v::r)=encL v++encR r:=rfl
theorem encR_app (r s:Rw):encR (r++s)=encR r++encR s:=List.flatMap_append
theorem encR_pre:∀{d r:Rw} {rest:List UInt8},RowV d->RowV r->encR r=encR d++rest->∃r',r=d++r'/\encR r'=rest/\RowV r'
 | [],r,rest,_,hr,h=> ⟨r,rfl,h,hr⟩
 | v::d,r,rest,hd,hr,h=> by
  have hv:=hd v (by simp);rw [encR_cons,List.append_assoc] at h;have h1:=fstL_enc hv.1 hv.2 (encR d++rest);rw [<-h] at h1;cases r with
  | nil=> cases h1
  | cons u r=>
   have hu:=hr u (by simp);rw [encR_cons,fstL_enc hu.1 hu.2] at h1;obtain ⟨rfl,h2⟩:=Prod.mk.inj (Option.some.inj h1);obtain ⟨r',e1,e2,e3⟩:=encR_pre (d:=d) (r:=r) (λ x hx=> hd x (by simp [hx])) (λ x hx=> hr x (by simp [hx])) h2;exact ⟨r',by rw [e1];rfl,e2,e3⟩
theorem encR_inj {r s:Rw} (hr:RowV r) (hs:RowV s) (h:encR r=encR s):r=s:=by
 obtain ⟨r',e1,e2, -⟩:=encR_pre (d:=s) (r:=r) (rest:=[]) hs hr (by rw [h,List.append_nil]);cases r' with
 | nil=> rw [e1,List.append_nil]
 | cons v r'=> obtain ⟨c,l,e, -⟩:=encL_head v;rw [encR_cons,e] at e2;cases e2
theorem DecP.fail {d:Rw} {rest:List UInt8} (hd:RowV d) (hne:rest≠[]) (h:fstL rest=none):DecP (encR d++rest) none:=by
 intro r hr e;obtain ⟨r', -,e2,hr'⟩:=encR_pre hd hr e;cases r' with
 | nil=> exact hne e2.symm
 | cons v r'=> have hv:=hr' v (by simp);rw [<-e2,encR_cons,fstL_enc hv.1 hv.2] at h;cases h
theorem RowV.snoc {d:Rw} {v:Vl} (hd:RowV d) (h1:okV v=true) (h2:I64 v.int):RowV (d++[v]):=by
 intro x hx;rcases List.mem_append.1 hx with h | h
 · exact hd x h
 · rw [List.mem_singleton.1 h];exact ⟨h1,h2⟩
theorem run_ixb (s:ByteArray) (c:Int) (w:World):(callFunc 208 #[.string s, .int .u8 c]).run Tryz.prog w=.ok (.value (.int .i64 (Lib.indexByte (bytes s) c.toNat.toUInt8))) w:=by
 rw [run_callFunc_extern Tryz.func208 (by kernel_rfl) (by kernel_rfl) (by kernel_rfl) (e:=Extern.BytealgIndexByte.indexByte) (by kernel_rfl),Lib.run_indexByteString];rfl
theorem ixbL_calls (s:ByteArray) (c:Int) (w:World):Calls Tryz.prog 197 #[.string s, .int .u8 c] w λ e w'=> e=.returned (.int .i64 (Lib.indexByte (bytes s) c.toNat.toUInt8))/\w=w':=by
 have hr:=run_ixb s c;go_enter Tryz.func197,Tryz.ntmps197;go_wp2;go_ret;exact ⟨rfl,rfl⟩
theorem ixb_calls (s:ByteArray) (c:Int) (w:World):Calls Tryz.prog 168 #[.string s, .int .u8 c] w λ e w'=> e=.returned (.int .i64 (Lib.indexByte (bytes s) c.toNat.toUInt8))/\w=w':=by
 have H:=Lib.hid (ixbL_calls s c w);go_enter Tryz.func168,Tryz.ntmps168;go_wp2_with fail;(with_reducible refine H.out.mono ?_);rintro e w1 ⟨rfl,rfl⟩;go_wp2;go_ret;exact ⟨rfl,rfl⟩
theorem or_byte (u c:Nat) (hu:u < 2 ^ 56) (hc:c < 256):bits .or .u64 (((u * 256:Nat):Int)) (c:Int)=((u * 256+c:Nat):Int):=by
 have e1:(BitVec.ofInt 64 ((u * 256:Nat):Int)).toNat=u * 256:=by rw [BitVec.toNat_ofInt];omega
 have e2:(BitVec.ofInt 64 (c:Int)).toNat=c:=by rw [BitVec.toNat_ofInt];omega
 have e3:u * 256 ||| c=u * 256+c:=by have:=Nat.shiftLeft_add_eq_or_of_lt (i:=8) (b:=c) (by simpa using hc) u;rw [Nat.shiftLeft_eq] at this;exact this.symm
 show IntKind.u64.wrap ((((BitVec.ofInt 64 ((u * 256:Nat):Int)) ||| BitVec.ofInt 64 (c:Int)).toNat:Nat):Int)=_;rw [BitVec.toNat_or,e1,e2,e3];simp only [IntKind.wrap,IntKind.bits,IntKind.signed];simp;omega
theorem xor_un (u:Nat) (hu:u < 2 ^ 64):IntKind.i64.wrap (bits .xor .u64 (u:Int) 9223372036854775808)=(u:Int) - 9223372036854775808:=by
 have e1:(BitVec.ofInt 64 (9223372036854775808:Int)).toNat=2 ^ 63:=by decide
 have e2:(BitVec.ofInt 64 (u:Int)).toNat=u:=by rw [BitVec.toNat_ofInt];omega
 have e3:((BitVec.ofInt 64 (u:Int)) ^^^ BitVec.ofInt 64 (9223372036854775808:Int)).toNat=if u < 2 ^ 63 then 2 ^ 63+u else u - 2 ^ 63:=by
  rw [BitVec.toNat_xor,e1,e2];split
  · exact xor_hi (by assumption)
  · obtain ⟨r,rfl⟩:∃r,u=2 ^ 63+r:=⟨u - 2 ^ 63,by omega⟩
    have hr:r < 2 ^ 63:=by omega
    rw [<-xor_hi hr,Nat.xor_assoc,Nat.xor_self,Nat.xor_zero,xor_hi hr];omega
 show IntKind.i64.wrap (IntKind.u64.wrap ((((BitVec.ofInt 64 (u:Int)) ^^^ BitVec.ofInt 64 (9223372036854775808:Int)).toNat:Nat):Int))=_;rw [e3];simp only [IntKind.wrap,IntKind.bits,IntKind.signed];split <;> simp <;> omega
theorem wrapEq (x:Int):IntKind.i64.wrap x=wrap64 x:=by rw [IntKind.wrap_i64];unfold wrap64;omega
theorem unN_step {l:List UInt8} {k:Nat} (h:k < l.length):unN (l.take (k+1))=unN (l.take k) * 256+(l[k]'h).toNat:=by
 rw [List.take_add_one,List.getElem?_eq_getElem h];exact unN_snoc _ _
theorem parse_calls (l:List UInt8) (hl:l.length=8) (w:World):Calls Tryz.prog 97 #[.string (textOf l)] w λ e w'=> e=.returned (.tuple #[.int .i64 (unL l), .int .i64 0])/\w=w':=by
 have HL:=Lib.hid hl;have hz:(textOf l).size=8:=by rw [text_size,hl]
 obtain ⟨s,hs⟩:∃s,textOf l=s:=⟨_,rfl⟩
 have HG:Hid (∀(j:Nat) (h:j < s.size) (h2:j < l.length),s[j]'h=l[j]'h2):=by intro j h h2;subst hs;rfl
 rw [hs] at hz ⊢;clear hs;clear hl;go_enter Tryz.func97,Tryz.ntmps97;go_wp2;go_loopg [4,9] 8 (λ g z4 z9 wr=> ∃k:Nat,z9=.int .i64 k/\z4=.int .u64 (unN (l.take k):Nat)/\g+k=8/\wr=w)
 case atStart=> exact ⟨0,rfl,rfl,rfl,rfl⟩
 case round=>
  obtain ⟨k,rfl,rfl,hgk,rfl⟩:=hrel;by_cases hk:k < 8
  · have hk1:(k:Int) < 8:=by omega
    have hk2:(0:Int)<=k:=by omega
    have hks:(k:Int) < s.size:=by rw [hz];omega
    have hkl:k < l.length:=by rw [HL.out];exact hk
    have hu:unN (l.take k) < 2 ^ 56:=by have:=unN_lt (l.take k);rw [List.length_take] at this;refine Nat.lt_of_lt_of_le this ?_;have:(256:Nat) ^ min k l.length<=256 ^ 7:=Nat.pow_le_pow_right (by decide) (by omega);exact this
    have HST:=Lib.hid (unN_step hkl);have hkn:k < s.size:=by omega
    have HC:=Lib.hid (HG.out k hkn hkl);have HO:=Lib.hid (or_byte _ (l[k]'hkl).toNat hu (l[k]'hkl).toNat_lt);have Hgk:=Lib.hid hgk;generalize unN (l.take k)=u at *;clear hgk;go_wp2;go_roundg (gk - 1)
    case rel=>
     refine ⟨k+1,by go_num,?_,by have:=Hgk.out;omega,rfl⟩;have h1:IntKind.u64.wrap ((s[k]'hkn).toNat:Int)=((l[k]'hkl).toNat:Int):=by rw [HC.out];have:=(l[k]'hkl).toNat_lt;simp only [IntKind.wrap,IntKind.bits,IntKind.signed];simp;omega
     rw [h1,HST.out,<-HO.out];rfl
    case measure=> have:=Hgk.out;omega
  · obtain rfl:k=8:=by omega
    have hl:l.take 8=l:=List.take_of_length_le (by rw [HL.out];exact Nat.le_refl _);have hu:unN l < 2 ^ 64:=by have:=unN_lt l;rw [HL.out] at this;exact this
    have HX:=Lib.hid (xor_un _ hu);rw [hl];have HR:Hid (unL l=(unN l:Int) - 9223372036854775808):=rfl;generalize unN l=u at *;go_wp2;refine bodyPost_ret (v:=.tuple #[.int .i64 (unL l), .int .i64 0]) ?_ rfl ?_
    · rw [HR.out,<-HX.out]
      simp [results,Tryz.results97,go_sem];exact (wrapEq _).symm
    · exact ⟨rfl,rfl⟩
theorem text_ext (l:List UInt8) (i j:Nat):(textOf l).extract i j=textOf ((l.take j).drop i):=by
 apply ByteArray.ext;rw [ByteArray.data_extract];show l.toArray.extract i j=((l.take j).drop i).toArray;simp [List.drop_take]
theorem headD (l:List UInt8) (k:Nat):(l.drop k).head? =l[k]? :=by
 induction l generalizing k with
 | nil=> simp
 | cons c l ih=> cases k <;> simp
theorem fst3_none {l:List UInt8} (h:∀k:Nat,l[k]? ≠some 0):fstL (3::l)=none:=by
 rw [fstL,if_neg (by decide),if_neg (by decide),if_pos rfl,headD,if_neg];exact λ e=> h _ e.1
theorem takeW_pre {p:UInt8->Bool}:∀(a m:List UInt8),¬ a.all p=true->((a++m).takeWhile p).length < a.length
 | [],m,h=> absurd rfl h
 | c::a,m,h=> by
  rw [List.cons_append,List.takeWhile_cons];by_cases hc:p c=true
  · rw [if_pos hc,List.length_cons,List.length_cons]
    have:¬ a.all p=true:=λ e=> h (by rw [List.all_cons,hc,e];rfl);have:=takeW_pre a m this;omega
  · rw [if_neg hc]
    simp
theorem fst3_some {l:List UInt8} {k:Nat} (h0:l[k]? =some 0) (h1:∀j:Nat,j < k->l[j]? ≠some 0):fstL (3::l)=if (l.take k).all prB=true/\k<=16 then some (⟨2,0,textOf (l.take k)⟩,l.drop (k+1)) else none:=by
 obtain ⟨hk,hk0⟩:=List.getElem?_eq_some_iff.1 h0;have e:l=l.take k++0::l.drop (k+1):=by
  conv=> lhs;rw [<-List.take_append_drop k l,List.drop_eq_getElem_cons hk,hk0]
 have hl:(l.take k).length=k:=by rw [List.length_take];omega
 rw [fstL,if_neg (by decide),if_neg (by decide),if_pos rfl,headD];by_cases hp:(l.take k).all prB=true
 · have hw:l.takeWhile prB=l.take k:=by
    conv=> lhs;rw [e]
    exact takeW_app hp (by decide)
   rw [hw,hl,h0];simp only [hp,true_and]
 · have hq:¬ (l[(l.takeWhile prB).length]? =some 0/\(l.takeWhile prB).length<=16):=by
    intro h;have:=takeW_pre (l.take k) (0::l.drop (k+1)) hp;rw [<-e,hl] at this;exact h1 _ this h.1
   rw [if_neg hq,if_neg (λ h=> hp h.1)]
theorem okT_iff {t:List UInt8}:okV ⟨2,0,textOf t⟩=true↔t.all prB=true/\t.length<=16:=by
 have h:(textOf t).size=t.length:=text_size t;simp [okV,prS,bytes_textOf,h]
def FirstP (L:List UInt8) (e:Ending):Prop:=∃(v:Vl) (n:Nat),e=.returned (.tuple #[v.val, .int .i64 n])/\I64 v.int/\v.text.size<=L.length/\n<=L.length/\((n=0\/okV v=false)->fstL L=none)/\(n≠0->okV v=true->fstL L=some (v,L.drop n))
theorem i64_0:I64 0:=by unfold I64;omega
theorem FirstP.no {L:List UInt8} (h:fstL L=none):FirstP L (.returned (.tuple #[nullV.val, .int .i64 0])):=⟨nullV,0,rfl,i64_0,Nat.zero_le _,Nat.zero_le _,λ _=> h,λ h0=> absurd rfl h0⟩
theorem FirstP.one (l:List UInt8):FirstP (1::l) (.returned (.tuple #[nullV.val, .int .i64 1])):=⟨nullV,1,rfl,i64_0,Nat.zero_le _,(by simp),λ h=> (by rcases h with h | h <;> cases h),λ _ _=> rfl⟩
theorem FirstP.two {l:List UInt8} (h:8<=l.length):FirstP (2::l) (.returned (.tuple #[.agg #[.int .i64 1, .int .i64 (unL (l.take 8)), .string ⟨#[]⟩], .int .i64 9])):=
 ⟨⟨1,unL (l.take 8),⟨#[]⟩⟩,9,rfl,unL_i64 (by rw [List.length_take];omega),Nat.zero_le _,(by rw [List.length_cons];omega),λ h=> (by rcases h with h | h <;> cases h),λ _ _=> by rw [fstL,if_neg (by decide),if_pos rfl,if_pos h];rfl⟩
theorem FirstP.two0 {l:List UInt8} (h:l.length < 8):fstL (2::l)=none:=by
 rw [fstL,if_neg (by decide),if_pos rfl,if_neg (by omega)]
theorem FirstP.three {l:List UInt8} {k:Nat} (h0:l[k]? =some 0) (h1:∀j:Nat,j < k->l[j]? ≠some 0):FirstP (3::l) (.returned (.tuple #[.agg #[.int .i64 2, .int .i64 0, .string (textOf (l.take k))], .int .i64 ((k+2:Nat):Int)])):=by
 obtain ⟨hk, -⟩:=List.getElem?_eq_some_iff.1 h0;have hl:(l.take k).length=k:=by rw [List.length_take];omega
 refine ⟨⟨2,0,textOf (l.take k)⟩,k+2,rfl,i64_0,?_,?_,λ h=> ?_,λ _ h=> ?_⟩
 · show (textOf (l.take k)).size<=_
   rw [text_size,hl,List.length_cons];omega
 · rw [List.length_cons];omega
 · rcases h with h | h
   · cases h
   · rw [fst3_some h0 h1,if_neg]
     intro h2;have:=okT_iff.2 ⟨h2.1,by rw [hl];exact h2.2⟩;rw [h] at this;cases this
 · have h2:=okT_iff.1 h
   rw [fst3_some h0 h1,if_pos ⟨h2.1,by rw [<-hl];exact h2.2⟩];rfl
theorem fst3_one {l:List UInt8} {k j:Nat} (h0:l[k]? =some 0) (h1:∀j:Nat,j < k->l[j]? ≠some 0) (hj:(l.take k)[j]? =some 1):fstL (3::l)=none:=by
 rw [fst3_some h0 h1,if_neg];intro h;have:=List.all_eq_true.1 h.1 1 (List.mem_of_getElem? hj);exact absurd this (by decide)
theorem fst_other {c:UInt8} {l:List UInt8} (h1:c≠1) (h2:c≠2) (h3:c≠3):fstL (c::l)=none:=by
 rw [fstL,if_neg h1,if_neg h2,if_neg h3]
theorem byte_eq {c:UInt8} (n:Nat) (hn:n < 256):(((c.toNat:Int)==(n:Int))=decide (c=UInt8.ofNat n)):=by
 have h:(UInt8.ofNat n).toNat=n:=UInt8.toNat_ofNat_of_lt' hn;rw [Bool.eq_iff_iff,beq_iff_eq,decide_eq_true_iff,<-UInt8.toNat_inj,h];omega
theorem first_calls (c:UInt8) (l:List UInt8) (hl:l.length < 1099511627776) (w:World):Calls Tryz.prog 132 #[.string (textOf (c::l))] w λ e w'=> FirstP (c::l) e/\Below w.heap.size w w':=by
 obtain ⟨s,hs⟩:∃s,textOf (c::l)=s:=⟨_,rfl⟩
 have hz:s.size=l.length+1:=by rw [<-hs,text_size,List.length_cons]
 have h0:∀(h:0 < s.size),s[0]'h=c:=by intro h;subst hs;rfl
 have HX:Hid (∀i j,s.extract i j=textOf (((c::l).take j).drop i)):=by intro i j;rw [<-hs];exact text_ext _ _ _
 have HL:=Lib.hid hl;rw [hs];clear hs hl;have hz0:0 < s.size:=by omega
 have b1:=byte_eq (c:=c) 1 (by decide);have b2:=byte_eq (c:=c) 2 (by decide);have b3:=byte_eq (c:=c) 3 (by decide);have HC:=Lib.hid (h0 hz0);generalize s[0]'hz0=d at *;obtain rfl:=HC.out;have V:=VarIs.new w #[.int .i64 0, .int .i64 0, .string ⟨#[]⟩] 68;have hx1:s.extract 1 (l.length+1)=textOf l:=by rw [HX.out];simp
 have HB:Hid (Below w.heap.size w (w.alloc (.cells #[.int .i64 0, .int .i64 0, .string ⟨#[]⟩] 68))):=(Below.refl _ _).alloc (Nat.le_refl _) _;by_cases h1:d=1
 · subst h1
   have HF:=Lib.hid (FirstP.one l);clear hx1;go_enter Tryz.func132,Tryz.ntmps132;go_wp2;refine bodyPost_ret (v:=.tuple #[nullV.val, .int .i64 1]) (by simp [results,Tryz.results132,go_sem];rfl) rfl ⟨HF.out,HB.out⟩
 · by_cases h2:d=2
   · subst h2
     clear hx1;by_cases h8:8<=l.length
     · have HF:=Lib.hid (FirstP.two h8)
       have hx:s.extract 1 9=textOf (l.take 8):=HX.out 1 9;have HP:=Lib.hid (parse_calls (l.take 8) (by rw [List.length_take];omega));have h9:(9:Int)<=s.size:=by omega
       go_enter Tryz.func132,Tryz.ntmps132;go_wp2_with fail;(with_reducible refine (HP.out _).mono ?_);rintro e w1 ⟨rfl,rfl⟩;clear HP hx;generalize unL (l.take 8)=u at *;go_wp2;refine bodyPost_ret (v:=.tuple #[.agg #[.int .i64 1, .int .i64 u, .string ⟨#[]⟩], .int .i64 9]) (by simp [results,Tryz.results132,go_sem]) rfl ⟨HF.out,(Below.refl _ _).alloc (Nat.le_refl _) _⟩
     · have HF:=Lib.hid (FirstP.no (FirstP.two0 (l:=l) (by omega)))
       have h9:¬ (9:Int)<=s.size:=by omega
       go_enter Tryz.func132,Tryz.ntmps132;go_wp2;refine bodyPost_ret (v:=.tuple #[nullV.val, .int .i64 0]) (by simp [results,Tryz.results132,go_sem];rfl) rfl ⟨HF.out,HB.out⟩
   · by_cases h3:d=3
     · subst h3
       have HI:=Lib.hid (ixb_calls (textOf l) 0);rw [bytes_textOf] at HI;obtain ⟨q,hq⟩:∃q,Lib.indexByte l 0=q:=⟨_,rfl⟩
       rw [show (0:Int).toNat.toUInt8=0 from rfl,hq] at HI;have hge:=Lib.indexByte_ge l 0;rw [hq] at hge;by_cases hq0:q= -1
       · subst hq0
         have HF:=Lib.hid (FirstP.no (fst3_none (Lib.indexByte_none hq)));clear hq;go_enter Tryz.func132,Tryz.ntmps132;go_wp2_with fail;(with_reducible refine (HI.out _).mono ?_);rintro e w1 ⟨rfl,rfl⟩;clear HI;go_wp2;refine bodyPost_ret (v:=.tuple #[nullV.val, .int .i64 0]) (by simp [results,Tryz.results132,go_sem];rfl) rfl ⟨HF.out,HB.out⟩
       · obtain ⟨k,rfl⟩:∃k:Nat,q=k:=⟨q.toNat,by omega⟩
         obtain ⟨i0,i1⟩:=Lib.indexByte_some hq;obtain ⟨hk, -⟩:=List.getElem?_eq_some_iff.1 i0;have hw1:wrap64 ((k:Int)+1)=((k+1:Nat):Int):=by have:=HL.out;unfold wrap64;omega
         have hw2:wrap64 ((k:Int)+2)=((k+2:Nat):Int):=by have:=HL.out;unfold wrap64;omega
         have hx:s.extract 1 (k+1)=textOf (l.take k):=HX.out 1 (k+1);have hsz:k+1<=s.size:=by omega
         have HJ:=Lib.hid (ixb_calls (textOf (l.take k)) 1);rw [bytes_textOf] at HJ;obtain ⟨j,hj⟩:∃j,Lib.indexByte (l.take k) 1=j:=⟨_,rfl⟩
         rw [show (1:Int).toNat.toUInt8=1 from rfl,hj] at HJ;have hgj:=Lib.indexByte_ge (l.take k) 1;rw [hj] at hgj;by_cases hj0:j= -1
         · subst hj0
           have HF:=Lib.hid (FirstP.three i0 i1);clear hq hj i0 i1;go_enter Tryz.func132,Tryz.ntmps132;go_wp2_with fail;(with_reducible refine (HI.out _).mono ?_);rintro e w1 ⟨rfl,rfl⟩;clear HI;go_wp2_with fail;(with_reducible refine (HJ.out _).mono ?_);rintro e w1 ⟨rfl,rfl⟩;clear HJ;generalize textOf (l.take k)=u at *;go_wp2;refine bodyPost_ret (v:=.tuple #[.agg #[.int .i64 2, .int .i64 0, .string u], .int .i64 ((k+2:Nat):Int)]) (by simp [results,Tryz.results132,go_sem];omega) rfl ⟨HF.out,(Below.refl _ _).alloc (Nat.le_refl _) _⟩
         · have hjn:¬ j < 0:=by omega
           obtain ⟨m,rfl⟩:∃m:Nat,j=m:=⟨j.toNat,by omega⟩
           have HF:=Lib.hid (FirstP.no (fst3_one i0 i1 (Lib.indexByte_some hj).1));clear hq hj i0 i1;go_enter Tryz.func132,Tryz.ntmps132;go_wp2_with fail;(with_reducible refine (HI.out _).mono ?_);rintro e w1 ⟨rfl,rfl⟩;clear HI;go_wp2_with fail;(with_reducible refine (HJ.out _).mono ?_);rintro e w1 ⟨rfl,rfl⟩;clear HJ;go_wp2;refine bodyPost_ret (v:=.tuple #[nullV.val, .int .i64 0]) (by simp [results,Tryz.results132,go_sem];rfl) rfl ⟨HF.out,HB.out⟩
     · have HF:=Lib.hid (FirstP.no (fst_other (l:=l) h1 h2 h3))
       have g1:((d.toNat:Int)==1)=false:=by rw [show ((1:Int)=((1:Nat):Int)) from rfl,b1];simpa using h1
       have g2:((d.toNat:Int)==2)=false:=by rw [show ((2:Int)=((2:Nat):Int)) from rfl,b2];simpa using h2
       have g3:((d.toNat:Int)==3)=false:=by rw [show ((3:Int)=((3:Nat):Int)) from rfl,b3];simpa using h3
       clear b1 b2 b3 hx1;go_enter Tryz.func132,Tryz.ntmps132;go_wp2;refine bodyPost_ret (v:=.tuple #[nullV.val, .int .i64 0]) (by simp [results,Tryz.results132,go_sem];rfl) rfl ⟨HF.out,HB.out⟩
def NumG (l:List UInt8) (n:Int) (m:List UInt8):Prop:=I64 n/\l=numL n++m
theorem NumG.uniq {l m m':List UInt8} {n n':Int} (h:NumG l n m) (h':NumG l n' m'):n=n'/\m=m':=by
 have e:numL n++m=numL n'++m':=h.2.symm.trans h'.2;have:=List.append_inj e (by rw [numL_length,numL_length]);exact ⟨numL_inj h.1 h'.1 this.1,this.2⟩
theorem NumG.of {l:List UInt8} (h:8<=l.length):NumG l (unL (l.take 8)) (l.drop 8):=⟨unL_i64 (by rw [List.length_take];omega),num_split h⟩
theorem NumG.len {l m:List UInt8} {n:Int} (h:NumG l n m):l.length=m.length+8:=by rw [h.2,List.length_append,numL_length];omega
def rowB (r:Rw):List UInt8:=numL ((encR r).length:Int)++encR r
def RowG (l:List UInt8) (r:Rw) (m:List UInt8):Prop:=RowV r/\I64 (encR r).length/\l=rowB r++m
theorem RowG.num {l m:List UInt8} {r:Rw} (h:RowG l r m):NumG l (encR r).length (encR r++m):=⟨h.2.1,by rw [h.2.2,rowB,List.append_assoc]⟩
theorem RowG.uniq {l m m':List UInt8} {r r':Rw} (h:RowG l r m) (h':RowG l r' m'):r=r'/\m=m':=by
 obtain ⟨e1,e2⟩:=h.num.uniq h'.num;have:=List.append_inj e2 (by omega);exact ⟨encR_inj h.1 h'.1 this.1,this.2⟩
theorem RowG.of {l m:List UInt8} {n:Int} {k:Nat} {r:Rw} (h:NumG l n m) (hn:n=(k:Int)) (hk:k<=m.length) (hr:DecP (m.take k) (some r)):RowG l r (m.drop k):=by
 have e:(encR r).length=k:=by rw [hr.2,List.length_take];omega
 refine ⟨hr.1,by rw [e,<-hn];exact h.1,?_⟩;rw [rowB,e,<-hn,List.append_assoc,hr.2,List.take_append_drop];exact h.2
theorem RowG.not1 {l:List UInt8} (h:l.length < 8) (r:Rw) (m:List UInt8):¬ RowG l r m:=λ g=> by
 have:=g.num.len;omega
theorem RowG.not2 {l m:List UInt8} {n:Int} (h:NumG l n m) (hn:n < 0\/(m.length:Int) < n) (r:Rw) (q:List UInt8):¬ RowG l r q:=λ g=> by
 obtain ⟨e1,e2⟩:=h.uniq g.num;rw [e2,List.length_append] at hn;omega
theorem RowG.not3 {l m:List UInt8} {n:Int} {k:Nat} (h:NumG l n m) (hn:n=(k:Int)) (hr:DecP (m.take k) none) (r:Rw) (q:List UInt8):¬ RowG l r q:=λ g=> by
 obtain ⟨e1,e2⟩:=h.uniq g.num;refine hr r g.1 ?_;have e:k=(encR r).length:=by omega
 rw [e2,e,List.take_left]
def NumS:Option (List UInt8)->Int->Option (List UInt8)->Prop
 | none,_,o=> o=none
 | some l,n,o=> (∃m,NumG l n m/\o=some m)\/(o=none/\∀n m,¬ NumG l n m)
def RowS2:Option (List UInt8)->Rw->Option (List UInt8)->Prop
 | none,_,o=> o=none
 | some l,r,o=> (∃m,RowG l r m/\o=some m)\/(o=none/\∀r m,¬ RowG l r m)
def SlC (v:Value) (n:Nat):Prop:=∃a c,v=.slice a n c/\n<=c/\c<=maxLen
def RdrP (w0:World) (fp0:List Nat) (R:List Asn) (v:Value):Option (List UInt8)->Prop
 | some l=> SlC v l.length/\Rd w0 fp0 R λ w=> BytesX [] w l v
 | none=> True
def rdrA (p:Nat) (t:TypeId) (v:Value) (o:Option (List UInt8)):Asn:=blkA p t #[v, .bool o.isNone]
def TakeS:Option (List UInt8)->Int->List UInt8->Option (List UInt8)->Prop
 | none,_,x,o=> x=[]/\o=none
 | some l,n,x,o=> (∃k:Nat,n=k/\k<=l.length/\x=l.take k/\o=some (l.drop k))\/((n < 0\/(l.length:Int) < n)/\x=[]/\o=none)
def TakeP (w0:World) (fp0:List Nat) (R B:List Asn) (p:Nat) (t:TypeId) (o:Option (List UInt8)) (n:Int) (e:Ending) (w':World):Prop:=
 ∃u v o2 x,e=.returned u/\St w0 fp0 (rdrA p t v o2::R) w'/\RdrP w0 fp0 B v o2/\Rd w0 fp0 B (λ w=> BytesX [] w x u)/\TakeS o n x o2/\SlC u x.length
theorem BytesX.shape {w:World} {x:List UInt8} {u:Value} (h:BytesX [] w x u):∃a n c,u=.slice a n c/\n=x.length:=by
 obtain ⟨a,c,e⟩:=SlX.shape h;exact ⟨a,_,c,e,rfl⟩
theorem BytesX.take {w:World} {l:List UInt8} {a:Option Addr} {n c:Nat} (h:BytesX [] w l (.slice a n c)) (k c2:Nat) (hk:k<=l.length):BytesX [] w (l.take k) (.slice a k c2):=by
 have hl:(l.take k).length=k:=by rw [List.length_take];omega
 obtain ⟨h1,h2,a',c',h3,h4⟩:=h;obtain ⟨rfl, -, -⟩:=Value.slice.inj h3;refine ⟨by rw [hl];exact Nat.le_trans hk h1,by simp,a,c2,by rw [hl],λ j hj=> ?_⟩;have hj':j < k:=by rw [List.length_map,hl] at hj;exact hj
 obtain ⟨b,o,e1,e2,e3⟩:=h4 j (by rw [List.length_map];omega);refine ⟨b,o,e1,e2,?_⟩;rw [e3];simp
theorem BytesX.drop {w:World} {l:List UInt8} {a:Option Addr} {n c:Nat} (h:BytesX [] w l (.slice a n c)) (k c2:Nat):BytesX [] w (l.drop k) (.slice (a.map λ x=> x.add k) (l.length - k) c2):=by
 obtain ⟨h1,h2,a',c',h3,h4⟩:=h;obtain ⟨rfl, -, -⟩:=Value.slice.inj h3;have hn:l.length - k=(l.drop k).length:=by rw [List.length_drop]
 refine ⟨by omega,by simp,_,c2,by rw [hn],λ j hj=> ?_⟩;have hj':j < l.length - k:=by rw [List.length_map] at hj;omega
 obtain ⟨b,o,e1,e2,e3⟩:=h4 (k+j) (by rw [List.length_map];omega);refine ⟨b,o+k,by rw [e1,Option.map_some,add_plain],e2,?_⟩;rw [Nat.add_assoc,e3];simp
theorem TakeP.none' {w0:World} {fp0:List Nat} {R B:List Asn} {p:Nat} {t:TypeId} {n:Int} {v:Value} {o:Option (List UInt8)} {w':World} (hS:St w0 fp0 (blkA p t #[v, .bool true]::R) w') (h:TakeS o n [] none):TakeP w0 fp0 R B p t o n (.returned (.slice none 0 0)) w':=
 ⟨_,v,none,[],rfl,hS,trivial,λ _ _ _=> SlX.nil _ _ _ _ _,h,_,_,rfl,Nat.le_refl _,Nat.zero_le _⟩
theorem TakeP.some' {w0:World} {fp0:List Nat} {R B:List Asn} {p:Nat} {t:TypeId} {l:List UInt8} {a b:Option Addr} {k c:Nat} {w':World} (hR:Rd w0 fp0 B λ w=> BytesX [] w l (.slice a l.length c)) (hk:k<=l.length) (hc:l.length<=c) (hm:c<=maxLen) (hb:b=(a.map λ x=> x.add k)\/k=l.length)
 (hS:St w0 fp0 (blkA p t #[.slice b (l.length - k) (c - k), .bool false]::R) w'):TakeP w0 fp0 R B p t (some l) k (.returned (.slice a k c)) w':=by
 refine ⟨_, .slice b (l.length - k) (c - k),some (l.drop k),l.take k,rfl,hS,⟨⟨b,c - k,by rw [List.length_drop],by rw [List.length_drop];omega,by omega⟩,hR.imp λ w h=> ?_⟩,hR.imp λ w h=> h.take k c hk, .inl ⟨k,rfl,hk,rfl,rfl⟩,a,c,by rw [List.length_take,Nat.min_eq_left hk],by rw [List.length_take];omega,hm⟩;rcases hb with rfl | hb
 · exact h.drop k _
 · have e:l.drop k=[]:=List.drop_of_length_le (by omega)
   have e2:l.length - k=0:=by omega
   rw [e,e2];exact SlX.nil _ _ _ _ _
theorem src_sl {w:World} {v:Value} {x:List UInt8} {f:List Nat} (h:(slA 5 v (x.map u8C)).p w f):Go.Src Tryz.prog 1 52 v (x.map u8C).length (x.map u8C) w:=
 (SlX.of_sl (X:=[]) h (by simp)).src (e':=5) (by kernel_rfl) (by decide) (u8C_one x)
theorem rnum40_calls (b:Value) (xs:List UInt8) (n:Int) (hn:I64 n) (hl:xs.length+8 < 1099511627776) (w0 w:World) (fp0:List Nat) (R:List Asn) (hS:St w0 fp0 (slA 5 b (xs.map u8C)::R) w):
 Calls Tryz.prog 61 #[b, .int .i64 n] w λ e w'=> ∃b',e=.returned b'/\St w0 fp0 (slA 5 b' ((xs++numL n).map u8C)::R) w':=by
 have HC:=Lib.hid (RNumber_calls n hn w);have HS:=Lib.hid hS;have HL:Hid ((xs.map u8C).length+(textOf (numL n)).size < 1099511627776):=by show _ < _;rw [List.length_map,num_size];exact hl
 clear hS hn hl;go_enter Tryz.func61,Tryz.ntmps61;go_wp2_with fail;(with_reducible refine HC.out.mono ?_);rintro e w1 ⟨rfl,hb⟩;have HS1:=Lib.hid (HS.out.mono hb);clear hb HC HS
 go_wp2_with (first
  | (at_builtin;go_loud (refine wpList_appSl rfl _ _ _ _ rfl rfl rfl appBT HS1.out (Go.Src.ofString w1 (by kernel_rfl) (textOf (numL n))) HL.out ?_);intro v3 w3 h3))
 go_ret;exact ⟨v3,rfl,h3.out.snoc8 (by rw [<-bytes_textOf (numL n)];rfl)⟩
theorem St.litA {w0 w:World} {fp0:List Nat} {R:List Asn} (h:St w0 fp0 R w) (l:List UInt8) (hl:l.length<=maxLen):St w0 fp0 (slA 5 (.slice (some ⟨w.heap.size,0,none⟩) l.length l.length) (l.map u8C)::R) (w.alloc (.cells (l.map u8C).toArray 5)):=by
 refine h.addF (f:=[w.heap.size]) ⟨?_,rfl⟩ ((Below.refl _ _).alloc (Nat.le_refl _) _) (λ k hk=> by rw [List.mem_singleton.1 hk];exact Nat.le_refl _);have e:(l.map u8C).length=l.length:=List.length_map ..;have h:=World.ownsRow_lit (base:=0) (e:=5) (size:=1) w (l.map u8C).toArray l.length (Nat.zero_le _) hl (by simp);rw [e];exact h
theorem src_lit8 (w:World) (l:List UInt8):Go.Src Tryz.prog 1 52 (.slice (some ⟨w.heap.size,0,none⟩) l.length l.length) l.length (l.map u8C) (w.alloc (.cells (l.map u8C).toArray 5)):=by
 have h:=src_lit (P:=Tryz.prog) (tx:=52) (e':=5) (by kernel_rfl) (w.alloc (.cells (l.map u8C).toArray 5)) w.heap.size l.length l.length 5 (0,0) (l.map u8C).toArray (heap_alloc_new _ _) (by simp) (by simpa using u8C_one l);simpa using h
theorem rvalue05_calls (v:Vl) (hi:I64 v.int) (hl:v.text.size < 100000000000) (w:World):
 Calls Tryz.prog 131 #[v.val] w λ e w'=> ∃b',e=.returned b'/\St w [] [slA 5 b' ((encL v).map u8C)] w':=by
 obtain ⟨K,I,T⟩:=v;simp only at hi hl;unfold Vl.val;simp only;have HV:=Lib.hid ((St.start (w:=w) (L:=[]) (fp:=[]) rfl).newblk 68 #[.int .i64 K, .int .i64 I, .string T]);have V:=VarIs.new w #[.int .i64 K, .int .i64 I, .string T] 68;by_cases hk1:K=1
 · subst hk1
   have hlit:=HV.out.litA [2] (by decide);have HE:Hid (encL ⟨1,I,T⟩=[2]++numL I):=rfl;have HLN:Hid (([2].map u8C).length+((numL I).map u8C).length < 1099511627776):=by show _ < _;rw [List.length_map,List.length_map,numL_length];decide
   have HC:=Lib.hid (λ w=> rnumber05_calls I hi w);have HS:=Lib.hid hlit;simp only [World.size_alloc,List.length_cons,List.length_nil,Nat.zero_add] at HS;clear hlit HV hi hl;go_enter Tryz.func131,Tryz.ntmps131;go_wp2_with fail;(with_reducible refine (HC.out _).mono ?_);rintro e w1 ⟨c,rfl,h1⟩;have HS1:=Lib.hid ((newB HS.out h1).perm (List.Perm.swap _ _ _));obtain ⟨_,hr⟩:=(newB HS.out h1).has 0 rfl;have HSRC:=Lib.hid (src_sl hr);clear HC HS h1 hr V
   go_wp2_with (first
    | (at_builtin;go_loud (refine wpList_appSl rfl _ _ _ _ rfl rfl rfl appBS HS1.out HSRC.out HLN.out ?_);intro v3 w3 h3))
   go_ret;exact ⟨v3,rfl,by rw [HE.out];exact (St_re (L:=[_,_,_]) (h3.out.snoc8 rfl) [1,2,0] [] (by kernel_rfl)).drop.drop⟩
 · have hk1':((K:Int)==1)=false:=by simpa using hk1
   by_cases hk2:K=2
   · subst hk2
     have HE:Hid (encL ⟨2,I,T⟩=[3]++(bytes T).flatMap escB++[0]):=rfl;have hlit:=HV.out.litA [3] (by decide);have HS:=Lib.hid hlit;simp only [World.size_alloc,List.length_cons,List.length_nil,Nat.zero_add] at HS;have HL:=Lib.hid hl;have hbl:(bytes T).length=T.size:=by simp [bytes]
     have HBL:=Lib.hid hbl;clear hlit HV hi hl hbl;go_enter Tryz.func131,Tryz.ntmps131;go_upto_region 7 with (fail)
     have HS:Hid (St w [] [slA 5 (.slice (some ⟨w.heap.size+1,0,none⟩) 1 1) (([3]++((bytes T).take 0).flatMap escB).map u8C),blkA w.heap.size 68 #[.int .i64 2, .int .i64 I, .string T]] ((w.alloc (.cells #[.int .i64 2, .int .i64 I, .string T] 68)).alloc (.cells #[.int .u8 3] 5))):=HS.out;generalize (w.alloc (.cells #[.int .i64 2, .int .i64 I, .string T] 68)).alloc (.cells #[.int .u8 3] 5)=W at *;clear V;obtain ⟨vb,hvb⟩:∃vb,w.heap.size=vb:=⟨_,rfl⟩
     rw [hvb] at HS ⊢;clear hvb;go_loopg [3,4] T.size (λ g z3 z4 wr=> ∃k:Nat,z4=.int .i64 k/\k+g=T.size/\Hid (St w [] [slA 5 z3 (([3]++((bytes T).take k).flatMap escB).map u8C),blkA vb 68 #[.int .i64 2, .int .i64 I, .string T]] wr))
     case atStart=> exact ⟨0,rfl,by omega,HS.out⟩
     case round=>
      clear HS;obtain ⟨k,rfl,hkg,Hs⟩:=hrel;obtain ⟨_,hp⟩:=Hs.out.has 1 rfl;have c2:=(blk_get hp).1 2;have cl:=(blk_get hp).2.2;simp only [List.getElem?_toArray,List.getElem?_cons_zero,List.getElem?_cons_succ] at c2;have HLN:Hid ((([3]++((bytes T).take k).flatMap escB).map u8C).length+2 < 1099511627776):=by
       show _ < _;rw [List.length_map,List.length_append];have h1:=esc_len ((bytes T).take k);have h2:((bytes T).take k).length<=T.size:=by rw [List.length_take,HBL.out];omega
       have:=HL.out;simp only [List.length_cons,List.length_nil];omega
      by_cases hk:k < T.size
      · have hkb:k < (bytes T).length:=by rw [HBL.out];exact hk
        have hkn:(k:Int) < T.size:=by omega
        have hst:([3]++((bytes T).take (k+1)).flatMap escB)=([3]++((bytes T).take k).flatMap escB)++escB (T[k]'hk):=by rw [List.take_add_one,List.getElem?_eq_getElem hkb,List.flatMap_append,List.append_assoc];simp [bytes];rfl
        have HST:=Lib.hid hst;have Hkg:=Lib.hid hkg;have b0:=byte_eq (c:=T[k]'hk) 0 (by decide);have b1:=byte_eq (c:=T[k]'hk) 1 (by decide);obtain ⟨c,hc⟩:∃c,T[k]'hk=c:=⟨_,rfl⟩
        rw [hc] at b0 b1;have hts:T.size < 100000000000:=HL.out;have HC:=Lib.hid hc;rw [hc] at HST;clear hc;generalize ([3]++((bytes T).take k).flatMap escB)=xs at *;clear hkg hst hp hkb;have HM:=Lib.hid (λ o=> Hs.out.mono (w':=wr.alloc o) ((Below.refl _ _).alloc (Nat.le_refl _) _));by_cases h0:c=0
        · subst h0
          have q0:((T[k]'hk).toNat:Int)==0:=by rw [HC.out];rfl
          clear b0 b1;have HLN2:Hid ((xs.map u8C).length+2 < 1099511627776):=HLN.out
          go_wp2_with (first
           | (at_builtin;go_loud (refine wpList_appSl rfl _ _ _ _ rfl rfl rfl appBS (HM.out _) (src_lit8 wr [1,1]) HLN2.out ?_);intro v3 w3 h3))
          go_roundg (gk - 1)
          case rel=> exact ⟨k+1,by go_num,by have:=Hkg.out;omega,by rw [HST.out];exact h3.out.snoc8 rfl⟩
          case measure=> have:=Hkg.out;omega
        · have g0:(((T[k]'hk).toNat:Int)==0)=false:=by rw [HC.out,show ((0:Int)=((0:Nat):Int)) from rfl,b0];simpa using h0
          by_cases h1:c=1
          · subst h1
            have q1:((T[k]'hk).toNat:Int)==1:=by rw [HC.out];rfl
            clear b0 b1;have HLN2:Hid ((xs.map u8C).length+2 < 1099511627776):=HLN.out
            go_wp2_with (first
             | (at_builtin;go_loud (refine wpList_appSl rfl _ _ _ _ rfl rfl rfl appBS (HM.out _) (src_lit8 wr [1,2]) HLN2.out ?_);intro v3 w3 h3))
            go_roundg (gk - 1)
            case rel=> exact ⟨k+1,by go_num,by have:=Hkg.out;omega,by rw [HST.out];exact h3.out.snoc8 rfl⟩
            case measure=> have:=Hkg.out;omega
          · have g1:(((T[k]'hk).toNat:Int)==1)=false:=by rw [HC.out,show ((1:Int)=((1:Nat):Int)) from rfl,b1];simpa using h1
            have HLN2:Hid ((xs.map u8C).length+1 < 1099511627776):=by have:=HLN.out;show _ < _;omega
            have he:escB c=[c]:=by rw [escB,if_neg];intro h;rw [UInt8.le_iff_toNat_le] at h;have e1:(1:UInt8).toNat=1:=rfl;have a0:c.toNat≠0:=λ e=> h0 (by rw [<-UInt8.toNat_inj];exact e);have a1:c.toNat≠1:=λ e=> h1 (by rw [<-UInt8.toNat_inj];exact e);omega
            rw [he,<-HC.out] at HST;clear he b0 b1 h0 h1
            go_wp2_with (first
             | (at_builtin;go_loud (refine wpList_appSl rfl _ _ _ _ rfl rfl rfl appBS (HM.out _) (src_lit8 wr [T[k]'hk]) HLN2.out ?_);intro v3 w3 h3))
            go_roundg (gk - 1)
            case rel=> exact ⟨k+1,by go_num,by have:=Hkg.out;omega,by rw [HST.out];exact h3.out.snoc8 rfl⟩
            case measure=> have:=Hkg.out;omega
      · obtain rfl:k=T.size:=by omega
        have hall:(bytes T).take T.size=bytes T:=List.take_of_length_le (by rw [HBL.out];exact Nat.le_refl _);rw [hall] at Hs HLN;have HM:=Lib.hid (λ o=> Hs.out.mono (w':=wr.alloc o) ((Below.refl _ _).alloc (Nat.le_refl _) _));have HLN2:Hid ((([3]++(bytes T).flatMap escB).map u8C).length+1 < 1099511627776):=by have:=HLN.out;show _ < _;omega
        clear hall hkg hp hk
        go_wp2_with (first
         | (at_builtin;go_loud (refine wpList_appSl rfl _ _ _ _ rfl rfl rfl appBS (HM.out _) (src_lit8 wr [0]) HLN2.out ?_);intro v3 w3 h3))
        go_ret;exact ⟨v3,rfl,by rw [HE.out];exact (St_re (L:=[_,_]) (h3.out.snoc8 rfl) [1,0] [] (by kernel_rfl)).drop⟩
   · have hk2':((K:Int) !=2)=true:=by simpa using hk2
     have HE:Hid (encL ⟨K,I,T⟩=[1]):=by show _=_;simp [encL,hk1,hk2]
     have hlit:=HV.out.litA [1] (by decide);have HS:=Lib.hid hlit.drop;clear hlit;have HS:=Lib.hid (HV.out.litA [1] (by decide));simp only [World.size_alloc,List.length_cons,List.length_nil,Nat.zero_add] at HS;clear HV hi hl;go_enter Tryz.func131,Tryz.ntmps131;go_wp2;go_ret;exact ⟨_,rfl,by rw [HE.out];exact (St_re (L:=[_,_]) HS.out [1,0] [] (by kernel_rfl)).drop⟩
end
end Go.Proofs.YtpdlkdoogojboaaGreat
