/- Part 8 of the proof: C2, M5, M6, M7, M8r, M8, M9, M9r, Ma, Mb, Mc, Mdr -/
import Derived.Test.YtpdlkdoogojboaaGreatU01
import Derived.Test.YtpdlkdoogojboaaGreatU07
set_option maxHeartbeats 16000000
set_option maxRecDepth 100000
namespace Go.Proofs.YtpdlkdoogojboaaGreat
open Go Go.RowKit
noncomputable section
theorem compareFunc_calls (R S:Rw) (r s:Value) (w:World) (hr:ValsAt w R r) (hs:ValsAt w S s):Calls Tryz.prog 118 #[r,s, .func (.func 119) #[] #[]] w λ e w'=> e=.returned (.int .i64 (cmpR R S))/\Below w.heap.size w w':=by
 obtain ⟨a,n,c,rfl,hn,hm⟩:=hr.shape;obtain ⟨a',n',c',rfl,hn',hm'⟩:=hs.shape;unfold maxLen at hm hm';have Hr:=Lib.hid hr;have Hs:=Lib.hid hs;have Hn:=Lib.hid hn;have Hn':=Lib.hid hn';clear hr hs hn hn';go_enter Tryz.func118,Tryz.ntmps118;go_wp2;go_loopw [13] (λ i wr=> ∃k:Nat,k<=n/\k<=n'/\i=.int .i64 k/\Hid (cmpR R S=cmpR (R.drop k) (S.drop k))/\Hid (Below w.heap.size w wr)) (λ i _=> n - (intOf i).toNat)
 case atStart=> exact ⟨0,Nat.zero_le _,Nat.zero_le _,rfl,rfl,Below.refl _ _⟩
 case round=>
  obtain ⟨k,hk,hk',rfl,He,Hb⟩:=hrel;by_cases hlt:k < n
  · have hk1:k < R.length:=by have:=Hn.out;omega
    obtain ⟨b,o,rfl⟩:=Hr.out.has k hlt;obtain ⟨c0,c1,c2⟩:=(Hr.out.mono Hb.out).cell k hk1;have hbl:=World.block_lt_of_cell? _ _ c0;by_cases hlt':k < n'
    · have hk2:k < S.length:=by have:=Hn'.out;omega
      obtain ⟨b',o',rfl⟩:=Hs.out.has k hlt';obtain ⟨d0,d1,d2⟩:=(Hs.out.mono Hb.out).cell k hk2;have hbl':=World.block_lt_of_cell? _ _ d0;have Hst:=Lib.hid (cmpR_step hk1 hk2);have HC:=Lib.hid (λ w'=> cmpV_calls R[k] S[k] w');have Hb0:Hid (∀o o',Below w.heap.size w ((wr.alloc o).alloc o')):=λ o o'=> (Hb.out.alloc Hb.out.size o).alloc (by have:=Hb.out.size;simp;omega) o';have V1:Hid (∀c,VarIs (wr.alloc (.cells c 68)) wr.heap.size c):=λ c=> VarIs.new wr c 68;generalize R[k]=x at *;generalize S[k]=y at *;clear hk1 hk2;go_wp2_with fail;refine (HC.out _).mono ?_;rintro e w1 ⟨rfl,hb1⟩;have Hb1:=Lib.hid ((Hb0.out _ _).trans (hb1.mono (Hb0.out _ _).size));clear hb1 c0 c1 c2 d0 d1 d2;by_cases h0:cmpV x y=0
      · have b0:(cmpV x y !=0)=false:=by simp [h0]
        have Hnext:Hid (cmpR R S=cmpR (R.drop (k+1)) (S.drop (k+1))):=by show _=_;rw [He.out,Hst.out,if_pos h0]
        clear h0;go_wp2;go_roundw
        case rel=> exact ⟨k+1,by omega,by omega,by go_num,Hnext,Hb1⟩
        case measure=> simp [intOf];omega
      · have b0:(cmpV x y !=0)=true:=by simp [h0]
        have Hnext:Hid (cmpR R S=cmpV x y):=by show _=_;rw [He.out,Hst.out,if_neg h0]
        clear h0;go_wp2;go_ret;exact ⟨by rw [Hnext.out];rfl,Hb1.out⟩
    · have Hres:Hid (cmpR R S=1):=by show _=_;rw [He.out,cmpR_long hk1 (by have:=Hn'.out;omega)]
      have hge:n'<=k:=by omega
      have Hb0:Hid (∀o,Below w.heap.size w (wr.alloc o)):=λ o=> Hb.out.alloc Hb.out.size o;generalize R[k]=x at *;clear hk1 hlt';go_wp2;go_ret;exact ⟨by rw [Hres.out];rfl,Hb0.out _⟩
  · obtain rfl:k=n:=by omega
    by_cases hlt':k < n'
    · have Hres:Hid (cmpR R S= -1):=by show _=_;rw [He.out,cmpR_short (by have:=Hn.out;omega) (by have:=Hn'.out;omega)]
      go_wp2;go_ret;exact ⟨by rw [Hres.out];rfl,Hb.out⟩
    · have Hres:Hid (cmpR R S=0):=by show _=_;rw [He.out,cmpR_both (by have:=Hn.out;omega) (by have:=Hn'.out;omega)]
      go_wp2;go_ret;exact ⟨by rw [Hres.out];rfl,Hb.out⟩
theorem compareRows_calls (R S:Rw) (r s:Value) (w:World) (hr:ValsAt w R r) (hs:ValsAt w S s):Calls Tryz.prog 82 #[r,s] w λ e w'=> e=.returned (.int .i64 (cmpR R S))/\Below w.heap.size w w':=by
 have H:=Lib.hid (compareFunc_calls R S r s w hr hs);clear hr hs;go_enter Tryz.func82,Tryz.ntmps82;go_wp2_with fail;refine H.out.mono ?_;rintro e w1 ⟨rfl,hb1⟩;have Hb1:=Lib.hid hb1;clear hb1;go_wp2;go_ret;exact ⟨rfl,Hb1.out⟩
theorem table_in (b k:Nat) (ps:List Value) (tv u:Value) (w:World) (h1:w.cell? ⟨b,1,none⟩=some tv) (hs:SlX [] w 1 ps.length ps tv) (hu:ps[k]? =some u):Calls Tryz.prog 21 #[.pointer (some ⟨b,0,none⟩), .int .i64 k] w λ e w'=> e=.returned u/\w=w':=by
 obtain ⟨b',o,c,rfl,hc⟩:=hs.some hu;have hk:=(List.getElem?_eq_some_iff.1 hu).1;generalize ps.length=n at *;have hk':(k:Int) < n:=by omega
 have hbl:=World.block_lt_of_cell? w _ h1;have hbl':=World.block_lt_of_cell? w _ hc;have hnn:decide ((n:Int)<=k)=false:=by simp;omega
 clear hs hu;go_enter Tryz.func21,Tryz.ntmps21;go_wp2;go_ret;exact ⟨rfl,rfl⟩
theorem table_out (b n c:Nat) (a:Option Addr) (i:Int) (w:World) (h1:w.cell? ⟨b,1,none⟩=some (.slice a n c)) (hi:¬ (0<=i/\i < n)):Calls Tryz.prog 21 #[.pointer (some ⟨b,0,none⟩), .int .i64 i] w λ e w'=> e=.returned (.pointer none)/\w=w':=by
 have hbl:=World.block_lt_of_cell? w _ h1;by_cases h0:i < 0
 · go_enter Tryz.func21,Tryz.ntmps21
   go_wp2;go_ret;exact ⟨rfl,rfl⟩
 · have h2:(n:Int)<=i:=by omega
   clear hi;go_enter Tryz.func21,Tryz.ntmps21;go_wp2;go_ret;exact ⟨rfl,rfl⟩
theorem storable41_calls (v:Vl) (w:World) (hs:v.text.size<=maxLen):Calls Tryz.prog 117 #[v.val] w λ e w'=> e=.returned (.bool (!okV v))/\Below w.heap.size w w':=by
 have HC:=Lib.hid (valid_calls v (w.alloc (.cells #[.int .i64 v.kind, .int .i64 v.int, .string v.text] 68)) hs);have HB:=Lib.hid ((Below.refl _ w).alloc (Nat.le_refl _) (.cells #[.int .i64 v.kind, .int .i64 v.int, .string v.text] 68));unfold Vl.val at *;generalize okV v=q at *;clear hs;go_enter Tryz.func117,Tryz.ntmps117;go_wp2_with fail;(with_reducible refine HC.out.mono ?_);rintro e w1 ⟨rfl,hb⟩;have Hb:=Lib.hid (HB.out.trans (hb.mono HB.out.size));clear hb HC;go_wp2;go_ret;exact ⟨rfl,Hb.out⟩
theorem storable40_calls (b k:Nat) (td:List Td) (sv:Value) (hk:k < td.length) (r:Rw) (v:Value) (w:World) (hc:w.cell? ⟨b,0,none⟩=some sv) (hsc:SchX w td sv) (hv:ValsAt w r v):
 Calls Tryz.prog 81 #[.pointer (some ⟨b,0,none⟩), .int .i64 k,v] w λ e w'=> e=.returned (.bool (storB td[k].n r))/\Below w.heap.size w w':=by
 have hl:=World.block_lt_of_cell? w _ hc;have HC:=Lib.hid (containsV_calls r v 117 (λ x=> !okV x) w (enters_own Tryz.func117 (by kernel_rfl) rfl) hv λ x hx w' hb=> storable41_calls x w' (hv.txt x hx));obtain ⟨a,n,cc,rfl,hn,hm⟩:=hv.shape;obtain ⟨b',o,c',rfl,hbl', -,p1, -⟩:=hsc.cells k hk;have hk':(k:Int) < td.length:=by omega
 generalize td[k].ca=ca at *;generalize td[k].cc=tc at *;generalize td[k].n=cols at *;generalize td.length=m at *;have hq:r.any (λ x=> !okV x)=!r.all okV:=by rw [List.all_eq_not_any_not,Bool.not_not]
 rw [hq] at HC;obtain ⟨q,hq'⟩:∃q,storB cols r=q:=⟨_,rfl⟩
 have HQ:Hid ((decide (n=cols) && r.all okV)=q):=by show _=_;rw [hn];exact hq'
 rw [hq'];clear hv hn hq hq' hm hsc;generalize r.all okV=t at *;by_cases he:n=cols
 · have he':((n:Int)==cols)=true:=by simp [he]
   have HE:=Lib.hid he;clear he;go_enter Tryz.func81,Tryz.ntmps81;go_wp2_with fail;(with_reducible refine HC.out.mono ?_);rintro e w1 ⟨rfl,hb⟩;have Hb:=Lib.hid hb;clear hb HC;go_wp2;go_ret;exact ⟨by rw [<-HQ.out];simp [HE.out],Hb.out⟩
 · have he':((n:Int)==cols)=false:=by simp;omega
   have HE:=Lib.hid he;clear he;go_enter Tryz.func81,Tryz.ntmps81;go_wp2;go_ret;exact ⟨by rw [<-HQ.out];simp [HE.out],Below.refl _ _⟩
theorem db_get {w0 w:World} {fp0:List Nat} {R:List Asn} {b:Nat} {q:StQ} (h:St w0 fp0 (dbP b q++R) w):w.cell? ⟨b,0,none⟩=some q.sv/\w.cell? ⟨b,1,none⟩=some q.tv/\b < w.heap.size/\SchX w q.td q.sv/\SlX [] w 1 (q.ts.map λ t=> ptrV t.S).length (q.ts.map λ t=> ptrV t.S) q.tv:=by
 obtain ⟨_,hb⟩:=h.has 0 rfl;obtain ⟨_,h1⟩:=h.has 1 rfl;obtain ⟨_,h2⟩:=h.has 2 rfl;exact ⟨(blk_get hb).1 0,(blk_get hb).1 1,(blk_get hb).2.2,schA_at h1,SlX.of_sl h2 (by simp)⟩
theorem storeA_ok {S cols:Nat} {I:List (List Int)} {L:LL} {next:Int} {w:World} {f:List Nat} (h:(storeA S cols I L next).p w f):AscI L/\(1<=next/\next<=4611686018427387905)/\∀x∈L,1<=x.1/\x.1 < next/\RowOk cols x.2:=by
 obtain ⟨s,g,f2,⟨hk, -⟩, -, -, -⟩:=h;exact ⟨hk.asc,hk.nx,hk.row⟩
theorem rowOk_txt {cols:Nat} {r:Rw} (h:RowOk cols r):∀v∈r,v.text.size<=maxLen:=by
 intro v hv;have h1:=(h.2 v hv).1;unfold okV at h1;unfold maxLen;split at h1
 · have:=(Bool.and_eq_true_iff.1 h1).2
   rw [of_decide_eq_true this];decide
 · split at h1
   · rw [of_decide_eq_true h1];decide
   · split at h1
     · have:=(Bool.and_eq_true_iff.1 (Bool.and_eq_true_iff.1 h1).2).2
       have:=of_decide_eq_true this;omega
     · cases h1
def rowD (D:Db) (i:Int):Option (Nat×LL×Int):=if 0<=i then D[i.toNat]? else none
def chkD (D:Db) (c:Chg):Int:=match rowD D c.tb with
 | some t=> chkT t.1 t.2.1 c.id c.old c.new
 | none=> 1
def appD (D:Db) (c:Chg):Db:=match rowD D c.tb with
 | some t=> if chkT t.1 t.2.1 c.id c.old c.new=0 then D.set c.tb.toNat (t.1,appT t.1 c.id c.new t.2.1,appN t.1 c.id c.new t.2.2) else D
 | none=> D
theorem rowD_in {D:Db} {k:Nat} {t:Nat×LL×Int} (h:D[k]? =some t):rowD D k=some t:=by
 unfold rowD;rw [if_pos (by omega)];exact h
theorem rowD_out {D:Db} {i:Int} (h:¬ (0<=i/\i < D.length)):rowD D i=none:=by
 unfold rowD;by_cases h0:0<=i
 · rw [if_pos h0]
   exact List.getElem?_eq_none (by omega)
 · rw [if_neg h0]
theorem cells4 {w0 w:World} {fp0:List Nat} {L:List Asn} {b:Nat} {t:TypeId} {c0 c1 c2 c3:Value} (h:St w0 fp0 L w) (i:Nat) (hi:L[i]? =some (blkA b t #[c0,c1,c2,c3])):
 w.cell? ⟨b,0,none⟩=some c0/\w.cell? ⟨b,1,none⟩=some c1/\w.cell? ⟨b,2,none⟩=some c2/\w.cell? ⟨b,3,none⟩=some c3/\b < w.heap.size:=by
 obtain ⟨_,hb⟩:=h.has i hi;obtain ⟨h1, -,h3⟩:=blk_get hb;exact ⟨h1 0,h1 1,h1 2,h1 3,h3⟩
def invB (cols:Nat) (id:Int) (old new:Rw):Bool:=decide (¬ (1<=id/\id<=4611686018427387904)\/(old=[]/\new=[])\/(new≠[]/\storB cols new=false))
theorem chkT_inv {cols:Nat} {L:LL} {id:Int} {old new:Rw} (h:invB cols id old new=true):chkT cols L id old new=1:=by
 unfold chkT;rw [if_pos (of_decide_eq_true h)]
theorem chkT_old {cols:Nat} {L:LL} {id:Int} {old new:Rw} (h:invB cols id old new=false) (ho:old=[]):chkT cols L id old new=if (getL L id).isSome then 5 else 0:=by
 unfold chkT;rw [if_neg (of_decide_eq_false h),if_pos ho]
theorem chkT_new {cols:Nat} {L:LL} {id:Int} {old new:Rw} (h:invB cols id old new=false) (ho:old≠[]):chkT cols L id old new=if getL L id=some old then 0 else 4:=by
 unfold chkT;rw [if_neg (of_decide_eq_false h),if_neg ho]
theorem St.unpickT {w0 w:World} {fp0:List Nat} {R:List Asn} {b:Nat} {q:StQ} {i:Nat} (hi:i < q.ts.length) (hs:St w0 fp0 (tbA q.ts[i]::(dbP b q++((q.ts.eraseIdx i).map tbA++R))) w):St w0 fp0 (dbP b q++(q.ts.map tbA++R)) w:=
 hs.perm ((List.Perm.append_left _ (List.Perm.append_right R (map_pick tbA q.ts i hi))).trans List.perm_middle).symm
theorem St.sinkD {w0 w:World} {fp0:List Nat} {R:List Asn} {b:Nat} {q:StQ} {A:Asn} (hs:St w0 fp0 (A::(dbP b q++(q.ts.map tbA++R))) w):St w0 fp0 (dbP b q++(q.ts.map tbA++(A::R))) w:=by
 refine hs.perm ?_
 classical refine List.perm_iff_count.2 λ a=> ?_;simp only [List.count_append,List.count_cons];omega
theorem get_txt {S cols:Nat} {I:List (List Int)} {L:LL} {next:Int} {w:World} {f:List Nat} (h:(storeA S cols I L next).p w f) (id:Int):∀v∈(getL L id).getD [],v.text.size<=maxLen:=by
 cases e:getL L id with
 | none=> simp
 | some r=>
  unfold getL at e;obtain ⟨x,hx,rfl⟩:=Option.map_eq_some_iff.1 e;exact rowOk_txt ((storeA_ok h).2.2 x (List.mem_of_find?_eq_some hx)).2.2
theorem check_calls (b:Nat) (q:StQ) (D:Db) (hq:q.Ok D) (c:Chg) (w0 w:World) (fp0:List Nat) (R:List Asn) (hc:Rd w0 fp0 R λ w=> c.X w) (hS:St w0 fp0 (dbP b q++(q.ts.map tbA++R)) w):
 Calls Tryz.prog 50 #[.pointer (some ⟨b,0,none⟩),c.v] w λ e w'=> e=.returned (.int .i64 (chkD D c))/\St w0 fp0 (dbP b q++(q.ts.map tbA++R)) w':=by
 have HC:=Lib.hid hc;obtain ⟨tb,id,oa,oc,na,nc,old,new⟩:=c;unfold Chg.v Chg.ov Chg.nv chkD;simp only;obtain ⟨on,hon⟩:∃on,old.length=on:=⟨_,rfl⟩
 obtain ⟨nn,hnn⟩:∃nn,new.length=nn:=⟨_,rfl⟩
 have HON:=Lib.hid hon;have HNN:=Lib.hid hnn;rw [hon,hnn];have HS0:=Lib.hid (hS.newblk 35 #[.int .i64 tb, .int .i64 id, .slice oa on oc, .slice na nn nc]);obtain ⟨ch,hch⟩:∃ch:Int,(match rowD D tb with | some t=> chkT t.1 t.2.1 id old new | none=> 1)=ch:=⟨_,rfl⟩
 have HCH:=Lib.hid hch;have HQ:=Lib.hid hq;rw [hch];clear hc hS hon hnn hch hq;go_enter Tryz.func50,Tryz.ntmps50;go_upto_region 1 with (fail)
 generalize hW:w.alloc _=W at *;clear hW;obtain ⟨cb,hcb⟩:∃cb,w.heap.size=cb:=⟨_,rfl⟩
 rw [hcb] at HS0 ⊢;clear hcb;obtain ⟨c0,c1,c2,c3,cl⟩:=cells4 HS0.out 0 rfl;have hdb:=db_get HS0.out.drop;by_cases ht:0<=tb/\tb < q.ts.length
 · obtain ⟨k,rfl⟩:∃k:Nat,tb=k:=⟨tb.toNat,by omega⟩
   have hk:k < q.ts.length:=by omega
   have HT:=Lib.hid (table_in b k _ q.tv (ptrV q.ts[k].S) W hdb.2.1 hdb.2.2.2.2 (by rw [List.getElem?_map,List.getElem?_eq_getElem hk];rfl));have hkd:k < q.td.length:=by rw [HQ.out.dlen,<-HQ.out.tlen];exact hk
   obtain ⟨cols,hcols⟩:∃cols,q.ts[k].cols=cols:=⟨_,rfl⟩
   obtain ⟨L,hL⟩:∃L,q.ts[k].L=L:=⟨_,rfl⟩
   obtain ⟨next,hnext⟩:∃next,q.ts[k].next=next:=⟨_,rfl⟩
   obtain ⟨S,hSS⟩:∃S,q.ts[k].S=S:=⟨_,rfl⟩
   have htd:q.td[k].n=cols:=by rw [HQ.out.tdn k hk hkd,hcols]
   have hcl:cols<=1000000:=by have:=(HQ.out.sm _ (List.getElem_mem hkd)).n;omega
   have HCH2:Hid (chkT cols L id old new=ch):=by show _=_;rw [<-HCH.out,rowD_in (HQ.out.at k hk),hcols,hL]
   have hcx:=HC.out.at (M:=_::(dbP b q++q.ts.map tbA)) (show St w0 fp0 ((_::(dbP b q++q.ts.map tbA))++R) W by simp only [List.cons_append,List.append_assoc];exact HS0.out)
   have HOV:=Lib.hid hcx.old;have HNV:=Lib.hid hcx.new;unfold Chg.ov at HOV;unfold Chg.nv at HNV;simp only at HOV HNV;rw [HON.out] at HOV;rw [HNN.out] at HNV;have HSto:=Lib.hid (storable40_calls b k q.td q.sv hkd new (.slice na nn nc) W hdb.1 hdb.2.2.2.1 HNV.out);rw [htd] at HSto;have HK:=Lib.hid hk;rw [hSS] at HT;have HNM:=Lib.hid (And.intro hcols (And.intro hL (And.intro hnext hSS)));have kk:(0:Int)<=k:=by omega
   clear hdb hcx ht hkd htd hcols hL hnext hSS;unfold ptrV at HT;go_wp2_with fail;(with_reducible refine HT.out.mono ?_);rintro e w1 ⟨rfl,rfl⟩;clear HT;go_upto_region 2 with (fail)
   obtain ⟨iv,hiv⟩:∃iv,invB cols id old new=iv:=⟨_,rfl⟩
   have HIV:=Lib.hid hiv;obtain ⟨st,hst⟩:∃st,storB cols new=st:=⟨_,rfl⟩
   have HST:=Lib.hid hst;rw [hst] at HSto;have HO:Hid (on=0↔old=[]):=by show _↔_;rw [<-HON.out];exact List.length_eq_zero_iff
   have HN:Hid (nn=0↔new=[]):=by show _↔_;rw [<-HNN.out];exact List.length_eq_zero_iff
   clear hiv hst;go_cut [50] (λ z wx=> z=.bool iv/\Hid (St w0 fp0 (blkA cb 35 #[.int .i64 k, .int .i64 id, .slice oa on oc, .slice na nn nc]::(dbP b q++(q.ts.map tbA++R))) wx))
   case first=>
    by_cases h1:id < 1
    · have HE:Hid (iv=true):=by
       show _=_;rw [<-HIV.out];exact decide_eq_true (.inl (by omega))
      obtain rfl:=HE.out;clear HE;go_wp2;go_meet;exact ⟨rfl,HS0.out⟩
    · by_cases h2:4611686018427387904 < id
      · have HE:Hid (iv=true):=by
         show _=_;rw [<-HIV.out];exact decide_eq_true (.inl (by omega))
        obtain rfl:=HE.out;clear HE;go_wp2;go_meet;exact ⟨rfl,HS0.out⟩
      · have HR:Hid (1<=id/\id<=4611686018427387904):=by show _/\_;omega
        by_cases h4:nn=0
        · subst h4
          have hn:=HN.out.1 rfl;by_cases h3:on=0
          · subst h3
            have HE:Hid (iv=true):=by show _=_;rw [<-HIV.out];exact decide_eq_true (.inr (.inl ⟨HO.out.1 rfl,hn⟩))
            obtain rfl:=HE.out;clear HE hn;go_wp2;go_meet;exact ⟨rfl,HS0.out⟩
          · have h3':((on:Int)==0)=false:=by simp;omega
            have HE:Hid (iv=false):=by
             show _=_;rw [<-HIV.out];refine decide_eq_false λ h=> ?_;rcases h with h | h | h
             · exact h HR.out
             · exact h3 (HO.out.2 h.1)
             · exact h.1 hn
            obtain rfl:=HE.out;clear HE hn h3;go_wp2;go_meet;exact ⟨rfl,HS0.out⟩
        · have h4':0 < nn:=by omega
          have h4'':((nn:Int)==0)=false:=by simp;omega
          have HE:Hid (iv=!st):=by
           show _=_;rw [<-HIV.out];cases st with
           | true=>
            refine decide_eq_false λ h=> ?_;rcases h with h | h | h
            · exact h HR.out
            · exact h4 (HN.out.2 h.2)
            · rw [HST.out] at h;cases h.2
           | false=> exact decide_eq_true (.inr (.inr ⟨λ e=> h4 (HN.out.2 e),HST.out⟩))
          obtain rfl:=HE.out;clear HE h4;by_cases h3:on=0
          · subst h3
            go_wp2_with fail;(with_reducible refine HSto.out.mono ?_);rintro e w2 ⟨rfl,hb2⟩;have H2:=Lib.hid (HS0.out.mono hb2);clear HSto hb2;go_wp2;go_meet;exact ⟨rfl,H2.out⟩
          · have h3':((on:Int)==0)=false:=by simp;omega
            clear h3;go_wp2_with fail;(with_reducible refine HSto.out.mono ?_);rintro e w2 ⟨rfl,hb2⟩;have H2:=Lib.hid (HS0.out.mono hb2);clear HSto hb2;go_wp2;go_meet;exact ⟨rfl,H2.out⟩
   obtain ⟨rfl,Hs⟩:=hcut;clear HS0 HSto HST HNV c0 c1 c2 c3 cl;cases iv with
   | true=>
    have HF:Hid (ch=1):=by show _=_;rw [<-HCH2.out,chkT_inv HIV.out]
    go_wp2;go_ret;exact ⟨by rw [HF.out];rfl,Hs.out.drop⟩
   | false=>
    obtain ⟨c0,c1,c2,c3,cl⟩:=cells4 Hs.out 0 rfl;have hp:=Hs.out.sinkD.pickT k HK.out;unfold tbA at hp;rw [HNM.out.1,HNM.out.2.1,HNM.out.2.2.1,HNM.out.2.2.2] at hp;have HG:=Lib.hid (SGet_calls S cols _ L next id w0 _ fp0 _ hcl hp);obtain ⟨so,hso⟩:∃so,(getL L id).isSome=so:=⟨_,rfl⟩
    have HSO:=Lib.hid hso;rw [hso] at HG;unfold ptrV at HG;clear hp hso Hs;go_wp2_with fail;(with_reducible refine HG.out.mono ?_);rintro e w2 ⟨gv,rfl,h2⟩;clear HG c0 c1 c2 c3 cl;obtain ⟨_,hrow⟩:=h2.has 0 rfl;obtain ⟨ga,gc,rfl, -⟩:=row_shape hrow;have hg:ValsAt w2 ((getL L id).getD []) (.slice ga ((getL L id).getD []).length gc):=⟨SlX.of_row (X:=[]) hrow (length_flat _) (by simp),by obtain ⟨_,hst⟩:=h2.has 1 rfl;exact get_txt hst id⟩
    have h3:St w0 fp0 (dbP b q++(q.ts.map tbA++(blkA cb 35 #[.int .i64 k, .int .i64 id, .slice oa on oc, .slice na nn nc]::R))) w2:=St.unpickT HK.out (by unfold tbA;rw [HNM.out.1,HNM.out.2.1,HNM.out.2.2.1,HNM.out.2.2.2];exact h2.drop);have H4:Hid (St w0 fp0 (blkA cb 35 #[.int .i64 k, .int .i64 id, .slice oa on oc, .slice na nn nc]::(dbP b q++(q.ts.map tbA++R))) w2):=by
     refine h3.perm ?_
     classical refine List.perm_iff_count.2 λ a=> ?_;simp only [List.count_append,List.count_cons];omega
    have hov:=HC.out.at (M:=_::(dbP b q++q.ts.map tbA)) (show St w0 fp0 ((_::(dbP b q++q.ts.map tbA))++R) w2 by simp only [List.cons_append,List.append_assoc];exact H4.out)
    have hov:=hov.old;unfold Chg.ov at hov;simp only at hov;rw [HON.out] at hov;have HCR:=Lib.hid (compareRows_calls _ _ _ _ w2 hg hov);obtain ⟨cr,hcr⟩:∃cr,cmpR ((getL L id).getD []) old=cr:=⟨_,rfl⟩
    have HCRE:=Lib.hid hcr;rw [hcr] at HCR;obtain ⟨gn,hgn⟩:∃gn,((getL L id).getD []).length=gn:=⟨_,rfl⟩
    rw [hgn] at HCR ⊢;clear hcr hrow h2 h3 hov hg hgn HOV;obtain ⟨c0,c1,c2,c3,cl⟩:=cells4 H4.out 0 rfl;by_cases ho:on=0
    · subst ho
      cases so with
      | true=>
       have HF:Hid (ch=5):=by show _=_;rw [<-HCH2.out,chkT_old HIV.out (HO.out.1 rfl),HSO.out];rfl
       go_wp2;go_ret;exact ⟨by rw [HF.out];rfl,H4.out.drop⟩
      | false=>
       have HF:Hid (ch=0):=by show _=_;rw [<-HCH2.out,chkT_old HIV.out (HO.out.1 rfl),HSO.out];rfl
       go_wp2;go_ret;exact ⟨by rw [HF.out];rfl,H4.out.drop⟩
    · have ho':((on:Int)==0)=false:=by simp;omega
      have ho'':0 < on:=by omega
      have HO2:Hid (old≠[]):=λ e=> ho (HO.out.2 e);clear ho;cases so with
      | false=>
       have HF:Hid (ch=4):=by show _=_;rw [<-HCH2.out,chkT_new HIV.out HO2.out,if_neg];intro e;have:=HSO.out;rw [e] at this;cases this
       go_wp2;go_ret;exact ⟨by rw [HF.out];rfl,H4.out.drop⟩
      | true=>
       go_wp2_with fail;(with_reducible refine HCR.out.mono ?_);rintro e w3 ⟨rfl,hb3⟩;have H5:=Lib.hid (H4.out.mono hb3);clear HCR H4 hb3 c0 c1 c2 c3 cl;by_cases h0:cr=0
       · have b0:(cr !=0)=false:=by simp [h0]
         have HF:Hid (ch=0):=by
          show _=_;rw [<-HCH2.out,chkT_new HIV.out HO2.out,if_pos];rw [h0] at HCRE;have e1:=cmpR_zero.1 HCRE.out;cases e:getL L id with
          | none=> have:=HSO.out;rw [e] at this;cases this
          | some r=> rw [e] at e1;exact congrArg some e1
         clear h0;go_wp2;go_ret;exact ⟨by rw [HF.out];rfl,H5.out.drop⟩
       · have b0:(cr !=0)=true:=by simp [h0]
         have HF:Hid (ch=4):=by show _=_;rw [<-HCH2.out,chkT_new HIV.out HO2.out,if_neg];intro e;refine h0 ?_;rw [<-HCRE.out,e];exact cmpR_zero.2 rfl
         clear h0;go_wp2;go_ret;exact ⟨by rw [HF.out];rfl,H5.out.drop⟩
 · have HT:=Lib.hid (table_out b q.ts.length q.tc q.ta tb W hdb.2.1 ht)
   have HF:Hid (ch=1):=by show _=_;rw [<-HCH.out,rowD_out (by rw [<-HQ.out.tlen];exact ht)]
   clear hdb ht;go_wp2_with fail;(with_reducible refine HT.out.mono ?_);rintro e w1 ⟨rfl,rfl⟩;clear HT;go_wp2;go_ret;exact ⟨by rw [HF.out];rfl,HS0.out.drop⟩
theorem chkD_ok {D:Db} {c:Chg} (h:chkD D c=0):∃(k:Nat) (t:Nat×LL×Int),c.tb=k/\D[k]? =some t/\chkT t.1 t.2.1 c.id c.old c.new=0/\appD D c=D.set k (t.1,appT t.1 c.id c.new t.2.1,appN t.1 c.id c.new t.2.2):=by
 unfold chkD at h;unfold appD;cases e:rowD D c.tb with
 | none=> rw [e] at h;cases h
 | some t=>
  rw [e] at h;simp only at h;have e0:=e;unfold rowD at e;split at e
  · rename_i h0
    refine ⟨c.tb.toNat,t,by omega,e,h,?_⟩;simp only;rw [if_pos h]
  · cases e
theorem appD_no {D:Db} {c:Chg} (h:chkD D c≠0):appD D c=D:=by
 unfold chkD at h;unfold appD;cases e:rowD D c.tb with
 | none=> rfl
 | some t=>
  rw [e] at h;simp only at h ⊢;rw [if_neg h]
theorem dbP_put (b:Nat) (q:StQ) (k:Nat) (hk:k < q.ts.length) (L:LL) (next:Int):dbP b { q with ts:=q.ts.set k { q.ts[k] with L:=L,next:=next } }=dbP b q:=by
 have h:((q.ts.set k { q.ts[k] with L:=L,next:=next }).map λ t=> ptrV t.S)=q.ts.map λ t=> ptrV t.S:=by
  rw [List.map_set];have h1:(q.ts.map λ t=> ptrV t.S)[k]? =some (ptrV q.ts[k].S):=by rw [List.getElem?_map,List.getElem?_eq_getElem hk];rfl
  obtain ⟨h2,h3⟩:=List.getElem?_eq_some_iff.1 h1;show List.set _ k (ptrV q.ts[k].S)=_;rw [<-h3,List.set_getElem_self]
 unfold dbP StQ.sv StQ.tv;rw [h];simp only [List.length_set]
theorem Apply_calls (b:Nat) (D:Db) (c:Chg) (hok:c.Ok) (hlen:∀t∈D,t.2.1.length < 1000000) (w0 w:World) (fp0:List Nat) (R:List Asn) (hc:Rd w0 fp0 R λ w=> c.X w) (hS:St w0 fp0 (stA b D::R) w):
 Calls Tryz.prog 19 #[.pointer (some ⟨b,0,none⟩),c.v] w λ e w'=> e=.returned (.int .i64 (chkD D c))/\St w0 fp0 (stA b (appD D c)::R) w':=by
 obtain ⟨q,hq,hs⟩:=hS.openD;have h0:=hs.newblk 35 #[.int .i64 c.tb, .int .i64 c.id,c.ov,c.nv];have h1:St w0 fp0 (dbP b q++(q.ts.map tbA++(blkA w.heap.size 35 #[.int .i64 c.tb, .int .i64 c.id,c.ov,c.nv]::R))) _:=h0.sinkD;have HCK:=Lib.hid (check_calls b q D hq c w0 _ fp0 _ (hc.cons _) h1);have HC:=Lib.hid hc;have HQ:=Lib.hid hq;have HOK:=Lib.hid hok;have HLEN:=Lib.hid hlen;obtain ⟨D2,hD2⟩:∃D2,appD D c=D2:=⟨_,rfl⟩
 obtain ⟨ch,hch⟩:∃ch,chkD D c=ch:=⟨_,rfl⟩
 have HD2:=Lib.hid hD2;have HCH:=Lib.hid hch;rw [hch] at HCK ⊢;rw [hD2];have HS0:=Lib.hid h0;clear hc hS hq hs h0 h1 hok hlen hD2 hch;obtain ⟨tb,id,oa,oc,na,nc,old,new⟩:=c;unfold Chg.v Chg.ov Chg.nv at *;simp only at *;obtain ⟨on,hon⟩:∃on,old.length=on:=⟨_,rfl⟩
 obtain ⟨nn,hnn⟩:∃nn,new.length=nn:=⟨_,rfl⟩
 have HNN:=Lib.hid hnn;rw [hon,hnn] at HCK HS0 ⊢;clear hon hnn;go_enter Tryz.func19,Tryz.ntmps19;go_upto_region 1 with (fail)
 generalize hW:w.alloc _=W at *;clear hW;obtain ⟨cb,hcb⟩:∃cb,w.heap.size=cb:=⟨_,rfl⟩
 rw [hcb] at HS0 HCK ⊢;clear hcb;obtain ⟨c0,c1,c2,c3,cl⟩:=cells4 HS0.out 0 rfl;go_wp2_with fail;(with_reducible refine HCK.out.mono ?_);rintro e w1 ⟨rfl,h1⟩;have H1:=Lib.hid h1;clear HCK HS0 h1 c0 c1 c2 c3 cl;by_cases hz:ch=0
 · subst hz
   obtain ⟨k,t,e1,hDk,hck,hD⟩:=chkD_ok HCH.out;simp only at e1 hck hD;subst e1;have hk:k < q.ts.length:=by rw [HQ.out.tlen];exact (List.getElem?_eq_some_iff.1 hDk).1
   have ht:t=(q.ts[k].cols,q.ts[k].L,q.ts[k].next):=by have:=HQ.out.at k hk;rw [hDk] at this;exact Option.some.inj this
   have hkd:k < q.td.length:=by rw [HQ.out.dlen,<-HQ.out.tlen];exact hk
   have hcl:q.ts[k].cols<=1000000:=by have:=(HQ.out.sm _ (List.getElem_mem hkd)).n;rw [HQ.out.tdn k hk hkd] at this;omega
   have hll:q.ts[k].L.length < 1000000:=by have:=HLEN.out t (List.mem_of_getElem? hDk);rw [ht] at this;exact this
   subst ht;simp only at hck hD;obtain ⟨d0,d1,dl, -,dsl⟩:=db_get H1.out;obtain ⟨b',o,tc,etv,p0⟩:=dsl.some (j:=k) (u:=ptrV q.ts[k].S) (by rw [List.getElem?_map,List.getElem?_eq_getElem hk];rfl);rw [etv,List.length_map] at d1;have pl:=World.block_lt_of_cell? w1 _ p0;have HB:Hid (St w0 fp0 (blkA cb 35 #[.int .i64 k, .int .i64 id, .slice oa on oc, .slice na nn nc]::(dbP b q++(q.ts.map tbA++R))) w1):=by
    refine H1.out.perm ?_
    classical refine List.perm_iff_count.2 λ a=> ?_;simp only [List.count_append,List.count_cons];omega
   obtain ⟨c0,c1,c2,c3,cl⟩:=cells4 HB.out 0 rfl;have hp:=H1.out.pickT k hk;have hk':(k:Int) < q.ts.length:=by omega
   have hkz:(0:Int)<=k:=by omega
   obtain ⟨h1,h2,h3, -⟩:=chkT_ok hck;have HD:Hid (∀L next,L=appT q.ts[k].cols id new q.ts[k].L->next=appN q.ts[k].cols id new q.ts[k].next->∀w,St w0 fp0 (storeA q.ts[k].S q.ts[k].cols q.ts[k].I L next::(dbP b q++((q.ts.eraseIdx k).map tbA++(blkA cb 35 #[.int .i64 k, .int .i64 id, .slice oa on oc, .slice na nn nc]::R)))) w->St w0 fp0 (stA b D2::R) w):=by
    intro L next e1 e2 w hs
    have h4:=St.placeT (t:={ q.ts[k] with L:=L,next:=next }) hk hs;rw [e1,e2] at h4;rw [<-HD2.out,hD];have hok2:=HQ.out.put k hk (appT q.ts[k].cols id new q.ts[k].L) (appN q.ts[k].cols id new q.ts[k].next);rw [<-dbP_put b q k hk] at h4;have h5:=St.shutD (b:=b) hok2 h4;exact (h5.perm (List.Perm.swap _ _ _)).drop
   have HPT:Hid (nn≠0->putOk q.ts[k].cols id new=true/\new≠[]):=λ h=> by have hne:new≠[]:=λ e=> h (by rw [<-HNN.out,e];rfl);unfold putOk;rw [decide_eq_true h1,h3 hne];exact ⟨rfl,hne⟩
   have HNE:Hid (nn=0->new=[]):=λ h=> List.length_eq_zero_iff.1 (by rw [HNN.out];exact h);have HSD:Hid (∀w2,Below w1.heap.size w1 w2->_):=λ w2 hb=> SDelete_calls q.ts[k].S q.ts[k].cols q.ts[k].I q.ts[k].L q.ts[k].next id HOK.out.id hcl (by omega) w0 w2 fp0 _ (hp.mono hb);have HSP:Hid (∀w2,Below w1.heap.size w1 w2->_):=λ w2 hb=> SPut_calls q.ts[k].S q.ts[k].cols q.ts[k].I q.ts[k].L q.ts[k].next id new (.slice na nn nc) HOK.out.id HOK.out.new hcl (by omega) w0 w2 fp0 (dbP b q++((q.ts.eraseIdx k).map tbA++(blkA cb 35 #[.int .i64 k, .int .i64 id, .slice oa on oc, .slice na nn nc]::R))) (by
    refine Rd.perm (R:=(dbP b q++((q.ts.eraseIdx k).map tbA++[blkA cb 35 #[.int .i64 k, .int .i64 id, .slice oa on oc, .slice na nn nc]]))++R) ?_ ?_
    · refine Rd.app (HC.out.imp λ w h=> ?_) _
      have:=h.new;unfold Chg.nv at this;simp only at this;rw [HNN.out] at this;exact this
    · simp only [List.append_assoc,List.cons_append,List.nil_append]
      exact List.Perm.refl _) (hp.mono hb)
   have HK:=Lib.hid hk;unfold ptrV at *;clear hp hck hD h1 h2 h3 hDk hkd hcl hll dsl etv d0 H1;generalize q.ts[k]=T at *;clear hk;generalize q.ts.length=m at *;go_upto_region 4 with (fail)
   go_region_held3 (λ w'=> Below w1.heap.size w1 w'/\∀b o,b < w1.heap.size->w'.cell? ⟨b,o,none⟩=w1.cell? ⟨b,o,none⟩)
    (first | assumption | exact S_of (Below.drew (Below.refl _ _)))
    (fail)
   rename_i hH
   have HB3:=Lib.hid (HB.out.mono hH.1);have HSD3:=Lib.hid (HSD.out _ hH.1);have HSP3:=Lib.hid (HSP.out _ hH.1);clear hH HB HSD HSP c0 c1 c2 c3 cl d1 dl p0 pl;obtain ⟨c0,c1,c2,c3,cl⟩:=cells4 HB3.out 0 rfl;go_upto_region 5 with (fail)
   by_cases hn:nn=0
   · subst hn
     have hne:=HNE.out rfl;go_wp2_with fail;(with_reducible refine HSD3.out.mono ?_);rintro e w2 ⟨dv,rfl,h2⟩;have HF:=Lib.hid (HD.out _ _ (show _=appT T.cols id new T.L by unfold appT;rw [if_pos hne]) (show T.next=appN T.cols id new T.next by unfold appN;rw [if_pos hne]) _ h2.drop);clear HSD3 HSP3 h2 c0 c1 c2 c3 cl hne;go_wp2;go_ret;exact ⟨rfl,HF.out⟩
   · have hn':((nn:Int)==0)=false:=by simp;omega
     obtain ⟨hpo,hne⟩:=HPT.out hn;rw [hpo] at HSP3;unfold errV at HSP3;clear hn;go_wp2_with fail;(with_reducible refine HSP3.out.mono ?_);rintro e w2 ⟨rfl,h2⟩;have HF:=Lib.hid (HD.out _ _ (show _=appT T.cols id new T.L by unfold appT;rw [if_neg hne]) (show _=appN T.cols id new T.next by unfold appN;rw [if_neg hne]) _ h2);clear HSD3 HSP3 h2 c0 c1 c2 c3 cl hne hpo;go_wp2;go_ret;exact ⟨rfl,HF.out⟩
 · have hz':(ch !=0)=true:=by simp [hz]
   have HF:Hid (St w0 fp0 (stA b D2::R) w1):=by have h:=St.shutD HQ.out H1.out;rw [<-HD2.out,appD_no (by rw [HCH.out];exact hz)];exact (h.perm (List.Perm.swap _ _ _)).drop
   clear hz H1;go_wp2;go_ret;exact ⟨rfl,HF.out⟩
def put3 (xs:List Value) (k:Nat) (a b c:Value):List Value:=((xs.set (k * 3) a).set (k * 3+1) b).set (k * 3+2) c
theorem storeRow3 {P:Program} {w:World} {ty t:TypeId} {g n c k:Nat} {xs:List Value} {v0 v1 v2:Value} {f:List Nat} (hb:(rowA t 3 (.slice (some ⟨g,0,none⟩) n c) n xs).p w f) (hl:xs.length=n * 3) (hk:k < n) (hz:(sizeOf ty).run P w=.ok 3 w) (h0:v0.oneCell'=true) (h1:v1.oneCell'=true) (h2:v2.oneCell'=true):
 ∃w' f',(Instr.storeAt ty (.pointer (some ⟨g,0+k * 3,none⟩)) (.agg #[v0,v1,v2])).run P w=.ok () w'/\(rowA t 3 (.slice (some ⟨g,0,none⟩) n c) n (put3 xs k v0 v1 v2)).p w' f'/\Tr w w' f f':=by
 have st:∀(w:World) (f:List Nat) (ys:List Value) (i:Nat) (v:Value),(rowA t 3 (.slice (some ⟨g,0,none⟩) n c) n ys).p w f->ys.length=n * 3->i < n * 3->(∃o,w.cell? ⟨g,i,none⟩=some o)/\w.frozen? ⟨g,i,none⟩=false/\(rowA t 3 (.slice (some ⟨g,0,none⟩) n c) n (ys.set i v)).p (w.setCell ⟨g,i,none⟩ v) [g]/\Tr w (w.setCell ⟨g,i,none⟩ v) f [g]:=by intro w f ys i v hb hl hi;obtain ⟨a1,a2, -⟩:=row_at hb hl (List.getElem?_eq_getElem (by omega:i < ys.length));obtain ⟨h2,h3⟩:=hb;obtain ⟨h4,h5⟩:=h2.stored i v;refine ⟨⟨_,a1⟩,a2,⟨h4,rfl⟩,?_⟩;rw [h3];exact Tr.of_grown (o:=some g) (o':=some g) h5 (λ k hk=> .inl hk)
 obtain ⟨⟨o0,c0⟩,f0,p1,t1⟩:=st w f xs (k * 3) v0 hb hl (by omega);obtain ⟨⟨o1,c1⟩,f1,p2,t2⟩:=st _ _ _ (k * 3+1) v1 p1 (by rw [List.length_set,hl]) (by omega);obtain ⟨⟨o2,c2⟩,f2,p3,t3⟩:=st _ _ _ (k * 3+2) v2 p2 (by rw [List.length_set,List.length_set,hl]) (by omega);have a0:(⟨g,k * 3,none⟩:Addr).add 0=⟨g,k * 3,none⟩:=by simp [Addr.add]
 have a1:(⟨g,k * 3,none⟩:Addr).add 1=⟨g,k * 3+1,none⟩:=by simp [Addr.add]
 have a2:(⟨g,k * 3,none⟩:Addr).add 2=⟨g,k * 3+2,none⟩:=by simp [Addr.add]
 have e:(Value.agg #[v0,v1,v2]).cells=#[v0,v1,v2]:=rfl;refine ⟨_,_,?_,p3,(t1.trans t2).trans t3⟩;rw [show 0+k * 3=k * 3 by omega];simp [Instr.storeAt,Instr.sureAddr,storeVar,hz,e,storeCells,a0,a1,a2,run_store P _ _ v0 .plain h0,run_store P _ _ v1 .plain h1,run_store P _ _ v2 .plain h2,c0,f0,c1,f1,c2,f2]
def outR (og n oc:Nat) (xs:List Value):Asn:=rowA 44 3 (.slice (some ⟨og,0,none⟩) n oc) n xs
def got1 (og n oc:Nat) (xs:List Value) (V:Value->Value) (v:Value) (l:List Ri):Asn:=exA λ lv=> starA [pureA (v=V lv),outR og n oc xs,riA lv l]
def got2 (og n oc k cols:Nat) (next:Int) (xs:List Value) (V:Value->Value) (v:Value) (l:List Ri):Asn:=exA λ lv=> starA [pureA (v=V lv),outR og n oc (put3 xs k (.int .i64 cols) lv (.int .i64 next)),riA lv l]
theorem got_in {w0 w:World} {fp0:List Nat} {R:List Asn} {A:Asn} {og n oc:Nat} {xs:List Value} {V:Value->Value} {lv:Value} {l:List Ri} (h:St w0 fp0 (riA lv l::A::outR og n oc xs::R) w):St w0 fp0 ([A,got1 og n oc xs V (V lv) l]++R) w:=by
 have h1:St w0 fp0 ([pureA (V lv=V lv),outR og n oc xs,riA lv l]++(A::R)) w:=St.pure.2 ⟨rfl,(St_re (L:=[_,_,_]) h [2,0,1] [] (by kernel_rfl))⟩;exact (h1.fold (B:=got1 og n oc xs V (V lv) l) λ f hf=> ⟨lv,hf⟩).perm (List.Perm.swap _ _ _)
theorem got_store {w:World} {fp:List Nat} {og n oc k cols:Nat} {next:Int} {xs:List Value} {V:Value->Value} {v:Value} {l:List Ri} (hp:(got1 og n oc xs V v l).p w fp) (hl:xs.length=n * 3) (hk:k < n) (ty:TypeId) (hz:(sizeOf ty).run Tryz.prog w=.ok 3 w):
 ∃lv w' f',v=V lv/\(Instr.storeAt ty (.pointer (some ⟨og,0+k * 3,none⟩)) (.agg #[.int .i64 cols,lv, .int .i64 next])).run Tryz.prog w=.ok () w'/\(got2 og n oc k cols next xs V v l).p w' f'/\Tr w w' fp f':=by
 obtain ⟨lv,h⟩:=hp;obtain ⟨f0,⟨hv, -⟩, -⟩:=Star.get 0 rfl (show Star w [pureA (v=V lv),outR og n oc xs,riA lv l] fp from h);obtain ⟨f2,hr, -⟩:=Star.get 2 rfl (show Star w [pureA (v=V lv),outR og n oc xs,riA lv l] fp from h);obtain ⟨a,c,e⟩:=(riA_sl hr).shape;obtain ⟨f1,ho, -,hkk⟩:=Star.get 1 rfl (show Star w [pureA (v=V lv),outR og n oc xs,riA lv l] fp from h);obtain ⟨w',f',h1,h2,h3⟩:=storeRow3 (P:=Tryz.prog) (ty:=ty) (v0:=.int .i64 cols) (v1:=lv) (v2:=.int .i64 next) ho hl hk hz rfl (by rw [e];rfl) rfl;obtain ⟨fp2,q1,q2⟩:=hkk _ w' f' h2 h3;exact ⟨lv,w',fp2,hv,h1,⟨lv,q1⟩,q2⟩
def gRq10 (cb og n oc mb mo mc k cols:Nat) (lv:Value) (next nx id:Int) (ov nv:Value) (XS:List Value) (l2:List Ri):=rgx Tryz.prog Tryz.f16 10 132 [102,103,104,105,106,107,108,109,110,111,112,113] [(8, .slice (some ⟨og,0,none⟩) n oc),(3,pV cb 0),(0, .slice (some ⟨mb,mo,none⟩) n mc)] (Vq 0 102 [Kv (.slice (some ⟨og,0,none⟩) n oc),Kp cb 0,Kv (.int .i64 k),Kv (.slice (some ⟨mb,mo,none⟩) n mc),Kp cb 0,Kv (.int .i64 k),Kp mb (mo+k * 3),Kv (.agg #[.int .i64 cols,lv, .int .i64 next]),Kp cb 1,Kv (.int .i64 id)]++Vq 11 113 [Kp og (0+k * 3)]) [Bk cb (35) [.int .i64 k, .int .i64 id,ov,nv], .gen [10,12] [112] λ L g=> match L 12 with | true=> got2 og n oc k cols nx XS (λ lv2=> .agg #[.int .i64 cols,lv2, .int .i64 nx]) (g 112) l2 | false=> match L 10 with | true=> got1 og n oc XS (λ lv2=> .agg #[.int .i64 cols,lv2, .int .i64 nx]) (g 112) l2 | false=> outR og n oc XS]
theorem rRq10 (cb og n oc mb mo mc k cols:Nat) (lv:Value) (next nx id:Int) (ov nv:Value) (XS:List Value) (l2:List Ri) (w0:World) (fp0:List Nat) (R:List Asn) (hk:k < n) (hl:XS.length=n * 3) (hms:∀L w,St w0 fp0 (L++R) w->∀j u,[Value.int .i64 cols,lv, .int .i64 next][j]? =some u->w.cell? ⟨mb,mo+k * 3+j,none⟩=some u) (hcl:∀w,St w0 fp0 ([blkA cb 35 #[.int .i64 k, .int .i64 id,ov,nv],outR og n oc XS]++R) w->Calls Tryz.prog 48 #[.agg #[.int .i64 cols,lv, .int .i64 next], .int .i64 id] w λ e w2=> ∃lv2,e=.returned (.agg #[.int .i64 cols,lv2, .int .i64 nx])/\St w0 fp0 (riA lv2 l2::blkA cb 35 #[.int .i64 k, .int .i64 id,ov,nv]::outR og n oc XS::R) w2) {w:World} {c:Code} {a:Act} {Q:Exit->Act->World->Prop} (c1:isReg c=true) (c2:cops c=opsR Tryz.f16 10) (c3:a.tmps.size=132) (_c4:a.defers=a.defers) (i8:a.eval (.tmp 8)=.slice (some ⟨og,0,none⟩) n oc) (i3:a.eval (.tmp 3)=.pointer (some ⟨cb,0,none⟩)) (i0:a.eval (.tmp 0)=.slice (some ⟨mb,mo,none⟩) n mc)
 (hS:St w0 fp0 ([blkA cb (35) #[.int .i64 k, .int .i64 id,ov,nv],outR og n oc XS]++R) w)
 (hQ:∀(u112:Value) (w1:World),St w0 fp0 ([blkA cb (35) #[.int .i64 k, .int .i64 id,ov,nv],got2 og n oc k cols nx XS (λ lv2=> .agg #[.int .i64 cols,lv2, .int .i64 nx]) (u112) l2]++R) w1->Q .normal (putL a [(102, .slice (some ⟨og,0,none⟩) n oc),(103, .pointer (some ⟨cb,0,none⟩)),(104, .int .i64 k),(105, .slice (some ⟨mb,mo,none⟩) n mc),(106, .pointer (some ⟨cb,0,none⟩)),(107, .int .i64 k),(108, .pointer (some ⟨mb,mo+k * 3,none⟩)),(109, .agg #[.int .i64 cols,lv, .int .i64 next]),(110, .pointer (some ⟨cb,1,none⟩)),(111, .int .i64 id),(112,u112),(113, .pointer (some ⟨og,0+k * 3,none⟩))]) w1):c.wp Tryz.prog Q a w:=by
 have ok:(gRq10 cb og n oc mb mo mc k cols lv next nx id ov nv XS l2 w0 fp0 R).Ok 13:=Rg.ok _ 13 [2,5,6,7,9,10,11,12] ⟨.load _ 2 0 0, .load _ 5 0 0, .indexO _ 6 mb mo n mc k 3 hk, .loadR _ 7 [.int .i64 cols,lv, .int .i64 next] hms, .load _ 9 0 1, .callG _ 10 (f:=48) (args:=λ _=> #[.agg #[.int .i64 cols,lv, .int .i64 next], .int .i64 id]) (λ _=> [blkA cb 35 #[.int .i64 k, .int .i64 id,ov,nv],outR og n oc XS]) (λ _ v=> [blkA cb 35 #[.int .i64 k, .int .i64 id,ov,nv],got1 og n oc XS (λ lv2=> .agg #[.int .i64 cols,lv2, .int .i64 nx]) (v) l2]) (λ g w h=> (hcl w h).mono λ e w2 ⟨lv2,e1,h2⟩=> ⟨_,e1,rfl,got_in h2⟩), .indexO _ 11 og 0 n oc k 3 hk, .skip1 _ 12 1 (λ g=> got1 og n oc XS (λ lv2=> .agg #[.int .i64 cols,lv2, .int .i64 nx]) (g 112) l2) (λ g=> got2 og n oc k cols nx XS (λ lv2=> .agg #[.int .i64 cols,lv2, .int .i64 nx]) (g 112) l2) (λ L a w fp hS hp=> (by obtain ⟨lv2,w2,f2,e0,h1,h2,h3⟩:=got_store (k:=k) (cols:=cols) (next:=nx) hp hl hk 44 (kr (by kernel_rfl));exact ⟨w2,f2,exec_store rfl (kr (by kernel_rfl)) (Eq.trans (b:=slots a 112) (kr (by kernel_rfl)) e0) h1,h2,h3⟩)),trivial⟩;refine wp_regD ok (by kernel_rfl) ⟨c1,c2⟩ ⟨c3,λ p hp=> ?_⟩ hS λ A1 w1 N1 H1=> ?_
 · simp only [gRq10,rgx,List.map_nil,List.append_nil,List.mem_cons,List.not_mem_nil,or_false] at hp
   rcases hp with rfl | rfl | rfl
   · exact i8
   · exact i3
   · exact i0
 exact N1.fin [112] (hQ (slots A1 112) w1 H1) (by kernel_rfl)
def gRq11 (cb og n oc mb mo mc k cols:Nat) (lv:Value) (next nx id:Int) (ov nv:Value) (XS:List Value) (l2:List Ri):=rgx Tryz.prog Tryz.f16 11 132 [115,116,117,118,119,120,121,122,123,124,125,126,127,114,128,129,130] [(8, .slice (some ⟨og,0,none⟩) n oc),(3,pV cb 0),(0, .slice (some ⟨mb,mo,none⟩) n mc)] (Vq 0 115 [Kv (.slice (some ⟨og,0,none⟩) n oc),Kp cb 0,Kv (.int .i64 k),Kv (.slice (some ⟨mb,mo,none⟩) n mc),Kp cb 0,Kv (.int .i64 k),Kp mb (mo+k * 3),Kv (.agg #[.int .i64 cols,lv, .int .i64 next]),Kp cb 1,Kv (.int .i64 id),Kp cb 3,Kv nv,Fv [127] λ g=> .tuple #[tu (g 127) 0, .int .i64 0]]++Vq 13 114 [Fv [127] λ g=> .tuple #[tu (g 127) 0, .int .i64 0]]++Vq 14 128 [Fv [127] λ g=> tu (g 127) 0,Kv (.int .i64 0),Kp og (0+k * 3)]) [Bk cb (35) [.int .i64 k, .int .i64 id,ov,nv], .gen [12,17] [127] λ L g=> match L 17 with | true=> got2 og n oc k cols nx XS (λ lv2=> .tuple #[.agg #[.int .i64 cols,lv2, .int .i64 nx], .int .i64 0]) (g 127) l2 | false=> match L 12 with | true=> got1 og n oc XS (λ lv2=> .tuple #[.agg #[.int .i64 cols,lv2, .int .i64 nx], .int .i64 0]) (g 127) l2 | false=> outR og n oc XS]
theorem rRq11 (cb og n oc mb mo mc k cols:Nat) (lv:Value) (next nx id:Int) (ov nv:Value) (XS:List Value) (l2:List Ri) (w0:World) (fp0:List Nat) (R:List Asn) (hk:k < n) (hl:XS.length=n * 3) (hms:∀L w,St w0 fp0 (L++R) w->∀j u,[Value.int .i64 cols,lv, .int .i64 next][j]? =some u->w.cell? ⟨mb,mo+k * 3+j,none⟩=some u) (hcl:∀w,St w0 fp0 ([blkA cb 35 #[.int .i64 k, .int .i64 id,ov,nv],outR og n oc XS]++R) w->Calls Tryz.prog 49 #[.agg #[.int .i64 cols,lv, .int .i64 next], .int .i64 id,nv] w λ e w2=> ∃lv2,e=.returned (.tuple #[.agg #[.int .i64 cols,lv2, .int .i64 nx], .int .i64 0])/\St w0 fp0 (riA lv2 l2::blkA cb 35 #[.int .i64 k, .int .i64 id,ov,nv]::outR og n oc XS::R) w2) {w:World} {c:Code} {a:Act} {Q:Exit->Act->World->Prop} (c1:isReg c=true) (c2:cops c=opsR Tryz.f16 11) (c3:a.tmps.size=132) (_c4:a.defers=a.defers) (i8:a.eval (.tmp 8)=.slice (some ⟨og,0,none⟩) n oc) (i3:a.eval (.tmp 3)=.pointer (some ⟨cb,0,none⟩)) (i0:a.eval (.tmp 0)=.slice (some ⟨mb,mo,none⟩) n mc)
 (hS:St w0 fp0 ([blkA cb (35) #[.int .i64 k, .int .i64 id,ov,nv],outR og n oc XS]++R) w)
 (hQ:∀(u114 u127 u128:Value) (w1:World),u127=.tuple #[tu (u127) 0, .int .i64 0]->u114=.tuple #[tu (u127) 0, .int .i64 0]->u128=tu (u127) 0->St w0 fp0 ([blkA cb (35) #[.int .i64 k, .int .i64 id,ov,nv],got2 og n oc k cols nx XS (λ lv2=> .tuple #[.agg #[.int .i64 cols,lv2, .int .i64 nx], .int .i64 0]) (u127) l2]++R) w1->Q .normal (putL a [(115, .slice (some ⟨og,0,none⟩) n oc),(116, .pointer (some ⟨cb,0,none⟩)),(117, .int .i64 k),(118, .slice (some ⟨mb,mo,none⟩) n mc),(119, .pointer (some ⟨cb,0,none⟩)),(120, .int .i64 k),(121, .pointer (some ⟨mb,mo+k * 3,none⟩)),(122, .agg #[.int .i64 cols,lv, .int .i64 next]),(123, .pointer (some ⟨cb,1,none⟩)),(124, .int .i64 id),(125, .pointer (some ⟨cb,3,none⟩)),(126,nv),(127,u127),(114,u114),(128,u128),(129, .int .i64 0),(130, .pointer (some ⟨og,0+k * 3,none⟩))]) w1):c.wp Tryz.prog Q a w:=by
 have ok:(gRq11 cb og n oc mb mo mc k cols lv next nx id ov nv XS l2 w0 fp0 R).Ok 18:=Rg.ok _ 18 [2,5,6,7,9,11,12,16,17] ⟨.load _ 2 0 0, .load _ 5 0 0, .indexO _ 6 mb mo n mc k 3 hk, .loadR _ 7 [.int .i64 cols,lv, .int .i64 next] hms, .load _ 9 0 1, .load _ 11 0 3, .callG _ 12 (f:=49) (args:=λ _=> #[.agg #[.int .i64 cols,lv, .int .i64 next], .int .i64 id,nv]) (λ _=> [blkA cb 35 #[.int .i64 k, .int .i64 id,ov,nv],outR og n oc XS]) (λ _ v=> [blkA cb 35 #[.int .i64 k, .int .i64 id,ov,nv],got1 og n oc XS (λ lv2=> .tuple #[.agg #[.int .i64 cols,lv2, .int .i64 nx], .int .i64 0]) (v) l2]) (λ g w h=> (hcl w h).mono λ e w2 ⟨lv2,e1,h2⟩=> ⟨_,e1,kr (by kernel_rfl),got_in (V:=λ lv2=> .tuple #[.agg #[.int .i64 cols,lv2, .int .i64 nx], .int .i64 0]) h2⟩), .indexO _ 16 og 0 n oc k 3 hk, .skip1 _ 17 1 (λ g=> got1 og n oc XS (λ lv2=> .tuple #[.agg #[.int .i64 cols,lv2, .int .i64 nx], .int .i64 0]) (g 127) l2) (λ g=> got2 og n oc k cols nx XS (λ lv2=> .tuple #[.agg #[.int .i64 cols,lv2, .int .i64 nx], .int .i64 0]) (g 127) l2) (λ L a w fp hS hp=> (by obtain ⟨lv2,w2,f2,e0,h1,h2,h3⟩:=got_store (k:=k) (cols:=cols) (next:=nx) hp hl hk 44 (kr (by kernel_rfl));exact ⟨w2,f2,exec_store rfl (kr (by kernel_rfl)) (Eq.trans (b:=tu (slots a 127) 0) (kr (by kernel_rfl)) (by rw [e0];rfl)) h1,h2,h3⟩)),trivial⟩;refine wp_regD ok (by kernel_rfl) ⟨c1,c2⟩ ⟨c3,λ p hp=> ?_⟩ hS λ A1 w1 N1 H1=> ?_
 · simp only [gRq11,rgx,List.map_nil,List.append_nil,List.mem_cons,List.not_mem_nil,or_false] at hp
   rcases hp with rfl | rfl | rfl
   · exact i8
   · exact i3
   · exact i0
 exact N1.fin [127,114,128] (hQ (slots A1 114) (slots A1 127) (slots A1 128) w1 (N1.val 12 rfl) (N1.val 13 rfl) (N1.val 14 rfl) H1) (by kernel_rfl)
def gRq3 (cb n mb mo mc k cols:Nat) (lv:Value) (next id:Int) (ov nv gv:Value) (gq:Bool):=rgx Tryz.prog Tryz.f16 3 132 [61,62,63,64,65,66,67,68,60,69,70,6,7] [(3,pV cb 0),(0, .slice (some ⟨mb,mo,none⟩) n mc)] (Vq 0 61 [Kv (.slice (some ⟨mb,mo,none⟩) n mc),Kp cb 0,Kv (.int .i64 k),Kp mb (mo+k * 3),Kv (.agg #[.int .i64 cols,lv, .int .i64 next]),Kp cb 1,Kv (.int .i64 id),Kv (.tuple #[gv, .bool gq])]++Vq 8 60 [Kv (.tuple #[gv, .bool gq])]++Vq 9 69 [Kv gv,Kv (.bool gq)]++Vq 11 6 [Kv gv,Kv (.bool gq)]) [Bk cb (35) [.int .i64 k, .int .i64 id,ov,nv]]
theorem rRq3 (cb n mb mo mc k cols:Nat) (lv:Value) (next id:Int) (ov nv gv:Value) (gq:Bool) (w0:World) (fp0:List Nat) (R:List Asn) (hk:k < n) (hms:∀L w,St w0 fp0 (L++R) w->∀j u,[Value.int .i64 cols,lv, .int .i64 next][j]? =some u->w.cell? ⟨mb,mo+k * 3+j,none⟩=some u) (hget:∀L w,St w0 fp0 (L++R) w->Calls Tryz.prog 46 #[.agg #[.int .i64 cols,lv, .int .i64 next], .int .i64 id] w λ e w'=> e=.returned (.tuple #[gv, .bool gq])/\Below w.heap.size w w') {w:World} {c:Code} {a:Act} {Q:Exit->Act->World->Prop} (c1:isReg c=true) (c2:cops c=opsR Tryz.f16 3) (c3:a.tmps.size=132) (_c4:a.defers=a.defers) (i3:a.eval (.tmp 3)=.pointer (some ⟨cb,0,none⟩)) (i0:a.eval (.tmp 0)=.slice (some ⟨mb,mo,none⟩) n mc)
 (hS:St w0 fp0 ([blkA cb (35) #[.int .i64 k, .int .i64 id,ov,nv]]++R) w)
 (hQ:∀(w1:World),St w0 fp0 ([blkA cb (35) #[.int .i64 k, .int .i64 id,ov,nv]]++R) w1->Q .normal (putL a [(61, .slice (some ⟨mb,mo,none⟩) n mc),(62, .pointer (some ⟨cb,0,none⟩)),(63, .int .i64 k),(64, .pointer (some ⟨mb,mo+k * 3,none⟩)),(65, .agg #[.int .i64 cols,lv, .int .i64 next]),(66, .pointer (some ⟨cb,1,none⟩)),(67, .int .i64 id),(68, .tuple #[gv, .bool gq]),(60, .tuple #[gv, .bool gq]),(69,gv),(70, .bool gq),(6,gv),(7, .bool gq)]) w1):c.wp Tryz.prog Q a w:=by
 have ok:(gRq3 cb n mb mo mc k cols lv next id ov nv gv gq w0 fp0 R).Ok 13:=Rg.ok _ 13 [2,3,4,6,7] ⟨.load _ 2 0 0, .indexO _ 3 mb mo n mc k 3 hk, .loadR _ 4 [.int .i64 cols,lv, .int .i64 next] hms, .load _ 6 0 1, .askR _ 7 hget,trivial⟩;refine wp_regD ok (by kernel_rfl) ⟨c1,c2⟩ ⟨c3,λ p hp=> ?_⟩ hS λ A1 w1 N1 H1=> ?_
 · simp only [gRq3,rgx,List.map_nil,List.append_nil,List.mem_cons,List.not_mem_nil,or_false] at hp
   rcases hp with rfl | rfl
   · exact i3
   · exact i0
 exact N1.fin [] (hQ w1 H1) (by kernel_rfl)
theorem appRS:AppSrc Tryz.prog 28 28 44 3:=appSrc (z:=.agg #[.int .i64 0, .slice none 0 0, .int .i64 0]) (bytes:=40) (by kernel_rfl) (by kernel_rfl) rfl (by decide) (by decide)
structure MsOk (D:Db) (ms:List Rs):Prop where
 d:ms.map Rs.d=D
 asc:∀m∈ms,m.l.Pairwise λ a b=> a.id < b.id
def ms0 (td:List Td):List Rs:=td.map λ t=> ⟨t.n,none,0,1,[]⟩
theorem ms0_ok (td:List Td):MsOk (newD td) (ms0 td):=⟨by rw [ms0,newD,List.map_map];rfl,λ m hm=> by
 obtain ⟨t, -,rfl⟩:=List.mem_map.1 hm;exact List.Pairwise.nil⟩
theorem ms0_x {td:List Td} {w:World} {v:Value} {f:List Nat} (h:(rowA 44 3 v (ms0 td).length ((ms0 td).flatMap Rs.c)).p w f):RefX w (ms0 td) v:=⟨SlX.of_row (X:=[]) h (flatMap_len rsc_len _) (by simp),λ m hm=> by
 obtain ⟨t, -,rfl⟩:=List.mem_map.1 hm;exact ⟨SlX.nil _ _ _ _ _,by simp⟩⟩
theorem RNew40_calls (td:List Td) (v:Value) (htl:td.length<=1000) (w0 w:World) (fp0:List Nat) (R:List Asn) (hv:Rd w0 fp0 R λ w=> SchX w td v) (hS:St w0 fp0 R w):
 Calls Tryz.prog 44 #[v] w λ e w'=> ∃a c,e=.returned (.slice a td.length c)/\St w0 fp0 (rowA 44 3 (.slice a td.length c) td.length ((ms0 td).flatMap Rs.c)::R) w':=by
 obtain ⟨va,vc,rfl⟩:=(hv.here hS).sl.shape;have HV:=Lib.hid hv;obtain ⟨N,hN⟩:∃N,td.length=N:=⟨_,rfl⟩
 have HN:=Lib.hid hN;have hN63:N<=1000:=by omega
 have H0:Hid (St w0 fp0 (rowA 44 3 (.slice none 0 0) 0 ((ms0 (td.take 0)).flatMap Rs.c)::R) w):=hS.nilR 44 3;rw [hN] at HV ⊢;clear hv hN hS htl;go_enter Tryz.func44,Tryz.ntmps44;go_upto_region 3 with (fail)
 go_loopg [3,4] N (λ g z3 z wr=> ∃k:Nat,z=.int .i64 k/\g+k=N/\Hid (St w0 fp0 (rowA 44 3 z3 k ((ms0 (td.take k)).flatMap Rs.c)::R) wr))
 case atStart=> exact ⟨0,rfl,rfl,H0⟩
 case round=>
  clear H0;obtain ⟨k,rfl,hgk,Hi⟩:=hrel;obtain ⟨_,hrow⟩:=Hi.out.has 0 rfl;obtain ⟨za,zc,rfl, -⟩:=row_shape hrow;clear hrow;by_cases hk:k < N
  · have hkl:k < td.length:=by rw [HN.out];exact hk
    have hkn:(k:Int) < N:=by omega
    have hlw:=HV.out.at (M:=[_]) Hi.out;obtain ⟨b,o,c',e1,hpl, -,p1, -⟩:=hlw.cells k hkl;obtain ⟨rfl, -,rfl⟩:=Value.slice.inj e1;have hst:(ms0 (td.take (k+1))).flatMap Rs.c=(ms0 (td.take k)).flatMap Rs.c++[.int .i64 td[k].n, .slice none 0 0, .int .i64 1]:=by rw [List.take_add_one,List.getElem?_eq_getElem hkl,ms0,List.map_append,List.flatMap_append];rfl
    have HST:=Lib.hid hst;have Hgk:=Lib.hid hgk;clear e1 hlw hst hgk;generalize td[k].ca=ca at *;generalize td[k].cc=cc at *;generalize td[k].n=n at *;clear hkl;have HR:=Lib.hid (λ w'=> RNew_calls n w');unfold rsV at HR
    go_upto_region 4 with (first
     | (go_at_call 77;(with_reducible refine (HR.out _).mono ?_);rintro e w1 ⟨rfl,hb1⟩;have H1:=Lib.hid (Hi.out.mono hb1);clear hb1)
     | (at_builtin;refine wpList_appR rfl _ _ _ _ rfl rfl rfl appRS (H1.out.mono ((Below.refl _ _).alloc (Nat.le_refl _) _)) (src_litk (e':=44) (by kernel_rfl) _ 3 _ 1 _ _ _ #[.int .i64 n, .slice none 0 0, .int .i64 1] (heap_alloc_new _ _) rfl (by simp;exact ⟨rfl,rfl,rfl⟩)) (by omega) ?_;intro v3 w3 h3))
    have H2:Hid (St w0 fp0 (rowA 44 3 v3 (k+1) ((ms0 (td.take (k+1))).flatMap Rs.c)::R) w3):=by show St _ _ _ _;rw [HST.out];exact h3.out
    clear h3 H1 Hi p1 hpl;go_wp2;go_roundg (gk - 1)
    case rel=> exact ⟨k+1,by go_num,by have:=Hgk.out;omega,H2⟩
    case measure=> have:=Hgk.out;omega
  · obtain rfl:k=N:=by omega
    have HF:Hid (St w0 fp0 (rowA 44 3 (.slice za k zc) k ((ms0 td).flatMap Rs.c)::R) wr):=by have h:=Hi.out;rw [List.take_of_length_le (by rw [HN.out];exact Nat.le_refl _)] at h;exact h
    clear Hi hgk hk;go_wp2;go_ret;exact ⟨_,_,rfl,HF.out⟩
theorem set3 {α:Type} (g:α->List Value) (hg:∀y,(g y).length=3):∀(l:List α) (k:Nat) (y:α) (a b c:Value),k < l.length->g y=[a,b,c]->put3 (l.flatMap g) k a b c=(l.set k y).flatMap g
 | [],k,y,a,b,c,h,_=> by simp at h
 | x::l,0,y,a,b,c,_,e=> by
  have h:=hg x
  match hx:g x,h with
  | [x0,x1,x2],_=>
   unfold put3;simp only [List.flatMap_cons,hx,List.set_cons_zero,e];rfl
 | x::l,k+1,y,a,b,c,h,e=> by
  have ih:=set3 g hg l k y a b c (by simpa using h) e;have h:=hg x
  match hx:g x,h with
  | [x0,x1,x2],_=>
   unfold put3 at ih ⊢;simp only [List.flatMap_cons,hx,List.set_cons_succ,List.cons_append,List.nil_append];rw [<-ih,show (k+1) * 3=k * 3+1+1+1 by omega];rfl
theorem refx_put {w0:World} {fp0:List Nat} {R:List Asn} {ms:List Rs} {mv:Value} (hm:Rd w0 fp0 R λ w=> RefX w ms mv) (k:Nat) (m:Rs) (a:Option Addr) (c:Nat) (hrow:∀x∈m.l,Rd w0 fp0 R λ w=> ValsAt w x.r x.v):
 Rd w0 fp0 ([rowA 44 3 (.slice a ms.length c) ms.length ((ms.set k m).flatMap Rs.c),riA m.lv m.l]++R) λ w=> RefX w (ms.set k m) (.slice a ms.length c):=by
 intro M w hs;have h1:SlX [] w 3 ms.length ((ms.set k m).flatMap Rs.c) (.slice a ms.length c):=(Rd.of_piece (R:=[_,_]++R) 0 rfl λ w f h=> SlX.of_row (X:=[]) h (by rw [flatMap_len rsc_len,List.length_set]) (by simp)) M w hs;have h2:=(Rd.of_piece (R:=[_,_]++R) 1 rfl λ w f h=> riA_sl h) M w hs;have h3:=(hm.app [_,_]) M w hs;refine ⟨by rw [List.length_set];exact h1,λ y hy=> ?_⟩;rcases List.mem_or_eq_of_mem_set hy with hy | rfl
 · exact h3.ri y hy
 · exact ⟨h2,λ x hx=> ((hrow x hx).app [_,_]) M w hs⟩
def RaPost (w0:World) (fp0:List Nat) (L R:List Asn) (D:Db) (ch:Int) (e:Ending) (w:World):Prop:=∃(ms:List Rs) (a:Option Addr) (c:Nat) (P:List Asn),e=.returned (.tuple #[.slice a ms.length c, .int .i64 ch])/\MsOk D ms/\Rd w0 fp0 (P++R) (λ w=> RefX w ms (.slice a ms.length c))/\St w0 fp0 (L++(P++R)) w
theorem MsOk.at {D:Db} {ms:List Rs} (h:MsOk D ms) (k:Nat) (hk:k < ms.length):D[k]? =some (ms[k].cols,riL ms[k].l,ms[k].next):=by
 rw [<-h.d,List.getElem?_map,List.getElem?_eq_getElem hk];rfl
theorem MsOk.len {D:Db} {ms:List Rs} (h:MsOk D ms):ms.length=D.length:=by rw [<-h.d,List.length_map]
theorem MsOk.put {D:Db} {ms:List Rs} (h:MsOk D ms) (k:Nat) (m:Rs) (ha:m.l.Pairwise λ a b=> a.id < b.id):MsOk (D.set k m.d) (ms.set k m):=⟨by rw [List.map_set,h.d],λ y hy=> by
 rcases List.mem_or_eq_of_mem_set hy with hy | rfl
 · exact h.asc y hy
 · exact ha⟩
theorem St.emptyRS {w0 w:World} {fp0:List Nat} {L:List Asn} (h:St w0 fp0 L w):St w0 fp0 (rowA 44 3 (.slice (some ⟨w.heap.size,0,none⟩) 0 0) 0 []::L) (w.alloc (.cells #[] 44)):=
 h.addF (row_empty (size:=3) ⟨heap_alloc_new w _,rfl⟩) ((Below.refl _ _).alloc (Nat.le_refl _) _) (λ k hk=> by rw [List.mem_singleton.1 hk];exact Nat.le_refl _)
theorem ms_one (ms:List Rs):∀u∈ms.flatMap Rs.c,u.oneCell'=true:=by
 intro u hu;obtain ⟨m, -,hm⟩:=List.mem_flatMap.1 hu;unfold Rs.c Rs.lv at hm;simp only [List.mem_cons,List.not_mem_nil,or_false] at hm;rcases hm with rfl | rfl | rfl <;> rfl
theorem ra_fin {w0 w:World} {fp0:List Nat} {L R:List Asn} {A:Asn} {og n oc k cols:Nat} {nx:Int} {V:Value->Value} {v mv:Value} {l2:List Ri} {ms:List Rs} {D D2:Db} (h:St w0 fp0 ([A,got2 og n oc k cols nx (ms.flatMap Rs.c) V v l2]++(L++R)) w) (hm:Rd w0 fp0 R λ w=> RefX w ms mv) (hn:ms.length=n) (hk:k < n)
 (hset:∀m:Rs,(m.l.Pairwise λ a b=> a.id < b.id)->MsOk (D.set k m.d) (ms.set k m)) (hasc:l2.Pairwise λ a b=> a.id < b.id) (hrow:∀x∈l2,Rd w0 fp0 R λ w=> ValsAt w x.r x.v) (hD:D2=D.set k (cols,riL l2,nx)):RaPost w0 fp0 L R D2 0 (.returned (.tuple #[.slice (some ⟨og,0,none⟩) n oc, .int .i64 0])) w:=by
 have h1:=(h.perm (List.Perm.swap _ _ _:([A,got2 og n oc k cols nx (ms.flatMap Rs.c) V v l2]++(L++R)).Perm (got2 og n oc k cols nx (ms.flatMap Rs.c) V v l2::A::(L++R))))
 obtain ⟨lv,h2⟩:=St.exE h1;have h3:=St.star.1 h2;have h4:=(St.pure.1 h3).2;obtain ⟨_,hr⟩:=h4.has 1 rfl;obtain ⟨a,c,rfl⟩:=(riA_sl hr).shape;subst hn;rw [set3 Rs.c rsc_len ms k ⟨cols,a,c,nx,l2⟩ (.int .i64 cols) (.slice a l2.length c) (.int .i64 nx) hk rfl] at h4;refine ⟨ms.set k ⟨cols,a,c,nx,l2⟩,some ⟨og,0,none⟩,oc,[rowA 44 3 (.slice (some ⟨og,0,none⟩) ms.length oc) ms.length ((ms.set k ⟨cols,a,c,nx,l2⟩).flatMap Rs.c),riA (.slice a l2.length c) l2],by rw [List.length_set],?_,?_,?_⟩
 · rw [hD]
   exact hset ⟨cols,a,c,nx,l2⟩ hasc
 · rw [List.length_set]
   exact refx_put hm k ⟨cols,a,c,nx,l2⟩ (some ⟨og,0,none⟩) oc hrow
 · have h5:St w0 fp0 (outR og ms.length oc ((ms.set k ⟨cols,a,c,nx,l2⟩).flatMap Rs.c)::riA (.slice a l2.length c) l2::A::(L++R)) w:=h4
   have h6:St w0 fp0 (A::outR og ms.length oc ((ms.set k ⟨cols,a,c,nx,l2⟩).flatMap Rs.c)::riA (.slice a l2.length c) l2::(L++R)) w:=St_re (L:=[_,_,_]) h5 [2,0,1] [] (by kernel_rfl);refine h6.drop.perm ?_;unfold outR
   classical refine List.perm_iff_count.2 λ x=> ?_;simp only [List.count_append,List.count_cons,List.cons_append,List.nil_append];omega
theorem Rg.Ob.lssB (G:Rg) (i:Nat) (p q:Int) (r:Bool) (h:decide (p < q)=r) {ty t:TypeId} {x y:Operand} (hop:(opAt G.ops i).op=.binOp .lss ty x y t:=by rfl) (hx:∀a,G.env i a x=.int .i64 p:=by intro _;exact kr (by kernel_rfl)) (hy:∀a,G.env i a y=.int .i64 q:=by intro _;exact kr (by kernel_rfl)) (hv:∀g,G.valD i g=.bool r:=by intro _;exact kr (by kernel_rfl))
 (hq:(G.quiet i G.pcs.length && G.okV i)=true:=by exact kr (by kernel_rfl)) (hw:∀a,wantE G.ops (opAt G.ops i) (G.env i a)=some true:=by intro _;exact kr (by kernel_rfl)):G.Ob i:=Rg.Ob.read G i hq hw λ L a w _ _=> by
 simp [execOp,hop,hx,hy,go_sem,hv,<-h]
theorem Rg.Ob.gtrB (G:Rg) (i:Nat) (p q:Int) (r:Bool) (h:decide (q < p)=r) {ty t:TypeId} {x y:Operand} (hop:(opAt G.ops i).op=.binOp .gtr ty x y t:=by rfl) (hx:∀a,G.env i a x=.int .i64 p:=by intro _;exact kr (by kernel_rfl)) (hy:∀a,G.env i a y=.int .i64 q:=by intro _;exact kr (by kernel_rfl)) (hv:∀g,G.valD i g=.bool r:=by intro _;exact kr (by kernel_rfl))
 (hq:(G.quiet i G.pcs.length && G.okV i)=true:=by exact kr (by kernel_rfl)) (hw:∀a,wantE G.ops (opAt G.ops i) (G.env i a)=some true:=by intro _;exact kr (by kernel_rfl)):G.Ob i:=Rg.Ob.read G i hq hw λ L a w _ _=> by
 simp [execOp,hop,hx,hy,go_sem,hv,<-h]
theorem Rg.Ob.geqB (G:Rg) (i:Nat) (p q:Int) (r:Bool) (h:decide (q<=p)=r) {ty t:TypeId} {x y:Operand} (hop:(opAt G.ops i).op=.binOp .geq ty x y t:=by rfl) (hx:∀a,G.env i a x=.int .i64 p:=by intro _;exact kr (by kernel_rfl)) (hy:∀a,G.env i a y=.int .i64 q:=by intro _;exact kr (by kernel_rfl)) (hv:∀g,G.valD i g=.bool r:=by intro _;exact kr (by kernel_rfl))
 (hq:(G.quiet i G.pcs.length && G.okV i)=true:=by exact kr (by kernel_rfl)) (hw:∀a,wantE G.ops (opAt G.ops i) (G.env i a)=some true:=by intro _;exact kr (by kernel_rfl)):G.Ob i:=Rg.Ob.read G i hq hw λ L a w _ _=> by
 simp [execOp,hop,hx,hy,go_sem,hv,<-h]
theorem Rg.Ob.eqlB (G:Rg) (i:Nat) (p q:Int) (r:Bool) (h:decide (p=q)=r) {ty t:TypeId} {x y:Operand} (hop:(opAt G.ops i).op=.binOp .eql ty x y t:=by rfl) (hx:∀a,G.env i a x=.int .i64 p:=by intro _;exact kr (by kernel_rfl)) (hy:∀a,G.env i a y=.int .i64 q:=by intro _;exact kr (by kernel_rfl)) (hv:∀g,G.valD i g=.bool r:=by intro _;exact kr (by kernel_rfl))
 (hq:(G.quiet i G.pcs.length && G.okV i)=true:=by exact kr (by kernel_rfl)) (hw:∀a,wantE G.ops (opAt G.ops i) (G.env i a)=some true:=by intro _;exact kr (by kernel_rfl)):G.Ob i:=Rg.Ob.read G i hq hw λ L a w _ _=> by
 have e:decide (p=q)=(p==q):=by by_cases h:p=q <;> simp [h]
 simp [execOp,hop,hx,hy,go_sem,hv,<-h,e]
def gRo1 (cb n on nn oc nc mc:Nat) (tb id:Int) (oa na ma:Option Addr):=rgx Tryz.prog Tryz.f16 1 132 [9,10,11,12,13,14,15,16,17,18,19,20,21,22,23,24,25,26,27,28,29,30,31,32,33,34,35,36,37,38,39,40,41,42,43,44,45,46,47,48,49,50,51,52,53,54,55,56,57,58] [(3,pV cb 0),(0, .slice ma n mc)] (Vq 0 9 [Kp cb 0,Kv (.int .i64 tb),Kv (.bool true),Kv (.bool true),Kv undef,Kv undef,Kv undef,Kv undef,Kv undef,Kv (.bool true),Kv (.bool true),Kv undef,Kv undef,Kv undef,Kv (.bool true),Kv (.bool true),Kv undef,Kv undef,Kv undef,Kv (.bool true),Kv (.bool true),Kv undef,Kv undef,Kv undef,Kv undef,Kv undef,Kv undef,Kv undef,Kv undef,Kv undef,Kv undef,Kv (.bool true),Kv (.bool true),Kv undef,Kv undef,Kv undef,Kv undef,Kv undef,Kv undef,Kv undef,Kv undef,Kv undef,Kv undef,Kv undef,Kv undef,Kv undef,Kv undef,Kv undef,Kv undef,Kv (.bool true)]) [Bk cb (35) [.int .i64 tb, .int .i64 id, .slice oa on oc, .slice na nn nc]]
theorem rRo1 (cb n on nn oc nc mc:Nat) (tb id:Int) (oa na ma:Option Addr) (w0:World) (fp0:List Nat) (R:List Asn) (h2:decide (tb < 0)=true) {w:World} {c:Code} {a:Act} {Q:Exit->Act->World->Prop} (c1:isReg c=true) (c2:cops c=opsR Tryz.f16 1) (c3:a.tmps.size=132) (_c4:a.defers=a.defers) (i3:a.eval (.tmp 3)=.pointer (some ⟨cb,0,none⟩)) (i0:a.eval (.tmp 0)=.slice ma n mc)
 (hS:St w0 fp0 ([blkA cb (35) #[.int .i64 tb, .int .i64 id, .slice oa on oc, .slice na nn nc]]++R) w)
 (hQ:∀(w1:World),St w0 fp0 ([blkA cb (35) #[.int .i64 tb, .int .i64 id, .slice oa on oc, .slice na nn nc]]++R) w1->Q .normal (putL a [(9, .pointer (some ⟨cb,0,none⟩)),(10, .int .i64 tb),(11, .bool true),(12, .bool true),(13,undef),(14,undef),(15,undef),(16,undef),(17,undef),(18, .bool true),(19, .bool true),(20,undef),(21,undef),(22,undef),(23, .bool true),(24, .bool true),(25,undef),(26,undef),(27,undef),(28, .bool true),(29, .bool true),(30,undef),(31,undef),(32,undef),(33,undef),(34,undef),(35,undef),(36,undef),(37,undef),(38,undef),(39,undef),(40, .bool true),(41, .bool true),(42,undef),(43,undef),(44,undef),(45,undef),(46,undef),(47,undef),(48,undef),(49,undef),(50,undef),(51,undef),(52,undef),(53,undef),(54,undef),(55,undef),(56,undef),(57,undef),(58, .bool true)]) w1):c.wp Tryz.prog Q a w:=by
 have ok:(gRo1 cb n on nn oc nc mc tb id oa na ma w0 fp0 R).Ok 50:=Rg.ok _ 50 [1,2,4,5,6,7,8,11,12,13,16,17,18,21,22,23,24,25,26,27,28,29,30,33,34,35,36,37,38,39,40,41,42,43,44,45,46,47,48] ⟨.load _ 1 0 0, .lssB _ 2 (tb) (0) true h2, .skip _ 4, .skip _ 5, .skip _ 6, .skip _ 7, .skip _ 8, .skip _ 11, .skip _ 12, .skip _ 13, .skip _ 16, .skip _ 17, .skip _ 18, .skip _ 21, .skip _ 22, .skip _ 23, .skip _ 24, .skip _ 25, .skip _ 26, .skip _ 27, .skip _ 28, .skip _ 29, .skip _ 30, .skip _ 33, .skip _ 34, .skip _ 35, .skip _ 36, .skip _ 37, .skip _ 38, .skip _ 39, .skip _ 40, .skip _ 41, .skip _ 42, .skip _ 43, .skip _ 44, .skip _ 45, .skip _ 46, .skip _ 47, .skip _ 48,trivial⟩;refine wp_regD ok (by kernel_rfl) ⟨c1,c2⟩ ⟨c3,λ p hp=> ?_⟩ hS λ A1 w1 N1 H1=> ?_
 · simp only [gRo1,rgx,List.map_nil,List.append_nil,List.mem_cons,List.not_mem_nil,or_false] at hp
   rcases hp with rfl | rfl
   · exact i3
   · exact i0
 exact N1.fin [] (hQ w1 H1) (by kernel_rfl)
def gRo2 (cb n on nn oc nc mc:Nat) (tb id:Int) (oa na ma:Option Addr):=rgx Tryz.prog Tryz.f16 1 132 [9,10,11,12,13,14,15,16,17,18,19,20,21,22,23,24,25,26,27,28,29,30,31,32,33,34,35,36,37,38,39,40,41,42,43,44,45,46,47,48,49,50,51,52,53,54,55,56,57,58] [(3,pV cb 0),(0, .slice ma n mc)] (Vq 0 9 [Kp cb 0,Kv (.int .i64 tb),Kv (.bool false),Kv (.bool false),Kp cb 0,Kv (.int .i64 tb),Kv (.slice ma n mc),Kv (.int .i64 (n:Nat)),Kv (.bool true),Kv (.bool true),Kv (.bool true),Kv undef,Kv undef,Kv undef,Kv (.bool true),Kv (.bool true),Kv undef,Kv undef,Kv undef,Kv (.bool true),Kv (.bool true),Kv undef,Kv undef,Kv undef,Kv undef,Kv undef,Kv undef,Kv undef,Kv undef,Kv undef,Kv undef,Kv (.bool true),Kv (.bool true),Kv undef,Kv undef,Kv undef,Kv undef,Kv undef,Kv undef,Kv undef,Kv undef,Kv undef,Kv undef,Kv undef,Kv undef,Kv undef,Kv undef,Kv undef,Kv undef,Kv (.bool true)]) [Bk cb (35) [.int .i64 tb, .int .i64 id, .slice oa on oc, .slice na nn nc]]
theorem rRo2 (cb n on nn oc nc mc:Nat) (tb id:Int) (oa na ma:Option Addr) (w0:World) (fp0:List Nat) (R:List Asn) (h2:decide (tb < 0)=false) (h8:decide (((n:Nat):Int)<=tb)=true) {w:World} {c:Code} {a:Act} {Q:Exit->Act->World->Prop} (c1:isReg c=true) (c2:cops c=opsR Tryz.f16 1) (c3:a.tmps.size=132) (_c4:a.defers=a.defers) (i3:a.eval (.tmp 3)=.pointer (some ⟨cb,0,none⟩)) (i0:a.eval (.tmp 0)=.slice ma n mc)
 (hS:St w0 fp0 ([blkA cb (35) #[.int .i64 tb, .int .i64 id, .slice oa on oc, .slice na nn nc]]++R) w)
 (hQ:∀(w1:World),St w0 fp0 ([blkA cb (35) #[.int .i64 tb, .int .i64 id, .slice oa on oc, .slice na nn nc]]++R) w1->Q .normal (putL a [(9, .pointer (some ⟨cb,0,none⟩)),(10, .int .i64 tb),(11, .bool false),(12, .bool false),(13, .pointer (some ⟨cb,0,none⟩)),(14, .int .i64 tb),(15, .slice ma n mc),(16, .int .i64 (n:Nat)),(17, .bool true),(18, .bool true),(19, .bool true),(20,undef),(21,undef),(22,undef),(23, .bool true),(24, .bool true),(25,undef),(26,undef),(27,undef),(28, .bool true),(29, .bool true),(30,undef),(31,undef),(32,undef),(33,undef),(34,undef),(35,undef),(36,undef),(37,undef),(38,undef),(39,undef),(40, .bool true),(41, .bool true),(42,undef),(43,undef),(44,undef),(45,undef),(46,undef),(47,undef),(48,undef),(49,undef),(50,undef),(51,undef),(52,undef),(53,undef),(54,undef),(55,undef),(56,undef),(57,undef),(58, .bool true)]) w1):c.wp Tryz.prog Q a w:=by
 have ok:(gRo2 cb n on nn oc nc mc tb id oa na ma w0 fp0 R).Ok 50:=Rg.ok _ 50 [1,2,5,8,11,12,13,16,17,18,21,22,23,24,25,26,27,28,29,30,33,34,35,36,37,38,39,40,41,42,43,44,45,46,47,48] ⟨.load _ 1 0 0, .lssB _ 2 (tb) (0) false h2, .load _ 5 0 0, .geqB _ 8 (tb) (((n:Nat):Int)) true h8, .skip _ 11, .skip _ 12, .skip _ 13, .skip _ 16, .skip _ 17, .skip _ 18, .skip _ 21, .skip _ 22, .skip _ 23, .skip _ 24, .skip _ 25, .skip _ 26, .skip _ 27, .skip _ 28, .skip _ 29, .skip _ 30, .skip _ 33, .skip _ 34, .skip _ 35, .skip _ 36, .skip _ 37, .skip _ 38, .skip _ 39, .skip _ 40, .skip _ 41, .skip _ 42, .skip _ 43, .skip _ 44, .skip _ 45, .skip _ 46, .skip _ 47, .skip _ 48,trivial⟩;refine wp_regD ok (by kernel_rfl) ⟨c1,c2⟩ ⟨c3,λ p hp=> ?_⟩ hS λ A1 w1 N1 H1=> ?_
 · simp only [gRo2,rgx,List.map_nil,List.append_nil,List.mem_cons,List.not_mem_nil,or_false] at hp
   rcases hp with rfl | rfl
   · exact i3
   · exact i0
 exact N1.fin [] (hQ w1 H1) (by kernel_rfl)
def gRoA (cb n on nn oc nc mc:Nat) (tb id:Int) (oa na ma:Option Addr):=rgx Tryz.prog Tryz.f16 1 132 [9,10,11,12,13,14,15,16,17,18,19,20,21,22,23,24,25,26,27,28,29,30,31,32,33,34,35,36,37,38,39,40,41,42,43,44,45,46,47,48,49,50,51,52,53,54,55,56,57,58] [(3,pV cb 0),(0, .slice ma n mc)] (Vq 0 9 [Kp cb 0,Kv (.int .i64 tb),Kv (.bool false),Kv (.bool false),Kp cb 0,Kv (.int .i64 tb),Kv (.slice ma n mc),Kv (.int .i64 (n:Nat)),Kv (.bool false),Kv (.bool false),Kv (.bool false),Kp cb 1,Kv (.int .i64 id),Kv (.bool true),Kv (.bool true),Kv (.bool true),Kv undef,Kv undef,Kv undef,Kv (.bool true),Kv (.bool true),Kv undef,Kv undef,Kv undef,Kv undef,Kv undef,Kv undef,Kv undef,Kv undef,Kv undef,Kv undef,Kv (.bool true),Kv (.bool true),Kv undef,Kv undef,Kv undef,Kv undef,Kv undef,Kv undef,Kv undef,Kv undef,Kv undef,Kv undef,Kv undef,Kv undef,Kv undef,Kv undef,Kv undef,Kv undef,Kv (.bool true)]) [Bk cb (35) [.int .i64 tb, .int .i64 id, .slice oa on oc, .slice na nn nc]]
theorem rRoA (cb n on nn oc nc mc:Nat) (tb id:Int) (oa na ma:Option Addr) (w0:World) (fp0:List Nat) (R:List Asn) (h2:decide (tb < 0)=false) (h8:decide (((n:Nat):Int)<=tb)=false) (h13:decide (id < 1)=true) {w:World} {c:Code} {a:Act} {Q:Exit->Act->World->Prop} (c1:isReg c=true) (c2:cops c=opsR Tryz.f16 1) (c3:a.tmps.size=132) (_c4:a.defers=a.defers) (i3:a.eval (.tmp 3)=.pointer (some ⟨cb,0,none⟩)) (i0:a.eval (.tmp 0)=.slice ma n mc)
 (hS:St w0 fp0 ([blkA cb (35) #[.int .i64 tb, .int .i64 id, .slice oa on oc, .slice na nn nc]]++R) w)
 (hQ:∀(w1:World),St w0 fp0 ([blkA cb (35) #[.int .i64 tb, .int .i64 id, .slice oa on oc, .slice na nn nc]]++R) w1->Q .normal (putL a [(9, .pointer (some ⟨cb,0,none⟩)),(10, .int .i64 tb),(11, .bool false),(12, .bool false),(13, .pointer (some ⟨cb,0,none⟩)),(14, .int .i64 tb),(15, .slice ma n mc),(16, .int .i64 (n:Nat)),(17, .bool false),(18, .bool false),(19, .bool false),(20, .pointer (some ⟨cb,1,none⟩)),(21, .int .i64 id),(22, .bool true),(23, .bool true),(24, .bool true),(25,undef),(26,undef),(27,undef),(28, .bool true),(29, .bool true),(30,undef),(31,undef),(32,undef),(33,undef),(34,undef),(35,undef),(36,undef),(37,undef),(38,undef),(39,undef),(40, .bool true),(41, .bool true),(42,undef),(43,undef),(44,undef),(45,undef),(46,undef),(47,undef),(48,undef),(49,undef),(50,undef),(51,undef),(52,undef),(53,undef),(54,undef),(55,undef),(56,undef),(57,undef),(58, .bool true)]) w1):c.wp Tryz.prog Q a w:=by
 have ok:(gRoA cb n on nn oc nc mc tb id oa na ma w0 fp0 R).Ok 50:=Rg.ok _ 50 [1,2,5,8,12,13,16,17,18,21,22,23,24,25,26,27,28,29,30,33,34,35,36,37,38,39,40,41,42,43,44,45,46,47,48] ⟨.load _ 1 0 0, .lssB _ 2 (tb) (0) false h2, .load _ 5 0 0, .geqB _ 8 (tb) (((n:Nat):Int)) false h8, .load _ 12 0 1, .lssB _ 13 (id) (1) true h13, .skip _ 16, .skip _ 17, .skip _ 18, .skip _ 21, .skip _ 22, .skip _ 23, .skip _ 24, .skip _ 25, .skip _ 26, .skip _ 27, .skip _ 28, .skip _ 29, .skip _ 30, .skip _ 33, .skip _ 34, .skip _ 35, .skip _ 36, .skip _ 37, .skip _ 38, .skip _ 39, .skip _ 40, .skip _ 41, .skip _ 42, .skip _ 43, .skip _ 44, .skip _ 45, .skip _ 46, .skip _ 47, .skip _ 48,trivial⟩;refine wp_regD ok (by kernel_rfl) ⟨c1,c2⟩ ⟨c3,λ p hp=> ?_⟩ hS λ A1 w1 N1 H1=> ?_
 · simp only [gRoA,rgx,List.map_nil,List.append_nil,List.mem_cons,List.not_mem_nil,or_false] at hp
   rcases hp with rfl | rfl
   · exact i3
   · exact i0
 exact N1.fin [] (hQ w1 H1) (by kernel_rfl)
def gRoB (cb n on nn oc nc mc:Nat) (tb id:Int) (oa na ma:Option Addr):=rgx Tryz.prog Tryz.f16 1 132 [9,10,11,12,13,14,15,16,17,18,19,20,21,22,23,24,25,26,27,28,29,30,31,32,33,34,35,36,37,38,39,40,41,42,43,44,45,46,47,48,49,50,51,52,53,54,55,56,57,58] [(3,pV cb 0),(0, .slice ma n mc)] (Vq 0 9 [Kp cb 0,Kv (.int .i64 tb),Kv (.bool false),Kv (.bool false),Kp cb 0,Kv (.int .i64 tb),Kv (.slice ma n mc),Kv (.int .i64 (n:Nat)),Kv (.bool false),Kv (.bool false),Kv (.bool false),Kp cb 1,Kv (.int .i64 id),Kv (.bool false),Kv (.bool false),Kv (.bool false),Kp cb 1,Kv (.int .i64 id),Kv (.bool true),Kv (.bool true),Kv (.bool true),Kv undef,Kv undef,Kv undef,Kv undef,Kv undef,Kv undef,Kv undef,Kv undef,Kv undef,Kv undef,Kv (.bool true),Kv (.bool true),Kv undef,Kv undef,Kv undef,Kv undef,Kv undef,Kv undef,Kv undef,Kv undef,Kv undef,Kv undef,Kv undef,Kv undef,Kv undef,Kv undef,Kv undef,Kv undef,Kv (.bool true)]) [Bk cb (35) [.int .i64 tb, .int .i64 id, .slice oa on oc, .slice na nn nc]]
theorem rRoB (cb n on nn oc nc mc:Nat) (tb id:Int) (oa na ma:Option Addr) (w0:World) (fp0:List Nat) (R:List Asn) (h2:decide (tb < 0)=false) (h8:decide (((n:Nat):Int)<=tb)=false) (h13:decide (id < 1)=false) (h18:decide (4611686018427387904 < id)=true) {w:World} {c:Code} {a:Act} {Q:Exit->Act->World->Prop} (c1:isReg c=true) (c2:cops c=opsR Tryz.f16 1) (c3:a.tmps.size=132) (_c4:a.defers=a.defers) (i3:a.eval (.tmp 3)=.pointer (some ⟨cb,0,none⟩)) (i0:a.eval (.tmp 0)=.slice ma n mc)
 (hS:St w0 fp0 ([blkA cb (35) #[.int .i64 tb, .int .i64 id, .slice oa on oc, .slice na nn nc]]++R) w)
 (hQ:∀(w1:World),St w0 fp0 ([blkA cb (35) #[.int .i64 tb, .int .i64 id, .slice oa on oc, .slice na nn nc]]++R) w1->Q .normal (putL a [(9, .pointer (some ⟨cb,0,none⟩)),(10, .int .i64 tb),(11, .bool false),(12, .bool false),(13, .pointer (some ⟨cb,0,none⟩)),(14, .int .i64 tb),(15, .slice ma n mc),(16, .int .i64 (n:Nat)),(17, .bool false),(18, .bool false),(19, .bool false),(20, .pointer (some ⟨cb,1,none⟩)),(21, .int .i64 id),(22, .bool false),(23, .bool false),(24, .bool false),(25, .pointer (some ⟨cb,1,none⟩)),(26, .int .i64 id),(27, .bool true),(28, .bool true),(29, .bool true),(30,undef),(31,undef),(32,undef),(33,undef),(34,undef),(35,undef),(36,undef),(37,undef),(38,undef),(39,undef),(40, .bool true),(41, .bool true),(42,undef),(43,undef),(44,undef),(45,undef),(46,undef),(47,undef),(48,undef),(49,undef),(50,undef),(51,undef),(52,undef),(53,undef),(54,undef),(55,undef),(56,undef),(57,undef),(58, .bool true)]) w1):c.wp Tryz.prog Q a w:=by
 have ok:(gRoB cb n on nn oc nc mc tb id oa na ma w0 fp0 R).Ok 50:=Rg.ok _ 50 [1,2,5,8,12,13,17,18,21,22,23,24,25,26,27,28,29,30,33,34,35,36,37,38,39,40,41,42,43,44,45,46,47,48] ⟨.load _ 1 0 0, .lssB _ 2 (tb) (0) false h2, .load _ 5 0 0, .geqB _ 8 (tb) (((n:Nat):Int)) false h8, .load _ 12 0 1, .lssB _ 13 (id) (1) false h13, .load _ 17 0 1, .gtrB _ 18 (id) (4611686018427387904) true h18, .skip _ 21, .skip _ 22, .skip _ 23, .skip _ 24, .skip _ 25, .skip _ 26, .skip _ 27, .skip _ 28, .skip _ 29, .skip _ 30, .skip _ 33, .skip _ 34, .skip _ 35, .skip _ 36, .skip _ 37, .skip _ 38, .skip _ 39, .skip _ 40, .skip _ 41, .skip _ 42, .skip _ 43, .skip _ 44, .skip _ 45, .skip _ 46, .skip _ 47, .skip _ 48,trivial⟩;refine wp_regD ok (by kernel_rfl) ⟨c1,c2⟩ ⟨c3,λ p hp=> ?_⟩ hS λ A1 w1 N1 H1=> ?_
 · simp only [gRoB,rgx,List.map_nil,List.append_nil,List.mem_cons,List.not_mem_nil,or_false] at hp
   rcases hp with rfl | rfl
   · exact i3
   · exact i0
 exact N1.fin [] (hQ w1 H1) (by kernel_rfl)
def gRoC (cb n on nn oc nc mc:Nat) (tb id:Int) (oa na ma:Option Addr):=rgx Tryz.prog Tryz.f16 1 132 [9,10,11,12,13,14,15,16,17,18,19,20,21,22,23,24,25,26,27,28,29,30,31,32,33,34,35,36,37,38,39,40,41,42,43,44,45,46,47,48,49,50,51,52,53,54,55,56,57,58] [(3,pV cb 0),(0, .slice ma n mc)] (Vq 0 9 [Kp cb 0,Kv (.int .i64 tb),Kv (.bool false),Kv (.bool false),Kp cb 0,Kv (.int .i64 tb),Kv (.slice ma n mc),Kv (.int .i64 (n:Nat)),Kv (.bool false),Kv (.bool false),Kv (.bool false),Kp cb 1,Kv (.int .i64 id),Kv (.bool false),Kv (.bool false),Kv (.bool false),Kp cb 1,Kv (.int .i64 id),Kv (.bool false),Kv (.bool false),Kv (.bool false),Kp cb 2,Kv (.slice oa on oc),Kv (.int .i64 (on:Nat)),Kv (.bool true),Kv (.bool true),Kp cb 3,Kv (.slice na nn nc),Kv (.int .i64 (nn:Nat)),Kv (.bool true),Kv (.bool true),Kv (.bool true),Kv (.bool true),Kv undef,Kv undef,Kv undef,Kv undef,Kv undef,Kv undef,Kv undef,Kv undef,Kv undef,Kv undef,Kv undef,Kv undef,Kv undef,Kv undef,Kv undef,Kv undef,Kv (.bool true)]) [Bk cb (35) [.int .i64 tb, .int .i64 id, .slice oa on oc, .slice na nn nc]]
theorem rRoC (cb n on nn oc nc mc:Nat) (tb id:Int) (oa na ma:Option Addr) (w0:World) (fp0:List Nat) (R:List Asn) (h2:decide (tb < 0)=false) (h8:decide (((n:Nat):Int)<=tb)=false) (h13:decide (id < 1)=false) (h18:decide (4611686018427387904 < id)=false) (h24:decide (((on:Nat):Int)=0)=true) (h29:decide (((nn:Nat):Int)=0)=true) {w:World} {c:Code} {a:Act} {Q:Exit->Act->World->Prop} (c1:isReg c=true) (c2:cops c=opsR Tryz.f16 1) (c3:a.tmps.size=132) (_c4:a.defers=a.defers) (i3:a.eval (.tmp 3)=.pointer (some ⟨cb,0,none⟩)) (i0:a.eval (.tmp 0)=.slice ma n mc)
 (hS:St w0 fp0 ([blkA cb (35) #[.int .i64 tb, .int .i64 id, .slice oa on oc, .slice na nn nc]]++R) w)
 (hQ:∀(w1:World),St w0 fp0 ([blkA cb (35) #[.int .i64 tb, .int .i64 id, .slice oa on oc, .slice na nn nc]]++R) w1->Q .normal (putL a [(9, .pointer (some ⟨cb,0,none⟩)),(10, .int .i64 tb),(11, .bool false),(12, .bool false),(13, .pointer (some ⟨cb,0,none⟩)),(14, .int .i64 tb),(15, .slice ma n mc),(16, .int .i64 (n:Nat)),(17, .bool false),(18, .bool false),(19, .bool false),(20, .pointer (some ⟨cb,1,none⟩)),(21, .int .i64 id),(22, .bool false),(23, .bool false),(24, .bool false),(25, .pointer (some ⟨cb,1,none⟩)),(26, .int .i64 id),(27, .bool false),(28, .bool false),(29, .bool false),(30, .pointer (some ⟨cb,2,none⟩)),(31, .slice oa on oc),(32, .int .i64 (on:Nat)),(33, .bool true),(34, .bool true),(35, .pointer (some ⟨cb,3,none⟩)),(36, .slice na nn nc),(37, .int .i64 (nn:Nat)),(38, .bool true),(39, .bool true),(40, .bool true),(41, .bool true),(42,undef),(43,undef),(44,undef),(45,undef),(46,undef),(47,undef),(48,undef),(49,undef),(50,undef),(51,undef),(52,undef),(53,undef),(54,undef),(55,undef),(56,undef),(57,undef),(58, .bool true)]) w1):c.wp Tryz.prog Q a w:=by
 have ok:(gRoC cb n on nn oc nc mc tb id oa na ma w0 fp0 R).Ok 50:=Rg.ok _ 50 [1,2,5,8,12,13,17,18,22,24,27,29,33,34,35,36,37,38,39,40,41,42,43,44,45,46,47,48] ⟨.load _ 1 0 0, .lssB _ 2 (tb) (0) false h2, .load _ 5 0 0, .geqB _ 8 (tb) (((n:Nat):Int)) false h8, .load _ 12 0 1, .lssB _ 13 (id) (1) false h13, .load _ 17 0 1, .gtrB _ 18 (id) (4611686018427387904) false h18, .load _ 22 0 2, .eqlB _ 24 (((on:Nat):Int)) (0) true h24, .load _ 27 0 3, .eqlB _ 29 (((nn:Nat):Int)) (0) true h29, .skip _ 33, .skip _ 34, .skip _ 35, .skip _ 36, .skip _ 37, .skip _ 38, .skip _ 39, .skip _ 40, .skip _ 41, .skip _ 42, .skip _ 43, .skip _ 44, .skip _ 45, .skip _ 46, .skip _ 47, .skip _ 48,trivial⟩;refine wp_regD ok (by kernel_rfl) ⟨c1,c2⟩ ⟨c3,λ p hp=> ?_⟩ hS λ A1 w1 N1 H1=> ?_
 · simp only [gRoC,rgx,List.map_nil,List.append_nil,List.mem_cons,List.not_mem_nil,or_false] at hp
   rcases hp with rfl | rfl
   · exact i3
   · exact i0
 exact N1.fin [] (hQ w1 H1) (by kernel_rfl)
def gRoD (cb n on nn oc nc mb mo mc k cols:Nat) (id:Int) (oa na:Option Addr) (q:Bool):=rgx Tryz.prog Tryz.f16 1 132 [9,10,11,12,13,14,15,16,17,18,19,20,21,22,23,24,25,26,27,28,29,30,31,32,33,34,35,36,37,38,39,40,41,42,43,44,45,46,47,48,49,50,51,52,53,54,55,56,57,58] [(3,pV cb 0),(0, .slice (some ⟨mb,mo,none⟩) n mc)] (Vq 0 9 [Kp cb 0,Kv (.int .i64 k),Kv (.bool false),Kv (.bool false),Kp cb 0,Kv (.int .i64 k),Kv (.slice (some ⟨mb,mo,none⟩) n mc),Kv (.int .i64 (n:Nat)),Kv (.bool false),Kv (.bool false),Kv (.bool false),Kp cb 1,Kv (.int .i64 id),Kv (.bool false),Kv (.bool false),Kv (.bool false),Kp cb 1,Kv (.int .i64 id),Kv (.bool false),Kv (.bool false),Kv (.bool false),Kp cb 2,Kv (.slice oa on oc),Kv (.int .i64 (on:Nat)),Kv (.bool true),Kv (.bool true),Kp cb 3,Kv (.slice na nn nc),Kv (.int .i64 (nn:Nat)),Kv (.bool false),Kv (.bool false),Kv (.bool false),Kv (.bool false),Kp cb 3,Kv (.slice na nn nc),Kv (.int .i64 (nn:Nat)),Kv (.bool true),Kv (.bool true),Kv (.slice (some ⟨mb,mo,none⟩) n mc),Kp cb 0,Kv (.int .i64 k),Kp mb (mo+k * 3),Kp mb (mo+k * 3),Kv (.int .i64 (cols:Nat)),Kp cb 3,Kv (.slice na nn nc),Kv (.bool q),Kv (.bool (!q)),Kv (.bool (!q)),Kv (.bool (!q))]) [Bk cb (35) [.int .i64 k, .int .i64 id, .slice oa on oc, .slice na nn nc]]
theorem rRoD (cb n on nn oc nc mb mo mc k cols:Nat) (id:Int) (oa na:Option Addr) (q:Bool) (w0:World) (fp0:List Nat) (R:List Asn) (h2:decide (((k:Nat):Int) < 0)=false) (h8:decide (((n:Nat):Int)<=((k:Nat):Int))=false) (h13:decide (id < 1)=false) (h18:decide (4611686018427387904 < id)=false) (h24:decide (((on:Nat):Int)=0)=true) (h29:decide (((nn:Nat):Int)=0)=false) (h36:decide (0 < ((nn:Nat):Int))=true) (hk:k < n) (hcol:∀L w,St w0 fp0 (L++R) w->w.cell? ⟨mb,mo+k * 3,none⟩=some (.int .i64 cols)) (hsto:∀L w,St w0 fp0 (L++R) w->Calls Tryz.prog 45 #[.int .i64 cols, .slice na nn nc] w λ e w'=> e=.returned (.bool q)/\Below w.heap.size w w') {w:World} {c:Code} {a:Act} {Q:Exit->Act->World->Prop} (c1:isReg c=true) (c2:cops c=opsR Tryz.f16 1) (c3:a.tmps.size=132) (_c4:a.defers=a.defers) (i3:a.eval (.tmp 3)=.pointer (some ⟨cb,0,none⟩)) (i0:a.eval (.tmp 0)=.slice (some ⟨mb,mo,none⟩) n mc)
 (hS:St w0 fp0 ([blkA cb (35) #[.int .i64 k, .int .i64 id, .slice oa on oc, .slice na nn nc]]++R) w)
 (hQ:∀(w1:World),St w0 fp0 ([blkA cb (35) #[.int .i64 k, .int .i64 id, .slice oa on oc, .slice na nn nc]]++R) w1->Q .normal (putL a [(9, .pointer (some ⟨cb,0,none⟩)),(10, .int .i64 k),(11, .bool false),(12, .bool false),(13, .pointer (some ⟨cb,0,none⟩)),(14, .int .i64 k),(15, .slice (some ⟨mb,mo,none⟩) n mc),(16, .int .i64 (n:Nat)),(17, .bool false),(18, .bool false),(19, .bool false),(20, .pointer (some ⟨cb,1,none⟩)),(21, .int .i64 id),(22, .bool false),(23, .bool false),(24, .bool false),(25, .pointer (some ⟨cb,1,none⟩)),(26, .int .i64 id),(27, .bool false),(28, .bool false),(29, .bool false),(30, .pointer (some ⟨cb,2,none⟩)),(31, .slice oa on oc),(32, .int .i64 (on:Nat)),(33, .bool true),(34, .bool true),(35, .pointer (some ⟨cb,3,none⟩)),(36, .slice na nn nc),(37, .int .i64 (nn:Nat)),(38, .bool false),(39, .bool false),(40, .bool false),(41, .bool false),(42, .pointer (some ⟨cb,3,none⟩)),(43, .slice na nn nc),(44, .int .i64 (nn:Nat)),(45, .bool true),(46, .bool true),(47, .slice (some ⟨mb,mo,none⟩) n mc),(48, .pointer (some ⟨cb,0,none⟩)),(49, .int .i64 k),(50, .pointer (some ⟨mb,mo+k * 3,none⟩)),(51, .pointer (some ⟨mb,mo+k * 3,none⟩)),(52, .int .i64 (cols:Nat)),(53, .pointer (some ⟨cb,3,none⟩)),(54, .slice na nn nc),(55, .bool q),(56, .bool (!q)),(57, .bool (!q)),(58, .bool (!q))]) w1):c.wp Tryz.prog Q a w:=by
 have ok:(gRoD cb n on nn oc nc mb mo mc k cols id oa na q w0 fp0 R).Ok 50:=Rg.ok _ 50 [1,2,5,8,12,13,17,18,22,24,27,29,34,36,40,41,43,45,46] ⟨.load _ 1 0 0, .lssB _ 2 ((k:Nat):Int) (0) false h2, .load _ 5 0 0, .geqB _ 8 ((k:Nat):Int) (((n:Nat):Int)) false h8, .load _ 12 0 1, .lssB _ 13 (id) (1) false h13, .load _ 17 0 1, .gtrB _ 18 (id) (4611686018427387904) false h18, .load _ 22 0 2, .eqlB _ 24 (((on:Nat):Int)) (0) true h24, .load _ 27 0 3, .eqlB _ 29 (((nn:Nat):Int)) (0) false h29, .load _ 34 0 3, .gtrB _ 36 (((nn:Nat):Int)) (0) true h36, .load _ 40 0 0, .indexO _ 41 mb mo n mc k 3 hk, .loadR1 _ 43 (.int .i64 (cols:Nat)) hcol, .load _ 45 0 3, .askR _ 46 hsto,trivial⟩;refine wp_regD ok (by kernel_rfl) ⟨c1,c2⟩ ⟨c3,λ p hp=> ?_⟩ hS λ A1 w1 N1 H1=> ?_
 · simp only [gRoD,rgx,List.map_nil,List.append_nil,List.mem_cons,List.not_mem_nil,or_false] at hp
   rcases hp with rfl | rfl
   · exact i3
   · exact i0
 exact N1.fin [] (hQ w1 H1) (by kernel_rfl)
def gRoE (cb n on nn oc nc mc:Nat) (tb id:Int) (oa na ma:Option Addr):=rgx Tryz.prog Tryz.f16 1 132 [9,10,11,12,13,14,15,16,17,18,19,20,21,22,23,24,25,26,27,28,29,30,31,32,33,34,35,36,37,38,39,40,41,42,43,44,45,46,47,48,49,50,51,52,53,54,55,56,57,58] [(3,pV cb 0),(0, .slice ma n mc)] (Vq 0 9 [Kp cb 0,Kv (.int .i64 tb),Kv (.bool false),Kv (.bool false),Kp cb 0,Kv (.int .i64 tb),Kv (.slice ma n mc),Kv (.int .i64 (n:Nat)),Kv (.bool false),Kv (.bool false),Kv (.bool false),Kp cb 1,Kv (.int .i64 id),Kv (.bool false),Kv (.bool false),Kv (.bool false),Kp cb 1,Kv (.int .i64 id),Kv (.bool false),Kv (.bool false),Kv (.bool false),Kp cb 2,Kv (.slice oa on oc),Kv (.int .i64 (on:Nat)),Kv (.bool false),Kv (.bool false),Kv undef,Kv undef,Kv undef,Kv undef,Kv (.bool false),Kv (.bool false),Kv (.bool false),Kp cb 3,Kv (.slice na nn nc),Kv (.int .i64 (nn:Nat)),Kv (.bool false),Kv (.bool false),Kv undef,Kv undef,Kv undef,Kv undef,Kv undef,Kv undef,Kv undef,Kv undef,Kv undef,Kv undef,Kv (.bool false),Kv (.bool false)]) [Bk cb (35) [.int .i64 tb, .int .i64 id, .slice oa on oc, .slice na nn nc]]
theorem rRoE (cb n on nn oc nc mc:Nat) (tb id:Int) (oa na ma:Option Addr) (w0:World) (fp0:List Nat) (R:List Asn) (h2:decide (tb < 0)=false) (h8:decide (((n:Nat):Int)<=tb)=false) (h13:decide (id < 1)=false) (h18:decide (4611686018427387904 < id)=false) (h24:decide (((on:Nat):Int)=0)=false) (h36:decide (0 < ((nn:Nat):Int))=false) {w:World} {c:Code} {a:Act} {Q:Exit->Act->World->Prop} (c1:isReg c=true) (c2:cops c=opsR Tryz.f16 1) (c3:a.tmps.size=132) (_c4:a.defers=a.defers) (i3:a.eval (.tmp 3)=.pointer (some ⟨cb,0,none⟩)) (i0:a.eval (.tmp 0)=.slice ma n mc)
 (hS:St w0 fp0 ([blkA cb (35) #[.int .i64 tb, .int .i64 id, .slice oa on oc, .slice na nn nc]]++R) w)
 (hQ:∀(w1:World),St w0 fp0 ([blkA cb (35) #[.int .i64 tb, .int .i64 id, .slice oa on oc, .slice na nn nc]]++R) w1->Q .normal (putL a [(9, .pointer (some ⟨cb,0,none⟩)),(10, .int .i64 tb),(11, .bool false),(12, .bool false),(13, .pointer (some ⟨cb,0,none⟩)),(14, .int .i64 tb),(15, .slice ma n mc),(16, .int .i64 (n:Nat)),(17, .bool false),(18, .bool false),(19, .bool false),(20, .pointer (some ⟨cb,1,none⟩)),(21, .int .i64 id),(22, .bool false),(23, .bool false),(24, .bool false),(25, .pointer (some ⟨cb,1,none⟩)),(26, .int .i64 id),(27, .bool false),(28, .bool false),(29, .bool false),(30, .pointer (some ⟨cb,2,none⟩)),(31, .slice oa on oc),(32, .int .i64 (on:Nat)),(33, .bool false),(34, .bool false),(35,undef),(36,undef),(37,undef),(38,undef),(39, .bool false),(40, .bool false),(41, .bool false),(42, .pointer (some ⟨cb,3,none⟩)),(43, .slice na nn nc),(44, .int .i64 (nn:Nat)),(45, .bool false),(46, .bool false),(47,undef),(48,undef),(49,undef),(50,undef),(51,undef),(52,undef),(53,undef),(54,undef),(55,undef),(56,undef),(57, .bool false),(58, .bool false)]) w1):c.wp Tryz.prog Q a w:=by
 have ok:(gRoE cb n on nn oc nc mc tb id oa na ma w0 fp0 R).Ok 50:=Rg.ok _ 50 [1,2,5,8,12,13,17,18,22,24,26,27,28,29,34,36,38,39,40,41,42,43,44,45,46,47] ⟨.load _ 1 0 0, .lssB _ 2 (tb) (0) false h2, .load _ 5 0 0, .geqB _ 8 (tb) (((n:Nat):Int)) false h8, .load _ 12 0 1, .lssB _ 13 (id) (1) false h13, .load _ 17 0 1, .gtrB _ 18 (id) (4611686018427387904) false h18, .load _ 22 0 2, .eqlB _ 24 (((on:Nat):Int)) (0) false h24, .skip _ 26, .skip _ 27, .skip _ 28, .skip _ 29, .load _ 34 0 3, .gtrB _ 36 (((nn:Nat):Int)) (0) false h36, .skip _ 38, .skip _ 39, .skip _ 40, .skip _ 41, .skip _ 42, .skip _ 43, .skip _ 44, .skip _ 45, .skip _ 46, .skip _ 47,trivial⟩;refine wp_regD ok (by kernel_rfl) ⟨c1,c2⟩ ⟨c3,λ p hp=> ?_⟩ hS λ A1 w1 N1 H1=> ?_
 · simp only [gRoE,rgx,List.map_nil,List.append_nil,List.mem_cons,List.not_mem_nil,or_false] at hp
   rcases hp with rfl | rfl
   · exact i3
   · exact i0
 exact N1.fin [] (hQ w1 H1) (by kernel_rfl)
def gRoF (cb n on nn oc nc mb mo mc k cols:Nat) (id:Int) (oa na:Option Addr) (q:Bool):=rgx Tryz.prog Tryz.f16 1 132 [9,10,11,12,13,14,15,16,17,18,19,20,21,22,23,24,25,26,27,28,29,30,31,32,33,34,35,36,37,38,39,40,41,42,43,44,45,46,47,48,49,50,51,52,53,54,55,56,57,58] [(3,pV cb 0),(0, .slice (some ⟨mb,mo,none⟩) n mc)] (Vq 0 9 [Kp cb 0,Kv (.int .i64 k),Kv (.bool false),Kv (.bool false),Kp cb 0,Kv (.int .i64 k),Kv (.slice (some ⟨mb,mo,none⟩) n mc),Kv (.int .i64 (n:Nat)),Kv (.bool false),Kv (.bool false),Kv (.bool false),Kp cb 1,Kv (.int .i64 id),Kv (.bool false),Kv (.bool false),Kv (.bool false),Kp cb 1,Kv (.int .i64 id),Kv (.bool false),Kv (.bool false),Kv (.bool false),Kp cb 2,Kv (.slice oa on oc),Kv (.int .i64 (on:Nat)),Kv (.bool false),Kv (.bool false),Kv undef,Kv undef,Kv undef,Kv undef,Kv (.bool false),Kv (.bool false),Kv (.bool false),Kp cb 3,Kv (.slice na nn nc),Kv (.int .i64 (nn:Nat)),Kv (.bool true),Kv (.bool true),Kv (.slice (some ⟨mb,mo,none⟩) n mc),Kp cb 0,Kv (.int .i64 k),Kp mb (mo+k * 3),Kp mb (mo+k * 3),Kv (.int .i64 (cols:Nat)),Kp cb 3,Kv (.slice na nn nc),Kv (.bool q),Kv (.bool (!q)),Kv (.bool (!q)),Kv (.bool (!q))]) [Bk cb (35) [.int .i64 k, .int .i64 id, .slice oa on oc, .slice na nn nc]]
theorem rRoF (cb n on nn oc nc mb mo mc k cols:Nat) (id:Int) (oa na:Option Addr) (q:Bool) (w0:World) (fp0:List Nat) (R:List Asn) (h2:decide (((k:Nat):Int) < 0)=false) (h8:decide (((n:Nat):Int)<=((k:Nat):Int))=false) (h13:decide (id < 1)=false) (h18:decide (4611686018427387904 < id)=false) (h24:decide (((on:Nat):Int)=0)=false) (h36:decide (0 < ((nn:Nat):Int))=true) (hk:k < n) (hcol:∀L w,St w0 fp0 (L++R) w->w.cell? ⟨mb,mo+k * 3,none⟩=some (.int .i64 cols)) (hsto:∀L w,St w0 fp0 (L++R) w->Calls Tryz.prog 45 #[.int .i64 cols, .slice na nn nc] w λ e w'=> e=.returned (.bool q)/\Below w.heap.size w w') {w:World} {c:Code} {a:Act} {Q:Exit->Act->World->Prop} (c1:isReg c=true) (c2:cops c=opsR Tryz.f16 1) (c3:a.tmps.size=132) (_c4:a.defers=a.defers) (i3:a.eval (.tmp 3)=.pointer (some ⟨cb,0,none⟩)) (i0:a.eval (.tmp 0)=.slice (some ⟨mb,mo,none⟩) n mc)
 (hS:St w0 fp0 ([blkA cb (35) #[.int .i64 k, .int .i64 id, .slice oa on oc, .slice na nn nc]]++R) w)
 (hQ:∀(w1:World),St w0 fp0 ([blkA cb (35) #[.int .i64 k, .int .i64 id, .slice oa on oc, .slice na nn nc]]++R) w1->Q .normal (putL a [(9, .pointer (some ⟨cb,0,none⟩)),(10, .int .i64 k),(11, .bool false),(12, .bool false),(13, .pointer (some ⟨cb,0,none⟩)),(14, .int .i64 k),(15, .slice (some ⟨mb,mo,none⟩) n mc),(16, .int .i64 (n:Nat)),(17, .bool false),(18, .bool false),(19, .bool false),(20, .pointer (some ⟨cb,1,none⟩)),(21, .int .i64 id),(22, .bool false),(23, .bool false),(24, .bool false),(25, .pointer (some ⟨cb,1,none⟩)),(26, .int .i64 id),(27, .bool false),(28, .bool false),(29, .bool false),(30, .pointer (some ⟨cb,2,none⟩)),(31, .slice oa on oc),(32, .int .i64 (on:Nat)),(33, .bool false),(34, .bool false),(35,undef),(36,undef),(37,undef),(38,undef),(39, .bool false),(40, .bool false),(41, .bool false),(42, .pointer (some ⟨cb,3,none⟩)),(43, .slice na nn nc),(44, .int .i64 (nn:Nat)),(45, .bool true),(46, .bool true),(47, .slice (some ⟨mb,mo,none⟩) n mc),(48, .pointer (some ⟨cb,0,none⟩)),(49, .int .i64 k),(50, .pointer (some ⟨mb,mo+k * 3,none⟩)),(51, .pointer (some ⟨mb,mo+k * 3,none⟩)),(52, .int .i64 (cols:Nat)),(53, .pointer (some ⟨cb,3,none⟩)),(54, .slice na nn nc),(55, .bool q),(56, .bool (!q)),(57, .bool (!q)),(58, .bool (!q))]) w1):c.wp Tryz.prog Q a w:=by
 have ok:(gRoF cb n on nn oc nc mb mo mc k cols id oa na q w0 fp0 R).Ok 50:=Rg.ok _ 50 [1,2,5,8,12,13,17,18,22,24,26,27,28,29,34,36,40,41,43,45,46] ⟨.load _ 1 0 0, .lssB _ 2 ((k:Nat):Int) (0) false h2, .load _ 5 0 0, .geqB _ 8 ((k:Nat):Int) (((n:Nat):Int)) false h8, .load _ 12 0 1, .lssB _ 13 (id) (1) false h13, .load _ 17 0 1, .gtrB _ 18 (id) (4611686018427387904) false h18, .load _ 22 0 2, .eqlB _ 24 (((on:Nat):Int)) (0) false h24, .skip _ 26, .skip _ 27, .skip _ 28, .skip _ 29, .load _ 34 0 3, .gtrB _ 36 (((nn:Nat):Int)) (0) true h36, .load _ 40 0 0, .indexO _ 41 mb mo n mc k 3 hk, .loadR1 _ 43 (.int .i64 (cols:Nat)) hcol, .load _ 45 0 3, .askR _ 46 hsto,trivial⟩;refine wp_regD ok (by kernel_rfl) ⟨c1,c2⟩ ⟨c3,λ p hp=> ?_⟩ hS λ A1 w1 N1 H1=> ?_
 · simp only [gRoF,rgx,List.map_nil,List.append_nil,List.mem_cons,List.not_mem_nil,or_false] at hp
   rcases hp with rfl | rfl
   · exact i3
   · exact i0
 exact N1.fin [] (hQ w1 H1) (by kernel_rfl)
theorem RApply_calls (ms:List Rs) (mv:Value) (D:Db) (hms:MsOk D ms) (c:Chg) (hok:c.Ok) (hlen:∀t∈D,t.2.1.length < 1000000) (hml:ms.length<=1000) (w0 w:World) (fp0:List Nat) (L R:List Asn) (hm:Rd w0 fp0 R λ w=> RefX w ms mv) (hc:Rd w0 fp0 R λ w=> c.X w) (hS:St w0 fp0 (L++R) w):
 Calls Tryz.prog 16 #[mv,c.v] w λ e w'=> RaPost w0 fp0 L R (appD D c) (chkD D c) e w':=by
 have hmx:=hm.at hS;obtain ⟨ma,mc,rfl⟩:=hmx.sl.shape;have HMS:=Lib.hid hms;have HC:=Lib.hid hc;have HM:=Lib.hid hm;have HOK:=Lib.hid hok;have HLEN:=Lib.hid hlen;have HMR:=Lib.hid (λ (w':World) (hs:St w0 fp0 (L++R) w')=> hm.at hs);obtain ⟨ch,hch⟩:∃ch,chkD D c=ch:=⟨_,rfl⟩
 obtain ⟨D2,hD2⟩:∃D2,appD D c=D2:=⟨_,rfl⟩
 have HCH:=Lib.hid hch;have HD2:=Lib.hid hD2;have HEND:Hid (ch≠0->∀w',St w0 fp0 (L++R) w'->RaPost w0 fp0 L R D2 ch (.returned (.tuple #[.slice ma ms.length mc, .int .i64 ch])) w'):=λ h w' hs=> ⟨ms,ma,mc,[],rfl,by rw [<-hD2,appD_no (by rw [hch];exact h)];exact hms,hm,hs⟩
 have HS0:=Lib.hid (hS.newblk 35 #[.int .i64 c.tb, .int .i64 c.id,c.ov,c.nv]);rw [hch,hD2];clear hS hmx hms hc hm hok hlen hch hD2;obtain ⟨tb,id,oa,oc,na,nc,old,new⟩:=c;unfold Chg.v Chg.ov Chg.nv at *;simp only at *;obtain ⟨on,hon⟩:∃on,old.length=on:=⟨_,rfl⟩
 obtain ⟨nn,hnn⟩:∃nn,new.length=nn:=⟨_,rfl⟩
 obtain ⟨n,hn⟩:∃n,ms.length=n:=⟨_,rfl⟩
 have HON:=Lib.hid hon;have HNN:=Lib.hid hnn;have HN:=Lib.hid hn;rw [hon,hnn] at HS0;rw [hon,hnn];rw [hn] at HEND HM HMR ⊢;rw [hn] at hml;clear hon hnn hn;go_enter Tryz.func16,Tryz.ntmps16;go_upto_region 1 with (fail)
 generalize hW:w.alloc _=W at *;clear hW;obtain ⟨cb,hcb⟩:∃cb,w.heap.size=cb:=⟨_,rfl⟩
 rw [hcb] at HS0 ⊢;clear hcb;obtain ⟨c0,c1,c2,c3,cl⟩:=cells4 HS0.out 0 rfl;have hSR:St w0 fp0 ([blkA cb (35) #[.int .i64 tb, .int .i64 id, .slice oa on oc, .slice na nn nc]]++(L++R)) W:=HS0.out;clear c0 c1 c2 c3 cl;by_cases ht:0<=tb/\tb < n
 · obtain ⟨k,rfl⟩:∃k:Nat,tb=k:=⟨tb.toNat,by omega⟩
   have hk:k < n:=by omega
   have hkm:k < ms.length:=by rw [HN.out];exact hk
   have hmx:=HMR.out _ HS0.out.drop;obtain ⟨mb,mo,mc',e1,mbl,p0,p1,p2⟩:=hmx.cells k hkm;obtain ⟨rfl, -,rfl⟩:=Value.slice.inj e1;have hat:=HMS.out.at k hkm;have hmem:=List.getElem_mem hkm;have hset:=λ (m:Rs) ha=> HMS.out.put k m ha;have hasc:=HMS.out.asc _ hmem;have HCR:Hid (∀M w,St w0 fp0 (M++(L++R)) w->w.cell? ⟨mb,mo+k * 3,none⟩=some (.int .i64 ms[k].cols)/\w.cell? ⟨mb,mo+k * 3+1,none⟩=some ms[k].lv/\w.cell? ⟨mb,mo+k * 3+2,none⟩=some (.int .i64 ms[k].next)/\RiX w ms[k].l ms[k].lv):=λ M w h=> by have hx:=(HM.out.app L) M w h;obtain ⟨b',o',c',e1, -,q0,q1,q2⟩:=hx.cells k hkm;obtain ⟨e1, -, -⟩:=Value.slice.inj e1;injection e1 with e1;injection e1 with e1 e2;subst e1 e2;exact ⟨q0,q1,q2,hx.ri _ hmem⟩
   have HRX:Hid (∀x∈ms[k].l,Rd w0 fp0 R λ w=> ValsAt w x.r x.v):=λ x hx=> HM.out.imp λ w h=> (h.ri _ hmem).row x hx;have HCH2:Hid (chkT ms[k].cols (riL ms[k].l) id old new=ch):=by show _=_;rw [<-HCH.out,chkD,rowD_in hat]
   have HLL:Hid (ms[k].l.length < 1000000):=by have:=HLEN.out _ (List.mem_of_getElem? hat);rw [riL_len] at this;exact this
   have HD3:Hid (ch=0->D2=D.set k (ms[k].cols,appT ms[k].cols id new (riL ms[k].l),appN ms[k].cols id new ms[k].next)):=λ h=> by rw [<-HD2.out,appD,rowD_in hat];simp only;rw [if_pos (by rw [HCH2.out,h]),Int.toNat_natCast]
   have HST:=Lib.hid (And.intro hasc hset);clear e1 hat hmem hset hasc hmx;generalize ms[k]=m at *;obtain ⟨cols,la,lc,next,l⟩:=m;unfold Rs.lv at p1 HCR;simp only at p0 p1 p2 HCR HRX HCH2 HLL HD3 HST;have HRS:Hid (∀M w,St w0 fp0 (M++(L++R)) w->Calls Tryz.prog 45 #[.int .i64 cols, .slice na nn nc] w λ e w'=> e=.returned (.bool (storB cols new))/\Below w.heap.size w w'):=λ M w h=> by have hx:=((HC.out.app L) M w h).new;unfold Chg.nv at hx;simp only at hx;rw [HNN.out] at hx;exact RStorable_calls cols new _ w hx
   obtain ⟨iv,hiv⟩:∃iv,invB cols id old new=iv:=⟨_,rfl⟩
   have HIV:=Lib.hid hiv;obtain ⟨st,hst⟩:∃st,storB cols new=st:=⟨_,rfl⟩
   have HSB:=Lib.hid hst;rw [hst] at HRS;have HO:Hid (on=0↔old=[]):=by show _↔_;rw [<-HON.out];exact List.length_eq_zero_iff
   have HNE:Hid (nn=0↔new=[]):=by show _↔_;rw [<-HNN.out];exact List.length_eq_zero_iff
   have t2:decide (((k:Nat):Int) < 0)=false:=by simp
   have t8:decide (((n:Nat):Int)<=((k:Nat):Int))=false:=by simp;omega
   clear hiv hst p0 p1 p2 mbl;go_cut [58] (λ z wx=> z=.bool iv/\Hid (St w0 fp0 (blkA cb 35 #[.int .i64 k, .int .i64 id, .slice oa on oc, .slice na nn nc]::(L++R)) wx))
   case first=>
    by_cases h1:id < 1
    · have HE:Hid (iv=true):=by
       show _=_;rw [<-HIV.out];exact decide_eq_true (.inl (by omega))
      obtain rfl:=HE.out;refine rRoA (w0:=w0) (fp0:=fp0) (R:=L++R) cb n on nn oc nc mc k id oa na (some ⟨mb,mo,none⟩) t2 t8 (decide_eq_true h1) rfl (by kernel_rfl) rfl rfl rfl rfl hSR ?_;intro w1 g1
      try clear h3
      try clear h4
      try clear hn
      have G1:=Lib.hid g1;clear g1;simp only [putL,List.foldl,Act.put,List.setIfInBounds_toArray,List.set_cons_succ,List.set_cons_zero];go_wp2;go_meet;exact ⟨rfl,G1.out⟩
    · have f13:decide (id < 1)=false:=decide_eq_false h1
      by_cases h2:4611686018427387904 < id
      · have HE:Hid (iv=true):=by
         show _=_;rw [<-HIV.out];exact decide_eq_true (.inl (by omega))
        obtain rfl:=HE.out;refine rRoB (w0:=w0) (fp0:=fp0) (R:=L++R) cb n on nn oc nc mc k id oa na (some ⟨mb,mo,none⟩) t2 t8 f13 (decide_eq_true h2) rfl (by kernel_rfl) rfl rfl rfl rfl hSR ?_;intro w1 g1
        try clear h3
        try clear h4
        try clear hn
        have G1:=Lib.hid g1;clear g1;simp only [putL,List.foldl,Act.put,List.setIfInBounds_toArray,List.set_cons_succ,List.set_cons_zero];go_wp2;go_meet;exact ⟨rfl,G1.out⟩
      · have f18:decide (4611686018427387904 < id)=false:=decide_eq_false h2
        have HR:Hid (1<=id/\id<=4611686018427387904):=by show _/\_;omega
        by_cases h4:nn=0
        · have hn:=HNE.out.1 h4
          by_cases h3:on=0
          · have HE:Hid (iv=true):=by
             show _=_;rw [<-HIV.out];exact decide_eq_true (.inr (.inl ⟨HO.out.1 h3,hn⟩))
            obtain rfl:=HE.out;refine rRoC (w0:=w0) (fp0:=fp0) (R:=L++R) cb n on nn oc nc mc k id oa na (some ⟨mb,mo,none⟩) t2 t8 f13 f18 (decide_eq_true (by omega)) (decide_eq_true (by omega)) rfl (by kernel_rfl) rfl rfl rfl rfl hSR ?_;intro w1 g1
            try clear h3
            try clear h4
            try clear hn
            have G1:=Lib.hid g1;clear g1;simp only [putL,List.foldl,Act.put,List.setIfInBounds_toArray,List.set_cons_succ,List.set_cons_zero];go_wp2;go_meet;exact ⟨rfl,G1.out⟩
          · have HE:Hid (iv=false):=by
             show _=_;rw [<-HIV.out];refine decide_eq_false λ h=> ?_;rcases h with h | h | h
             · exact h HR.out
             · exact h3 (HO.out.2 h.1)
             · exact h.1 hn
            obtain rfl:=HE.out;refine rRoE (w0:=w0) (fp0:=fp0) (R:=L++R) cb n on nn oc nc mc k id oa na (some ⟨mb,mo,none⟩) t2 t8 f13 f18 (decide_eq_false (by omega)) (decide_eq_false (by omega)) rfl (by kernel_rfl) rfl rfl rfl rfl hSR ?_;intro w1 g1
            try clear h3
            try clear h4
            try clear hn
            have G1:=Lib.hid g1;clear g1;simp only [putL,List.foldl,Act.put,List.setIfInBounds_toArray,List.set_cons_succ,List.set_cons_zero];go_wp2;go_meet;exact ⟨rfl,G1.out⟩
        · have HE:Hid (iv=!st):=by
           show _=_;rw [<-HIV.out];cases st with
           | true=>
            refine decide_eq_false λ h=> ?_;rcases h with h | h | h
            · exact h HR.out
            · exact h4 (HNE.out.2 h.2)
            · rw [HSB.out] at h;cases h.2
           | false=> exact decide_eq_true (.inr (.inr ⟨λ e=> h4 (HNE.out.2 e),HSB.out⟩))
          obtain rfl:=HE.out;have hcol:∀M w,St w0 fp0 (M++(L++R)) w->w.cell? ⟨mb,mo+k * 3,none⟩=some (.int .i64 cols):=λ M w h=> (HCR.out M w h).1;by_cases h3:on=0
          · refine rRoD (w0:=w0) (fp0:=fp0) (R:=L++R) cb n on nn oc nc mb mo mc k cols id oa na st t2 t8 f13 f18 (decide_eq_true (by omega)) (decide_eq_false (by omega)) (decide_eq_true (by omega)) hk hcol HRS.out rfl (by kernel_rfl) rfl rfl rfl rfl hSR ?_
            intro w1 g1
            try clear h3
            try clear h4
            try clear hn
            have G1:=Lib.hid g1;clear g1;simp only [putL,List.foldl,Act.put,List.setIfInBounds_toArray,List.set_cons_succ,List.set_cons_zero];go_wp2;go_meet;exact ⟨rfl,G1.out⟩
          · refine rRoF (w0:=w0) (fp0:=fp0) (R:=L++R) cb n on nn oc nc mb mo mc k cols id oa na st t2 t8 f13 f18 (decide_eq_false (by omega)) (decide_eq_true (by omega)) hk hcol HRS.out rfl (by kernel_rfl) rfl rfl rfl rfl hSR ?_
            intro w1 g1
            try clear h3
            try clear h4
            try clear hn
            have G1:=Lib.hid g1;clear g1;simp only [putL,List.foldl,Act.put,List.setIfInBounds_toArray,List.set_cons_succ,List.set_cons_zero];go_wp2;go_meet;exact ⟨rfl,G1.out⟩
   obtain ⟨rfl,Hs⟩:=hcut;clear hSR HS0 HRS t2 t8 HSB;cases iv with
   | true=>
    have HF:Hid (ch=1):=by show _=_;rw [<-HCH2.out,chkT_inv HIV.out]
    go_wp2;refine bodyPost_ret (v:=.tuple #[.slice (some ⟨mb,mo,none⟩) n mc, .int .i64 1]) (by simp [results,Tryz.results16,go_sem]) rfl ?_;have:=HEND.out (by rw [HF.out];decide) _ (St.drop Hs.out);rw [HF.out] at this ⊢;exact this
   | false=>
    go_upto_region 3 with (fail)
    obtain ⟨gq,hgq⟩:∃gq,(findRi l id).isSome=gq:=⟨_,rfl⟩
    obtain ⟨gv,hgv⟩:∃gv,riGet (findRi l id)=gv:=⟨_,rfl⟩
    have HGV:Hid (Rd w0 fp0 R λ w=> ValsAt w ((getL (riL l) id).getD []) gv):=by show Rd _ _ _ _;rw [<-hgv];exact riGet_at id HRX.out
    have HGQ:Hid ((getL (riL l) id).isSome=gq):=by show _=_;rw [findRi_get,Option.isSome_map];exact hgq
    have hget:∀M w,St w0 fp0 (M++(L++R)) w->Calls Tryz.prog 46 #[.agg #[.int .i64 cols, .slice la l.length lc, .int .i64 next], .int .i64 id] w λ e w'=> e=.returned (.tuple #[gv, .bool gq])/\Below w.heap.size w w':=λ M w h=> by
     have:=RGet_calls cols (.slice la l.length lc) next id l w (HCR.out M w h).2.2.2.sl
     rw [hgv,hgq] at this;exact this
    have hms:∀M w,St w0 fp0 (M++(L++R)) w->∀j u,[Value.int .i64 cols, .slice la l.length lc, .int .i64 next][j]? =some u->w.cell? ⟨mb,mo+k * 3+j,none⟩=some u:=λ M w h j u hj=> by
     obtain ⟨q0,q1,q2, -⟩:=HCR.out M w h
     match j,hj with
     | 0,hj=> cases hj;exact q0
     | 1,hj=> cases hj;exact q1
     | 2,hj=> cases hj;exact q2
     | j+3,hj=> simp at hj
    have HMSS:=Lib.hid hms;have hgn:∃a m c,gv=.slice a m c:=by have h:=(HGV.out.at (M:=_::L) Hs.out).1.shape;obtain ⟨a,c,e⟩:=h;exact ⟨a,_,c,e⟩
    obtain ⟨ga,gm,gc,rfl⟩:=hgn;refine rRq3 (w0:=w0) (fp0:=fp0) (R:=L++R) cb n mb mo mc k cols (.slice la l.length lc) next id (.slice oa on oc) (.slice na nn nc) (.slice ga gm gc) gq hk hms hget rfl (by kernel_rfl) rfl rfl rfl rfl Hs.out ?_
    intro w1 h1;have H1:Hid (St w0 fp0 (blkA cb 35 #[.int .i64 k, .int .i64 id, .slice oa on oc, .slice na nn nc]::(L++R)) w1):=h1;clear h1 Hs hgq hgv hms hget;simp only [putL,List.foldl,Act.put,List.setIfInBounds_toArray,List.set_cons_succ,List.set_cons_zero];obtain ⟨c0,c1,c2,c3,cl⟩:=cells4 H1.out 0 rfl;have hov:=((HC.out.at (M:=_::L) H1.out).old)
    unfold Chg.ov at hov;simp only at hov;rw [HON.out] at hov;have HSM:=Lib.hid (rsame_calls _ old _ (.slice oa on oc) w1 (HGV.out.at (M:=_::L) H1.out) hov);obtain ⟨sq,hsq⟩:∃sq,decide ((getL (riL l) id).getD []=old)=sq:=⟨_,rfl⟩
    have HSQ:=Lib.hid hsq;rw [hsq] at HSM;clear hsq hov;go_upto_region 4 with (fail)
    have HCI:=Lib.hid (chkT_old (L:=riL l) HIV.out);have HCN:=Lib.hid (chkT_new (L:=riL l) HIV.out);rw [HCH2.out] at HCI HCN;obtain ⟨t5,ht5⟩:∃t5,(decide (on=0) && gq)=t5:=⟨_,rfl⟩
    obtain ⟨t4,ht4⟩:∃t4,(!decide (on=0) && (!gq || !sq))=t4:=⟨_,rfl⟩
    have HT5:=Lib.hid ht5;have HT4:=Lib.hid ht4;clear ht4 ht5;go_cut [77] (λ z wx=> z=.bool t5/\wx=w1)
    case first=>
     by_cases h0:on=0
     · have HE:Hid (t5=gq):=by show _=_;rw [<-HT5.out,decide_eq_true h0,Bool.true_and]
       obtain rfl:=HE.out;clear HE;subst h0;go_wp2;go_meet;exact ⟨rfl,rfl⟩
     · have h0':((on:Int)==0)=false:=by simp;omega
       have HE:Hid (t5=false):=by show _=_;rw [<-HT5.out,decide_eq_false h0,Bool.false_and]
       obtain rfl:=HE.out;clear h0 HE;go_wp2;go_meet;exact ⟨rfl,rfl⟩
    obtain ⟨rfl,rfl⟩:=hcut;cases t5 with
    | true=>
     have HF:Hid (ch=5):=by have h:=Bool.and_eq_true_iff.1 HT5.out;show _=_;rw [HCI.out (HO.out.1 (of_decide_eq_true h.1)),HGQ.out,h.2];rfl
     go_wp2;refine bodyPost_ret (v:=.tuple #[.slice (some ⟨mb,mo,none⟩) n mc, .int .i64 5]) (by simp [results,Tryz.results16,go_sem]) rfl ?_;have:=HEND.out (by rw [HF.out];decide) _ (St.drop H1.out);rw [HF.out] at this ⊢;exact this
    | false=>
     go_upto_region 6 with (fail)
     go_cut [93] (λ z wx=> z=.bool t4/\Hid (St w0 fp0 (blkA cb 35 #[.int .i64 k, .int .i64 id, .slice oa on oc, .slice na nn nc]::(L++R)) wx))
     case first=>
      by_cases h0:on=0
      · have HE:Hid (t4=false):=by show _=_;rw [<-HT4.out,decide_eq_true h0];rfl
        obtain rfl:=HE.out;clear HE;subst h0;go_wp2;go_meet;exact ⟨rfl,H1.out⟩
      · have h0':0 < on:=by omega
        have HE:Hid (t4=(!gq || !sq)):=by show _=_;rw [<-HT4.out,decide_eq_false h0];rfl
        clear h0;cases gq with
        | false=>
         obtain rfl:=HE.out;clear HE;go_wp2;go_meet;exact ⟨rfl,H1.out⟩
        | true=>
         obtain rfl:=HE.out;clear HE;go_wp2_with fail;(with_reducible refine HSM.out.mono ?_);rintro e w2 ⟨rfl,hb2⟩;have H2:=Lib.hid (H1.out.mono hb2);clear HSM hb2;go_wp2;go_meet;exact ⟨by simp,H2.out⟩
     obtain ⟨rfl,Hs⟩:=hcut;clear HSM H1 c0 c1 c2 c3 cl;cases t4 with
     | true=>
      have HF:Hid (ch=4):=by
       have h:=Bool.and_eq_true_iff.1 HT4.out;have h0:¬ on=0:=λ e=> by rw [decide_eq_true e] at h;cases h.1
       show _=_;rw [HCN.out λ e=> h0 (HO.out.2 e),if_neg];intro e;rcases Bool.or_eq_true_iff.1 h.2 with h2 | h2
       · have:=HGQ.out
         rw [e] at this;rw [<-this] at h2;cases h2
       · have e1:=HSQ.out
         rw [e] at e1;rw [<-e1] at h2;simp at h2
      go_wp2;refine bodyPost_ret (v:=.tuple #[.slice (some ⟨mb,mo,none⟩) n mc, .int .i64 4]) (by simp [results,Tryz.results16,go_sem]) rfl ?_;have:=HEND.out (by rw [HF.out];decide) _ (St.drop Hs.out);rw [HF.out] at this ⊢;exact this
     | false=>
      have HF:Hid (ch=0):=by
       show _=_;by_cases h0:on=0
       · have h:=HT5.out
         rw [decide_eq_true h0,Bool.true_and] at h;rw [HCI.out (HO.out.1 h0),HGQ.out,h];rfl
       · have h:=HT4.out
         rw [decide_eq_false h0,Bool.not_false,Bool.true_and,Bool.or_eq_false_iff] at h;rw [HCN.out λ e=> h0 (HO.out.2 e),if_pos];have e1:=of_decide_eq_true (HSQ.out.trans (by simpa using h.2));cases e:getL (riL l) id with
         | none=> have:=HGQ.out;rw [e] at this;rw [<-this] at h;simp at h
         | some r=> rw [e] at e1;exact congrArg some e1
      clear HSQ HCI HCN HEND HT4 HT5;go_upto_region 8 with (fail)
      have HD4:=HD3.out HF.out;have HCK:Hid (chkT cols (riL l) id old new=0):=HCH2.out.trans HF.out;have HD4:=Lib.hid HD4;have HFE:=Lib.hid HF.out;have HNV:Hid (Rd w0 fp0 R λ w=> ValsAt w new (.slice na nn nc)):=HC.out.imp λ w h=> by have:=h.new;unfold Chg.nv at this;simp only at this;rw [HNN.out] at this;exact this
      obtain ⟨wq,hwq⟩:∃wq,wq=St w0 fp0:=⟨_,rfl⟩
      clear hwq wq HF HD3 HCH2;have HE8:=λ w=> St.emptyRS (w:=w) (w0:=w0) (fp0:=fp0) (L:=blkA cb 35 #[.int .i64 k, .int .i64 id, .slice oa on oc, .slice na nn nc]::(L++R));have HE8:=Lib.hid (HE8 _ Hs.out);have HSRC:=Lib.hid (((HM.out.at (M:=_::_::L) HE8.out).sl).src (P:=Tryz.prog) (tx:=28) (e':=44) (by kernel_rfl) (by decide) (ms_one ms));rw [HN.out] at HSRC
      go_upto_region 9 with (first
       | (at_builtin;refine wpList_appR rfl _ _ _ _ rfl rfl rfl appRS HE8.out HSRC.out (by omega) ?_;intro v8 w8 h8))
      rw [Nat.zero_add,List.nil_append] at h8;obtain ⟨_,hrow⟩:=h8.out.has 0 rfl;obtain ⟨oga,ogc,rfl, -, -,hog⟩:=row_shape hrow;obtain ⟨og,rfl, -⟩:=hog 0 (by omega);have H8:Hid (St w0 fp0 ([blkA cb 35 #[.int .i64 k, .int .i64 id, .slice oa on oc, .slice na nn nc],outR og n ogc (ms.flatMap Rs.c)]++(L++R)) w8):=h8.out.perm (List.Perm.swap _ _ _);have hxl:(ms.flatMap Rs.c).length=n * 3:=by rw [flatMap_len rsc_len,HN.out]
      obtain ⟨c0,c1,c2,c3,cl⟩:=cells4 H8.out 0 rfl;clear hrow h8 hog HE8 HSRC Hs;by_cases hn:nn=0
      · have hne:=HNE.out.1 hn
        have HFIN:Hid (D2=D.set k (cols,riL (delR id l),next)):=by show _=_;rw [HD4.out,appT,if_pos hne,appN,if_pos hne,riL_delR]
        have hn0:((nn:Int)==0)=true:=by simp [hn]
        clear hn hne;go_upto_region 10 with (fail)
        refine rRq10 (w0:=w0) (fp0:=fp0) (R:=L++R) cb og n ogc mb mo mc k cols (.slice la l.length lc) next next id (.slice oa on oc) (.slice na nn nc) (ms.flatMap Rs.c) (delR id l) hk hxl HMSS.out ?_ rfl (by kernel_rfl) rfl rfl rfl rfl rfl H8.out ?_
        · intro w' h'
          have h:=RDelete_callsZ emp cols (.slice la l.length lc) next id l (by have:=HLL.out;omega) w0 w' fp0 _ (λ M w h=> (HCR.out (M++[emp,blkA cb 35 #[.int .i64 k, .int .i64 id, .slice oa on oc, .slice na nn nc],outR og n ogc (ms.flatMap Rs.c)]) w (by rw [List.append_assoc];exact h)).2.2.2.sl) (St.emp.2 h')
          refine h.mono ?_;rintro e w2 ⟨lv2,rfl,h2⟩;exact ⟨lv2,rfl,(h2.perm (List.Perm.swap _ _ _)).drop⟩
        · intro u112 w9 h9
          have H9:=Lib.hid (ra_fin h9 HM.out HN.out hk HST.out.2 (HST.out.1.sublist List.filter_sublist) (λ x hx=> HRX.out x (List.mem_filter.1 hx).1) HFIN.out);clear h9 H8 c0 c1 c2 c3 cl hxl;simp only [putL,List.foldl,Act.put,List.setIfInBounds_toArray,List.set_cons_succ,List.set_cons_zero];go_wp2;refine bodyPost_ret (v:=.tuple #[.slice (some ⟨og,0,none⟩) n ogc, .int .i64 0]) (by simp [results,Tryz.results16,go_sem]) rfl ?_;rw [HFE.out];exact H9.out
      · have hne:new≠[]:=λ e=> hn (HNE.out.2 e)
        obtain ⟨k1,k2,k3, -⟩:=chkT_ok HCK.out;have hpo:putOk cols id new=true:=by unfold putOk;rw [decide_eq_true k1,k3 hne];rfl
        have HPO:=Lib.hid hpo;have HFIN:Hid (D2=D.set k (cols,riL (putR id ⟨id,na,nn,nc,new⟩ l),putN cols id new next)):=by show _=_;have e1:=riL_putR id (⟨id,na,nn,nc,new⟩:Ri) rfl l;simp only at e1;rw [HD4.out,appT,if_neg hne,appN,if_neg hne,e1,putLL,hpo];rfl
        have hn0:((nn:Int)==0)=false:=by simp;omega
        clear hn hne k1 k2 k3 hpo;go_upto_region 11 with (fail)
        refine rRq11 (w0:=w0) (fp0:=fp0) (R:=L++R) cb og n ogc mb mo mc k cols (.slice la l.length lc) next (putN cols id new next) id (.slice oa on oc) (.slice na nn nc) (ms.flatMap Rs.c) (putR id ⟨id,na,nn,nc,new⟩ l) hk hxl HMSS.out ?_ rfl (by kernel_rfl) rfl rfl rfl rfl rfl H8.out ?_
        · intro w' h'
          have h:=RPut_callsZ emp cols (.slice la l.length lc) next ⟨id,na,nn,nc,new⟩ l HST.out.1 (by have:=HLL.out;omega) w0 w' fp0 _ ((HNV.out.app L).app [_,_]) (λ M w h=> (HCR.out (M++[emp,blkA cb 35 #[.int .i64 k, .int .i64 id, .slice oa on oc, .slice na nn nc],outR og n ogc (ms.flatMap Rs.c)]) w (by rw [List.append_assoc];exact h)).2.2.2.sl) (St.emp.2 h')
          refine h.mono ?_;rintro e w2 ⟨lv2,rfl,hp⟩;refine ⟨lv2,?_,?_⟩
          · simp only [HPO.out]
            rfl
          · rcases hp with ⟨-,h2⟩ | ⟨h2, -⟩
            · exact (h2.perm (List.Perm.swap _ _ _)).drop
            · simp only [HPO.out] at h2
              cases h2
        · intro u114 u127 u128 w9 _ _ _ h9
          have H9:=Lib.hid (ra_fin h9 HM.out HN.out hk HST.out.2 (asc_putR (x:=⟨id,na,nn,nc,new⟩) (k:=id) rfl HST.out.1) (λ x hx=> by
           rcases List.mem_append.1 hx with h | h
           · exact HRX.out x (List.mem_filter.1 h).1
           · rcases List.mem_cons.1 h with rfl | h
             · exact (show Rd w0 fp0 R λ w=> ValsAt w (Ri.r ⟨id,na,nn,nc,new⟩) (Ri.v ⟨id,na,nn,nc,new⟩) from HNV.out)
             · exact HRX.out x (List.mem_filter.1 h).1) HFIN.out)
          clear h9 H8 c0 c1 c2 c3 cl hxl;simp only [putL,List.foldl,Act.put,List.setIfInBounds_toArray,List.set_cons_succ,List.set_cons_zero];go_wp2;refine bodyPost_ret (v:=.tuple #[.slice (some ⟨og,0,none⟩) n ogc, .int .i64 0]) (by simp [results,Tryz.results16,go_sem]) rfl ?_;rw [HFE.out];exact H9.out
 · have HF:Hid (ch=1):=by
    show _=_;rw [<-HCH.out,chkD,rowD_out (by rw [<-HMS.out.len,HN.out];exact ht)]
   have HE:=HEND.out (by rw [HF.out];decide);have HE:=Lib.hid HE;by_cases h0:tb < 0
   · refine rRo1 (w0:=w0) (fp0:=fp0) (R:=L++R) cb n on nn oc nc mc tb id oa na ma (decide_eq_true h0) rfl (by kernel_rfl) rfl rfl rfl rfl hSR ?_
     intro w1 h1;have H1:=Lib.hid h1;clear h1;simp only [putL,List.foldl,Act.put,List.setIfInBounds_toArray,List.set_cons_succ,List.set_cons_zero];go_wp2;refine bodyPost_ret (v:=.tuple #[.slice ma n mc, .int .i64 1]) (by simp [results,Tryz.results16,go_sem]) rfl ?_;have:=HE.out _ (St.drop H1.out);rw [HF.out] at this ⊢;exact this
   · refine rRo2 (w0:=w0) (fp0:=fp0) (R:=L++R) cb n on nn oc nc mc tb id oa na ma (decide_eq_false h0) (decide_eq_true (by omega)) rfl (by kernel_rfl) rfl rfl rfl rfl hSR ?_
     intro w1 h1;have H1:=Lib.hid h1;clear h1;simp only [putL,List.foldl,Act.put,List.setIfInBounds_toArray,List.set_cons_succ,List.set_cons_zero];go_wp2;refine bodyPost_ret (v:=.tuple #[.slice ma n mc, .int .i64 1]) (by simp [results,Tryz.results16,go_sem]) rfl ?_;have:=HE.out _ (St.drop H1.out);rw [HF.out] at this ⊢;exact this
def QPost (P:Prop) (w:World) (e:Ending) (w':World):Prop:=∃q,e=.returned (.bool q)/\(q=true->P)/\w=w'
def shortP (r:Rw):Prop:=r.length<=10/\∀v∈r,v.text.size<=40
theorem short_calls (r:Rw) (v:Value) (w:World) (hv:ValsAt w r v):Calls Tryz.prog 43 #[v] w λ e w'=> QPost (shortP r) w e w':=by
 obtain ⟨a,n,c,rfl,hn,hm⟩:=hv.shape;unfold maxLen at hm;have HV:=Lib.hid hv;have HN:=Lib.hid hn;have H0:Hid (∀x∈r.take 0,x.text.size<=40):=by show ∀x∈r.take 0,_;simp
 clear hv hn;go_enter Tryz.func43,Tryz.ntmps43;go_upto_region 2 with (fail)
 go_loopg [3] n (λ g z wr=> ∃k:Nat,z=.int .i64 k/\g+k=n/\wr=w/\Hid (∀x∈r.take k,x.text.size<=40))
 case atStart=> exact ⟨0,rfl,rfl,rfl,H0⟩
 case round=>
  clear H0;obtain ⟨k,rfl,hgk,rfl,Hi⟩:=hrel;by_cases hk:k < n
  · have hkl:k < r.length:=by rw [<-HN.out];exact hk
    have hkn:(k:Int) < n:=by omega
    obtain ⟨b,o,rfl⟩:=HV.out.has k hk;obtain ⟨c0,c1,c2⟩:=HV.out.cell k hkl;have hbl:=World.block_lt_of_cell? _ _ c0;have hst:∀x∈r.take (k+1),x∈r.take k\/x=r[k]:=λ x hx=> by
     rw [List.take_add_one,List.getElem?_eq_getElem hkl] at hx;rcases List.mem_append.1 hx with h | h
     · exact .inl h
     · exact .inr (by simpa using h)
    have HST:=Lib.hid hst;have Hgk:=Lib.hid hgk;clear hst hgk;generalize r[k]=x at *;clear hkl;by_cases h40:(40:Int) < x.text.size
    · go_wp2
      go_ret;exact ⟨false,rfl,(λ h=> nomatch h),rfl⟩
    · have Hn:Hid (∀y∈r.take (k+1),y.text.size<=40):=λ y hy=> by
       rcases HST.out y hy with h | rfl
       · exact Hi.out y h
       · omega
      clear Hi HST;go_wp2;go_roundg (gk - 1)
      case rel=> exact ⟨k+1,by go_num,by have:=Hgk.out;omega,rfl,Hn⟩
      case measure=> have:=Hgk.out;omega
  · obtain rfl:k=n:=by omega
    have HF:Hid (decide ((k:Int)<=10)=true->shortP r):=λ h=> by have h1:=of_decide_eq_true h;have h2:=Hi.out;rw [List.take_of_length_le (by rw [<-HN.out];exact Nat.le_refl _)] at h2;exact ⟨by rw [<-HN.out];omega,h2⟩
    clear Hi hgk hk;by_cases h10:(k:Int)<=10
    · have HG:=HF.out (decide_eq_true h10)
      have HG:=Lib.hid HG;go_wp2;go_ret;exact ⟨true,by simp,λ _=> HG.out,rfl⟩
    · go_wp2
      go_ret;exact ⟨false,by simp,(λ h=> nomatch h),rfl⟩
structure TdP (t:Td):Prop where
 n:t.n<=10
 k:t.K.length<=5
 f:t.F.length<=5
 kl:∀c∈t.K,c.length<=10
 fl:∀c∈t.F,c.length<=10
structure SmallP (td:List Td) (l:List Chg):Prop where
 tds:∀t∈td,TdP t
 ls:∀c∈l,shortP c.old/\shortP c.new
 tn:td.length<=4
 ln:l.length<=40
theorem TdP.sm {t:Td} (h:TdP t):t.Sm:=⟨by have:=h.n;omega,by have:=h.k;omega,by have:=h.f;omega,λ c hc=> by have:=h.kl c hc;omega,λ c hc=> by have:=h.fl c hc;omega⟩
theorem take_snoc {α:Type} {P:α->Prop} {l:List α} {k:Nat} (hk:k < l.length) (h:∀x∈l.take k,P x) (h2:P l[k]):∀x∈l.take (k+1),P x:=by
 intro x hx;rw [List.take_add_one,List.getElem?_eq_getElem hk] at hx;rcases List.mem_append.1 hx with hx | hx
 · exact h x hx
 · have:x=l[k]:=by simpa using hx
   rw [this];exact h2
theorem Small_calls (td:List Td) (l:List Chg) (sv lv:Value) (w:World) (hs:SchX w td sv) (hl:ChsX w l lv):Calls Tryz.prog 13 #[sv,lv] w λ e w'=> QPost (SmallP td l) w e w':=by
 obtain ⟨sa,sc,rfl⟩:=hs.sl.shape;obtain ⟨la,lc,rfl⟩:=hl.sl.shape;obtain ⟨n,hn⟩:∃n,td.length=n:=⟨_,rfl⟩
 obtain ⟨m,hm⟩:∃m,l.length=m:=⟨_,rfl⟩
 have hn63:n<=9223372036854775807:=by have:=hs.sl.1;unfold maxLen at this;omega
 have hm63:m<=9223372036854775807:=by have:=hl.sl.1;unfold maxLen at this;omega
 have HS:=Lib.hid hs;have HL:=Lib.hid hl;have HN:=Lib.hid hn;have HM:=Lib.hid hm;have H0:Hid (∀t∈td.take 0,TdP t):=by show ∀t∈td.take 0,_;simp
 rw [hn] at HS ⊢;rw [hm] at HL ⊢;clear hs hl hn hm;go_enter Tryz.func13,Tryz.ntmps13;go_upto_region 2 with (fail)
 go_loopg [5] n (λ g z wr=> ∃i:Nat,z=.int .i64 i/\g+i=n/\wr=w/\Hid (∀t∈td.take i,TdP t))
 case atStart=> exact ⟨0,rfl,rfl,rfl,H0⟩
 case round=>
  clear H0;obtain ⟨i,rfl,hgi,rfl,Hi⟩:=hrel;by_cases hi:i < n
  · have hil:i < td.length:=by rw [HN.out];exact hi
    have hin:(i:Int) < n:=by omega
    obtain ⟨b,o,c,e1,hbl, -,p1,p2,p3, -⟩:=HS.out.cells i hil;obtain ⟨rfl, -,rfl⟩:=Value.slice.inj e1;have hx:=HS.out.td _ (List.getElem_mem hil);have HST:=Lib.hid (λ h=> take_snoc (P:=TdP) hil Hi.out h);have Hgi:=Lib.hid hgi;clear e1 hgi Hi;generalize td[i]=t at *;clear hil;obtain ⟨nm,ca,tn,cc,kv,fv,xa,xn,xc,cvs,kvs,fvs,K,F⟩:=t;obtain ⟨ka,kc,hkv⟩:=hx.keys.1.shape;obtain ⟨fa,fc,hfv⟩:=hx.fors.1.shape;simp only at p1 p2 p3 hkv hfv;subst hkv hfv;obtain ⟨kn,hkn⟩:∃kn,K.length=kn:=⟨_,rfl⟩
    obtain ⟨fn,hfn⟩:∃fn,F.length=fn:=⟨_,rfl⟩
    have HK:=Lib.hid hx.keys;have HF:=Lib.hid hx.fors;have HKN:=Lib.hid hkn;have HFN:=Lib.hid hfn;simp only at HK HF;rw [hkn] at p2 HK;rw [hfn] at p3 HF;have tc:tn<=9223372036854775807:=by have:=hx.cols.1;unfold maxLen at this;simp only at this;omega
    have kcl:kn<=9223372036854775807:=by have:=hx.keys.1.1;unfold maxLen at this;simp only at this;omega
    have fcl:fn<=9223372036854775807:=by have:=hx.fors.1.1;unfold maxLen at this;simp only at this;omega
    clear hx hkn hfn;by_cases h1:(10:Int) < tn
    · go_wp2
      go_ret;exact ⟨false,rfl,(λ h=> nomatch h),rfl⟩
    by_cases h2:(5:Int) < kn
    · go_wp2
      go_ret;exact ⟨false,rfl,(λ h=> nomatch h),rfl⟩
    by_cases h3:(5:Int) < fn
    · go_wp2
      go_ret;exact ⟨false,rfl,(λ h=> nomatch h),rfl⟩
    obtain ⟨gk0,rfl⟩:∃x,x=gk:=⟨_,rfl⟩
    have HK0:Hid (∀c∈K.take 0,c.length<=10):=by show ∀c∈K.take 0,_;simp
    go_upto_region 7 with (fail)
    go_loopg [6] kn (λ g z wr2=> ∃k:Nat,z=.int .i64 k/\g+k=kn/\wr2=wr/\Hid (∀c∈K.take k,c.length<=10))
    case atStart=> exact ⟨0,rfl,rfl,rfl,HK0⟩
    case round=>
     clear HK0;obtain ⟨k,rfl,hgk,rfl,Hk⟩:=hrel;by_cases hk:k < kn
     · have hkl:k < K.length:=by rw [HKN.out];exact hk
       have hkk:(k:Int) < kn:=by omega
       obtain ⟨u,hu,hx⟩:=HK.out.2 k hkl;obtain ⟨b',o',c',e1,q1⟩:=HK.out.1.some hu;obtain ⟨rfl, -,rfl⟩:=Value.slice.inj e1;obtain ⟨ua,un,uc,rfl,hun,hum⟩:=hx.shape;unfold maxLen at hum;have hql:=World.block_lt_of_cell? _ _ q1;have Hst:=Lib.hid (λ h=> take_snoc (P:=λ c:List Int=> c.length<=10) hkl Hk.out h);have Hgk:=Lib.hid hgk;have Hun:=Lib.hid hun;clear hu hx e1 hgk Hk hun;generalize K[k]=cl at *;clear hkl;by_cases h4:(10:Int) < un
       · go_wp2
         go_ret;exact ⟨false,rfl,(λ h=> nomatch h),rfl⟩
       · have Hn:=Lib.hid (Hst.out (by have:=Hun.out;omega))
         clear Hst;go_wp2;go_roundg (gk - 1)
         case rel=> exact ⟨k+1,by go_num,by have:=Hgk.out;omega,rfl,Hn⟩
         case measure=> have:=Hgk.out;omega
     · obtain rfl:k=kn:=by omega
       have HKA:Hid (∀c∈K,c.length<=10):=by have h:=Hk.out;rw [List.take_of_length_le (by rw [HKN.out];exact Nat.le_refl _)] at h;exact h
       have HF0:Hid (∀c∈F.take 0,c.length<=10):=by show ∀c∈F.take 0,_;simp
       clear Hk hgk hk;go_upto_region 12 with (fail)
       go_loopg [7] fn (λ g z wr2=> ∃j:Nat,z=.int .i64 j/\g+j=fn/\wr2=wr/\Hid (∀c∈F.take j,c.length<=10))
       case atStart=> exact ⟨0,rfl,rfl,rfl,HF0⟩
       case round=>
        clear HF0;obtain ⟨j,rfl,hgj,rfl,Hj⟩:=hrel;by_cases hj:j < fn
        · have hjl:j < F.length:=by rw [HFN.out];exact hj
          have hjj:(j:Int) < fn:=by omega
          obtain ⟨u,a1,b1,hu, -, -,hx⟩:=HF.out.2 j hjl;obtain ⟨b',o',c',e1,q1⟩:=HF.out.1.some hu;obtain ⟨rfl, -,rfl⟩:=Value.slice.inj e1;obtain ⟨ua,un,uc,rfl,hun,hum⟩:=hx.shape;unfold maxLen at hum;have hql:=World.block_lt_of_cell? _ _ q1;have Hst:=Lib.hid (λ h=> take_snoc (P:=λ c:List Int=> c.length<=10) hjl Hj.out h);have Hgj:=Lib.hid hgj;have Hun:=Lib.hid hun;clear hu hx e1 hgj Hj hun;generalize F[j]=cl at *;clear hjl;by_cases h4:(10:Int) < un
          · go_wp2
            go_ret;exact ⟨false,rfl,(λ h=> nomatch h),rfl⟩
          · have Hn:=Lib.hid (Hst.out (by have:=Hun.out;omega))
            clear Hst;go_wp2;go_roundg (gk - 1)
            case rel=> exact ⟨j+1,by go_num,by have:=Hgj.out;omega,rfl,Hn⟩
            case measure=> have:=Hgj.out;omega
        · obtain rfl:j=fn:=by omega
          have HN2:Hid (∀t∈td.take (i+1),TdP t):=HST.out ⟨by show tn<=10;omega,by show K.length<=5;rw [HKN.out];omega,by show F.length<=5;rw [HFN.out];omega,HKA.out,by have h:=Hj.out;rw [List.take_of_length_le (by rw [HFN.out];exact Nat.le_refl _)] at h;exact h⟩;clear Hj hgj hj HST HKA;go_wp2;go_roundg (gk0 - 1)
          case rel=> exact ⟨i+1,by go_num,by have:=Hgi.out;omega,rfl,HN2⟩
          case measure=> have:=Hgi.out;omega
  · obtain rfl:i=n:=by omega
    have HTD:Hid (∀t∈td,TdP t):=by have h:=Hi.out;rw [List.take_of_length_le (by rw [HN.out];exact Nat.le_refl _)] at h;exact h
    have HC0:Hid (∀c∈l.take 0,shortP c.old/\shortP c.new):=by show ∀c∈l.take 0,_;simp
    clear Hi hgi hi;go_upto_region 17 with (fail)
    go_loopg [8] m (λ g z wr2=> ∃j:Nat,z=.int .i64 j/\g+j=m/\wr2=wr/\Hid (∀c∈l.take j,shortP c.old/\shortP c.new))
    case atStart=> exact ⟨0,rfl,rfl,rfl,HC0⟩
    case round=>
     clear HC0;obtain ⟨j,rfl,hgj,rfl,Hj⟩:=hrel;by_cases hj:j < m
     · have hjl:j < l.length:=by rw [HM.out];exact hj
       have hjj:(j:Int) < m:=by omega
       obtain ⟨b,o,c,e1,hbl, -, -,p2,p3⟩:=HL.out.cells j hjl;obtain ⟨rfl, -,rfl⟩:=Value.slice.inj e1;have hx:=HL.out.ch _ (List.getElem_mem hjl);have Hst:=Lib.hid (λ h=> take_snoc (P:=λ c:Chg=> shortP c.old/\shortP c.new) hjl Hj.out h);have Hgj:=Lib.hid hgj;clear e1 hgj Hj;generalize l[j]=ch at *;clear hjl;have HSO:=Lib.hid (short_calls ch.old ch.ov _ hx.old);have HSN:=Lib.hid (short_calls ch.new ch.nv _ hx.new);unfold Chg.ov at p2 HSO;unfold Chg.nv at p3 HSN;clear hx;go_wp2_with fail;(with_reducible refine HSO.out.mono ?_);rintro e w1 ⟨q1,rfl,hq1,rfl⟩;have HQ1:=Lib.hid hq1;clear hq1 HSO;cases q1 with
       | false=>
        go_wp2;go_ret;exact ⟨false,rfl,(λ h=> nomatch h),rfl⟩
       | true=>
        go_wp2_with fail;(with_reducible refine HSN.out.mono ?_);rintro e w1 ⟨q2,rfl,hq2,rfl⟩;have HQ2:=Lib.hid hq2;clear hq2 HSN;cases q2 with
        | false=>
         go_wp2;go_ret;exact ⟨false,rfl,(λ h=> nomatch h),rfl⟩
        | true=>
         have Hn:=Lib.hid (Hst.out ⟨by have:=HQ1.out;simpa using this,by have:=HQ2.out;simpa using this⟩);clear Hst;go_wp2;go_roundg (gk - 1)
         case rel=> exact ⟨j+1,by go_num,by have:=Hgj.out;omega,rfl,Hn⟩
         case measure=> have:=Hgj.out;omega
     · obtain rfl:j=m:=by omega
       have HCD:Hid (∀c∈l,shortP c.old/\shortP c.new):=by have h:=Hj.out;rw [List.take_of_length_le (by rw [HM.out];exact Nat.le_refl _)] at h;exact h
       clear Hj hgj hj;by_cases h4:(i:Int)<=4
       · by_cases h5:(j:Int)<=40
         · go_wp2
           go_ret;exact ⟨true,by simp,λ _=> ⟨HTD.out,HCD.out,by rw [HN.out];omega,by rw [HM.out];omega⟩,rfl⟩
         · go_wp2
           go_ret;exact ⟨false,by simp,(λ h=> nomatch h),rfl⟩
       · go_wp2
         go_ret;exact ⟨false,by simp,(λ h=> nomatch h),rfl⟩
theorem Rg.Ob.neqS (G:Rg) (i:Nat) (k:IntKind) (p:Int) {ty r:TypeId} {x y:Operand} (hop:(opAt G.ops i).op=.binOp .neq ty x y r:=by rfl) (hx:∀a,G.env i a x=.int k p:=by intro _;exact kr (by kernel_rfl)) (hy:∀a,G.env i a y=.int k p:=by intro _;exact kr (by kernel_rfl)) (hv:∀g,G.valD i g=.bool false:=by intro _;exact kr (by kernel_rfl))
 (hq:(G.quiet i G.pcs.length && G.okV i)=true:=by exact kr (by kernel_rfl)) (hw:∀a,wantE G.ops (opAt G.ops i) (G.env i a)=some true:=by intro _;exact kr (by kernel_rfl)):G.Ob i:=Rg.Ob.read G i hq hw λ L a w _ _=> by
 simp [execOp,hop,hx,hy,go_sem,hv]
def gSma4 (b n mb mo mc k:Nat) (lv pv:Value) (next:Int) (A:Asn):=rgx Tryz.prog Tryz.f15 4 43 [11,12,13,14,15,16,17,18,19,20,21,22,23,24,25,26,27,28,29,30,31] [(5, .int .i64 (k:Nat)),(0,pV b 0),(1, .slice (some ⟨mb,mo,none⟩) n mc)] (Vq 0 11 [Kp b 0,Kv (.int .i64 (k:Nat)),Kv (.slice (some ⟨mb,mo,none⟩) n mc),Kv (.int .i64 (k:Nat)),Kp mb (mo+k * 3),Kp mb (mo+k * 3+1),Kv lv,Kv (.bool true),Kv (.bool false),Kv (.bool false),Kp b 0,Kv (.int .i64 (k:Nat)),Kv pv,Kv (.int .i64 next),Kv (.slice (some ⟨mb,mo,none⟩) n mc),Kv (.int .i64 (k:Nat)),Kp mb (mo+k * 3),Kp mb (mo+k * 3+2),Kv (.int .i64 next),Kv (.bool false),Kv (.bool false)]) [.all (A)]
theorem rSma4 (b n mb mo mc k:Nat) (lv pv:Value) (next:Int) (A:Asn) (w0:World) (fp0:List Nat) (R:List Asn) (hk:k < n) (hlv:∀L w,St w0 fp0 (L++R) w->w.cell? ⟨mb,mo+k * 3+1,none⟩=some lv) (hnx:∀L w,St w0 fp0 (L++R) w->w.cell? ⟨mb,mo+k * 3+2,none⟩=some (.int .i64 next)) (hrows:∀w,St w0 fp0 ([A]++R) w->Calls Tryz.prog 20 #[.pointer (some ⟨b,0,none⟩), .int .i64 (k:Nat),lv] w λ e w2=> e=.returned (.bool true)/\St w0 fp0 ([A]++R) w2) (htab:∀w f,A.p w f->Calls Tryz.prog 21 #[.pointer (some ⟨b,0,none⟩), .int .i64 (k:Nat)] w λ e w'=> e=.returned pv/\Below w.heap.size w w') (hnext:∀w f,A.p w f->Calls Tryz.prog 41 #[pv] w λ e w'=> e=.returned (.int .i64 next)/\Below w.heap.size w w') {w:World} {c:Code} {a:Act} {Q:Exit->Act->World->Prop} (c1:isReg c=true) (c2:cops c=opsR Tryz.f15 4) (c3:a.tmps.size=43) (_c4:a.defers=a.defers) (i5:a.eval (.tmp 5)=.int .i64 (k:Nat)) (i0:a.eval (.tmp 0)=.pointer (some ⟨b,0,none⟩)) (i1:a.eval (.tmp 1)=.slice (some ⟨mb,mo,none⟩) n mc)
 (hS:St w0 fp0 ([A]++R) w)
 (hQ:∀(w1:World),St w0 fp0 ([A]++R) w1->Q .normal (putL a [(11, .pointer (some ⟨b,0,none⟩)),(12, .int .i64 (k:Nat)),(13, .slice (some ⟨mb,mo,none⟩) n mc),(14, .int .i64 (k:Nat)),(15, .pointer (some ⟨mb,mo+k * 3,none⟩)),(16, .pointer (some ⟨mb,mo+k * 3+1,none⟩)),(17,lv),(18, .bool true),(19, .bool false),(20, .bool false),(21, .pointer (some ⟨b,0,none⟩)),(22, .int .i64 (k:Nat)),(23,pv),(24, .int .i64 next),(25, .slice (some ⟨mb,mo,none⟩) n mc),(26, .int .i64 (k:Nat)),(27, .pointer (some ⟨mb,mo+k * 3,none⟩)),(28, .pointer (some ⟨mb,mo+k * 3+2,none⟩)),(29, .int .i64 next),(30, .bool false),(31, .bool false)]) w1):c.wp Tryz.prog Q a w:=by
 have ok:(gSma4 b n mb mo mc k lv pv next A w0 fp0 R).Ok 21:=Rg.ok _ 21 [4,6,7,12,13,16,18,19] ⟨.indexO _ 4 mb mo n mc k 3 hk, .loadR1 _ 6 lv hlv,(.callG _ 7 (f:=20) (args:=λ _=> #[.pointer (some ⟨b,0,none⟩), .int .i64 (k:Nat),lv]) (λ _=> [A]) (λ _ _=> [A]) (λ g w h=> (hrows w h).mono λ e w2 ⟨e1,h2⟩=> ⟨_,e1,kr (by kernel_rfl),h2⟩)), .ask1 _ 12 0 (f:=21) (args:=#[.pointer (some ⟨b,0,none⟩), .int .i64 (k:Nat)]) (v:=pv) htab, .ask1 _ 13 0 (f:=41) (args:=#[pv]) (v:=.int .i64 next) hnext, .indexO _ 16 mb mo n mc k 3 hk, .loadR1 _ 18 (.int .i64 next) hnx, .neqS _ 19 .i64 next,trivial⟩;refine wp_regD ok (by kernel_rfl) ⟨c1,c2⟩ ⟨c3,λ p hp=> ?_⟩ hS λ A1 w1 N1 H1=> ?_
 · simp only [gSma4,rgx,List.map_nil,List.append_nil,List.mem_cons,List.not_mem_nil,or_false] at hp
   rcases hp with rfl | rfl | rfl
   · exact i5
   · exact i0
   · exact i1
 exact N1.fin [] (hQ w1 H1) (by kernel_rfl)
end
end Go.Proofs.YtpdlkdoogojboaaGreat
