/- Part 15 of the proof. -/
import Derived.Test.YtcomoomndgbckaaGreatY13
set_option maxHeartbeats 16000000
set_option maxRecDepth 100000
open Go Go.RowKit
open Go.Lib (hid)
open List (getElem_mem length_append nil_append mem_cons cons_append length_nil not_mem_nil)
open Nat (zero_le lt_of_lt_of_le zero_add)
namespace Go.Proofs.YtcomoomndgbckaaGreat
noncomputable section
section
open Go.Sort
theorem Tryz.info43':(Tryz.prog.info? 43).map (λ i=> (i.zero,i.size,i.bytes))=some (some (q0),1,24):=by kernel_rfl
theorem VarIs.new2 (w:World) (o o':Obj) (c:Array Value) (t:TypeId):VarIs (((w.alloc o).alloc o').alloc (.cells c t)) (w.heap.size+2) c:=by
 have:=VarIs.new ((w.alloc o).alloc o') c t;simpa using this
theorem results_cell_tmp {P:Program} {fn:Func} {p q:Tmp} {ty:TypeId} (h:fn.results=#[.cell p ty,.tmp q]) (tmps:Array Value) (w:World) {g:Nat} {cs:List Value} {d:TypeDesc} {u:Value}
 (hp:tmps.getD p undef=.pointer (some ⟨g,0,none⟩)) (hv:VarIs w g cs.toArray) (hu:P.underlying ty=some d) (hd:d.isRow=true) (hi:(P.info? ty).map (·.size)=some cs.length) (hq:tmps.getD q undef=u:=by rfl):
 (results fn tmps).run P w=.ok (.tuple #[.agg cs.toArray,u]) w:=by
 have A:tmps[p]?.getD undef=.pointer (some ⟨g,0,none⟩):=by simpa using hp
 have o:tmps[q]?.getD undef=u:=by simpa using hq
 have hl:=run_loadVar_mid (P:=P) w g 0 ty cs d (λ j v hj=> by rw [zero_add,hv.cell j];simpa using hj) hu hd hi;simp [results,h,A,o,asAddr,hl]
def TabP (W0 w:World) (e:Ending) (w':World):Prop:=∃(nm:ByteArray) (a1 a2 a3 a4:Option Addr) (n1 k1 n2 k2 n3 k3 n4 k4:Nat) (k:Int),e=.returned (.tuple #[.agg #[qt nm,qs a1 n1 k1,qs a2 n2 k2,qs a3 n3 k3,qs a4 n4 k4],qi k])/\
 (k=0->∃t:Tb,t.name=nm/\Ind (λ j=> W0.heap.size<=j/\j < w.heap.size) w' λ w=> TbAt w t (qs a1 n1 k1) (qs a2 n2 k2) (qs a3 n3 k3) (qs a4 n4 k4))/\Below w.heap.size w w'
theorem Agr.grown {w w':World} {r:Option Nat} (h:w.grownBy w' r):Agr (λ k=> some k=r) w w':=⟨h.os,h.tape,h.output,h.size,λ k hk hn=> h.block k hk hn⟩
theorem tb_ind {X:Nat->Prop} {w:World} {t:Tb} {nm:ByteArray} (hn:t.name=nm) {s1 s2 s3 s4:Value} (h1:Ind X w λ w=> LsAt 6 ClE w t.cols s1) (h2:Ind X w λ w=> LsAt 1 (LlE 1 NoE) w t.keys s2) (h3:Ind X w λ w=> LsAt 3 FkE w t.fks s3) (h4:Ind X w λ w=> ArgsAt w t.checks s4):Ind X w λ w=> TbE w t [qt nm,s1,s2,s3,s4]:=
 λ w' ha=> ⟨s1,s2,s3,s4,by rw [hn],⟨h1 w' ha,h2 w' ha,h3 w' ha,h4 w' ha⟩⟩
theorem one_t5 {nm:ByteArray} {a1 a2 a3 a4:Option Addr} {n1 k1 n2 k2 n3 k3 n4 k4:Nat}:∀u∈[qt nm,qs a1 n1 k1,qs a2 n2 k2,qs a3 n3 k3,qs a4 n4 k4],u.oneCell'=true:=by
 intro u o;simp only [mem_cons,not_mem_nil,or_false] at o;rcases o with rfl | rfl | rfl | rfl | rfl <;> rfl
theorem one_tb (w:World) (t:Tb) (cs:List Value) (h:TbE w t cs):∀u∈cs,u.oneCell'=true:=by
 obtain ⟨G,F,D,C,rfl,h1,A,q,o⟩:=h;obtain ⟨a1,c1,rfl,-⟩:=h1.shape;obtain ⟨a2,c2,rfl,-⟩:=A.shape;obtain ⟨a3,c3,rfl,-⟩:=q.shape;obtain ⟨a4,H,c4,rfl,-,-⟩:=o.shape;exact one_t5
theorem Tryz.info108':(Tryz.prog.info? 108).map (λ i=> (i.zero,i.size,i.bytes))=some (some (.agg q0g),5,112):=by kernel_rfl
theorem Tryz.info113':(Tryz.prog.info? 113).map (λ i=> (i.zero,i.size,i.bytes))=some (some (.agg #[q0,qi 0,qi 0]),3,40):=by kernel_rfl
theorem one_fk {a:Option Addr} {n c:Nat} {x y:Int}:∀u∈[qs a n c,qi x,qi y],u.oneCell'=true:=by
 intro u o;simp only [mem_cons,not_mem_nil,or_false] at o;rcases o with rfl | rfl | rfl <;> rfl
theorem fk_ind {x:Fk} {l:List Int} {i j:Int} (e:x=⟨l,i,j⟩) {X:Nat->Prop} {w:World} {v:Value} (h:Ind X w λ w=> LsAt 1 NoE w l v):Ind X w λ w=> FkE w x [v,qi i,qi j]:=by
 subst e;exact λ w' ha=> ⟨v,rfl,h w' ha⟩
def TbZ (s:Stt):Prop:=(∀k∈s.create.keys,k.length<=100000000)/\∀f∈s.create.fks,f.cols.length<=100000000/\f.cols.length=f.target.length
theorem bTable_calls (s:Stt) (v:StV) (W0 w:World) (h:SttAt W0 s v) (hW:Below W0.heap.size W0 w) (S:List Tb) (sa:Option Addr) (sc:Nat) (hsc:SchAt w S (qs sa S.length sc)) (hl:S.length<=1000) (hk:s.create.keys.length<=1000/\s.create.fks.length<=1000) (hz:TbZ s):Calls Tryz.prog 104 #[qs sa S.length sc,.agg (s.cells v).toArray] w (TabP W0 w):=by
 obtain ⟨a1,V,O,a2,n2,k2,a3,n3,k3,a4,U,k4,a5,n5,k5,a6,n6,k6,a7,n7,k7,a8,n8,k8,a9,n9,k9,a10,cl,bB,a11,ck,bA,rfl,h1,m1,h2,m2,h3,m3,h4,m4,h5,m5,h6,m6,h7,m7,h8,m8,h9,m9,cD,dP,cC,dO⟩:=h.shapes;have aJ:=hid h1;have bV:=hid h2;have bj:=hid h3;have cN:=hid h4;have dw:=hid h5;have dv:=hid h6;have du:=hid h7;have dt:=hid h8;have ds:=hid h9;have cP:=hid cD;have cO:=hid cC;clear h1 h2 h3 h4 h5 h6 h7 h8 h9 cD cC;have HD:Hid (SttAt W0 s ⟨qs a1 s.create.cols.length O,qs a2 s.create.keys.length k2,qs a3 s.create.fks.length k3,qs a4 s.create.checks.length k4,qs a5 s.values.length k5,qs a6 s.sets.length k6,qs a7 s.items.length k7,qs a8 s.src.length k8,qs a9 s.cond.args.length k9,qs a10 s.group.length bB,qs a11 s.order.length bA⟩):=by show SttAt _ _ _;rw [aJ.out,bV.out,bj.out,cN.out,dw.out,dv.out,du.out,dt.out,ds.out,cP.out,cO.out];exact h
 clear h;obtain ⟨dj,di⟩:=hk;rw [bV.out] at dj;rw [bj.out] at di;have HW:=hid hW;have HZ:=hid hz;have aE:=hid hsc;obtain ⟨ns,bD⟩:=gx S.length
 have aj:=hid bD;rw [bD] at hl aE ⊢;clear hW hz hsc bD;simp only [Stt.cells,Ex.cells,cons_append,nil_append];obtain ⟨cm,hl⟩:=gx s.limit
 have HL:=hid hl;obtain ⟨kd,bP⟩:=gx s.kind
 obtain ⟨G,bN⟩:=gx s.table
 obtain ⟨wo,bJ⟩:=gx s.cond.op
 obtain ⟨wt,bI⟩:=gx s.cond.table
 obtain ⟨wn,bK⟩:=gx s.cond.name
 obtain ⟨wi,bM⟩:=gx s.cond.index
 obtain ⟨wk,bL⟩:=gx s.cond.v.kind
 obtain ⟨wv,bH⟩:=gx s.cond.v.int
 obtain ⟨wx,bG⟩:=gx s.cond.v.text
 obtain ⟨nm,bO⟩:=gx s.name
 rw [bP,bN,bJ,bI,bK,bM,bL,bH,bG,bO,hl];have HK:=hid bP;have dX:=hid bN;have dY:=hid bO;have HC:=hid (And.intro bJ (And.intro bI (And.intro bK (And.intro bM (And.intro bL (And.intro bH bG))))));clear bP bN bJ bI bK bM bL bH bG bO hl;have Hv:=hid (VarIs.new w (q1a kd G a1 V O a2 n2 k2 a3 n3 k3 a4 U k4 a5 n5 k5 a6 n6 k6 a7 n7 k7 a8 n8 k8 wo wt wn wi wk wv wx a9 n9 k9 a10 cl bB a11 ck bA cm nm) 40);have dq:Hid (∀o,Below w.heap.size w (w.alloc o)):=λ o=> zi.alloc lr o;go_enter Tryz.func104,Tryz.ntmps104;have aW:Hid (LsAt 6 ClE W0 s.create.cols (qs a1 V O)):=by have:=HD.create.cols;rw [aJ.out] at this;exact this
 have cS:Hid (LsAt 3 RfE W0 s.create.fks (qs a3 n3 k3)):=by have:=HD.create.fks;rw [bj.out] at this;exact this
 have bx:Hid (ArgsAt W0 s.create.checks (qs a4 U k4)):=by have:=HD.create.checks;rw [cN.out] at this;exact this
 have bd:Hid (w.heap.size+2≠w.heap.size/\w.heap.size+2≠w.heap.size+1):=by show _/\_;omega
 go_wp2_with (refine wpList_store_row rfl _ _ _ rfl _ rfl rfl (VarIs.new2 _ _ _ _ _) rfl (by kernel_rfl) rfl ?_);intro w2 V2 A2;have V0:Hid (VarIs w2 w.heap.size (q1a kd G a1 V O a2 n2 k2 a3 n3 k3 a4 U k4 a5 n5 k5 a6 n6 k6 a7 n7 k7 a8 n8 k8 wo wt wn wi wk wv wx a9 n9 k9 a10 cl bB a11 ck bA cm nm)):=((Hv.alloc _).alloc _).agr A2 (by omega);have V1:Hid (VarIs w2 (w.heap.size+1) q0g):=((VarIs.new1 _ _ _ _).alloc _).agr A2 (by omega);have bi:Hid (Below w.heap.size w w2):=(((zi.alloc lr _).alloc (by simp) _).alloc (by simp <;> omega) _).trans (A2.below (by simp <;> omega) (λ k hk=> by show ¬ k=_;omega));have M:Hid (w.heap.size+2 < w2.heap.size):=V2.lt;clear A2 dq Hv;go_wp2;go_loopw [7] (λ z wr=> ∃(k:Nat) (ks:List (List Int)) (v:Value),k<=n2/\z=qi k/\Hid (ks.length=k)/\Hid (Bl 43 1 (LlE 1 NoE) w2.heap.size (λ j=> j < w2.heap.size) wr ks v)/\Hid (VarIs wr (w.heap.size+2) #[qt G,qs a1 V O,v,q0,qs a4 U k4])/\Hid (Agr (λ j=> j=w.heap.size+2) w2 wr)) (λ z _=> n2 - (intOf z).toNat)
 case atStart=> exact ⟨0,[],_,zero_le _,rfl,rfl,Bl.nil _ _ _ _ _ _,V2,Agr.refl _ _⟩
 case round=>
  clear V2;obtain ⟨k,ks,v,hk,rfl,HK,HB,V2,HA⟩:=hrel;have aS:=hid (V0.agr HA bd.1.symm);have ak:=hid (V1.agr HA bd.2.symm);have T:=hid (bi.trans ((HA).below bi.size λ k hk=> by omega));obtain ⟨al,aw,-⟩:=aS.out;have c3:=aw 3;simp only [q2a] at c3;clear aw;by_cases hlt:k < n2
  . clear al
    have aA:k < s.create.keys.length:=by rw [bV.out];exact hlt
    have aP:=HD.create.keys.mono (LlE.mono NmE.mono) (HW.trans (T.mono HW.size));obtain ⟨b2,o2,a12,bz,rfl,cB,d0,hx⟩:=LlAt.cell aP k aA;have aH:=HZ.1 _ (getElem_mem aA);generalize s.create.keys[k]=z at *;obtain ⟨mz,ax⟩:=gx z.length
    have HC:=hid λ w' h1 h2=> bNums_calls G s.create.cols a1 O v (q0) (qs a4 U k4) z a12 bz w' h1 h2 aH;rw [ax] at d0 HC;simp only [aJ.out] at HC;have aI:=hid hx;rw [ax] at aI;have aV:=hid (HD.create.cols.mono ClE.mono (HW.trans (T.mono HW.size)));rw [aJ.out] at aV;have c8:(0:Int)<=(k:Int):=by omega
    have kk:(k:Int) < (n2:Int):=by omega
    clear aP aA hx ax aH c3;have aT:Hid (ks.length<=1000000000):=by show _<=_;have:=HK.out;omega
    obtain ⟨al,aw,-⟩:=aS.out;have c3:=aw 3;simp only [q2a] at c3;clear aw;obtain ⟨ce,C,-⟩:=V2.out;have x0:=C 0;have x1:=C 1;have x2:=C 2;have x3:=C 3;have x4:=C 4;simp only [q2a] at x0 x1 x2 x3 x4;clear C;clear al ce;go_upto_region 5 with (fail)
    refine wp_region_segs [([0,1,2,3,4,5,6],7)] [8,9,10,11,12] [] (by kernel_rfl) (by kernel_rfl) ?_;simp only [q2c,wpSegs];have dS:=cell_regrown (w:=wr.drew) c3;have c7:=cell_regrown (w:=wr.drew) x0;have c6:=cell_regrown (w:=wr.drew) x1;have cZ:=cell_regrown (w:=wr.drew) x2;have cY:=cell_regrown (w:=wr.drew) x3;have cX:=cell_regrown (w:=wr.drew) x4;have dR:=cell_regrown (w:=wr.drew) d0;clear c3 x0 x1 x2 x3 x4 d0;have A:Hid (Below (wr).heap.size (wr) (wr).drew):=zi.drew
    repeat (quiet_step (fail))
    refine wpQuiet_nil ?_;refine ⟨rfl,λ wy hby=> ?_⟩;go_simp;simp only [uponV];have dm:Hid (wr.heap.size<=wy.heap.size):=hby.size;have Hy:=hid (A.trans (hby.mono A.size));refine (HC.out _ (aV.mono ClE.mono Hy) (aI.mono NmE.mono Hy)).mono ?_;rintro e w1 ⟨v8,q,rfl,hq,⟨ci,cW,cg,rfl⟩,hb⟩
    rename_i dI
    refine ⟨_,rfl,hb,?_⟩;have HQ:=hid hq;replace A:=hid (Hy.trans (hb.mono Hy.size));clear hq hby Hy;go_simp
    repeat (quiet_step (fail))
    refine wpQuiet_nil ?_;intro wz aB;replace A:=hid (A.trans (aB.mono A.size));simp only [wpList];have Hz:=hid aB;clear aB hb;have aY:=hid (HA.trans (Agr.all A) (λ _ _ h=> h));have ao:=hid (ak.below A ak.lt);have ab:=hid (T.trans (A.mono T.size));cases q with
    | false=>
     go_wp2_with (refine wpList_store_row rfl _ _ _ rfl _ rfl rfl ao.out rfl (by kernel_rfl) rfl ?_);intro wE VE AE;have ag:=hid (ab.trans (AE.below ab.size λ k hk=> by show ¬ k=_;omega));clear AE;go_wp2;refine bodyPost_ret (v:=.tuple #[.agg q0g,qi 4]) ?_ rfl ?_
     . exact results_cell_tmp rfl _ _ rfl VE Tryz.underlying108 rfl (by kernel_rfl)
     . exact ⟨_,_,_,_,_,_,_,_,_,_,_,_,_,_,rfl,(λ h=> absurd h (by decide)),ag⟩
    | true=>
     obtain ⟨ba,dh,bc,cw⟩:=HQ.out rfl;have dr:=hid (cw.mono Hz (Y:=λ k=> k < wr.heap.size) λ k _ h=> lt_of_lt_of_le h dm);clear HQ dh bc cw;have aX:=hid (HB.below A);have aQ:=hid (V2.below A V2.lt);obtain ⟨i0,ii,ae,ad,ac⟩:=info_parts Tryz.info43';obtain ⟨q1,q2,q3⟩:=aQ.out;have aO:=q2 2;simp only [q2a] at aO;clear q2 q3;go_wp2_with (at_builtin;go_loud (refine wpList_push (E:=LlE 1 NoE) rfl _ _ 105 rfl i0 (q0) 24 Tryz.underlying105 ii ae ad ac rfl (by decide) (by decide) rfl aX.out ba [_] 43 rfl rfl one_sl ?hE ?c0 aY.out.size (λ _ h=> h) ?_))
     case hE=> exact (dr.sub λ k _ h=> by
      rcases h with h | h
      . exact lt_of_lt_of_le h HA.size
      . exact (HB.ge k h).2).imp λ w h=> ⟨_,rfl,h⟩
     case c0=> exact aT
     intro v' w' aG H _ _;obtain ⟨L,I,J,rfl⟩:∃a n c,v'=qs a n c:=by obtain ⟨a,c,h⟩:=aG.shape;exact ⟨a,_,c,h⟩
     have aR:=hid (aQ.below H M);have b8:=hid (aY.trans (Agr.of H) (λ i hi h=> absurd h (by omega)));clear H aX q1 aO;obtain ⟨q1,q2,q3⟩:=aR.out;have aO:=q2 2;simp only [q2a] at aO;have q4:w'.frozen? ⟨w.heap.size+1+1,2,none⟩=false:=q3 2;clear q2 q3;go_wp2;clear q1 aO q4;have b6:=hid (aG.other (Z:=λ k=> k < w2.heap.size) (agr_setCell w' ⟨w.heap.size+2,2,none⟩ (qs L I J)) (λ k _ h=> by have:k=w.heap.size+2:=h;have:=M.out;omega) (λ k hk h=> by have h1:=(aG.ge k hk).1;have:k=w.heap.size+2:=h;have:=M.out;omega) (λ _ _ h=> h));have bQ:=hid (aR.set 2 (by simp) (qs L I J));have b7:=hid (b8.trans (agr_setCell w' ⟨w.heap.size+2,2,none⟩ (qs L I J)) (λ _ _ h=> h));go_roundw
     case rel=> exact ⟨k+1,_,_,by omega,by go_num,(by show _=_;rw [length_append,HK.out];rfl),b6,bQ,b7⟩
     case measure=> simp [intOf];omega
  . obtain rfl:n2=k:=by omega
    rename World=> wk
    clear al;obtain ⟨L,I,J,co,rfl⟩:∃a n c,n=ks.length/\v=qs a n c:=by obtain ⟨a,c,h⟩:=HB.shape;exact ⟨a,_,c,rfl,h⟩
    have dW:=hid co;clear co;have bW:Hid (Ind (λ j=> W0.heap.size<=j/\j < w2.heap.size) wk λ w=> LsAt 1 (LlE 1 NoE) w ks (qs L I J)):=(HB.done (by have:=HK.out;omega)).sub λ j _ hj=> ⟨hj.2,λ e=> by have:=(HB.ge j e).1;omega⟩
    clear HB;have dV:W0.heap.size<=w.heap.size:=HW.size;have aC:Hid (Below w.heap.size w wk):=T;have ah:Hid (w.heap.size<=wk.heap.size):=T.size;have aZ:Hid (w2.heap.size<=wk.heap.size):=HA.size;have aD:=hid λ (wn:World) (v':Value) (hb:Below wk.heap.size wk wn) (ho:∀j,v'.ownBlock=some j->wk.heap.size<=j)=> show Ind (λ j=> j=w.heap.size+2\/v'.ownBlock=some j) wn λ w=> TbE w ⟨G,s.create.cols,ks,[],s.create.checks⟩ [qt G,qs a1 V O,qs L I J,q0,qs a4 U k4] by
     have dk:Agr (λ j=> wk.heap.size<=j) wk wn:=Agr.of hb;have ct:=M.out;have cq:=aZ.out;have au:=HW.trans ((T.trans (hb.mono T.size)).mono HW.size);refine tb_ind rfl ((Ind.of (λ w' h=> aW.mono ClE.mono h) au).sub ?_) (bW.agr dk ?_ ?_) (Ind.triv λ _=> .inl ⟨rfl,none,rfl⟩) ((Ind.of (λ w' h=> bx.mono h) au).sub ?_)
     . rintro j hj (h | h)
       . have h:j=w.heap.size+2:=h
         omega
       . have:=ho j h
         omega
     . intro j hj h
       exact absurd h (by omega)
     . rintro j hj (h | h)
       . have h:j=w.heap.size+2:=h
         exact ⟨by omega,by omega⟩
       . have:=ho j h
         omega
     . rintro j hj (h | h)
       . have h:j=w.heap.size+2:=h
         omega
       . have:=ho j h
         omega
    have ap:=hid λ (wn:World) (v':Value) (h:Bl 108 5 TbE wk.heap.size (λ j=> j=w.heap.size+2) wn ([]++S++[⟨G,s.create.cols,ks,[],s.create.checks⟩]) v')=> show Ind (λ j=> j=w.heap.size+2) wn λ w=> SchAt w ([]++S++[⟨G,s.create.cols,ks,[],s.create.checks⟩]) v' from (h.done (by have:=aj.out;simp only [length_append,length_nil,List.length_singleton];omega)).sub λ j _ hj=> ⟨hj,λ e=> by have hj:j=w.heap.size+2:=hj;have h1:=(h.ge j e).1;have ct:=M.out;have cq:=aZ.out;omega⟩
    obtain ⟨i0,ii,ae,ad,ac⟩:=info_parts Tryz.info108';go_upto_region 9 with (fail)
    go_cut [10] from 59 to 65 (λ z wx=> Hid (Ind (λ j=> j=w.heap.size+2) wx λ w=> SchAt w ([]++S++[⟨G,s.create.cols,ks,[],s.create.checks⟩]) z)/\Hid (Below wk.heap.size wk wx))
    case first=>
     clear c3;refine wp_region_any (by kernel_rfl) ?_;change wpAny _ _ _ _ _ _ _ (World.drew _);have A:Hid (Below wk.heap.size wk wk.drew):=zi.drew;generalize World.drew wk=wc0 at A ⊢;refine wpAny_take (i:=1) (v:=?_) rfl (by kernel_rfl) (by kernel_rfl) (by kernel_rfl) (λ _ _ _ h=> h) (Or.inl ⟨by rfl,?_⟩) ?_
     rotate_left
     . intro w;go_simp;with_reducible rfl
     refine wpAny_ready (rs:=[0,3]) (by kernel_rfl) (by simp) ?_;refine AllReady.consL rfl (λ K hK=> ?_) ?_
     . simp only [q2b]
       go_wp2;have HE:Hid (Bl 108 5 TbE wk.heap.size (λ j=> j=w.heap.size+2) (wc0.alloc (.cells #[] 108)) ([]:List Tb) (qs (some ⟨wc0.heap.size,0,none⟩) 0 0)):=Bl.made A.size;replace A:=hid (A.alloc A.size (.cells #[] 108));generalize World.alloc wc0 (.cells #[] 108)=wc1 at *
       try simp only [normQ]
       refine hK _ _ ?_;clear hK K;refine wpAny_ready (rs:=[2,3]) (by kernel_rfl) (by simp) ?_;refine AllReady.consL rfl (λ K hK=> ?_) ?_
       . simp only [q2b]
         have F:=hid (aC.trans (A.mono ah));go_wp2_with (at_builtin;go_loud (refine wpList_pushL (E:=TbE) (ys:=S) (src:=qs sa ns sc) rfl _ _ 23 rfl i0 _ 112 Tryz.underlying23 ii ae ad ac rfl (by decide) (by decide) rfl HE.out rfl w aE.out TbE.mono F.out one_tb ?hl ah.out A.out.size (λ j h=> by have:j=w.heap.size+2:=h;omega) (λ j h=> by have:j=w.heap.size+2:=h;have:=M.out;have:=HA.size;have:=A.size;omega) ?_))
         case hl=> exact (by have:=aj.out;simp only [length_nil];omega)
         intro am cd D H af an;clear F;obtain ⟨aM,aK,aL,rfl⟩:∃a n c,am=qs a n c:=by obtain ⟨a,c,h⟩:=D.shape;exact ⟨a,_,c,h⟩
         replace A:=hid (A.trans H);clear H af an HE
         try simp only [wpList,normQ]
         refine hK _ _ ?_;clear hK K;refine wpAny_ready (rs:=[3]) (by kernel_rfl) (by simp) ?_;refine AllReady.consL rfl (λ K hK=> ?_) ?_
         . simp only [q2b]
           have C:=V2.below A V2.lt;have x0:=C.a0;have x1:=C.a1;have x2:=C.a2;have x3:=C.a3;have x4:=C.a4;clear C;go_wp2;clear x0 x1 x2 x3 x4
           try simp only [normQ]
           refine hK _ _ ?_;clear hK K;refine wpAny_ready (rs:=[4]) (by kernel_rfl) (by simp) ?_;refine AllReady.consL rfl (λ K hK=> ?_) ?_
           . simp only [q2b]
             go_wp2;have HV:=hid (VarIs.new cd #[qt G,qs a1 V O,qs L I J,q0,qs a4 U k4] 108);replace D:=hid (D.below (zi.alloc lr (.cells #[qt G,qs a1 V O,qs L I J,q0,qs a4 U k4] 108)));replace A:=hid (A.alloc A.size (.cells #[qt G,qs a1 V O,qs L I J,q0,qs a4 U k4] 108));generalize World.alloc cd (.cells #[qt G,qs a1 V O,qs L I J,q0,qs a4 U k4] 108)=wc3 at *
             try simp only [normQ]
             refine hK _ _ ?_;clear hK K;refine wpAny_ready (rs:=[5]) (by kernel_rfl) (by simp) ?_;refine AllReady.consL rfl (λ K hK=> ?_) ?_
             . simp only [q2b]
               go_wp2_with (at_builtin;go_loud (refine wpList_pushG (E:=TbE) rfl _ _ 23 rfl i0 _ 112 Tryz.underlying23 ii ae ad ac rfl (by decide) (by decide) rfl D.out ⟨G,s.create.cols,ks,[],s.create.checks⟩ [qt G,qs a1 V O,qs L I J,q0,qs a4 U k4] _ rfl HV.out.cell rfl one_t5 (aD.out _ _ A.out λ j h=> (D.out.ge j h).1) ?hl A.out.size (λ j h=> by have:j=w.heap.size+2:=h;have:=M.out;have:=HA.size;omega) ?_))
               case hl=> exact (by have:=aj.out;show S.length<=_;omega)
               intro ay dL aq aa _ _;replace A:=hid (A.trans aa);clear aa D HV
               try simp only [wpList,normQ]
               refine hK _ _ ?_;clear hK K;refine wpAny_ready (rs:=[6]) (by kernel_rfl) (by simp) ?_;refine AllReady.consL rfl (λ K hK=> ?_) ?_
               . simp only [q2b]
                 go_wp2
                 try simp only [normQ]
                 refine hK _ _ ?_;clear hK K;refine wpAny_done (by kernel_rfl) ?_ _;go_wp2;go_meet;exact ⟨ap.out _ _ aq,A⟩
               exact AllReady.nil
             exact AllReady.nil
           exact AllReady.nil
         exact AllReady.nil
       refine AllReady.consL rfl (λ K hK=> ?_) ?_
       . simp only [q2b]
         have C:=V2.below A V2.lt;have x0:=C.a0;have x1:=C.a1;have x2:=C.a2;have x3:=C.a3;have x4:=C.a4;clear C;go_wp2;clear x0 x1 x2 x3 x4
         try simp only [normQ]
         refine hK _ _ ?_;clear hK K;refine wpAny_ready (rs:=[2,4]) (by kernel_rfl) (by simp) ?_;refine AllReady.consL rfl (λ K hK=> ?_) ?_
         . simp only [q2b]
           have F:=hid (aC.trans (A.mono ah));go_wp2_with (at_builtin;go_loud (refine wpList_pushL (E:=TbE) (ys:=S) (src:=qs sa ns sc) rfl _ _ 23 rfl i0 _ 112 Tryz.underlying23 ii ae ad ac rfl (by decide) (by decide) rfl HE.out rfl w aE.out TbE.mono F.out one_tb ?hl ah.out A.out.size (λ j h=> by have:j=w.heap.size+2:=h;omega) (λ j h=> by have:j=w.heap.size+2:=h;have:=M.out;have:=HA.size;have:=A.size;omega) ?_))
           case hl=> exact (by have:=aj.out;simp only [length_nil];omega)
           intro am cb D H af an;clear F;obtain ⟨aM,aK,aL,rfl⟩:∃a n c,am=qs a n c:=by obtain ⟨a,c,h⟩:=D.shape;exact ⟨a,_,c,h⟩
           replace A:=hid (A.trans H);clear H af an HE
           try simp only [wpList,normQ]
           refine hK _ _ ?_;clear hK K;refine wpAny_ready (rs:=[4]) (by kernel_rfl) (by simp) ?_;refine AllReady.consL rfl (λ K hK=> ?_) ?_
           . simp only [q2b]
             go_wp2;have HV:=hid (VarIs.new cb #[qt G,qs a1 V O,qs L I J,q0,qs a4 U k4] 108);replace D:=hid (D.below (zi.alloc lr (.cells #[qt G,qs a1 V O,qs L I J,q0,qs a4 U k4] 108)));replace A:=hid (A.alloc A.size (.cells #[qt G,qs a1 V O,qs L I J,q0,qs a4 U k4] 108));generalize World.alloc cb (.cells #[qt G,qs a1 V O,qs L I J,q0,qs a4 U k4] 108)=wc6 at *
             try simp only [normQ]
             refine hK _ _ ?_;clear hK K;refine wpAny_ready (rs:=[5]) (by kernel_rfl) (by simp) ?_;refine AllReady.consL rfl (λ K hK=> ?_) ?_
             . simp only [q2b]
               go_wp2_with (at_builtin;go_loud (refine wpList_pushG (E:=TbE) rfl _ _ 23 rfl i0 _ 112 Tryz.underlying23 ii ae ad ac rfl (by decide) (by decide) rfl D.out ⟨G,s.create.cols,ks,[],s.create.checks⟩ [qt G,qs a1 V O,qs L I J,q0,qs a4 U k4] _ rfl HV.out.cell rfl one_t5 (aD.out _ _ A.out λ j h=> (D.out.ge j h).1) ?hl A.out.size (λ j h=> by have:j=w.heap.size+2:=h;have:=M.out;have:=HA.size;omega) ?_))
               case hl=> exact (by have:=aj.out;show S.length<=_;omega)
               intro ay dK aq aa _ _;replace A:=hid (A.trans aa);clear aa D HV
               try simp only [wpList,normQ]
               refine hK _ _ ?_;clear hK K;refine wpAny_ready (rs:=[6]) (by kernel_rfl) (by simp) ?_;refine AllReady.consL rfl (λ K hK=> ?_) ?_
               . simp only [q2b]
                 go_wp2
                 try simp only [normQ]
                 refine hK _ _ ?_;clear hK K;refine wpAny_done (by kernel_rfl) ?_ _;go_wp2;go_meet;exact ⟨ap.out _ _ aq,A⟩
               exact AllReady.nil
             exact AllReady.nil
           exact AllReady.nil
         refine AllReady.consL rfl (λ K hK=> ?_) ?_
         . simp only [q2b]
           go_wp2;have HV:=hid (VarIs.new wc1 #[qt G,qs a1 V O,qs L I J,q0,qs a4 U k4] 108);have aU:Hid (∀j,(qs (some ⟨wc0.heap.size,0,none⟩) 0 0).ownBlock=some j->wc1.heap.size≠j):=λ j e=> Nat.ne_of_gt (HE.ge j e).2;replace HE:=hid (HE.below (zi.alloc lr (.cells #[qt G,qs a1 V O,qs L I J,q0,qs a4 U k4] 108)));replace A:=hid (A.alloc A.size (.cells #[qt G,qs a1 V O,qs L I J,q0,qs a4 U k4] 108));generalize World.alloc wc1 (.cells #[qt G,qs a1 V O,qs L I J,q0,qs a4 U k4] 108)=wc8 at *
           try simp only [normQ]
           refine hK _ _ ?_;clear hK K;refine wpAny_ready (rs:=[2]) (by kernel_rfl) (by simp) ?_;refine AllReady.consL rfl (λ K hK=> ?_) ?_
           . simp only [q2b]
             have F:=hid (aC.trans (A.mono ah));go_wp2_with (at_builtin;go_loud (refine wpList_pushL (E:=TbE) (ys:=S) (src:=qs sa ns sc) rfl _ _ 23 rfl i0 _ 112 Tryz.underlying23 ii ae ad ac rfl (by decide) (by decide) rfl HE.out rfl w aE.out TbE.mono F.out one_tb ?hl ah.out A.out.size (λ j h=> by have:j=w.heap.size+2:=h;omega) (λ j h=> by have:j=w.heap.size+2:=h;have:=M.out;have:=HA.size;have:=A.size;omega) ?_))
             case hl=> exact (by have:=aj.out;simp only [length_nil];omega)
             intro am dJ D H af an;clear F;obtain ⟨aM,aK,aL,rfl⟩:∃a n c,am=qs a n c:=by obtain ⟨a,c,h⟩:=D.shape;exact ⟨a,_,c,h⟩
             replace HV:=hid (HV.agr (Agr.grown af) (λ e=> absurd rfl (aU.out _ e.symm)));replace A:=hid (A.trans H);clear H af an HE
             try simp only [wpList,normQ]
             refine hK _ _ ?_;clear hK K;refine wpAny_ready (rs:=[5]) (by kernel_rfl) (by simp) ?_;refine AllReady.consL rfl (λ K hK=> ?_) ?_
             . simp only [q2b]
               go_wp2_with (at_builtin;go_loud (refine wpList_pushG (E:=TbE) rfl _ _ 23 rfl i0 _ 112 Tryz.underlying23 ii ae ad ac rfl (by decide) (by decide) rfl D.out ⟨G,s.create.cols,ks,[],s.create.checks⟩ [qt G,qs a1 V O,qs L I J,q0,qs a4 U k4] _ rfl HV.out.cell rfl one_t5 (aD.out _ _ A.out λ j h=> (D.out.ge j h).1) ?hl A.out.size (λ j h=> by have:j=w.heap.size+2:=h;have:=M.out;have:=HA.size;omega) ?_))
               case hl=> exact (by have:=aj.out;show S.length<=_;omega)
               intro ay dF aq aa _ _;replace A:=hid (A.trans aa);clear aa D HV
               try simp only [wpList,normQ]
               refine hK _ _ ?_;clear hK K;refine wpAny_ready (rs:=[6]) (by kernel_rfl) (by simp) ?_;refine AllReady.consL rfl (λ K hK=> ?_) ?_
               . simp only [q2b]
                 go_wp2
                 try simp only [normQ]
                 refine hK _ _ ?_;clear hK K;refine wpAny_done (by kernel_rfl) ?_ _;go_wp2;go_meet;exact ⟨ap.out _ _ aq,A⟩
               exact AllReady.nil
             exact AllReady.nil
           exact AllReady.nil
         exact AllReady.nil
       exact AllReady.nil
     refine AllReady.consL rfl (λ K hK=> ?_) ?_
     . simp only [q2b]
       have C:=V2.below A V2.lt;have x0:=C.a0;have x1:=C.a1;have x2:=C.a2;have x3:=C.a3;have x4:=C.a4;clear C;go_wp2;clear x0 x1 x2 x3 x4
       try simp only [normQ]
       refine hK _ _ ?_;clear hK K;refine wpAny_ready (rs:=[0,4]) (by kernel_rfl) (by simp) ?_;refine AllReady.consL rfl (λ K hK=> ?_) ?_
       . simp only [q2b]
         go_wp2;have HE:Hid (Bl 108 5 TbE wk.heap.size (λ j=> j=w.heap.size+2) (wc0.alloc (.cells #[] 108)) ([]:List Tb) (qs (some ⟨wc0.heap.size,0,none⟩) 0 0)):=Bl.made A.size;replace A:=hid (A.alloc A.size (.cells #[] 108));generalize World.alloc wc0 (.cells #[] 108)=wc11 at *
         try simp only [normQ]
         refine hK _ _ ?_;clear hK K;refine wpAny_ready (rs:=[2,4]) (by kernel_rfl) (by simp) ?_;refine AllReady.consL rfl (λ K hK=> ?_) ?_
         . simp only [q2b]
           have F:=hid (aC.trans (A.mono ah));go_wp2_with (at_builtin;go_loud (refine wpList_pushL (E:=TbE) (ys:=S) (src:=qs sa ns sc) rfl _ _ 23 rfl i0 _ 112 Tryz.underlying23 ii ae ad ac rfl (by decide) (by decide) rfl HE.out rfl w aE.out TbE.mono F.out one_tb ?hl ah.out A.out.size (λ j h=> by have:j=w.heap.size+2:=h;omega) (λ j h=> by have:j=w.heap.size+2:=h;have:=M.out;have:=HA.size;have:=A.size;omega) ?_))
           case hl=> exact (by have:=aj.out;simp only [length_nil];omega)
           intro am bm D H af an;clear F;obtain ⟨aM,aK,aL,rfl⟩:∃a n c,am=qs a n c:=by obtain ⟨a,c,h⟩:=D.shape;exact ⟨a,_,c,h⟩
           replace A:=hid (A.trans H);clear H af an HE
           try simp only [wpList,normQ]
           refine hK _ _ ?_;clear hK K;refine wpAny_ready (rs:=[4]) (by kernel_rfl) (by simp) ?_;refine AllReady.consL rfl (λ K hK=> ?_) ?_
           . simp only [q2b]
             go_wp2;have HV:=hid (VarIs.new bm #[qt G,qs a1 V O,qs L I J,q0,qs a4 U k4] 108);replace D:=hid (D.below (zi.alloc lr (.cells #[qt G,qs a1 V O,qs L I J,q0,qs a4 U k4] 108)));replace A:=hid (A.alloc A.size (.cells #[qt G,qs a1 V O,qs L I J,q0,qs a4 U k4] 108));generalize World.alloc bm (.cells #[qt G,qs a1 V O,qs L I J,q0,qs a4 U k4] 108)=wc13 at *
             try simp only [normQ]
             refine hK _ _ ?_;clear hK K;refine wpAny_ready (rs:=[5]) (by kernel_rfl) (by simp) ?_;refine AllReady.consL rfl (λ K hK=> ?_) ?_
             . simp only [q2b]
               go_wp2_with (at_builtin;go_loud (refine wpList_pushG (E:=TbE) rfl _ _ 23 rfl i0 _ 112 Tryz.underlying23 ii ae ad ac rfl (by decide) (by decide) rfl D.out ⟨G,s.create.cols,ks,[],s.create.checks⟩ [qt G,qs a1 V O,qs L I J,q0,qs a4 U k4] _ rfl HV.out.cell rfl one_t5 (aD.out _ _ A.out λ j h=> (D.out.ge j h).1) ?hl A.out.size (λ j h=> by have:j=w.heap.size+2:=h;have:=M.out;have:=HA.size;omega) ?_))
               case hl=> exact (by have:=aj.out;show S.length<=_;omega)
               intro ay dE aq aa _ _;replace A:=hid (A.trans aa);clear aa D HV
               try simp only [wpList,normQ]
               refine hK _ _ ?_;clear hK K;refine wpAny_ready (rs:=[6]) (by kernel_rfl) (by simp) ?_;refine AllReady.consL rfl (λ K hK=> ?_) ?_
               . simp only [q2b]
                 go_wp2
                 try simp only [normQ]
                 refine hK _ _ ?_;clear hK K;refine wpAny_done (by kernel_rfl) ?_ _;go_wp2;go_meet;exact ⟨ap.out _ _ aq,A⟩
               exact AllReady.nil
             exact AllReady.nil
           exact AllReady.nil
         refine AllReady.consL rfl (λ K hK=> ?_) ?_
         . simp only [q2b]
           go_wp2;have HV:=hid (VarIs.new wc11 #[qt G,qs a1 V O,qs L I J,q0,qs a4 U k4] 108);have aU:Hid (∀j,(qs (some ⟨wc0.heap.size,0,none⟩) 0 0).ownBlock=some j->wc11.heap.size≠j):=λ j e=> Nat.ne_of_gt (HE.ge j e).2;replace HE:=hid (HE.below (zi.alloc lr (.cells #[qt G,qs a1 V O,qs L I J,q0,qs a4 U k4] 108)));replace A:=hid (A.alloc A.size (.cells #[qt G,qs a1 V O,qs L I J,q0,qs a4 U k4] 108));generalize World.alloc wc11 (.cells #[qt G,qs a1 V O,qs L I J,q0,qs a4 U k4] 108)=wc15 at *
           try simp only [normQ]
           refine hK _ _ ?_;clear hK K;refine wpAny_ready (rs:=[2]) (by kernel_rfl) (by simp) ?_;refine AllReady.consL rfl (λ K hK=> ?_) ?_
           . simp only [q2b]
             have F:=hid (aC.trans (A.mono ah));go_wp2_with (at_builtin;go_loud (refine wpList_pushL (E:=TbE) (ys:=S) (src:=qs sa ns sc) rfl _ _ 23 rfl i0 _ 112 Tryz.underlying23 ii ae ad ac rfl (by decide) (by decide) rfl HE.out rfl w aE.out TbE.mono F.out one_tb ?hl ah.out A.out.size (λ j h=> by have:j=w.heap.size+2:=h;omega) (λ j h=> by have:j=w.heap.size+2:=h;have:=M.out;have:=HA.size;have:=A.size;omega) ?_))
             case hl=> exact (by have:=aj.out;simp only [length_nil];omega)
             intro am dD D H af an;clear F;obtain ⟨aM,aK,aL,rfl⟩:∃a n c,am=qs a n c:=by obtain ⟨a,c,h⟩:=D.shape;exact ⟨a,_,c,h⟩
             replace HV:=hid (HV.agr (Agr.grown af) (λ e=> absurd rfl (aU.out _ e.symm)));replace A:=hid (A.trans H);clear H af an HE
             try simp only [wpList,normQ]
             refine hK _ _ ?_;clear hK K;refine wpAny_ready (rs:=[5]) (by kernel_rfl) (by simp) ?_;refine AllReady.consL rfl (λ K hK=> ?_) ?_
             . simp only [q2b]
               go_wp2_with (at_builtin;go_loud (refine wpList_pushG (E:=TbE) rfl _ _ 23 rfl i0 _ 112 Tryz.underlying23 ii ae ad ac rfl (by decide) (by decide) rfl D.out ⟨G,s.create.cols,ks,[],s.create.checks⟩ [qt G,qs a1 V O,qs L I J,q0,qs a4 U k4] _ rfl HV.out.cell rfl one_t5 (aD.out _ _ A.out λ j h=> (D.out.ge j h).1) ?hl A.out.size (λ j h=> by have:j=w.heap.size+2:=h;have:=M.out;have:=HA.size;omega) ?_))
               case hl=> exact (by have:=aj.out;show S.length<=_;omega)
               intro ay dC aq aa _ _;replace A:=hid (A.trans aa);clear aa D HV
               try simp only [wpList,normQ]
               refine hK _ _ ?_;clear hK K;refine wpAny_ready (rs:=[6]) (by kernel_rfl) (by simp) ?_;refine AllReady.consL rfl (λ K hK=> ?_) ?_
               . simp only [q2b]
                 go_wp2
                 try simp only [normQ]
                 refine hK _ _ ?_;clear hK K;refine wpAny_done (by kernel_rfl) ?_ _;go_wp2;go_meet;exact ⟨ap.out _ _ aq,A⟩
               exact AllReady.nil
             exact AllReady.nil
           exact AllReady.nil
         exact AllReady.nil
       refine AllReady.consL rfl (λ K hK=> ?_) ?_
       . simp only [q2b]
         go_wp2;have HV:=hid (VarIs.new wc0 #[qt G,qs a1 V O,qs L I J,q0,qs a4 U k4] 108);replace A:=hid (A.alloc A.size (.cells #[qt G,qs a1 V O,qs L I J,q0,qs a4 U k4] 108));generalize World.alloc wc0 (.cells #[qt G,qs a1 V O,qs L I J,q0,qs a4 U k4] 108)=wc18 at *
         try simp only [normQ]
         refine hK _ _ ?_;clear hK K;refine wpAny_ready (rs:=[0]) (by kernel_rfl) (by simp) ?_;refine AllReady.consL rfl (λ K hK=> ?_) ?_
         . simp only [q2b]
           go_wp2;have HE:Hid (Bl 108 5 TbE wk.heap.size (λ j=> j=w.heap.size+2) (wc18.alloc (.cells #[] 108)) ([]:List Tb) (qs (some ⟨wc18.heap.size,0,none⟩) 0 0)):=Bl.made A.size;have aU:Hid (∀j,(qs (some ⟨wc18.heap.size,0,none⟩) 0 0).ownBlock=some j->wc0.heap.size≠j):=λ j e=> by have h:=HV.lt;have e:some wc18.heap.size=some j:=e;cases e;omega
           replace HV:=hid (HV.alloc (.cells #[] 108));replace A:=hid (A.alloc A.size (.cells #[] 108));generalize World.alloc wc18 (.cells #[] 108)=wc19 at *
           try simp only [normQ]
           refine hK _ _ ?_;clear hK K;refine wpAny_ready (rs:=[2]) (by kernel_rfl) (by simp) ?_;refine AllReady.consL rfl (λ K hK=> ?_) ?_
           . simp only [q2b]
             have F:=hid (aC.trans (A.mono ah));go_wp2_with (at_builtin;go_loud (refine wpList_pushL (E:=TbE) (ys:=S) (src:=qs sa ns sc) rfl _ _ 23 rfl i0 _ 112 Tryz.underlying23 ii ae ad ac rfl (by decide) (by decide) rfl HE.out rfl w aE.out TbE.mono F.out one_tb ?hl ah.out A.out.size (λ j h=> by have:j=w.heap.size+2:=h;omega) (λ j h=> by have:j=w.heap.size+2:=h;have:=M.out;have:=HA.size;have:=A.size;omega) ?_))
             case hl=> exact (by have:=aj.out;simp only [length_nil];omega)
             intro am dB D H af an;clear F;obtain ⟨aM,aK,aL,rfl⟩:∃a n c,am=qs a n c:=by obtain ⟨a,c,h⟩:=D.shape;exact ⟨a,_,c,h⟩
             replace HV:=hid (HV.agr (Agr.grown af) (λ e=> absurd rfl (aU.out _ e.symm)));replace A:=hid (A.trans H);clear H af an HE
             try simp only [wpList,normQ]
             refine hK _ _ ?_;clear hK K;refine wpAny_ready (rs:=[5]) (by kernel_rfl) (by simp) ?_;refine AllReady.consL rfl (λ K hK=> ?_) ?_
             . simp only [q2b]
               go_wp2_with (at_builtin;go_loud (refine wpList_pushG (E:=TbE) rfl _ _ 23 rfl i0 _ 112 Tryz.underlying23 ii ae ad ac rfl (by decide) (by decide) rfl D.out ⟨G,s.create.cols,ks,[],s.create.checks⟩ [qt G,qs a1 V O,qs L I J,q0,qs a4 U k4] _ rfl HV.out.cell rfl one_t5 (aD.out _ _ A.out λ j h=> (D.out.ge j h).1) ?hl A.out.size (λ j h=> by have:j=w.heap.size+2:=h;have:=M.out;have:=HA.size;omega) ?_))
               case hl=> exact (by have:=aj.out;show S.length<=_;omega)
               intro ay dA aq aa _ _;replace A:=hid (A.trans aa);clear aa D HV
               try simp only [wpList,normQ]
               refine hK _ _ ?_;clear hK K;refine wpAny_ready (rs:=[6]) (by kernel_rfl) (by simp) ?_;refine AllReady.consL rfl (λ K hK=> ?_) ?_
               . simp only [q2b]
                 go_wp2
                 try simp only [normQ]
                 refine hK _ _ ?_;clear hK K;refine wpAny_done (by kernel_rfl) ?_ _;go_wp2;go_meet;exact ⟨ap.out _ _ aq,A⟩
               exact AllReady.nil
             exact AllReady.nil
           exact AllReady.nil
         exact AllReady.nil
       exact AllReady.nil
     exact AllReady.nil
    obtain ⟨az,bh⟩:=hcut
    rename World=> wA
    have dy:=hid (bW.mono bh λ _ _ h=> h);have cE:=hid (V2.below bh V2.lt);have cU:=hid (HA.trans (Agr.all bh) λ _ _ h=> h);have bl:Hid (w2.heap.size<=wA.heap.size):=cU.size;clear bW V2 HA bh aC ah aS ak T aD ap c3 aZ;generalize []++S++[⟨G,s.create.cols,ks,[],s.create.checks⟩]=S1 at az;obtain ⟨xa,xc,rfl,dg⟩:=az.here.shape;clear dg;obtain ⟨xn,bC⟩:=gx S1.length
    have bS:=hid bC;rw [bC] at az ⊢;clear bC;have cT:=hid λ nm w' h=> bFind_calls S1 xa xc nm w' h;simp only [bS.out] at cT;go_wp2;go_loopw [11,12] (λ z11 z12 wr=> ∃(k:Nat) (y:Int) (fs:List Fk) (u:Value),k<=n3/\z11=qi y/\z12=qi k/\Hid (fs.length=k)/\Hid (Bl 113 3 FkE wA.heap.size (λ j=> j < wA.heap.size) wr fs u)/\Hid (VarIs wr (w.heap.size+2) #[qt G,qs a1 V O,(qs L I J),u,qs a4 U k4])/\Hid (Agr (λ j=> j=w.heap.size+2) wA wr)) (λ _ z _=> n3 - (intOf z).toNat)
    case atStart=> exact ⟨0,0,[],_,zero_le _,rfl,rfl,rfl,Bl.nil _ _ _ _ _ _,cE,Agr.refl _ _⟩
    case round=>
     clear cE;obtain ⟨k,y,fs,u,hk,rfl,rfl,bZ,HB,V2,HA⟩:=hrel
     rename World=> wo
     have b9:=hid (cU.trans HA λ _ _ h=> h);have aS:=hid (V0.agr b9 bd.1.symm);have ak:=hid (V1.agr b9 bd.2.symm);have T:=hid (bi.trans ((b9).below bi.size λ k hk=> by omega));obtain ⟨al,aw,-⟩:=aS.out;have c4:=aw 4;simp only [q2a] at c4;clear aw;by_cases hlt:k < n3
     . clear al
       have aA:k < s.create.fks.length:=by rw [bj.out];exact hlt
       have au:=HW.trans (T.mono HW.size);have aP:=cS.mono RfE.mono au;obtain ⟨bf,of,a12,bz,a13,df,rfl,cB,d0,d1,d2,hx,hy⟩:=RfAt.cell aP k aA;obtain ⟨aH,bE⟩:=HZ.2 _ (getElem_mem aA);generalize s.create.fks[k]=z at *;obtain ⟨ua,un,uc,rfl⟩:∃a n c,u=qs a n c:=by obtain ⟨a,c,h⟩:=HB.shape;exact ⟨a,_,c,h⟩
       obtain ⟨mz,ax⟩:=gx z.cols.length
       have be:z.target.length=mz:=bE.symm.trans ax;have HC:=hid λ w' h1 h2=> bNums_calls G s.create.cols a1 O (qs L I J) (qs ua un uc) (qs a4 U k4) z.cols a12 bz w' h1 h2 aH;have HG:=hid λ nm cs ca cc v2 v3 v4 w' h1 h2=> bNums_calls nm cs ca cc v2 v3 v4 z.target a13 df w' h1 h2 (bE ▸ aH);rw [ax] at d0 HC;rw [be] at d2;simp only [be] at HG;simp only [aJ.out] at HC;have aI:=hid hx;rw [ax] at aI;have cI:=hid hy;rw [be] at cI;have aV:=hid (aW.mono ClE.mono au);have c8:(0:Int)<=(k:Int):=by omega
       have kk:(k:Int) < (n3:Int):=by omega
       clear aP aA hx hy ax be aH bE au;go_wp2_with (refine wpList_store_row rfl _ _ _ rfl _ rfl rfl (VarIs.new _ _ _) rfl (by kernel_rfl) rfl ?_);intro w5 V5 A5;clear c4 d0 d1 d2;have A:Hid (Below wo.heap.size wo w5):=(zi.alloc lr _).trans (A5.below (by simp) (λ k hk=> by show ¬ k=_;omega));clear A5;have cF:=hid (V2.below A V2.lt);obtain ⟨W,C,-⟩:=cF.out;have x0:=C 0;have x1:=C 1;have x2:=C 2;have x3:=C 3;have x4:=C 4;simp only [q2a] at x0 x1 x2 x3 x4;clear C;clear W;obtain ⟨W,av,-⟩:=V5.out;have h0:=av 0;simp only [q2a] at h0;clear av;clear W;go_wp2_with fail;refine (HC.out _ (aV.mono ClE.mono A) (aI.mono NmE.mono A)).mono ?_;rintro e w6 ⟨v8,q,rfl,hq,⟨ci,cW,cg,rfl⟩,hb⟩;clear x0 x1 x2 x3 x4 h0 cF;have cL:=hid hq;have dx:Hid (wo.heap.size<=w5.heap.size):=A.size;replace A:=hid (A.trans (hb.mono A.size));replace V5:=hid (V5.below hb V5.lt);clear hq hb;obtain ⟨W,av,-⟩:=V5.out;have h1:=av 1;simp only [q2a] at h1;clear av;clear W;go_wp2_with fail;refine (cT.out _ _ (az.out _ (HA.trans (Agr.all A) λ _ _ h=> h))).mono ?_;rintro e w7 ⟨n,q2,rfl,bc,hb⟩;clear h1;have cM:=hid bc;replace A:=hid (A.trans (hb.mono A.size));have cG:=hid hb;replace V5:=hid (V5.below hb V5.lt);clear bc hb;have ao:=hid (ak.below A ak.lt);have ab:=hid (T.trans (A.mono T.size));cases q with
       | false=>
        go_wp2_with (refine wpList_store_row rfl _ _ _ rfl _ rfl rfl ao.out rfl (by kernel_rfl) rfl ?_);intro wE VE AE;have ag:=hid (ab.trans (AE.below ab.size λ k hk=> by show ¬ k=_;omega));clear AE;go_wp2;refine bodyPost_ret (v:=.tuple #[.agg q0g,qi 4]) ?_ rfl ?_
        . exact results_cell_tmp rfl _ _ rfl VE Tryz.underlying108 rfl (by kernel_rfl)
        . exact ⟨_,_,_,_,_,_,_,_,_,_,_,_,_,_,rfl,(λ h=> absurd h (by decide)),ag⟩
       | true=>
        cases q2 with
        | false=>
         go_wp2_with (refine wpList_store_row rfl _ _ _ rfl _ rfl rfl ao.out rfl (by kernel_rfl) rfl ?_);intro wE VE AE;have ag:=hid (ab.trans (AE.below ab.size λ k hk=> by show ¬ k=_;omega));clear AE;go_wp2;refine bodyPost_ret (v:=.tuple #[.agg q0g,qi 4]) ?_ rfl ?_
         . exact results_cell_tmp rfl _ _ rfl VE Tryz.underlying108 rfl (by kernel_rfl)
         . exact ⟨_,_,_,_,_,_,_,_,_,_,_,_,_,_,rfl,(λ h=> absurd h (by decide)),ag⟩
        | true=>
         obtain ⟨cj,dN⟩:=cM.out rfl;have cj:(0:Int)<=n:=cj;obtain ⟨ba,bt,br,bq⟩:=cL.out rfl;obtain ⟨t,rfl⟩:∃t:Nat,n=t:=⟨n.toNat,by omega⟩
         have cp:t < S1.length:=by have:=bS.out;omega
         have tt:(t:Int) < (xn:Int):=by have:=bS.out;omega
         have cr:=az.out _ (HA.trans (Agr.all A) λ _ _ h=> h);obtain ⟨bs,os,b1,j1,b2,j2,b3,j3,b4,j4,rfl,bu,f0,f1,f2,f3,f4,bb⟩:=SchAt.cell cr t cp;generalize S1[t]=q at *;obtain ⟨qn,cu⟩:=gx q.name
         obtain ⟨m1,bg⟩:=gx q.cols.length
         obtain ⟨m2,bF⟩:=gx q.keys.length
         obtain ⟨m3,cy⟩:=gx q.fks.length
         obtain ⟨m4,cx⟩:=gx q.checks.length
         have cR:=hid λ w' h1 h2=> HG.out qn q.cols b1 j1 (qs b2 m2 j2) (qs b3 m3 j3) (qs b4 m4 j4) w' h1 h2;have cJ:=hid λ l m la ma lc mc w' h1 h2 h3 h4 h5 h6 h7=> bTypes_calls G qn s.create.cols q.cols a1 b1 O j1 (qs L I J) (qs ua un uc) (qs a4 U k4) (qs b2 m2 j2) (qs b3 m3 j3) (qs b4 m4 j4) l m la ma lc mc w' h1 h2 h3 h4 h5 h6 h7;have bT:=hid bb.cols;have cK:=hid bb.keys;rw [cu] at f0;rw [bg] at f1 bT;simp only [bg] at cR;simp only [aJ.out,bg] at cJ;rw [bF] at f2 cK;rw [cy] at f3;rw [cx] at f4;have cQ:=hid bF;have dG:m2<=2000000000000:=by obtain ⟨_,_,_,h⟩:=bb.keys.shape;omega
         have HF:=hid (And.intro f0 (And.intro f1 (And.intro f2 (And.intro f3 f4))));have aF:=hid bu;have bY:=hid (bq.mono cG λ _ _ h=> h);have bw:=hid (And.intro bt br);have Ho:=A;clear cr bb cu bg bF cy cx cp HG HC aI cM cL bt br bq bu A ao ab;obtain ⟨W,av,-⟩:=V5.out;have h2:=av 2;simp only [q2a] at h2;clear av;clear W;go_upto_region 19 with (fail)
         refine wp_region_segs [([0,1,2,3,4,5],6)] [7,8,9,10,11] [] (by kernel_rfl) (by kernel_rfl) ?_;simp only [q2c,wpSegs];have dQ:=cell_regrown (w:=w7.drew) h2;have dd:=cell_regrown (w:=w7.drew) f0;have dc:=cell_regrown (w:=w7.drew) f1;have db:=cell_regrown (w:=w7.drew) f2;have da:=cell_regrown (w:=w7.drew) f3;have c9:=cell_regrown (w:=w7.drew) f4;clear h2 f0 f1 f2 f3 f4;have A:Hid (Below (w7).heap.size (w7) (w7).drew):=zi.drew
         repeat (quiet_step (fail))
         refine wpQuiet_nil ?_;refine ⟨rfl,λ wy hby=> ?_⟩;go_simp;simp only [uponV];have Hy:=hid (A.trans (hby.mono A.size));refine (cR.out _ (bT.mono ClE.mono Hy) (cI.mono NmE.mono (Ho.trans (Hy.mono Ho.size)))).mono ?_;rintro e w8 ⟨v9,has,rfl,cv,⟨ch,dM,cf,rfl⟩,hb⟩;refine ⟨_,rfl,hb,?_⟩;have bU:=hid cv;have dZ:Hid (w7.heap.size<=wy.heap.size):=Hy.size;replace A:=hid (Hy.trans (hb.mono Hy.size));clear hb hby Hy cv;go_simp
         repeat (quiet_step (fail))
         refine wpQuiet_nil ?_;intro wz aB;replace A:=hid (A.trans (aB.mono A.size));have Hz:=hid aB;clear aB;simp only [wpList];replace Ho:=hid (Ho.trans (A.mono Ho.size));cases has with
         | false=>
          clear bU Hz;go_wp2;go_loopw [20,21] (λ z20 z21 wr=> ∃(i:Nat),i<=m2/\z20=qi (-1)/\z21=qi i/\Hid (Below wz.heap.size wz wr)) (λ _ z _=> m2 - (intOf z).toNat)
          case atStart=> exact ⟨0,zero_le _,rfl,rfl,zi⟩
          case round=>
           obtain ⟨i,hi,rfl,rfl,Hi⟩:=hrel
           rename World=> wi
           have ai:=hid (A.trans (Hi.mono A.size));have f2:=(ai.cell (p:=⟨bs,os+t * 5+2,none⟩) aF).trans HF.2.2.1;by_cases hlt2:i < m2
           . have ii:(i:Int) < (m2:Int):=by omega
             go_wp2;go_roundw
             case rel=> exact ⟨i+1,by omega,rfl,by go_num,Hi⟩
             case measure=> simp [intOf];omega
           . obtain rfl:m2=i:=by omega
             have ar:=hid (Ho.trans (Hi.mono Ho.size));have ao:=hid (ak.below ar ak.lt);have ab:=hid (T.trans (ar.mono T.size));go_wp2_with (refine wpList_store_row rfl _ _ _ rfl _ rfl rfl ao.out rfl (by kernel_rfl) rfl ?_);intro wE VE AE;have ag:=hid (ab.trans (AE.below ab.size λ k hk=> by show ¬ k=_;omega));clear AE;go_wp2;refine bodyPost_ret (v:=.tuple #[.agg q0g,qi 4]) ?_ rfl ?_
             . exact results_cell_tmp rfl _ _ rfl VE Tryz.underlying108 rfl (by kernel_rfl)
             . exact ⟨_,_,_,_,_,_,_,_,_,_,_,_,_,_,rfl,(λ h=> absurd h (by decide)),ag⟩
         | true=>
          obtain ⟨cn,bp,bo,bn⟩:=bU.out rfl;have bX:=hid (bn.mono Hz λ _ _ h=> h);have bv:=hid (And.intro bp bo);clear bp bo bn Hz bU;obtain ⟨_,_,e9,-⟩:=bX.here.shape;obtain ⟨-,rfl,-⟩:=Value.slice.inj e9;obtain ⟨_,_,e8,-⟩:=bY.here.shape;obtain ⟨-,rfl,-⟩:=Value.slice.inj e8;clear e8 e9;go_wp2;go_loopw [20,21] (λ z20 z21 wr=> ∃(i:Nat) (y2:Int),i<=m2/\z20=qi y2/\z21=qi i/\Hid (Below wz.heap.size wz wr)) (λ _ z _=> m2 - (intOf z).toNat)
          case atStart=> exact ⟨0,_,zero_le _,rfl,rfl,zi⟩
          case round=>
           obtain ⟨i,y2,hi,rfl,rfl,Hi⟩:=hrel
           rename World=> wi
           have ai:=hid (A.trans (Hi.mono A.size));have f2:=(ai.cell (p:=⟨bs,os+t * 5+2,none⟩) aF).trans HF.2.2.1;by_cases hlt2:i < m2
           . obtain ⟨bk,ok,a14,de,rfl,dH,g0,cz⟩:=LlAt.cell (cK.mono (LlE.mono NoE.mono) ai) i (by rw [cQ.out];exact hlt2)
             have dU:i < q.keys.length:=by rw [cQ.out];exact hlt2
             generalize q.keys[i]=kx at *;have dT:(0:Int)<=(i:Int):=by omega
             have ii:(i:Int) < (m2:Int):=by omega
             go_wp2_with fail;refine (bInts_calls kx cn a14 ch de cf _ cz (bX.here.mono NoE.mono Hi)).mono ?_;rintro e wj ⟨b,rfl,-,hb⟩;have Hj:=hid (Hi.trans (hb.mono Hi.size));clear hb f2 g0 cz;cases b
             all_goals
              go_wp2;go_roundw
              case rel=> exact ⟨i+1,_,by omega,rfl,by go_num,Hj⟩
              case measure=> simp [intOf];omega
           . obtain rfl:m2=i:=by omega
             have ar:=hid (Ho.trans (Hi.mono Ho.size));by_cases hy2:y2 < 0
             . clear hlt2
               have ao:=hid (ak.below ar ak.lt);have ab:=hid (T.trans (ar.mono T.size));go_wp2_with (refine wpList_store_row rfl _ _ _ rfl _ rfl rfl ao.out rfl (by kernel_rfl) rfl ?_);intro wE VE AE;have ag:=hid (ab.trans (AE.below ab.size λ k hk=> by show ¬ k=_;omega));clear AE;go_wp2;refine bodyPost_ret (v:=.tuple #[.agg q0g,qi 4]) ?_ rfl ?_
               . exact results_cell_tmp rfl _ _ rfl VE Tryz.underlying108 rfl (by kernel_rfl)
               . exact ⟨_,_,_,_,_,_,_,_,_,_,_,_,_,_,rfl,(λ h=> absurd h (by decide)),ag⟩
             . have dl:=hid (V2.below ar V2.lt)
               obtain ⟨W,C,-⟩:=dl.out;have x0:=C 0;have x1:=C 1;have x2:=C 2;have x3:=C 3;have x4:=C 4;simp only [q2a] at x0 x1 x2 x3 x4;clear C;clear W;have f0:=(ai.cell (p:=⟨bs,os+t * 5,none⟩) aF).trans HF.1;have f1:=(ai.cell (p:=⟨bs,os+t * 5+1,none⟩) aF).trans HF.2.1;have f2:=(ai.cell (p:=⟨bs,os+t * 5+2,none⟩) aF).trans HF.2.2.1;have f3:=(ai.cell (p:=⟨bs,os+t * 5+3,none⟩) aF).trans HF.2.2.2.1;have f4:=(ai.cell (p:=⟨bs,os+t * 5+4,none⟩) aF).trans HF.2.2.2.2;go_upto_region 28 with (fail)
               go_cut [145] from 137 to 144 (λ z wy=> ∃q:Bool,z=.bool q/\Hid (Below wi.heap.size wi wy))
               case first=>
                refine wp_region_segs [([0,1,2,3,4,5,6],7)] [8] [] (by kernel_rfl) (by kernel_rfl) ?_;simp only [q2c,wpSegs];have c7:=cell_regrown (w:=wi.drew) x0;have c6:=cell_regrown (w:=wi.drew) x1;have cZ:=cell_regrown (w:=wi.drew) x2;have cY:=cell_regrown (w:=wi.drew) x3;have cX:=cell_regrown (w:=wi.drew) x4;have dd:=cell_regrown (w:=wi.drew) f0;have dc:=cell_regrown (w:=wi.drew) f1;have db:=cell_regrown (w:=wi.drew) f2;have da:=cell_regrown (w:=wi.drew) f3;have c9:=cell_regrown (w:=wi.drew) f4;clear x0 x1 x2 x3 x4 f0 f1 f2 f3 f4;have Hs:Hid (Below (wi).heap.size (wi) (wi).drew):=zi.drew
                repeat (quiet_step (fail))
                refine wpQuiet_nil ?_;refine ⟨rfl,λ wy hby=> ?_⟩;go_simp;simp only [uponV];have Hy:=hid (Hs.trans (hby.mono Hs.size));have bR:=hid (ai.trans (Hy.mono ai.size));refine (cJ.out ba cn ci ch cg cf _ (aV.mono ClE.mono (ar.trans (Hy.mono ar.size))) (bT.mono ClE.mono bR) (bY.here.mono NoE.mono bR) (bX.here.mono NoE.mono (Hi.trans (Hy.mono Hi.size))) (by rw [bw.1,bv.1];exact lr) bw.2 bv.2).mono ?_;rintro e wt ⟨b,rfl,-,hb⟩;refine ⟨_,rfl,hb,?_⟩;replace Hs:=hid (Hy.trans (hb.mono Hy.size));clear hb hby Hy bR;go_simp
                repeat (quiet_step (fail))
                refine wpQuiet_nil ?_;intro wu cA;have dp:=hid (Hs.trans (cA.mono Hs.size));clear cA Hs;simp only [wpList];go_wp2;go_meet;exact ⟨_,rfl,dp⟩
               obtain ⟨b,rfl,cH⟩:=hcut
               rename World=> wu
               go_step;go_cut [11] from 145 to 145 (λ z wx=> ∃y:Int,z=qi y/\wu=wx)
               case first=>
                cases b
                all_goals
                 go_wp2;go_meet;exact ⟨_,rfl,rfl⟩
               obtain ⟨y3,rfl,rfl⟩:=hcut;have Hu:=hid (ar.trans (cH.mono ar.size));have dz:Hid (wA.heap.size<=wo.heap.size):=HA.size;clear x0 x1 x2 x3 x4 f0 f1 f2 f3 f4;have aQ:=hid (V2.below Hu V2.lt);have aY:=hid (HA.trans (Agr.all Hu) (λ _ _ h=> h));have aX:=hid (HB.below Hu);have aT:Hid (fs.length<=1000000000):=by show _<=_;have:=bZ.out;omega
               obtain ⟨i0,ii,ae,ad,ac⟩:=info_parts Tryz.info113';obtain ⟨q1,q2,q3⟩:=aQ.out;have aN:=q2 3;simp only [q2a] at aN;clear q2 q3;go_wp2_with (at_builtin;go_loud (refine wpList_push (E:=FkE) rfl _ _ 106 rfl i0 _ 40 Tryz.underlying106 ii ae ad ac rfl (by decide) (by decide) rfl aX.out ⟨ba,t,y2⟩ [_,_,_] 113 rfl rfl one_fk ?hE ?c0 aY.out.size (λ _ h=> h) ?_))
               case hE=> exact fk_ind rfl (bY.mono (ai.trans (cH.mono ai.size)) λ j _ h=> by
                have h1:=dx.out;have h2:=dz.out;rcases h with h | h
                . omega
                . have:=(HB.ge j h).2
                  omega)
               case c0=> exact aT
               intro v' w' aG H _ _;obtain ⟨L,I,J,rfl⟩:∃a n c,v'=qs a n c:=by obtain ⟨a,c,h⟩:=aG.shape;exact ⟨a,_,c,h⟩
               have aR:=hid (aQ.below H (by have:=M.out;have:=bl.out;omega));have b8:=hid (aY.trans (Agr.of H) (λ i hi h=> absurd h (by omega)));clear H aX q1 aN;obtain ⟨q1,q2,q3⟩:=aR.out;have aN:=q2 3;simp only [q2a] at aN;have q4:w'.frozen? ⟨w.heap.size+1+1,3,none⟩=false:=q3 3;clear q2 q3;go_wp2;clear q1 aN q4;have b6:=hid (aG.other (Z:=λ k=> k < wA.heap.size) (agr_setCell w' ⟨w.heap.size+2,3,none⟩ (qs L I J)) (λ k _ h=> by have:k=w.heap.size+2:=h;have:=M.out;have:=bl.out;omega) (λ k hk h=> by have h1:=(aG.ge k hk).1;have:k=w.heap.size+2:=h;have:=M.out;have:=bl.out;omega) (λ _ _ h=> h));have bQ:=hid (aR.set 3 (by simp) (qs L I J));have b7:=hid (b8.trans (agr_setCell w' ⟨w.heap.size+2,3,none⟩ (qs L I J)) (λ _ _ h=> h));go_roundw
               case rel=> exact ⟨k+1,_,_,_,by omega,rfl,by go_num,(by show _=_;rw [length_append,bZ.out];rfl),b6,bQ,b7⟩
               case measure=> simp [intOf];omega
     . obtain rfl:n3=k:=by omega
       obtain ⟨ua,un,uc,rfl⟩:∃a n c,u=qs a n c:=by obtain ⟨a,c,h⟩:=HB.shape;exact ⟨a,_,c,h⟩
       clear al;obtain ⟨W,C,-⟩:=V2.out;have x0:=C 0;have x1:=C 1;have x2:=C 2;have x3:=C 3;have x4:=C 4;simp only [q2a] at x0 x1 x2 x3 x4;clear C;clear W;by_cases hy0:y=0
       . subst hy0
         go_wp2_with (refine wpList_store_row rfl _ _ _ rfl _ rfl rfl ak.out rfl (by kernel_rfl) rfl ?_);intro wE VE AE;have ag:=hid (T.trans (AE.below T.size λ k hk=> by show ¬ k=_;omega));have HT:Hid (Ind (λ j=> W0.heap.size<=j/\j < w.heap.size) wE λ w=> TbAt w ⟨G,s.create.cols,ks,fs,s.create.checks⟩ (qs a1 V O) (qs L I J) (qs ua un uc) (qs a4 U k4)):=by have au:=HW.trans (ag.mono HW.size);have ct:=M.out;have cq:=bl.out;have h1:=(Ind.of (λ w' h=> aW.mono ClE.mono h) au).sub (Y:=λ j=> W0.heap.size<=j/\j < w.heap.size) λ j _ h=> h.1;have h4:=(Ind.of (λ w' h=> bx.mono h) au).sub (Y:=λ j=> W0.heap.size<=j/\j < w.heap.size) λ j _ h=> h.1;have h2:=dy.agr (Y:=λ j=> j=w.heap.size+2\/j=w.heap.size+1) (Z:=λ j=> W0.heap.size<=j/\j < w.heap.size) ((HA.weak λ _ h=> .inl h).trans AE λ j _ h=> .inr h) (λ j _ h=> ⟨by omega,by omega⟩) (λ j _ h=> ⟨h.1,by omega⟩);have h3:=(HB.done (by have:=bZ.out;omega)).agr (Z:=λ j=> W0.heap.size<=j/\j < w.heap.size) AE (λ j _ h=> by have h:j=w.heap.size+1:=h;exact ⟨by omega,λ e=> by have:=(HB.ge j e).1;omega⟩) (λ j _ h=> ⟨by omega,λ e=> by have:=(HB.ge j e).1;omega⟩);exact λ w' ha=> ⟨h1 w' ha,h2 w' ha,h3 w' ha,h4 w' ha⟩
         clear AE x0 x1 x2 x3 x4;go_wp2;refine bodyPost_ret (v:=.tuple #[.agg #[qt G,qs a1 V O,qs L I J,qs ua un uc,qs a4 U k4],qi 0]) ?_ rfl ?_
         . exact results_cell_tmp rfl _ _ rfl VE Tryz.underlying108 rfl (by kernel_rfl)
         . exact ⟨_,_,_,_,_,_,_,_,_,_,_,_,_,_,rfl,(λ _=> ⟨⟨G,s.create.cols,ks,fs,s.create.checks⟩,rfl,HT⟩),ag⟩
       . clear x0 x1 x2 x3 x4
         have ao:=ak;have ab:=T;go_wp2_with (refine wpList_store_row rfl _ _ _ rfl _ rfl rfl ao.out rfl (by kernel_rfl) rfl ?_);intro wE VE AE;have ag:=hid (ab.trans (AE.below ab.size λ k hk=> by show ¬ k=_;omega));clear AE;go_wp2;refine bodyPost_ret (v:=.tuple #[.agg q0g,qi y]) ?_ rfl ?_
         . exact results_cell_tmp rfl _ _ rfl VE Tryz.underlying108 rfl (by kernel_rfl)
         . exact ⟨_,_,_,_,_,_,_,_,_,_,_,_,_,_,rfl,(λ h=> absurd h hy0),ag⟩
end
end
end Go.Proofs.YtcomoomndgbckaaGreat
