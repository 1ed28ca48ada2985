/- Part 34 of the proof. -/
import Derived.Test.YtcomoomndgbckaaGreatY32
import Derived.Test.YtcomoomndgbckaaGreatY33
set_option maxHeartbeats 16000000
set_option maxRecDepth 100000
open Go Go.RowKit
open Go.Lib (hid)
open List (nil_append cons_append all_eq_true)
open Nat (lt_of_lt_of_le)
namespace Go.Proofs.YtcomoomndgbckaaGreat
noncomputable section
section
open Go.Sort
theorem lawResult_calls (s:Stt) (v:StV) (w:World) (h:SttAt w s v) (S:List Tb) (sa:Option Addr) (sc:Nat) (hsc:SchAt w S (qs sa S.length sc)) (hz:InZ S s) (R:List Rw) (ra:Option Addr) (rn rc:Nat) (hr:RowsAt w R (qs ra rn rc)) (hcap:rn<=rc) (hc9:rc<=9223372036854775807) (hrl:∀r∈R,r.length < 1099511627776):Calls Tryz.prog 3 #[qs sa S.length sc,.agg (s.cells v).toArray,qs ra rn rc] w (IsP true w):=by
 obtain ⟨a1,n1,V,a2,n2,k2,a3,n3,k3,a4,n4,k4,a5,n5,U,a6,n6,T,a7,n7,O,a8,n8,M,a9,n9,L,a10,F,C,a11,D,A,rfl,h1,m1,h2,m2,h3,m3,h4,m4,h5,m5,h6,m6,h7,m7,h8,m8,h9,m9,aJ,bu,aI,bt⟩:=h.shapes;have bb:=hid h1;have ba:=hid h2;have aZ:=hid h3;have aY:=hid h4;have aX:=hid h5;have aW:=hid h6;have aV:=hid h7;have aU:=hid h8;have aT:=hid h9;have ai:=hid aJ;have ah:=hid aI;clear h1 h2 h3 h4 h5 h6 h7 h8 h9 aJ aI;have HD:Hid (SttAt w s ⟨qs a1 s.create.cols.length V,qs a2 s.create.keys.length k2,qs a3 s.create.fks.length k3,qs a4 s.create.checks.length k4,qs a5 s.values.length U,qs a6 s.sets.length T,qs a7 s.items.length O,qs a8 s.src.length M,qs a9 s.cond.args.length L,qs a10 s.group.length C,qs a11 s.order.length A⟩):=by show SttAt _ _ _;rw [bb.out,ba.out,aZ.out,aY.out,aX.out,aW.out,aV.out,aU.out,aT.out,ai.out,ah.out];exact h
 clear h;simp only [Stt.cells,Ex.cells,cons_append,nil_append];obtain ⟨K,hl⟩:=gx s.limit
 have HL:=hid hl;obtain ⟨kd,ax⟩:=gx s.kind
 obtain ⟨tb,av⟩:=gx s.table
 obtain ⟨wo,ap⟩:=gx s.cond.op
 obtain ⟨wt,ao⟩:=gx s.cond.table
 obtain ⟨wn,aq⟩:=gx s.cond.name
 obtain ⟨wi,au⟩:=gx s.cond.index
 obtain ⟨wk,ar⟩:=gx s.cond.v.kind
 obtain ⟨wv,an⟩:=gx s.cond.v.int
 obtain ⟨wx,am⟩:=gx s.cond.v.text
 obtain ⟨nm,aw⟩:=gx s.name
 rw [ax,av,ap,ao,aq,au,ar,an,am,aw,hl];have HK:=hid ax;have bm:=hid av;have br:=hid aw;have HC:=hid (And.intro ap (And.intro ao (And.intro aq (And.intro au (And.intro ar (And.intro an am))))));clear ax av ap ao aq au ar an am aw hl;have V0:=hid (VarIs.new w (q1a kd tb a1 n1 V a2 n2 k2 a3 n3 k3 a4 n4 k4 a5 n5 U a6 n6 T a7 n7 O a8 n8 M wo wt wn wi wk wv wx a9 n9 L a10 F C a11 D A K nm) 40);have ay:Hid (Below w.heap.size w (w.alloc (.cells (q1a kd tb a1 n1 V a2 n2 k2 a3 n3 k3 a4 n4 k4 a5 n5 U a6 n6 T a7 n7 O a8 n8 M wo wt wn wi wk wv wx a9 n9 L a10 F C a11 D A K nm) 40))):=zi.alloc lr _;have bl:Hid (Below ((w.alloc (.cells (q1a kd tb a1 n1 V a2 n2 k2 a3 n3 k3 a4 n4 k4 a5 n5 U a6 n6 T a7 n7 O a8 n8 M wo wt wn wi wk wv wx a9 n9 L a10 F C a11 D A K nm) 40))).heap.size (w.alloc (.cells (q1a kd tb a1 n1 V a2 n2 k2 a3 n3 k3 a4 n4 k4 a5 n5 U a6 n6 T a7 n7 O a8 n8 M wo wt wn wi wk wv wx a9 n9 L a10 F C a11 D A K nm) 40)) (w.alloc (.cells (q1a kd tb a1 n1 V a2 n2 k2 a3 n3 k3 a4 n4 k4 a5 n5 U a6 n6 T a7 n7 O a8 n8 M wo wt wn wi wk wv wx a9 n9 L a10 F C a11 D A K nm) 40))):=zi;have be:Hid (SttAt w s ⟨qs a1 n1 V,qs a2 n2 k2,qs a3 n3 k3,qs a4 n4 k4,qs a5 n5 U,qs a6 n6 T,qs a7 n7 O,qs a8 n8 M,qs a9 n9 L,qs a10 F C,qs a11 D A⟩):=by have:=HD.mono zi;rw [bb.out,ba.out,aZ.out,aY.out,aX.out,aW.out,aV.out,aU.out,aT.out,ai.out,ah.out] at this;exact this
 obtain ⟨ns,aE⟩:=gx S.length
 have aA:Hid (∀w',Below w.heap.size w w'->SttAt w' s ⟨qs a1 n1 V,qs a2 n2 k2,qs a3 n3 k3,qs a4 n4 k4,qs a5 n5 U,qs a6 n6 T,qs a7 n7 O,qs a8 n8 M,qs a9 n9 L,qs a10 F C,qs a11 D A⟩->Calls Tryz.prog 9 #[qs sa S.length sc,.agg (q1a kd tb a1 n1 V a2 n2 k2 a3 n3 k3 a4 n4 k4 a5 n5 U a6 n6 T a7 n7 O a8 n8 M wo wt wn wi wk wv wx a9 n9 L a10 F C a11 D A K nm),qs ra rn rc] w' (BndQ s ⟨qs a1 n1 V,qs a2 n2 k2,qs a3 n3 k3,qs a4 n4 k4,qs a5 n5 U,qs a6 n6 T,qs a7 n7 O,qs a8 n8 M,qs a9 n9 L,qs a10 F C,qs a11 D A⟩ R w')):=λ w' o h=> by have:=bound_calls s ⟨qs a1 n1 V,qs a2 n2 k2,qs a3 n3 k3,qs a4 n4 k4,qs a5 n5 U,qs a6 n6 T,qs a7 n7 O,qs a8 n8 M,qs a9 n9 L,qs a10 F C,qs a11 D A⟩ w' h S sa sc (hsc.mono TbE.mono o) hz R _ (hr.mono o);simp only [Stt.cells,Ex.cells,cons_append,nil_append,HK.out,bm.out,br.out,HL.out,HC.1,HC.2.1,HC.2.2.1,HC.2.2.2.1,HC.2.2.2.2.1,HC.2.2.2.2.2.1,HC.2.2.2.2.2.2] at this;exact this
 have aS:Hid (s.items.length<=1100000/\s.group.length<=1100000):=⟨hz.items.1,hz.group.1⟩
 have HR:=hid hr;have bp:=hid hrl;have HN:Hid (R.length=rn):=by obtain ⟨_,_,_,e,h,-⟩:=hr.shape;exact ((Value.slice.inj e).2.1.trans h).symm
 rw [aE] at aA ⊢;unfold IsP;clear aE hsc hz hr hrl;go_enter Tryz.func3,Tryz.ntmps3;go_wp2_with fail;refine (awake_calls _).mono ?_;rintro e w1 ⟨rfl,o⟩;have ab:=hid (ay.trans (o.mono ay.size));have aK:=hid (V0.below o V0.lt);clear o V0 ay bl;go_wp2_with (refine wpList_load_stmt rfl _ rfl _ rfl aK.out.cell (by rfl) ?_);refine (aA.out _ ab (be.mono ab)).mono ?_;rintro e w2 ⟨bd,q,rfl,hq,o⟩;have HQ:=hid hq;have aL:=hid (ab.trans (o.mono ab.size));have bk:=hid ab.size;clear hq o aK aA;obtain ⟨cs,aa⟩:∃cs:List Value,bd.arr=cs.toArray:=⟨bd.arr.toList,by simp⟩
 have J:Hid (cs.length=26):=by show _=_;have h:bd.arr.size=26:=rfl;rw [aa] at h;simpa using h
 have aR:Hid (cs.all (·.oneCell')=true):=by show _=_;rw [all_eq_true];intro v hv;exact arr_one bd v (by rw [aa];exact hv)
 rw [aa];have bf:=hid aa;clear aa;go_wp2_with (refine wpList_store_row rfl _ _ _ rfl _ rfl rfl (VarIs.new _ _ _) (by rw [J.out];rfl) (by rw [J.out];kernel_rfl) aR ?_);intro w4 VB A4;have bh:=hid (((zi.alloc lr _).trans (A4.below (by simp) (λ k hk=> by show ¬ k=_;omega)):Below w2.heap.size w2 w4));have H:=hid (aL.trans (bh.mono aL.size));clear A4;cases q with
 | false=>
  go_upto_region 4 with (fail)
  go_quiet (fail);have Hq:=hid (H.trans (below_drewN w4 nq));go_wp2;go_ret;exact ⟨rfl,Hq⟩
 | true=>
  obtain ⟨ae,hF,⟨cols,bi,gs,ac,af,al,hR⟩,aD,ad⟩:=HQ.out (by simp);have bj:bi.length=s.items.length:=by have:=congrArg List.length ac.agg;simpa using this
  obtain ⟨es,js,aF,ag⟩:=bound_fit (w:=w4) ac ((af.mono bh (Y:=λ j=> j < w.heap.size) λ j _ h=> lt_of_lt_of_le h bk).here) (by rw [<-aD];exact be.order.mono OrE.mono H) hF hR al ⟨by have:=aS.1;omega,by have:=aS.2;have:=ac.len;omega⟩;have bz:=hid aF;have bc:=hid ag;have aj:=hid ad;have bA:=hid al;have ak:=hid ae;have bv:=hid (hF.2.2.2.2);have bw:=hid λ r hr=> (hR r hr).1;clear aF ag ad ac af al hR aD hF bj HQ ae;have az:=hid (bc.out R (λ _ h=> h) ak);go_upto_region 4 with (fail)
  refine wp_region_segs [([0,1,2,3,4,7,8],5),([],6),([],9),([],10)] [11,12] [] (by kernel_rfl) (by kernel_rfl) ?_;simp only [q2c,wpSegs];have aM:=hid (VB.drew).cell;have I:Hid (Below (w4).heap.size (w4) (w4).drew):=zi.drew
  repeat (first | go_big_quiet_step (fail) | quiet_step (fail))
  refine quiet_load_rowW rfl 46 _ rfl _ rfl _ aM Tryz.underlying46 rfl (by rw [J.out];kernel_rfl) ?_;go_simp
  repeat (first | go_big_quiet_step (fail) | quiet_step (fail))
  refine quiet_load_rowW rfl 46 _ rfl _ rfl _ aM Tryz.underlying46 rfl (by rw [J.out];kernel_rfl) ?_;go_simp
  repeat (first | go_big_quiet_step (fail) | quiet_step (fail))
  refine wpQuiet_nil ?_;refine ⟨rfl,λ wy hby=> ?_⟩;go_simp;simp only [uponV];have G:=hid (I.trans (hby.mono I.size));refine (all2_calls R (qs ra rn rc) _ (HR.mono (H.trans (G.mono H.size))) bp (by have:=ak.out;omega)).mono ?_;rintro e w5 ⟨bx,g,k,rfl,aH,W,o⟩;refine ⟨_,rfl,o,?_⟩;replace I:=hid (G.trans (o.mono G.size));clear o hby G;have bg:=hid aH;have bq:=hid W.at
  have bs:=hid (own_lt W);clear aH W;go_simp
  repeat (first | go_big_quiet_step (fail) | quiet_step (fail))
  refine wpQuiet_nil ?_;refine ⟨rfl,λ wy hby=> ?_⟩;go_simp;simp only [uponV];have G:=hid (I.trans (hby.mono I.size));have aP:=hid λ (wyy:World) (h1:Below w4.heap.size w4 wyy) (h2:Below w5.heap.size w5 wyy)=> result_rows bd es js (odsOf s.order) R cols.length s.limit bx g 0 k k wyy aj (az.1.mono h1) ((h2.block bx bg.lt).trans bg) (bq.mono h2) (lt_of_lt_of_le bs h2.size);simp only [bf.out] at aP;refine (aP.out _ G hby).mono ?_;rintro e w6 ⟨rv,rfl,aC,o⟩;refine ⟨_,rfl,o,?_⟩;replace I:=hid (G.trans (o.mono G.size));clear o hby G;have bo:=hid aC;clear aC;go_simp
  repeat (first | go_big_quiet_step (fail) | quiet_step (fail))
  refine wpQuiet_nil ?_;refine ⟨rfl,λ wy hby=> ?_⟩;go_simp;simp only [uponV];have G:=hid (I.trans (hby.mono I.size));have aQ:=hid λ (wyy:World) (h1:Below w4.heap.size w4 wyy)=> rResult_calls bd es js (odsOf s.order) R cols.length s.limit ra rn rc wyy aj (az.1.mono h1) (λ i hi h R' hR' w3 s3 hb3 hv3=> az.2 i hi h R' hR' w3 s3 (h1.trans (hb3.mono h1.size)) hv3) (HR.mono (H.trans (h1.mono H.size))) hcap hc9;simp only [bf.out] at aQ;have aO:=hid (bo.mono hby);refine (aQ.out _ G).mono ?_;rintro e w7 ⟨rw,rfl,aB,o⟩;refine ⟨_,rfl,o,?_⟩;replace I:=hid (G.trans (o.mono G.size));have aN:=hid (aO.mono o);clear o hby G;have bn:=hid aB;clear aB;go_simp
  repeat (first | go_big_quiet_step (fail) | quiet_step (fail))
  refine wpQuiet_nil ?_;refine ⟨rfl,λ wy hby=> ?_⟩;go_simp;simp only [uponV];have G:=hid (I.trans (hby.mono I.size));refine (same_calls _ _ rv rw _ (aN.mono hby) (bn.mono hby)).mono ?_;rintro e w8 ⟨rfl,o⟩;refine ⟨_,rfl,o,?_⟩;replace I:=hid (G.trans (o.mono G.size));clear o hby G;go_simp
  repeat (first | go_big_quiet_step (fail) | quiet_step (fail))
  refine wpQuiet_nil ?_;intro wz aG;replace I:=hid (I.trans (aG.mono I.size));clear aG;simp only [wpList];have Hf:=hid (H.trans (I.mono H.size));go_wp2;go_ret;exact ⟨rfl,Hf⟩
end
end
end Go.Proofs.YtcomoomndgbckaaGreat
