/- Part 33 of the proof. -/
import Derived.Test.YtcomoomndgbckaaGreatY31
set_option maxHeartbeats 16000000
set_option maxRecDepth 100000
open Go Go.RowKit
open Go.Lib (hid)
open List (getElem?_cons_zero getElem?_cons_succ getElem_mem getElem_cons_zero length_append nil_append map_cons mem_cons map_nil mem_singleton cons_append mem_append length_map take_succ_eq_append_getElem getElem?_eq_getElem map_append take_length length_cons mem_iff_getElem getD_eq_getElem?_getD)
open Nat (zero_le lt_succ_self le_trans lt_of_lt_of_le add_zero zero_add)
namespace Go.Proofs.YtcomoomndgbckaaGreat
noncomputable section
section
open Go.Sort
theorem cBind_calls (s:Stt) (v:StV) (w:World) (h:SttAt w s v) (S:List Tb) (sa:Option Addr) (sc:Nat) (hsc:SchAt w S (qs sa S.length sc)) (hc9:∀t∈S,t.cols.length<=1100000) (hz:SttS s) (hq:QryZ s) (hk5:s.kind=5):Calls Tryz.prog 24 #[qs sa S.length sc,.agg (s.cells v).toArray] w (QryP s v w):=by
 obtain ⟨a1,n1,K,a2,n2,k2,a3,W,k3,a4,V,k4,a5,U,J,a6,T,I,a7,O,H,a8,M,G,a9,L,F,a10,C,q,a11,A,o,rfl,h1,m1,h2,m2,h3,m3,h4,m4,h5,m5,h6,m6,h7,m7,h8,m8,h9,m9,aq,aK,ap,aJ⟩:=h.shapes;have aC:=hid h1;have aB:=hid h2;have aA:=hid h3;have az:=hid h4;have ay:=hid h5;have ax:=hid h6;have aw:=hid h7;have av:=hid h8;have au:=hid h9;have ac:=hid aq;have ab:=hid ap;clear h1 h2 h3 h4 h5 h6 h7 h8 h9 aq ap;have HD:Hid (SttAt w s ⟨qs a1 s.create.cols.length K,qs a2 s.create.keys.length k2,qs a3 s.create.fks.length k3,qs a4 s.create.checks.length k4,qs a5 s.values.length J,qs a6 s.sets.length I,qs a7 s.items.length H,qs a8 s.src.length G,qs a9 s.cond.args.length F,qs a10 s.group.length q,qs a11 s.order.length o⟩):=by show SttAt _ _ _;rw [aC.out,aB.out,aA.out,az.out,ay.out,ax.out,aw.out,av.out,au.out,ac.out,ab.out];exact h
 clear h;simp only [Stt.cells,Ex.cells,cons_append,nil_append];obtain ⟨D,hl⟩:=gx s.limit
 have HL:=hid hl;obtain ⟨kd,am⟩:=gx s.kind
 obtain ⟨tb,ak⟩:=gx s.table
 obtain ⟨wo,ag⟩:=gx s.cond.op
 obtain ⟨wt,af⟩:=gx s.cond.table
 obtain ⟨wn,ah⟩:=gx s.cond.name
 obtain ⟨wi,aj⟩:=gx s.cond.index
 obtain ⟨wk,ai⟩:=gx s.cond.v.kind
 obtain ⟨wv,ae⟩:=gx s.cond.v.int
 obtain ⟨wx,ad⟩:=gx s.cond.v.text
 obtain ⟨nm,al⟩:=gx s.name
 rw [am,ak,ag,af,ah,aj,ai,ae,ad,al,hl];have HK:=hid am;have aG:=hid ak;have aH:=hid al;have HC:=hid (And.intro ag (And.intro af (And.intro ah (And.intro aj (And.intro ai (And.intro ae ad))))));clear am ak ag af ah aj ai ae ad al hl;have V0:=hid ((VarIs.new w (q1a kd tb a1 n1 K a2 n2 k2 a3 W k3 a4 V k4 a5 U J a6 T I a7 O H a8 M G wo wt wn wi wk wv wx a9 L F a10 C q a11 A o D nm) 40).alloc (.cells q0a 46));have V1:=hid (VarIs.new1 w (.cells (q1a kd tb a1 n1 K a2 n2 k2 a3 W k3 a4 V k4 a5 U J a6 T I a7 O H a8 M G wo wt wn wi wk wv wx a9 L F a10 C q a11 A o D nm) 40) q0a 46);have aa:Hid (Below w.heap.size w (((w.alloc (.cells (q1a kd tb a1 n1 K a2 n2 k2 a3 W k3 a4 V k4 a5 U J a6 T I a7 O H a8 M G wo wt wn wi wk wv wx a9 L F a10 C q a11 A o D nm) 40))).alloc (.cells q0a 46))):=(zi.alloc lr _).alloc (by simp) _;have aI:Hid (SttAt w s ⟨qs a1 n1 K,qs a2 n2 k2,qs a3 W k3,qs a4 V k4,qs a5 U J,qs a6 T I,qs a7 O H,qs a8 M G,qs a9 L F,qs a10 C q,qs a11 A o⟩):=by have:=HD.mono zi;rw [aC.out,aB.out,aA.out,az.out,ay.out,ax.out,aw.out,av.out,au.out,ac.out,ab.out] at this;exact this
 obtain ⟨ns,ao⟩:=gx S.length
 have an:Hid (∀w',Below w.heap.size w w'->SttAt w' s ⟨qs a1 n1 K,qs a2 n2 k2,qs a3 W k3,qs a4 V k4,qs a5 U J,qs a6 T I,qs a7 O H,qs a8 M G,qs a9 L F,qs a10 C q,qs a11 A o⟩->Calls Tryz.prog 54 #[qs sa S.length sc,.agg (q1a kd tb a1 n1 K a2 n2 k2 a3 W k3 a4 V k4 a5 U J a6 T I a7 O H a8 M G wo wt wn wi wk wv wx a9 L F a10 C q a11 A o D nm)] w' (QryP s ⟨qs a1 n1 K,qs a2 n2 k2,qs a3 W k3,qs a4 V k4,qs a5 U J,qs a6 T I,qs a7 O H,qs a8 M G,qs a9 L F,qs a10 C q,qs a11 A o⟩ w')):=λ w' hb h=> by have:=cQry_calls s ⟨qs a1 n1 K,qs a2 n2 k2,qs a3 W k3,qs a4 V k4,qs a5 U J,qs a6 T I,qs a7 O H,qs a8 M G,qs a9 L F,qs a10 C q,qs a11 A o⟩ w' h S sa sc (hsc.mono TbE.mono hb) hc9 hz hq;simp only [Stt.cells,Ex.cells,cons_append,nil_append,HK.out,aG.out,aH.out,HL.out,HC.1,HC.2.1,HC.2.2.1,HC.2.2.2.1,HC.2.2.2.2.1,HC.2.2.2.2.2.1,HC.2.2.2.2.2.2] at this;exact this
 rw [ao] at an ⊢;clear ao hsc hc9 hz hq;obtain rfl:kd=5:=HK.symm.trans hk5;go_enter Tryz.func24,Tryz.ntmps24;have c0:=V0.a0;go_wp2_with (refine wpList_load_stmt rfl _ rfl _ rfl V0.out.cell (by rfl) ?_);refine (an.out _ aa (aI.mono aa)).mono ?_;rintro e w1 ⟨bd,f,rfl,hq,hb⟩;have HQ:=hid hq;have ar:=hid (aa.trans (hb.mono aa.size));have aE:=hid (V1.below hb V1.lt);have Hs:Hid (w.heap.size+2=((((w.alloc (.cells (q1a 5 tb a1 n1 K a2 n2 k2 a3 W k3 a4 V k4 a5 U J a6 T I a7 O H a8 M G wo wt wn wi wk wv wx a9 L F a10 C q a11 A o D nm) 40))).alloc (.cells q0a 46))).heap.size):=by show _=_;simp
 clear hb hq V0 V1 an c0;simp only [Bd.arr];go_wp2_with (refine wpList_store_row rfl _ _ _ rfl _ rfl rfl aE.out rfl (by kernel_rfl) rfl ?_);intro wE VE AE;have aF:=hid (ar.trans (AE.below ar.size λ k hk=> by show ¬ k=_;omega));go_wp2;refine bodyPost_ret (v:=.tuple #[.agg bd.arr,qi f]) ?_ rfl ?_
 . exact results_cell_tmp rfl _ _ rfl VE Tryz.underlying46 rfl (by kernel_rfl)
 . refine ⟨bd,f,rfl,λ h=> ?_,aF⟩
   obtain ⟨⟨cols,aD,gs,h1,h2,h3⟩,h4,h5⟩:=HQ.out h;exact ⟨⟨cols,aD,gs,h1,h2.agr AE (λ j _ e=> by have e:j=w.heap.size+1:=e;show j < _;have:=Hs.out;omega) λ j _ h=> by show j < _;have:=Hs.out;omega,h3⟩,h4,h5⟩
end
section
open Go.Sort
theorem wpList_want {P:Program} {ops:Array Oper} {rest:List Oper} {o:Oper} {a:Act} {w:World} {Q:Exit->Act->World->Prop} (hw:Region.wanted o (yielded ops a.tmps)=true) (h:wpList P ops Q ({ o with guard:=none }::rest) a w):wpList P ops Q (o::rest) a w:=by
 rw [wpList] at h ⊢;rw [if_pos hw];rw [if_pos (show Region.wanted { o with guard:=none } (yielded ops a.tmps)=true from rfl)] at h;exact h
structure InZ (S:List Tb) (s:Stt):Prop where
 sch:SchZ S
 cols:∀t∈S,t.cols.length<=1100000
 str:SttS s
 sz:SttZ s
 all:(allE s).length<=1000000000
 cbk:s.cond.bulk<=1100000
 items:s.items.length<=1100000/\∀x∈s.items,x.e.bulk<=1100000
 group:s.group.length<=1100000/\∀x∈s.group,x.bulk<=1100000
theorem InZ.qry {S:List Tb} {s:Stt} (h:InZ S s) (hf:StF s) (hk:s.kind=5):QryZ s:=
 ⟨hf.cond,h.cbk,λ x hx=> ⟨(hf.sel hk).1 x hx,h.items.2 x hx⟩,λ x hx=> ⟨(hf.sel hk).2.1 x hx,h.group.2 x hx⟩,h.items.1,h.group.1⟩
theorem cSmall_calls (s:Stt) (v:StV) (w:World) (h:SttAt w s v) (S:List Tb) (sa:Option Addr) (sc:Nat) (hsc:SchAt w S (qs sa S.length sc)) (hz:InZ S s):Calls Tryz.prog 23 #[qs sa S.length sc,.agg (s.cells v).toArray] w (BoolP (StF s) w):=by
 obtain ⟨a1,n1,O,a2,n2,k2,a3,n3,k3,a4,n4,k4,a5,n5,M,a6,W,L,a7,V,K,a8,U,J,a9,T,I,a10,D,A,a11,C,o,rfl,h1,m1,h2,m2,h3,m3,h4,m4,h5,m5,h6,m6,h7,m7,h8,m8,h9,m9,aq,aN,ap,aM⟩:=h.shapes;have aH:=hid h1;have aG:=hid h2;have aF:=hid h3;have aE:=hid h4;have aD:=hid h5;have aC:=hid h6;have aB:=hid h7;have aA:=hid h8;have az:=hid h9;have ab:=hid aq;have aa:=hid ap;clear h1 h2 h3 h4 h5 h6 h7 h8 h9 aq ap;have HD:Hid (SttAt w s ⟨qs a1 s.create.cols.length O,qs a2 s.create.keys.length k2,qs a3 s.create.fks.length k3,qs a4 s.create.checks.length k4,qs a5 s.values.length M,qs a6 s.sets.length L,qs a7 s.items.length K,qs a8 s.src.length J,qs a9 s.cond.args.length I,qs a10 s.group.length A,qs a11 s.order.length o⟩):=by show SttAt _ _ _;rw [aH.out,aG.out,aF.out,aE.out,aD.out,aC.out,aB.out,aA.out,az.out,ab.out,aa.out];exact h
 clear h;simp only [Stt.cells,Ex.cells,cons_append,nil_append];obtain ⟨G,hl⟩:=gx s.limit
 have HL:=hid hl;obtain ⟨kd,al⟩:=gx s.kind
 obtain ⟨tb,aj⟩:=gx s.table
 obtain ⟨wo,af⟩:=gx s.cond.op
 obtain ⟨wt,ae⟩:=gx s.cond.table
 obtain ⟨wn,ag⟩:=gx s.cond.name
 obtain ⟨wi,ai⟩:=gx s.cond.index
 obtain ⟨wk,ah⟩:=gx s.cond.v.kind
 obtain ⟨wv,ad⟩:=gx s.cond.v.int
 obtain ⟨wx,ac⟩:=gx s.cond.v.text
 obtain ⟨nm,ak⟩:=gx s.name
 rw [al,aj,af,ae,ag,ai,ah,ad,ac,ak,hl];have HK:=hid al;have av:=hid aj;have ay:=hid ak;have H:=hid (And.intro af (And.intro ae (And.intro ag (And.intro ai (And.intro ah (And.intro ad ac))))));clear al aj af ae ag ai ah ad ac ak hl;have V0:=hid (VarIs.new w (q1a kd tb a1 n1 O a2 n2 k2 a3 n3 k3 a4 n4 k4 a5 n5 M a6 W L a7 V K a8 U J wo wt wn wi wk wv wx a9 T I a10 D A a11 C o G nm) 40);have am:Hid (Below w.heap.size w (w.alloc (.cells (q1a kd tb a1 n1 O a2 n2 k2 a3 n3 k3 a4 n4 k4 a5 n5 M a6 W L a7 V K a8 U J wo wt wn wi wk wv wx a9 T I a10 D A a11 C o G nm) 40))):=zi.alloc lr _;have aI:Hid (SttAt w s ⟨qs a1 n1 O,qs a2 n2 k2,qs a3 n3 k3,qs a4 n4 k4,qs a5 n5 M,qs a6 W L,qs a7 V K,qs a8 U J,qs a9 T I,qs a10 D A,qs a11 C o⟩):=by have:=HD.mono zi;rw [aH.out,aG.out,aF.out,aE.out,aD.out,aC.out,aB.out,aA.out,az.out,ab.out,aa.out] at this;exact this
 obtain ⟨ns,ao⟩:=gx S.length
 have aL:Hid (∀w',SttAt w' s ⟨qs a1 n1 O,qs a2 n2 k2,qs a3 n3 k3,qs a4 n4 k4,qs a5 n5 M,qs a6 W L,qs a7 V K,qs a8 U J,qs a9 T I,qs a10 D A,qs a11 C o⟩->Calls Tryz.prog 50 #[.agg (q1a kd tb a1 n1 O a2 n2 k2 a3 n3 k3 a4 n4 k4 a5 n5 M a6 W L a7 V K a8 U J wo wt wn wi wk wv wx a9 T I a10 D A a11 C o G nm)] w' (BoolP True w')):=λ w' h=> by have:=aSmall_calls s ⟨qs a1 n1 O,qs a2 n2 k2,qs a3 n3 k3,qs a4 n4 k4,qs a5 n5 M,qs a6 W L,qs a7 V K,qs a8 U J,qs a9 T I,qs a10 D A,qs a11 C o⟩ w' h hz.all;simp only [Stt.cells,Ex.cells,cons_append,nil_append,HK.out,av.out,ay.out,HL.out,H.1,H.2.1,H.2.2.1,H.2.2.2.1,H.2.2.2.2.1,H.2.2.2.2.2.1,H.2.2.2.2.2.2] at this;exact this
 have aK:Hid (∀w',SttAt w' s ⟨qs a1 n1 O,qs a2 n2 k2,qs a3 n3 k3,qs a4 n4 k4,qs a5 n5 M,qs a6 W L,qs a7 V K,qs a8 U J,qs a9 T I,qs a10 D A,qs a11 C o⟩->Calls Tryz.prog 51 #[.agg (q1a kd tb a1 n1 O a2 n2 k2 a3 n3 k3 a4 n4 k4 a5 n5 M a6 W L a7 V K a8 U J wo wt wn wi wk wv wx a9 T I a10 D A a11 C o G nm)] w' (ValP s w')):=λ w' h=> by have:=aValid_calls s ⟨qs a1 n1 O,qs a2 n2 k2,qs a3 n3 k3,qs a4 n4 k4,qs a5 n5 M,qs a6 W L,qs a7 V K,qs a8 U J,qs a9 T I,qs a10 D A,qs a11 C o⟩ w' h hz.str hz.sz hz.all;simp only [Stt.cells,Ex.cells,cons_append,nil_append,HK.out,av.out,ay.out,HL.out,H.1,H.2.1,H.2.2.1,H.2.2.2.1,H.2.2.2.2.1,H.2.2.2.2.2.1,H.2.2.2.2.2.2] at this;exact this
 have ax:=hid λ w' (F:Below w.heap.size w w')=> bSmSch_calls S sa sc w' (hsc.mono TbE.mono F);have aw:=hid λ w' (F:Below w.heap.size w w')=> bValid_calls S sa sc w' (hsc.mono TbE.mono F) hz.sch;rw [ao] at ax aw ⊢;clear ao hsc hz;go_enter Tryz.func23,Tryz.ntmps23;have au:Hid (Below ((w.alloc (.cells (q1a kd tb a1 n1 O a2 n2 k2 a3 n3 k3 a4 n4 k4 a5 n5 M a6 W L a7 V K a8 U J wo wt wn wi wk wv wx a9 T I a10 D A a11 C o G nm) 40))).heap.size (w.alloc (.cells (q1a kd tb a1 n1 O a2 n2 k2 a3 n3 k3 a4 n4 k4 a5 n5 M a6 W L a7 V K a8 U J wo wt wn wi wk wv wx a9 T I a10 D A a11 C o G nm) 40)) (w.alloc (.cells (q1a kd tb a1 n1 O a2 n2 k2 a3 n3 k3 a4 n4 k4 a5 n5 M a6 W L a7 V K a8 U J wo wt wn wi wk wv wx a9 T I a10 D A a11 C o G nm) 40))):=zi;go_wp2_with fail;refine (ax.out _ am).mono ?_;rintro e w1 ⟨q,rfl,-,F⟩;have H1:=hid (am.trans (F.mono am.size));have ar:=hid (au.trans (F.mono au.size));clear F;cases q with
 | false=>
  go_wp2;go_ret;exact ⟨false,rfl,(λ h=> (by cases h)),H1⟩
 | true=>
  go_wp2_with fail;refine (aw.out _ H1).mono ?_;rintro e w2 ⟨q,rfl,-,F⟩;have H2:=hid (H1.trans (F.mono H1.size));have an:=hid (ar.trans (F.mono ar.size));clear F;cases q with
  | false=>
   go_wp2;go_ret;exact ⟨false,rfl,(λ h=> (by cases h)),H2⟩
  | true=>
   have VL:=hid (V0.below an V0.lt);go_wp2_with (refine wpList_want rfl (wpList_load_stmt rfl _ rfl _ rfl VL.out.cell (by rfl) ?_));clear VL;refine (aL.out _ (aI.mono H2)).mono ?_;rintro e w3 ⟨q,rfl,-,F⟩;have H3:=hid (H2.trans (F.mono H2.size));have aJ:=hid (an.trans (F.mono an.size));clear F;cases q with
   | false=>
    go_wp2;go_ret;exact ⟨false,rfl,(λ h=> (by cases h)),H3⟩
   | true=>
    have VL:=hid (V0.below aJ V0.lt);go_wp2_with (refine wpList_want rfl (wpList_load_stmt rfl _ rfl _ rfl VL.out.cell (by rfl) ?_));clear VL;refine (aK.out _ (aI.mono H3)).mono ?_;rintro e w4 ⟨t,rfl,ht,F⟩;have HT:=hid ht;have H4:=hid (H3.trans (F.mono H3.size));clear F ht;go_wp2;go_ret;exact ⟨_,rfl,(λ h=> HT.out (by simpa using h)),H4⟩
end
section
open Go.ChangeShapes Go.ChangeAt Go.WideShapes
theorem cV:Tryz.prog.cellsOf 35=3:=by kernel_rfl
theorem cSTR:Tryz.prog.cellsOf 9=1:=by kernel_rfl
theorem cRW:Tryz.prog.cellsOf 60=1:=by kernel_rfl
theorem cI64:Tryz.prog.cellsOf 2=1:=by kernel_rfl
theorem cINT:Tryz.prog.cellsOf 3=1:=by kernel_rfl
theorem cBOOL:Tryz.prog.cellsOf 4=1:=by kernel_rfl
theorem cEX:Tryz.prog.cellsOf 37=8:=by kernel_rfl
theorem cEXS:Tryz.prog.cellsOf 27=1:=by kernel_rfl
theorem cITEM:Tryz.prog.cellsOf 66=9:=by kernel_rfl
theorem cITEMS:Tryz.prog.cellsOf 32=1:=by kernel_rfl
theorem cORD:Tryz.prog.cellsOf 84=2:=by kernel_rfl
theorem cORDS:Tryz.prog.cellsOf 38=1:=by kernel_rfl
theorem cSRC:Tryz.prog.cellsOf 123=2:=by kernel_rfl
theorem cSRCS:Tryz.prog.cellsOf 33=1:=by kernel_rfl
theorem cASG:Tryz.prog.cellsOf 121=10:=by kernel_rfl
theorem cASGS:Tryz.prog.cellsOf 31=1:=by kernel_rfl
theorem cEXSS:Tryz.prog.cellsOf 30=1:=by kernel_rfl
theorem cDEF:Tryz.prog.cellsOf 29=4:=by kernel_rfl
theorem cREF:Tryz.prog.cellsOf 129=3:=by kernel_rfl
theorem cREFS:Tryz.prog.cellsOf 26=1:=by kernel_rfl
theorem cNMS:Tryz.prog.cellsOf 127=1:=by kernel_rfl
theorem cNMSS:Tryz.prog.cellsOf 25=1:=by kernel_rfl
theorem cCOL:Tryz.prog.cellsOf 125=6:=by kernel_rfl
theorem cCOLS:Tryz.prog.cellsOf 24=1:=by kernel_rfl
theorem cKEYS:Tryz.prog.cellsOf 105=1:=by kernel_rfl
theorem cNOS:Tryz.prog.cellsOf 43=1:=by kernel_rfl
theorem cFK:Tryz.prog.cellsOf 113=3:=by kernel_rfl
theorem cFKS:Tryz.prog.cellsOf 106=1:=by kernel_rfl
theorem cTAB:Tryz.prog.cellsOf 108=5:=by kernel_rfl
theorem cSTMT:Tryz.prog.cellsOf 40=22:=by kernel_rfl
instance:Inhabited Cl:=⟨⟨⟨#[]⟩,0,0,0,0,false⟩⟩
instance:Inhabited Fk:=⟨⟨[],0,0⟩⟩
instance:Inhabited Ex:=⟨.mk 0 ⟨#[]⟩ ⟨#[]⟩ 0 Vl.null []⟩
instance:Inhabited Rf:=⟨⟨[],⟨#[]⟩,[]⟩⟩
instance:Inhabited Src:=⟨⟨⟨#[]⟩,⟨#[]⟩⟩⟩
instance:Inhabited Ord:=⟨⟨0,false⟩⟩
instance:Inhabited Vl:=⟨Vl.null⟩
instance:Inhabited Tb:=⟨⟨⟨#[]⟩,[],[],[],[]⟩⟩
instance:Inhabited Itm:=⟨⟨0,default⟩⟩
instance:Inhabited Asg:=⟨⟨⟨#[]⟩,0,default⟩⟩
section
variable {H:Type} {enc:TypeId×Value->H} {w:World}
theorem one_cell {t e:TypeId} {fuel sz:Nat} {cs:List Value} {x:DataW H×List MemPlace} (ht:Tryz.prog.underlying t=some (.slice e)) (hsz:Tryz.prog.cellsOf e=sz) (h0:0 < sz) (h:DataW.trod enc Tryz.prog w 0 (λ _=> true) true fuel t cs=some x):∃c,cs=[c]:=by
 rcases slice_read ht hsz h0 h with ⟨a,e⟩ | ⟨_,_,_,_,_,_,_,e,-⟩ <;> exact ⟨_,e⟩
theorem ubulk_pos (d:DataW H):1<=Rows.uptoBulk d:=by
 cases d with
 | lit l=> cases l <;> simp [Rows.uptoBulk]
 | _=> simp [Rows.uptoBulk]
theorem ubulk_mem {d:DataW H}:∀{l:List (DataW H)},d∈l->Rows.uptoBulk d<=Rows.uptoBulkAll l
 | x::l,h=> by
  rw [Rows.uptoBulkAll];rcases mem_cons.1 h with rfl | h
  . omega
  . have:=ubulk_mem h
    omega
theorem ubulk_len:∀l:List (DataW H),l.length<=Rows.uptoBulkAll l
 | []=> by simp
 | x::l=> by have:=ubulk_len l;have:=ubulk_pos x;rw [Rows.uptoBulkAll,length_cons];omega
theorem ubulk_sum {α:Type} (m:α->Nat):∀(D:List (DataW H)) (f:Nat->α),(∀i (h:i < D.length),m (f i)<=Rows.uptoBulk D[i])->(((List.range D.length).map f).map m).sum<=Rows.uptoBulkAll D
 | [],_,_=> by simp
 | d::D,f,h=> by have h1:=ubulk_sum m D (λ i=> f (i+1)) (λ i hi=> h (i+1) (by simpa using hi));have h0:=h 0 (by simp);rw [length_cons,List.range_succ_eq_map,Rows.uptoBulkAll];simp only [map_cons,List.map_map,List.sum_cons] at h1 ⊢;simp only [getElem_cons_zero] at h0;have e:(m ∘ f ∘ Nat.succ)=(m ∘ λ i=> f (i+1)):=rfl;rw [e];omega
theorem ls_read {α:Type} [Inhabited α] {t e:TypeId} {fuel sz:Nat} {s:Value} {x:DataW H×List MemPlace} (E:World->α->List Value->Prop) (m:α->Nat) (P:α->Prop) (ht:Tryz.prog.underlying t=some (.slice e)) (hsz:Tryz.prog.cellsOf e=sz) (h0:0 < sz)
 (h:DataW.trod enc Tryz.prog w 0 (λ _=> true) true fuel t [s]=some x) (hb:Rows.uptoBulk x.1<=1048576)
 (hel:∀n cs (y:DataW H×List MemPlace),n < fuel->DataW.trod enc Tryz.prog w 0 (λ _=> true) true n e cs=some y->Rows.uptoBulk y.1<=1048576->∃a,E w a cs/\m a<=Rows.uptoBulk y.1/\P a):
 ∃l:List α,LsAt sz E w l s/\(l.map m).sum+1<=Rows.uptoBulk x.1/\l.length+1<=Rows.uptoBulk x.1/\∀a∈l,m a<=1048576/\P a:=by
 rcases slice_read ht hsz h0 h with ⟨a,e⟩ | ⟨b,o,len,cap,k,D,R,e,I,F,G,rfl,C,J,K⟩
 . cases e
   exact ⟨[],.inl ⟨rfl,a,rfl⟩,by simpa using ubulk_pos x.1,by simpa using ubulk_pos x.1,by simp⟩
 . cases e
   rw [C,Rows.uptoBulk] at hb ⊢;have A:∀i,i < D.length->∃(a:α),(∃q:List Value,q.length=sz/\(∀j,j < sz->w.cell? ⟨b,o+i * sz+j,none⟩=q[j]?)/\E w a q)/\(∀h:i < D.length,m a<=Rows.uptoBulk D[i])/\P a:=by intro i hi;obtain ⟨q,V,h1,U,T⟩:=K i hi;have hm:=ubulk_mem (getElem_mem hi);obtain ⟨a,O,M,L⟩:=hel k q _ (lt_succ_self k) T (by show Rows.uptoBulk D[i]<=_;omega);exact ⟨a,⟨q,h1,U,O⟩,λ _=> M,L⟩
   obtain ⟨f,hf⟩:=Deep.choose_lt A;have hl:((List.range D.length).map f).length=D.length:=by simp
   refine ⟨(List.range D.length).map f,.inr ⟨b,o,len,cap,rfl,by rw [hl,J],I,?_,λ i hi=> ?_⟩,?_,?_,λ a ha=> ?_⟩
   . have:=le_trans F G
     have:=ubulk_len D;omega
   . rw [hl] at hi
     simpa using (hf i hi).1
   . have:=ubulk_sum m D f (λ i hi=> (hf i hi).2.1 hi)
     omega
   . rw [hl]
     have:=ubulk_len D;omega
   . obtain ⟨i,hi,rfl⟩:=List.mem_map.1 ha
     have hi:=List.mem_range.1 hi;have:=(hf i hi).2.1 hi;have:=ubulk_mem (getElem_mem hi);exact ⟨by omega,(hf i hi).2.2⟩
theorem read_nm {fuel:Nat} {cs:List Value} {x:DataW H×List MemPlace} (h:DataW.trod enc Tryz.prog w 0 (λ _=> true) true fuel 9 cs=some x):∃k:ByteArray,NmE w k cs/\k.size+1<=Rows.uptoBulk x.1:=by
 obtain ⟨k,rfl,e,-⟩:=DataW.trod_string Tryz.underlying9 h;exact ⟨k,rfl,by rw [e];simp only [Rows.uptoBulk,Array.length_toList];exact lr⟩
theorem read_no {fuel:Nat} {cs:List Value} {x:DataW H×List MemPlace} (h:DataW.trod enc Tryz.prog w 0 (λ _=> true) true fuel 3 cs=some x):∃k:Int,NoE w k cs/\1<=Rows.uptoBulk x.1:=by
 obtain ⟨k,rfl,-,-⟩:=DataW.trod_int Tryz.underlying3 h;exact ⟨k,rfl,ubulk_pos _⟩
theorem read_nms {fuel:Nat} {s:Value} {x:DataW H×List MemPlace} (h:DataW.trod enc Tryz.prog w 0 (λ _=> true) true fuel 127 [s]=some x) (hb:Rows.uptoBulk x.1<=1048576):∃l,NmsAt w l s/\(l.map λ k=> k.size+1).sum+1<=Rows.uptoBulk x.1/\l.length+1<=Rows.uptoBulk x.1/\∀k∈l,k.size+1<=1048576/\True:=
 ls_read NmE (λ k=> k.size+1) (λ _=> True) Tryz.underlying127 cSTR (by omega) h hb λ n cs y _ h _=> (read_nm h).imp λ k hk=> ⟨hk.1,hk.2,trivial⟩
theorem read_nos {fuel:Nat} {s:Value} {x:DataW H×List MemPlace} (h:DataW.trod enc Tryz.prog w 0 (λ _=> true) true fuel 43 [s]=some x) (hb:Rows.uptoBulk x.1<=1048576):∃l,NosAt w l s/\l.length+1<=Rows.uptoBulk x.1:=
 (ls_read NoE (λ _=> 1) (λ _=> True) Tryz.underlying43 cINT (by omega) h hb λ n cs y _ h _=> (read_no h).imp λ k hk=> ⟨hk.1,hk.2,trivial⟩).imp λ l hl=> ⟨hl.1,hl.2.2.1⟩
theorem nmB_m (l:List ByteArray):nmB l<=2 * (l.map λ k=> k.size+1).sum:=by
 unfold nmB
 induction l with
 | nil=> simp
 | cons x l ih=> simp only [map_cons,List.sum_cons];omega
theorem read_v {fuel:Nat} {cs:List Value} {x:DataW H×List MemPlace} (h:DataW.trod enc Tryz.prog w 0 (λ _=> true) true fuel 35 cs=some x) (hb:Rows.uptoBulk x.1<=1048576):∃v:Vl,cs=v.cells/\v.text.size+4<=Rows.uptoBulk x.1:=by
 obtain ⟨C,n,G,rfl,hl,q,o⟩:=DataW.trod_struct Tryz.underlying35 h;rw [cV] at hl
 match cs,hl,o with
 | [c0,c1,c2],_,o=>
  match C,q,o with
  | [x0,x1,x2],_,o=>
   have h0:=o 0 _ rfl;have h1:=o 1 _ rfl;have A:=o 2 _ rfl;simp only [map_cons,map_nil,Rows.uptoBulk,Rows.uptoBulkAll] at hb ⊢;simp only [q2b,cI64,cINT,cSTR] at h0 h1 A;obtain ⟨F,K,-,-⟩:=DataW.trod_int Tryz.underlying3 (by simpa using h0);obtain ⟨D,J,-,-⟩:=DataW.trod_int Tryz.underlying2 (by simpa using h1);obtain ⟨k2,I,L,-⟩:=DataW.trod_string Tryz.underlying9 (by simpa using A);have U:k2.size+1<=Rows.uptoBulk x2.1:=by rw [L];simp only [Rows.uptoBulk,Array.length_toList];exact lr
   have T:=ubulk_pos x0.1;have O:=ubulk_pos x1.1;have M:=ubulk_pos x2.1;cases K;cases J;cases I;exact ⟨⟨F,D,k2⟩,rfl,by show k2.size+4<=_;omega⟩
theorem Ex.bulkL_sum (l:List Ex):(l.map Ex.bulk).sum=Ex.bulkL l:=by
 induction l with
 | nil=> rfl
 | cons x l ih=> simp only [map_cons,List.sum_cons,Ex.bulkL,ih]
theorem exS_bulk:∀(e:Ex),e.bulk<=2000000->ExS e
 | .mk op t n i v args,h=> by rw [Ex.bulk] at h;refine .mk op t n i v args (by omega) (by omega) (by omega) λ e he=> ?_;have:=bulk_mem he;exact exS_bulk e (by omega)
theorem read_ex_of {fuel:Nat} (ih:∀n,n < fuel->∀(s:Value) (x:DataW H×List MemPlace),DataW.trod enc Tryz.prog w 0 (λ _=> true) true n 27 [s]=some x->Rows.uptoBulk x.1<=1048576->∃l,ArgsAt w l s/\Ex.bulkL l+1<=Rows.uptoBulk x.1/\l.length+1<=Rows.uptoBulk x.1) {cs:List Value} {x:DataW H×List MemPlace} (h:DataW.trod enc Tryz.prog w 0 (λ _=> true) true fuel 37 cs=some x) (hb:Rows.uptoBulk x.1<=1048576):∃e:Ex,ExE w e cs/\e.bulk+1<=Rows.uptoBulk x.1:=by
 obtain ⟨I,n,O,rfl,hl,q,o⟩:=DataW.trod_struct Tryz.underlying37 h;rw [cEX] at hl
 match cs,hl,o with
 | [c0,c1,c2,c3,c4,c5,c6,c7],_,o=>
  match I,q,o with
  | [x0,x1,x2,x3,x4,x5],_,o=>
   have h0:=o 0 _ rfl;have h1:=o 1 _ rfl;have G:=o 2 _ rfl;have F:=o 3 _ rfl;have D:=o 4 _ rfl;have C:=o 5 _ rfl;simp only [map_cons,map_nil,Rows.uptoBulk,Rows.uptoBulkAll] at hb ⊢;simp only [q2b,cEXS,cINT,cSTR,cV] at h0 h1 G F D C;obtain ⟨M,e0,-,-⟩:=DataW.trod_int Tryz.underlying3 (by simpa using h0);obtain ⟨A,W,d1,-⟩:=DataW.trod_string Tryz.underlying9 (by simpa using h1);have g1:A.size+1<=Rows.uptoBulk x1.1:=by rw [d1];simp only [Rows.uptoBulk,Array.length_toList];exact lr
   obtain ⟨k2,V,d2,-⟩:=DataW.trod_string Tryz.underlying9 (by simpa using G);have g2:k2.size+1<=Rows.uptoBulk x2.1:=by rw [d2];simp only [Rows.uptoBulk,Array.length_toList];exact lr
   obtain ⟨k3,U,-,-⟩:=DataW.trod_int Tryz.underlying3 (by simpa using F);obtain ⟨J,T,g4⟩:=read_v (cs:=[c4,c5,c6]) (x:=x4) (by simpa using D) (by omega);obtain ⟨L,K,g5,-⟩:=ih n (by omega) c7 _ (by simpa using C) (by omega);have p0:=ubulk_pos x0.1;have p1:=ubulk_pos x1.1;have p2:=ubulk_pos x2.1;have p3:=ubulk_pos x3.1;have p4:=ubulk_pos x4.1;have p5:=ubulk_pos x5.1;cases e0;cases W;cases V;cases U;cases T;exact ⟨.mk M A k2 k3 J L,⟨c7,rfl,K⟩,by show Ex.bulk _+1<=_;rw [Ex.bulk];omega⟩
theorem read_args:∀(o:Nat) (s:Value) (x:DataW H×List MemPlace),DataW.trod enc Tryz.prog w 0 (λ _=> true) true o 27 [s]=some x->Rows.uptoBulk x.1<=1048576->∃l,ArgsAt w l s/\Ex.bulkL l+1<=Rows.uptoBulk x.1/\l.length+1<=Rows.uptoBulk x.1:=by
 intro o
 induction o using Nat.strongRecOn with
 | ind o ih=>
  intro s x h A;obtain ⟨l,h1,q,C,-⟩:=ls_read ExE Ex.bulk (λ _=> True) Tryz.underlying27 cEX (by omega) h A λ n cs y hn h hy=> by obtain ⟨e,he,hm⟩:=read_ex_of (λ n' hn'=> ih n' (by omega)) h hy;exact ⟨e,he,by omega,trivial⟩
  rw [Ex.bulkL_sum] at q;exact ⟨l,args_of_ls h1,q,C⟩
theorem read_ex {fuel:Nat} {cs:List Value} {x:DataW H×List MemPlace} (h:DataW.trod enc Tryz.prog w 0 (λ _=> true) true fuel 37 cs=some x) (hb:Rows.uptoBulk x.1<=1048576):∃e:Ex,ExE w e cs/\e.bulk+1<=Rows.uptoBulk x.1:=read_ex_of (λ n _=> read_args n) h hb
theorem read_col {fuel:Nat} {cs:List Value} {x:DataW H×List MemPlace} (h:DataW.trod enc Tryz.prog w 0 (λ _=> true) true fuel 125 cs=some x) (hb:Rows.uptoBulk x.1<=1048576):∃a:Cl,ClE w a cs/\(λ c:Cl=> c.name.size) a<=Rows.uptoBulk x.1/\(λ _:Cl=> True) a:=by
 obtain ⟨I,n,L,rfl,hl,A,o⟩:=DataW.trod_struct Tryz.underlying125 h;rw [cCOL] at hl
 match cs,hl,o with
 | [c0,c1,c2,c3,c4,c5],_,o=>
  match I,A,o with
  | [x0,x1,x2,x3,x4,x5],_,o=>
   have h0:=o 0 _ rfl;have h1:=o 1 _ rfl;have G:=o 2 _ rfl;have F:=o 3 _ rfl;have D:=o 4 _ rfl;have C:=o 5 _ rfl;simp only [map_cons,map_nil,Rows.uptoBulk,Rows.uptoBulkAll] at hb ⊢;simp only [q2b,cBOOL,cI64,cINT,cSTR] at h0 h1 G F D C;obtain ⟨q,W,d0,-⟩:=DataW.trod_string Tryz.underlying9 (by simpa using h0);have g0:q.size+1<=Rows.uptoBulk x0.1:=by rw [d0];simp only [Rows.uptoBulk,Array.length_toList];exact lr
   obtain ⟨K,V,-,-⟩:=DataW.trod_int Tryz.underlying3 (by simpa using h1);obtain ⟨k2,U,-,-⟩:=DataW.trod_int Tryz.underlying2 (by simpa using G);obtain ⟨k3,T,-,-⟩:=DataW.trod_int Tryz.underlying2 (by simpa using F);obtain ⟨k4,O,-,-⟩:=DataW.trod_int Tryz.underlying3 (by simpa using D);obtain ⟨J,M,-⟩:=DataW.trod_bool Tryz.underlying4 (by simpa using C);have p0:=ubulk_pos x0.1;have p1:=ubulk_pos x1.1;have p2:=ubulk_pos x2.1;have p3:=ubulk_pos x3.1;have p4:=ubulk_pos x4.1;have p5:=ubulk_pos x5.1;cases W;cases V;cases U;cases T;cases O;cases M;exact ⟨⟨q,K,k2,k3,k4,J⟩,rfl,by show q.size<=_;omega,trivial⟩
theorem read_cols {fuel:Nat} {s:Value} {x:DataW H×List MemPlace} (h:DataW.trod enc Tryz.prog w 0 (λ _=> true) true fuel 24 [s]=some x) (hb:Rows.uptoBulk x.1<=1048576):∃l,LsAt 6 ClE w l s/\(l.map (λ c:Cl=> c.name.size)).sum+1<=Rows.uptoBulk x.1/\l.length+1<=Rows.uptoBulk x.1/\∀a∈l,(λ c:Cl=> c.name.size) a<=1048576/\(λ _:Cl=> True) a:=
 ls_read ClE (λ c:Cl=> c.name.size) (λ _:Cl=> True) Tryz.underlying24 cCOL (by omega) h hb λ n cs y _ h hy=> read_col h hy
theorem read_keys {fuel:Nat} {s:Value} {x:DataW H×List MemPlace} (h:DataW.trod enc Tryz.prog w 0 (λ _=> true) true fuel 105 [s]=some x) (hb:Rows.uptoBulk x.1<=1048576):∃l,LsAt 1 (LlE 1 NoE) w l s/\(l.map (λ l:List Int=> l.length)).sum+1<=Rows.uptoBulk x.1/\l.length+1<=Rows.uptoBulk x.1/\∀a∈l,(λ l:List Int=> l.length) a<=1048576/\(λ _:List Int=> True) a:=
 ls_read (LlE 1 NoE) (λ l:List Int=> l.length) (λ _:List Int=> True) Tryz.underlying105 cNOS (by omega) h hb λ n cs y _ h hy=> by obtain ⟨c,rfl⟩:=one_cell Tryz.underlying43 cINT (by omega) h;obtain ⟨l,h1,o⟩:=read_nos (s:=c) h hy;exact ⟨l,⟨c,rfl,h1⟩,by show l.length<=_;omega,trivial⟩
theorem read_nmss {fuel:Nat} {s:Value} {x:DataW H×List MemPlace} (h:DataW.trod enc Tryz.prog w 0 (λ _=> true) true fuel 25 [s]=some x) (hb:Rows.uptoBulk x.1<=1048576):∃l,LsAt 1 (LlE 1 NmE) w l s/\(l.map (λ l:List ByteArray=> l.length)).sum+1<=Rows.uptoBulk x.1/\l.length+1<=Rows.uptoBulk x.1/\∀a∈l,(λ l:List ByteArray=> l.length) a<=1048576/\(λ l:List ByteArray=> nmB l<=10000000/\∀x∈l,x.size<=2000000) a:=
 ls_read (LlE 1 NmE) (λ l:List ByteArray=> l.length) (λ l:List ByteArray=> nmB l<=10000000/\∀x∈l,x.size<=2000000) Tryz.underlying25 cNMS (by omega) h hb λ n cs y _ h hy=> by obtain ⟨c,rfl⟩:=one_cell Tryz.underlying127 cSTR (by omega) h;obtain ⟨l,h1,A,q,o⟩:=read_nms (s:=c) h hy;exact ⟨l,⟨c,rfl,h1⟩,by show l.length<=_;omega,by have:=nmB_m l;show nmB l<=_;omega,λ x hx=> by have:=(o x hx).1;omega⟩
theorem read_exss {fuel:Nat} {s:Value} {x:DataW H×List MemPlace} (h:DataW.trod enc Tryz.prog w 0 (λ _=> true) true fuel 30 [s]=some x) (hb:Rows.uptoBulk x.1<=1048576):∃l,LsAt 1 ExsE w l s/\(l.map (λ l:List Ex=> l.length)).sum+1<=Rows.uptoBulk x.1/\l.length+1<=Rows.uptoBulk x.1/\∀a∈l,(λ l:List Ex=> l.length) a<=1048576/\(λ l:List Ex=> Ex.bulkL l<=1048576) a:=
 ls_read ExsE (λ l:List Ex=> l.length) (λ l:List Ex=> Ex.bulkL l<=1048576) Tryz.underlying30 cEXS (by omega) h hb λ n cs y _ h hy=> by obtain ⟨c,rfl⟩:=one_cell Tryz.underlying27 cEX (by omega) h;obtain ⟨l,h1,q,o⟩:=read_args _ c _ h hy;exact ⟨l,⟨c,rfl,h1⟩,by show l.length<=_;omega,by show Ex.bulkL l<=_;omega⟩
theorem read_fk {fuel:Nat} {cs:List Value} {x:DataW H×List MemPlace} (h:DataW.trod enc Tryz.prog w 0 (λ _=> true) true fuel 113 cs=some x) (hb:Rows.uptoBulk x.1<=1048576):∃a:Fk,FkE w a cs/\(λ f:Fk=> f.cols.length) a<=Rows.uptoBulk x.1/\(λ _:Fk=> True) a:=by
 obtain ⟨D,n,I,rfl,hl,q,o⟩:=DataW.trod_struct Tryz.underlying113 h;rw [cFK] at hl
 match cs,hl,o with
 | [c0,c1,c2],_,o=>
  match D,q,o with
  | [x0,x1,x2],_,o=>
   have h0:=o 0 _ rfl;have h1:=o 1 _ rfl;have C:=o 2 _ rfl;simp only [map_cons,map_nil,Rows.uptoBulk,Rows.uptoBulkAll] at hb ⊢;simp only [q2b,cINT,cNOS] at h0 h1 C;obtain ⟨A,F,q0⟩:=read_nos (s:=c0) (by simpa using h0) (by omega);obtain ⟨G,K,-,-⟩:=DataW.trod_int Tryz.underlying3 (by simpa using h1);obtain ⟨k2,J,-,-⟩:=DataW.trod_int Tryz.underlying3 (by simpa using C);have O:=ubulk_pos x0.1;have M:=ubulk_pos x1.1;have L:=ubulk_pos x2.1;cases K;cases J;exact ⟨⟨A,G,k2⟩,⟨_,rfl,F⟩,by show A.length<=_;omega,trivial⟩
theorem read_fks {fuel:Nat} {s:Value} {x:DataW H×List MemPlace} (h:DataW.trod enc Tryz.prog w 0 (λ _=> true) true fuel 106 [s]=some x) (hb:Rows.uptoBulk x.1<=1048576):∃l,LsAt 3 FkE w l s/\(l.map (λ f:Fk=> f.cols.length)).sum+1<=Rows.uptoBulk x.1/\l.length+1<=Rows.uptoBulk x.1/\∀a∈l,(λ f:Fk=> f.cols.length) a<=1048576/\(λ _:Fk=> True) a:=
 ls_read FkE (λ f:Fk=> f.cols.length) (λ _:Fk=> True) Tryz.underlying106 cFK (by omega) h hb λ n cs y _ h hy=> read_fk h hy
theorem read_ref {fuel:Nat} {cs:List Value} {x:DataW H×List MemPlace} (h:DataW.trod enc Tryz.prog w 0 (λ _=> true) true fuel 129 cs=some x) (hb:Rows.uptoBulk x.1<=1048576):∃a:Rf,RfE w a cs/\(λ _:Rf=> 1) a<=Rows.uptoBulk x.1/\(λ f:Rf=> (nmB f.cols<=10000000/\∀x∈f.cols,x.size<=2000000)/\f.table.size<=2000000/\nmB f.target<=10000000/\∀x∈f.target,x.size<=2000000) a:=by
 obtain ⟨G,n,K,rfl,hl,D,o⟩:=DataW.trod_struct Tryz.underlying129 h;rw [cREF] at hl
 match cs,hl,o with
 | [c0,c1,c2],_,o=>
  match G,D,o with
  | [x0,x1,x2],_,o=>
   have h0:=o 0 _ rfl;have h1:=o 1 _ rfl;have F:=o 2 _ rfl;simp only [map_cons,map_nil,Rows.uptoBulk,Rows.uptoBulkAll] at hb ⊢;simp only [q2b,cNMS,cSTR] at h0 h1 F;obtain ⟨A,J,m0,q0,M⟩:=read_nms (s:=c0) (by simpa using h0) (by omega);obtain ⟨C,O,T,-⟩:=DataW.trod_string Tryz.underlying9 (by simpa using h1);have g1:C.size+1<=Rows.uptoBulk x1.1:=by rw [T];simp only [Rows.uptoBulk,Array.length_toList];exact lr
   obtain ⟨q,I,m2,U,L⟩:=read_nms (s:=c2) (by simpa using F) (by omega);have p0:=ubulk_pos x0.1;have W:=ubulk_pos x1.1;have V:=ubulk_pos x2.1;cases O;have n0:=nmB_m A;have n2:=nmB_m q;exact ⟨⟨A,C,q⟩,⟨_,_,rfl,J,I⟩,by show 1<=_;omega,⟨by show nmB A<=_;omega,λ y hy=> by have:=(M y hy).1;omega⟩,by show C.size<=_;omega,by show nmB q<=_;omega,λ y hy=> by have:=(L y hy).1;omega⟩
theorem read_refs {fuel:Nat} {s:Value} {x:DataW H×List MemPlace} (h:DataW.trod enc Tryz.prog w 0 (λ _=> true) true fuel 26 [s]=some x) (hb:Rows.uptoBulk x.1<=1048576):∃l,LsAt 3 RfE w l s/\(l.map (λ _:Rf=> 1)).sum+1<=Rows.uptoBulk x.1/\l.length+1<=Rows.uptoBulk x.1/\∀a∈l,(λ _:Rf=> 1) a<=1048576/\(λ f:Rf=> (nmB f.cols<=10000000/\∀x∈f.cols,x.size<=2000000)/\f.table.size<=2000000/\nmB f.target<=10000000/\∀x∈f.target,x.size<=2000000) a:=
 ls_read RfE (λ _:Rf=> 1) (λ f:Rf=> (nmB f.cols<=10000000/\∀x∈f.cols,x.size<=2000000)/\f.table.size<=2000000/\nmB f.target<=10000000/\∀x∈f.target,x.size<=2000000) Tryz.underlying26 cREF (by omega) h hb λ n cs y _ h hy=> read_ref h hy
theorem read_tab {fuel:Nat} {cs:List Value} {x:DataW H×List MemPlace} (h:DataW.trod enc Tryz.prog w 0 (λ _=> true) true fuel 108 cs=some x) (hb:Rows.uptoBulk x.1<=1048576):∃a:Tb,TbE w a cs/\(λ t:Tb=> t.cols.length) a<=Rows.uptoBulk x.1/\(λ t:Tb=> TbP t) a:=by
 obtain ⟨L,n,V,rfl,hl,C,o⟩:=DataW.trod_struct Tryz.underlying108 h;rw [cTAB] at hl
 match cs,hl,o with
 | [c0,c1,c2,c3,c4],_,o=>
  match L,C,o with
  | [x0,x1,x2,x3,x4],_,o=>
   have h0:=o 0 _ rfl;have h1:=o 1 _ rfl;have K:=o 2 _ rfl;have J:=o 3 _ rfl;have I:=o 4 _ rfl;simp only [map_cons,map_nil,Rows.uptoBulk,Rows.uptoBulkAll] at hb ⊢;simp only [q2b,cCOLS,cEXS,cFKS,cKEYS,cSTR] at h0 h1 K J I;obtain ⟨A,e0,d0,-⟩:=DataW.trod_string Tryz.underlying9 (by simpa using h0);have g0:A.size+1<=Rows.uptoBulk x0.1:=by rw [d0];simp only [Rows.uptoBulk,Array.length_toList];exact lr
   obtain ⟨q,U,m1,q1,g1⟩:=read_cols (s:=c1) (by simpa using h1) (by omega);obtain ⟨G,T,m2,q2,g2⟩:=read_keys (s:=c2) (by simpa using K) (by omega);obtain ⟨F,O,m3,q3,W⟩:=read_fks (s:=c3) (by simpa using J) (by omega);obtain ⟨D,M,g4,q4⟩:=read_args _ c4 _ (by simpa using I) (by omega);have p0:=ubulk_pos x0.1;have p1:=ubulk_pos x1.1;have p2:=ubulk_pos x2.1;have p3:=ubulk_pos x3.1;have p4:=ubulk_pos x4.1;cases e0;exact ⟨⟨A,q,G,F,D⟩,⟨_,_,_,_,rfl,U,T,O,M⟩,by show q.length<=_;omega,⟨by show A.size<=_;omega,by show q.length<=_;omega,by show G.length<=_;omega,by show F.length<=_;omega,λ k hk=> by have:k.length<=_:=(g2 k hk).1;omega,λ f hf=> by have:f.cols.length<=_:=(W f hf).1;omega,λ c hc=> by have:c.name.size<=_:=(g1 c hc).1;omega,λ e he=> exS_bulk e (by have:e.bulk<=Ex.bulkL D:=bulk_mem he;omega)⟩⟩
theorem read_sch {fuel:Nat} {s:Value} {x:DataW H×List MemPlace} (h:DataW.trod enc Tryz.prog w 0 (λ _=> true) true fuel 23 [s]=some x) (hb:Rows.uptoBulk x.1<=1048576):∃l,LsAt 5 TbE w l s/\(l.map (λ t:Tb=> t.cols.length)).sum+1<=Rows.uptoBulk x.1/\l.length+1<=Rows.uptoBulk x.1/\∀a∈l,(λ t:Tb=> t.cols.length) a<=1048576/\(λ t:Tb=> TbP t) a:=
 ls_read TbE (λ t:Tb=> t.cols.length) (λ t:Tb=> TbP t) Tryz.underlying23 cTAB (by omega) h hb λ n cs y _ h hy=> read_tab h hy
theorem read_item {fuel:Nat} {cs:List Value} {x:DataW H×List MemPlace} (h:DataW.trod enc Tryz.prog w 0 (λ _=> true) true fuel 66 cs=some x) (hb:Rows.uptoBulk x.1<=1048576):∃a:Itm,ItE w a cs/\(λ a:Itm=> a.e.bulk) a<=Rows.uptoBulk x.1/\(λ _:Itm=> True) a:=by
 obtain ⟨D,n,I,rfl,hl,q,o⟩:=DataW.trod_struct Tryz.underlying66 h;rw [cITEM] at hl
 match cs,hl,o with
 | [c0,c1,c2,c3,c4,c5,c6,c7,c8],_,o=>
  match D,q,o with
  | [x0,x1],_,o=>
   have h0:=o 0 _ rfl;have h1:=o 1 _ rfl;simp only [map_cons,map_nil,Rows.uptoBulk,Rows.uptoBulkAll] at hb ⊢;simp only [q2b,cEX,cINT] at h0 h1;obtain ⟨G,J,-,-⟩:=DataW.trod_int Tryz.underlying3 (by simpa using h0);obtain ⟨A,⟨F,C,a1⟩,M⟩:=read_ex (cs:=[c1,c2,c3,c4,c5,c6,c7,c8]) (x:=x1) (by simpa using h1) (by omega);have L:=ubulk_pos x0.1;have K:=ubulk_pos x1.1;cases J;exact ⟨⟨G,A⟩,⟨F,by rw [<-C],a1⟩,by show A.bulk<=_;omega,trivial⟩
theorem read_items {fuel:Nat} {s:Value} {x:DataW H×List MemPlace} (h:DataW.trod enc Tryz.prog w 0 (λ _=> true) true fuel 32 [s]=some x) (hb:Rows.uptoBulk x.1<=1048576):∃l,LsAt 9 ItE w l s/\(l.map (λ a:Itm=> a.e.bulk)).sum+1<=Rows.uptoBulk x.1/\l.length+1<=Rows.uptoBulk x.1/\∀a∈l,(λ a:Itm=> a.e.bulk) a<=1048576/\(λ _:Itm=> True) a:=
 ls_read ItE (λ a:Itm=> a.e.bulk) (λ _:Itm=> True) Tryz.underlying32 cITEM (by omega) h hb λ n cs y _ h hy=> read_item h hy
theorem read_asg {fuel:Nat} {cs:List Value} {x:DataW H×List MemPlace} (h:DataW.trod enc Tryz.prog w 0 (λ _=> true) true fuel 121 cs=some x) (hb:Rows.uptoBulk x.1<=1048576):∃a:Asg,AsE w a cs/\(λ a:Asg=> a.e.bulk) a<=Rows.uptoBulk x.1/\(λ a:Asg=> a.col.size<=2000000) a:=by
 obtain ⟨G,n,K,rfl,hl,A,o⟩:=DataW.trod_struct Tryz.underlying121 h;rw [cASG] at hl
 match cs,hl,o with
 | [c0,c1,c2,c3,c4,c5,c6,c7,c8,c9],_,o=>
  match G,A,o with
  | [x0,x1,x2],_,o=>
   have h0:=o 0 _ rfl;have h1:=o 1 _ rfl;have C:=o 2 _ rfl;simp only [map_cons,map_nil,Rows.uptoBulk,Rows.uptoBulkAll] at hb ⊢;simp only [q2b,cEX,cINT,cSTR] at h0 h1 C;obtain ⟨q,M,O,-⟩:=DataW.trod_string Tryz.underlying9 (by simpa using h0);have g0:q.size+1<=Rows.uptoBulk x0.1:=by rw [O];simp only [Rows.uptoBulk,Array.length_toList];exact lr
   obtain ⟨J,L,-,-⟩:=DataW.trod_int Tryz.underlying3 (by simpa using h1);obtain ⟨D,⟨I,F,a2⟩,W⟩:=read_ex (cs:=[c2,c3,c4,c5,c6,c7,c8,c9]) (x:=x2) (by simpa using C) (by omega);have V:=ubulk_pos x0.1;have U:=ubulk_pos x1.1;have T:=ubulk_pos x2.1;cases M;cases L;exact ⟨⟨q,J,D⟩,⟨I,by rw [<-F];rfl,a2⟩,by show D.bulk<=_;omega,by show q.size<=_;omega⟩
theorem read_asgs {fuel:Nat} {s:Value} {x:DataW H×List MemPlace} (h:DataW.trod enc Tryz.prog w 0 (λ _=> true) true fuel 31 [s]=some x) (hb:Rows.uptoBulk x.1<=1048576):∃l,LsAt 10 AsE w l s/\(l.map (λ a:Asg=> a.e.bulk)).sum+1<=Rows.uptoBulk x.1/\l.length+1<=Rows.uptoBulk x.1/\∀a∈l,(λ a:Asg=> a.e.bulk) a<=1048576/\(λ a:Asg=> a.col.size<=2000000) a:=
 ls_read AsE (λ a:Asg=> a.e.bulk) (λ a:Asg=> a.col.size<=2000000) Tryz.underlying31 cASG (by omega) h hb λ n cs y _ h hy=> read_asg h hy
theorem read_src {fuel:Nat} {cs:List Value} {x:DataW H×List MemPlace} (h:DataW.trod enc Tryz.prog w 0 (λ _=> true) true fuel 123 cs=some x) (hb:Rows.uptoBulk x.1<=1048576):∃a:Src,SrE w a cs/\(λ _:Src=> 1) a<=Rows.uptoBulk x.1/\(λ a:Src=> a.table.size<=2000000/\a.alias.size<=2000000) a:=by
 obtain ⟨D,n,F,rfl,hl,C,o⟩:=DataW.trod_struct Tryz.underlying123 h;rw [cSRC] at hl
 match cs,hl,o with
 | [c0,c1],_,o=>
  match D,C,o with
  | [x0,x1],_,o=>
   have h0:=o 0 _ rfl;have h1:=o 1 _ rfl;simp only [map_cons,map_nil,Rows.uptoBulk,Rows.uptoBulkAll] at hb ⊢;simp only [q2b,cSTR] at h0 h1;obtain ⟨A,I,K,-⟩:=DataW.trod_string Tryz.underlying9 (by simpa using h0);have T:A.size+1<=Rows.uptoBulk x0.1:=by rw [K];simp only [Rows.uptoBulk,Array.length_toList];exact lr
   obtain ⟨q,G,J,-⟩:=DataW.trod_string Tryz.underlying9 (by simpa using h1);have O:q.size+1<=Rows.uptoBulk x1.1:=by rw [J];simp only [Rows.uptoBulk,Array.length_toList];exact lr
   have M:=ubulk_pos x0.1;have L:=ubulk_pos x1.1;cases I;cases G;exact ⟨⟨A,q⟩,rfl,by show 1<=_;omega,by show A.size<=_;omega,by show q.size<=_;omega⟩
theorem read_srcs {fuel:Nat} {s:Value} {x:DataW H×List MemPlace} (h:DataW.trod enc Tryz.prog w 0 (λ _=> true) true fuel 33 [s]=some x) (hb:Rows.uptoBulk x.1<=1048576):∃l,LsAt 2 SrE w l s/\(l.map (λ _:Src=> 1)).sum+1<=Rows.uptoBulk x.1/\l.length+1<=Rows.uptoBulk x.1/\∀a∈l,(λ _:Src=> 1) a<=1048576/\(λ a:Src=> a.table.size<=2000000/\a.alias.size<=2000000) a:=
 ls_read SrE (λ _:Src=> 1) (λ a:Src=> a.table.size<=2000000/\a.alias.size<=2000000) Tryz.underlying33 cSRC (by omega) h hb λ n cs y _ h hy=> read_src h hy
theorem read_ord {fuel:Nat} {cs:List Value} {x:DataW H×List MemPlace} (h:DataW.trod enc Tryz.prog w 0 (λ _=> true) true fuel 84 cs=some x) (hb:Rows.uptoBulk x.1<=1048576):∃a:Ord,OrE w a cs/\(λ _:Ord=> 1) a<=Rows.uptoBulk x.1/\(λ _:Ord=> True) a:=by
 obtain ⟨A,n,F,rfl,hl,q,o⟩:=DataW.trod_struct Tryz.underlying84 h;rw [cORD] at hl
 match cs,hl,o with
 | [c0,c1],_,o=>
  match A,q,o with
  | [x0,x1],_,o=>
   have h0:=o 0 _ rfl;have h1:=o 1 _ rfl;simp only [map_cons,map_nil,Rows.uptoBulk,Rows.uptoBulkAll] at hb ⊢;simp only [q2b,cBOOL,cINT] at h0 h1;obtain ⟨D,I,-,-⟩:=DataW.trod_int Tryz.underlying3 (by simpa using h0);obtain ⟨C,G,-⟩:=DataW.trod_bool Tryz.underlying4 (by simpa using h1);have K:=ubulk_pos x0.1;have J:=ubulk_pos x1.1;cases I;cases G;exact ⟨⟨D,C⟩,rfl,by show 1<=_;omega,trivial⟩
theorem read_ords {fuel:Nat} {s:Value} {x:DataW H×List MemPlace} (h:DataW.trod enc Tryz.prog w 0 (λ _=> true) true fuel 38 [s]=some x) (hb:Rows.uptoBulk x.1<=1048576):∃l,LsAt 2 OrE w l s/\(l.map (λ _:Ord=> 1)).sum+1<=Rows.uptoBulk x.1/\l.length+1<=Rows.uptoBulk x.1/\∀a∈l,(λ _:Ord=> 1) a<=1048576/\(λ _:Ord=> True) a:=
 ls_read OrE (λ _:Ord=> 1) (λ _:Ord=> True) Tryz.underlying38 cORD (by omega) h hb λ n cs y _ h hy=> read_ord h hy
theorem read_def {fuel:Nat} {cs:List Value} {x:DataW H×List MemPlace} (h:DataW.trod enc Tryz.prog w 0 (λ _=> true) true fuel 29 cs=some x) (hb:Rows.uptoBulk x.1<=1048576):∃(d:Df) (v1 v2 v3 v4:Value),cs=[v1,v2,v3,v4]/\DfAt w d v1 v2 v3 v4/\DfZ d/\DfS d/\d.checks.length+1<=Rows.uptoBulk x.1:=by
 obtain ⟨M,n,W,rfl,hl,C,o⟩:=DataW.trod_struct Tryz.underlying29 h;rw [cDEF] at hl
 match cs,hl,o with
 | [c0,c1,c2,c3],_,o=>
  match M,C,o with
  | [x0,x1,x2,x3],_,o=>
   have h0:=o 0 _ rfl;have h1:=o 1 _ rfl;have J:=o 2 _ rfl;have I:=o 3 _ rfl;simp only [map_cons,map_nil,Rows.uptoBulk,Rows.uptoBulkAll] at hb ⊢;simp only [q2b,cCOLS,cEXS,cNMSS,cREFS] at h0 h1 J I;obtain ⟨G,V,m0,q0,L⟩:=read_cols (s:=c0) (by simpa using h0) (by omega);obtain ⟨F,U,m1,q1,K⟩:=read_nmss (s:=c1) (by simpa using h1) (by omega);obtain ⟨D,T,m2,q2,q⟩:=read_refs (s:=c2) (by simpa using J) (by omega);obtain ⟨A,O,g3,q3⟩:=read_args _ c3 _ (by simpa using I) (by omega);have p0:=ubulk_pos x0.1;have p1:=ubulk_pos x1.1;have p2:=ubulk_pos x2.1;have p3:=ubulk_pos x3.1;have b3:∀e∈A,e.bulk<=2000000:=λ e he=> by have:=bulk_mem he;omega
   exact ⟨⟨G,F,D,A⟩,c0,c1,c2,c3,rfl,⟨V,U,T,O⟩,⟨⟨by show G.length<=_;omega,by show F.length<=_;omega,by show D.length<=_;omega,by show A.length<=_;omega⟩,λ c hc=> by have:c.name.size<=_:=(L c hc).1;omega,λ y hy=> (K y hy).2.1,λ f hf=> ⟨(q f hf).2.1.1,(q f hf).2.2.1,(q f hf).2.2.2.1⟩,b3⟩,⟨λ c hc=> by have:c.name.size<=_:=(L c hc).1;omega,λ y hy=> (K y hy).2.2,λ f hf=> ⟨(q f hf).2.1.2,(q f hf).2.2.1,(q f hf).2.2.2.2⟩,λ e he=> exS_bulk e (b3 e he)⟩,by show A.length+1<=_;omega⟩
theorem read_stmt {fuel:Nat} {cs:List Value} {x:DataW H×List MemPlace} (h:DataW.trod enc Tryz.prog w 0 (λ _=> true) true fuel 40 cs=some x) (hb:Rows.uptoBulk x.1<=1048576):∃(s:Stt) (v:StV),cs=s.cells v/\SttAt w s v/\SttS s/\SttZ s/\(allE s).length<=1000000000/\s.cond.bulk<=1100000/\(s.items.length<=1100000/\∀x∈s.items,x.e.bulk<=1100000)/\s.group.length<=1100000/\∀x∈s.group,x.bulk<=1100000:=by
 obtain ⟨xs,n,ab,rfl,hl,M,o⟩:=DataW.trod_struct Tryz.underlying40 h;rw [cSTMT] at hl
 match cs,hl,o with
 | [c0,c1,c2,c3,c4,c5,c6,c7,c8,c9,c10,c11,c12,c13,c14,c15,c16,c17,c18,c19,c20,c21],_,o=>
  match xs,M,o with
  | [x0,x1,x2,x3,x4,x5,x6,x7,x8,x9,x10,x11],_,o=>
   have h0:=o 0 _ rfl;have h1:=o 1 _ rfl;have h2:=o 2 _ rfl;have h3:=o 3 _ rfl;have h4:=o 4 _ rfl;have h5:=o 5 _ rfl;have h6:=o 6 _ rfl;have h7:=o 7 _ rfl;have h8:=o 8 _ rfl;have h9:=o 9 _ rfl;have F:=o 10 _ rfl;have D:=o 11 _ rfl;simp only [map_cons,map_nil,Rows.uptoBulk,Rows.uptoBulkAll] at hb ⊢;simp only [q2b,cASGS,cDEF,cEX,cEXS,cEXSS,cINT,cITEMS,cORDS,cSRCS,cSTR] at h0 h1 h2 h3 h4 h5 h6 h7 h8 h9 F D;obtain ⟨k0,e0,-,-⟩:=DataW.trod_int Tryz.underlying3 (by simpa using h0);obtain ⟨L,e1,d1,-⟩:=DataW.trod_string Tryz.underlying9 (by simpa using h1);have g1:L.size+1<=Rows.uptoBulk x1.1:=by rw [d1];simp only [Rows.uptoBulk,Array.length_toList];exact lr
   obtain ⟨d2,v1,v2,v3,v4,ed,W,z2,y2,q2⟩:=read_def (cs:=[c2,c3,c4,c5]) (x:=x2) (by simpa using h2) (by omega);obtain ⟨C,s3,m3,q3,O⟩:=read_exss (s:=c6) (by simpa using h3) (by omega);obtain ⟨J,s4,m4,q4,g4⟩:=read_asgs (s:=c7) (by simpa using h4) (by omega);obtain ⟨I,s5,m5,q5,g5⟩:=read_items (s:=c8) (by simpa using h5) (by omega);obtain ⟨l6,s6,m6,q6,g6⟩:=read_srcs (s:=c9) (by simpa using h6) (by omega);obtain ⟨G,⟨s7,z7,a7⟩,g7⟩:=read_ex (cs:=[c10,c11,c12,c13,c14,c15,c16,c17]) (x:=x7) (by simpa using h7) (by omega);obtain ⟨A,s8,g8,q8⟩:=read_args _ c18 _ (by simpa using h8) (by omega);obtain ⟨l9,s9,m9,q9,g9⟩:=read_ords (s:=c19) (by simpa using h9) (by omega);obtain ⟨K,U,-,-⟩:=DataW.trod_int Tryz.underlying3 (by simpa using F);obtain ⟨q,T,V,-⟩:=DataW.trod_string Tryz.underlying9 (by simpa using D);have ac:q.size+1<=Rows.uptoBulk x11.1:=by rw [V];simp only [Rows.uptoBulk,Array.length_toList];exact lr
   have p0:=ubulk_pos x0.1;have p1:=ubulk_pos x1.1;have p2:=ubulk_pos x2.1;have p3:=ubulk_pos x3.1;have p4:=ubulk_pos x4.1;have p5:=ubulk_pos x5.1;have p6:=ubulk_pos x6.1;have p7:=ubulk_pos x7.1;have p8:=ubulk_pos x8.1;have p9:=ubulk_pos x9.1;have p10:=ubulk_pos x10.1;have aa:=ubulk_pos x11.1;cases e0;cases e1;cases U;cases T;obtain ⟨rfl,rfl,rfl,rfl⟩:c2=v1/\c3=v2/\c4=v3/\c5=v4:=by simpa using ed
   have b3:∀l∈C,∀e∈l,e.bulk<=1048576:=λ l hl e he=> by have:Ex.bulkL l<=1048576:=(O l hl).2;have:=bulk_mem he;omega
   have b8:∀e∈A,e.bulk<=1048576:=λ e he=> by have:=bulk_mem he;omega
   have b5:∀e∈I,e.e.bulk<=1048576:=λ e he=> (g5 e he).1;have b4:∀e∈J,e.e.bulk<=1048576:=λ e he=> (g4 e he).1;have f3:C.flatten.length<=1048576:=by rw [List.length_flatten];have:(C.map List.length).sum+1<=_:=m3;omega
   refine ⟨⟨k0,L,d2,C,J,I,l6,G,A,l9,K,q⟩,⟨c2,c3,c4,c5,c6,c7,c8,c9,s7,c18,c19⟩,?_,⟨W,s3,s4,s5,s6,a7,s8,s9⟩,⟨by show L.size<=_;omega,by show q.size<=_;omega,y2,λ l hl e he=> exS_bulk e (by have:=b3 l hl e he;omega),λ a ha=> ⟨(g4 a ha).2,exS_bulk _ (by have:=b4 a ha;omega)⟩,λ a ha=> exS_bulk _ (by have:=b5 a ha;omega),λ a ha=> (g6 a ha).2,exS_bulk G (by omega),λ e he=> exS_bulk e (by have:=b8 e he;omega)⟩,⟨z2,⟨by show C.length<=_;omega,λ l hl=> ⟨by have:Ex.bulkL l<=1048576:=(O l hl).2;omega,by have:l.length<=_:=(O l hl).1;omega⟩⟩,⟨by show J.length<=_;omega,λ a ha=> by have:=b4 a ha;omega⟩,⟨by show I.length<=_;omega,λ a ha=> by have:=b5 a ha;omega⟩,⟨by show l6.length<=_;omega,λ a ha=> (g6 a ha).2⟩,by show G.bulk<=_;omega,by show Ex.bulkL A<=_;omega,by show A.length<=_;omega,by show l9.length<=_;omega⟩,?_,by show G.bulk<=_;omega,⟨by show I.length<=_;omega,λ a ha=> by have:=b5 a ha;omega⟩,by show A.length<=_;omega,λ a ha=> by have:=b8 a ha;omega⟩
   . have:[c10,c11,c12,c13,c14,c15,c16,c17]=G.cells s7:=z7
     unfold Stt.cells;rw [<-this];rfl
   . unfold allE
     simp only [length_append,length_map,List.length_singleton];omega
theorem rowVs_map {n:Nat} (f:Nat->Rw×Value) (h:∀i,i < n->ValsAt w (f i).1 (f i).2):RowVs w ((List.range n).map λ i=> (f i).1) ((List.range n).map λ i=> (f i).2):=by
 induction n with
 | zero=> exact .nil
 | succ n ih=>
  rw [List.range_succ,map_append,map_append];exact (ih λ i hi=> h i (by omega)).append (.one (h n (by omega)))
theorem read_row {fuel:Nat} {s:Value} {x:DataW H×List MemPlace} (h:DataW.trod enc Tryz.prog w 0 (λ _=> true) true fuel 60 [s]=some x) (hb:Rows.uptoBulk x.1<=1048576):∃R:Rw,ValsAt w R s/\R.length+1<=Rows.uptoBulk x.1:=by
 obtain ⟨l,h1,K,J,I⟩:=ls_read (λ _ (v:Vl) cs=> cs=v.cells) (λ _=> 1) (λ v=> v.text.size<=maxLen) Tryz.underlying60 cV (by omega) h hb λ n cs y _ h hy=> by obtain ⟨v,rfl,A⟩:=read_v h hy;exact ⟨v,rfl,ubulk_pos _,by unfold maxLen;omega⟩
 refine ⟨l,?_,J⟩;rcases h1 with ⟨rfl,a,rfl⟩ | ⟨b,o,n,c,rfl,rfl,q,C,F⟩
 . exact .mt
 . refine .lie l b o l.length c rfl q (le_trans C (by unfold maxLen;omega)) ?_ λ v A=> (I v A).2
   intro i hi j D;obtain ⟨cs,-,G,rfl⟩:=F i hi;exact G j D
theorem read_rows {fuel:Nat} {s:Value} {x:DataW H×List MemPlace} (h:DataW.trod enc Tryz.prog w 0 (λ _=> true) true fuel 41 [s]=some x) (hb:Rows.uptoBulk x.1<=1048576):∃L:List Rw,RowsAt w L s/\∀r∈L,r.length < 1099511627776:=by
 rcases slice_read Tryz.underlying41 cRW (by omega) h with ⟨a,e⟩ | ⟨b,o,len,cap,k,D,R,e,I,U,V,rfl,A,J,C⟩
 . cases e
   exact ⟨[],.mt,by simp⟩
 . cases e
   rw [A,Rows.uptoBulk] at hb;have q:∀i,i < D.length->∃y:Rw×Value,w.cell? ⟨b,o+i,none⟩=some y.2/\ValsAt w y.1 y.2/\y.1.length < 1099511627776:=by
    intro i hi;obtain ⟨K,pl,F,G,ht⟩:=C i hi;have hm:=ubulk_mem (getElem_mem hi)
    match K,F,G,ht with
    | [y],_,G,ht=>
     obtain ⟨R,W,M⟩:=read_row ht (by show Rows.uptoBulk D[i]<=_;omega);have M:R.length+1<=Rows.uptoBulk D[i]:=M;exact ⟨(R,y),by simpa using G 0 (by omega),W,by show R.length < _;omega⟩
   obtain ⟨f,hf⟩:=Deep.choose_lt q;refine ⟨(List.range D.length).map λ i=> (f i).1,.lie _ ((List.range D.length).map λ i=> (f i).2) b o len cap (by simp [J]) I (by omega) ?_ (rowVs_map f λ i hi=> (hf i hi).2.1),?_⟩
   . intro i x O
     obtain ⟨h1,h2⟩:=List.getElem?_eq_some_iff.1 O;simp only [length_map,List.length_range] at h1;rw [(hf i h1).1,<-h2];simp
   . intro r T
     obtain ⟨i,hi,rfl⟩:=List.mem_map.1 T;exact (hf i (by simpa using hi)).2.2
theorem open_sch {W:World} {base:Nat} {v:Value} {d:DataW H} {p:List MemPlace} (hok:Value.okWide Tryz.prog W .any base 23 v) (h:DataW.Trod enc Tryz.prog W 0 (λ _=> true) true 23 v d p) (hb:Rows.uptoBulk d<=1048576):
 ∃S q o,v=qs q S.length o/\SchAt W S (qs q S.length o)/\SchZ S/\∀t∈S,t.cols.length<=1100000:=by
 obtain ⟨D,h⟩:=h;rw [cell_of_one_slice W Tryz.underlying23 hok] at h;obtain ⟨S,h1,-,C,A⟩:=read_sch h hb;obtain ⟨q,o,rfl,-⟩:=h1.shape;have C:S.length+1<=Rows.uptoBulk d:=C;exact ⟨S,q,o,rfl,h1,⟨by omega,λ t ht=> (A t ht).2⟩,λ t ht=> by have:t.cols.length<=_:=(A t ht).1;omega⟩
theorem open_stmt {W:World} {base:Nat} {v:Value} {d:DataW H} {p:List MemPlace} (hok:Value.okWide Tryz.prog W .any base 40 v) (h:DataW.Trod enc Tryz.prog W 0 (λ _=> true) true 40 v d p) (hb:Rows.uptoBulk d<=1048576):
 ∃s u,v=.agg (s.cells u).toArray/\SttAt W s u/\∀S,SchZ S->(∀t∈S,t.cols.length<=1100000)->InZ S s:=by
 obtain ⟨cs,rfl,-⟩:=okWide_struct Tryz.underlying40 hok;obtain ⟨o,h⟩:=h;obtain ⟨I⟩:=cs;obtain ⟨s,u,e,h1,G,F,D,C,A,q⟩:=read_stmt h hb;have e:I=s.cells u:=e;subst e;exact ⟨s,u,rfl,h1,λ S hS hc=> ⟨hS,hc,G,F,D,C,A,q⟩⟩
theorem open_rows {W:World} {base:Nat} {v:Value} {d:DataW H} {p:List MemPlace} (hok:Value.okWide Tryz.prog W .any base 41 v) (h:DataW.Trod enc Tryz.prog W 0 (λ _=> true) true 41 v d p) (hb:Rows.uptoBulk d<=1048576):
 ∃R C A q,v=qs C A q/\RowsAt W R (qs C A q)/\A<=q/\q<=9223372036854775807/\∀r∈R,r.length < 1099511627776:=by
 obtain ⟨J,h⟩:=h;rw [cell_of_one_slice W Tryz.underlying41 hok] at h;have F:∃C A q,v=qs C A q/\A<=q/\q<=9223372036854775807:=by
  rcases slice_read Tryz.underlying41 cRW (by omega) h with ⟨a,e⟩ | ⟨b,o,len,cap,k,D,R,e,K,G,I,-⟩
  . cases e;exact ⟨_,_,_,rfl,by omega,by omega⟩
  . cases e;unfold maxLen at I;exact ⟨_,_,_,rfl,G,by omega⟩
 obtain ⟨R,h1,O⟩:=read_rows h hb;obtain ⟨C,A,q,rfl,M,L⟩:=F;exact ⟨R,C,A,q,rfl,h1,M,L,O⟩
end
end
section
open Go.Sort
theorem vars_of {w:World} {cols:List Cl} {s:Value} (h:LsAt 5 VaE w cols s):VarsAt w (cols.map (·.type)) s:=by
 rcases h with ⟨rfl,b,rfl⟩ | ⟨b,o,n,c,rfl,rfl,G,I,F⟩
 . exact .mt
 . refine .lie _ b o _ c (by simp) G (by first | omega | (unfold maxLen;omega)) λ i hi=> ?_
   have A:i < cols.length:=by simpa using hi
   obtain ⟨cs,H,D,C⟩:=F i A;have q:=D 0 (by omega);rw [C] at q;simpa using q
theorem rows_take {L:List Int} {R:List Rw} {k:Nat} (h:∀r∈R.take k,RowOf L r) (hk:k < R.length) (hr:RowOf L R[k]):Hid (∀r∈R.take (k+1),RowOf L r):=λ r h1=> by
 rw [take_succ_eq_append_getElem hk] at h1;rcases mem_append.1 h1 with h1 | h1
 . exact h r h1
 . rw [mem_singleton.1 h1];exact hr
def BndQ (s:Stt) (v:StV) (R:List Rw) (w:World) (e:Ending) (w':World):Prop:=∃(bd:Bd) (q:Bool),e=.returned (.tuple #[.agg bd.arr,.bool q])/\(q=true->R.length<=30/\SelF s/\(∃cols its gs,BQ (cols.map (·.type)) s its gs/\Ind (λ j=> j < w.heap.size) w' (BdAt cols its gs bd)/\cols.length<=3300000/\∀r∈R,RowOf (cols.map (·.type)) r)/\v.od=qs bd.order.a bd.order.n bd.order.c/\bd.limit=s.limit)/\Below w.heap.size w w'
theorem bound_calls (s:Stt) (v:StV) (w:World) (h:SttAt w s v) (S:List Tb) (sa:Option Addr) (sc:Nat) (hsc:SchAt w S (qs sa S.length sc)) (hz:InZ S s) (R:List Rw) (sr:Value) (hr:RowsAt w R sr):Calls Tryz.prog 9 #[qs sa S.length sc,.agg (s.cells v).toArray,sr] w (BndQ s v R w):=by
 obtain ⟨a1,n1,W,a2,n2,k2,a3,n3,k3,a4,n4,k4,a5,n5,V,a6,n6,U,a7,n7,T,a8,n8,O,a9,n9,M,a10,H,D,a11,G,C,rfl,h1,m1,h2,m2,h3,m3,h4,m4,h5,m5,h6,m6,h7,m7,h8,m8,h9,m9,aQ,bB,aP,bA⟩:=h.shapes;have bg:=hid h1;have bf:=hid h2;have be:=hid h3;have bc:=hid h4;have bb:=hid h5;have ba:=hid h6;have aZ:=hid h7;have aY:=hid h8;have aX:=hid h9;have am:=hid aQ;have al:=hid aP;clear h1 h2 h3 h4 h5 h6 h7 h8 h9 aQ aP;have HD:Hid (SttAt w s ⟨qs a1 s.create.cols.length W,qs a2 s.create.keys.length k2,qs a3 s.create.fks.length k3,qs a4 s.create.checks.length k4,qs a5 s.values.length V,qs a6 s.sets.length U,qs a7 s.items.length T,qs a8 s.src.length O,qs a9 s.cond.args.length M,qs a10 s.group.length D,qs a11 s.order.length C⟩):=by show SttAt _ _ _;rw [bg.out,bf.out,be.out,bc.out,bb.out,ba.out,aZ.out,aY.out,aX.out,am.out,al.out];exact h
 clear h;simp only [Stt.cells,Ex.cells,cons_append,nil_append];obtain ⟨L,hl⟩:=gx s.limit
 have HL:=hid hl;obtain ⟨kd,aA⟩:=gx s.kind
 obtain ⟨tb,ay⟩:=gx s.table
 obtain ⟨wo,ar⟩:=gx s.cond.op
 obtain ⟨wt,aq⟩:=gx s.cond.table
 obtain ⟨wn,au⟩:=gx s.cond.name
 obtain ⟨wi,aw⟩:=gx s.cond.index
 obtain ⟨wk,av⟩:=gx s.cond.v.kind
 obtain ⟨wv,ap⟩:=gx s.cond.v.int
 obtain ⟨wx,ao⟩:=gx s.cond.v.text
 obtain ⟨nm,az⟩:=gx s.name
 rw [aA,ay,ar,aq,au,aw,av,ap,ao,az,hl];have HK:=hid aA;have aU:=hid ay;have aW:=hid az;have HC:=hid (And.intro ar (And.intro aq (And.intro au (And.intro aw (And.intro av (And.intro ap ao))))));clear aA ay ar aq au aw av ap ao az hl;have V0:=hid ((VarIs.new w (q1a kd tb a1 n1 W a2 n2 k2 a3 n3 k3 a4 n4 k4 a5 n5 V a6 n6 U a7 n7 T a8 n8 O wo wt wn wi wk wv wx a9 n9 M a10 H D a11 G C L nm) 40).alloc (.cells q0a 46));have V1:=hid (VarIs.new1 w (.cells (q1a kd tb a1 n1 W a2 n2 k2 a3 n3 k3 a4 n4 k4 a5 n5 V a6 n6 U a7 n7 T a8 n8 O wo wt wn wi wk wv wx a9 n9 M a10 H D a11 G C L nm) 40) q0a 46);have ag:Hid (Below w.heap.size w (((w.alloc (.cells (q1a kd tb a1 n1 W a2 n2 k2 a3 n3 k3 a4 n4 k4 a5 n5 V a6 n6 U a7 n7 T a8 n8 O wo wt wn wi wk wv wx a9 n9 M a10 H D a11 G C L nm) 40))).alloc (.cells q0a 46))):=(zi.alloc lr _).alloc (by simp) _;have bp:Hid (Below ((((w.alloc (.cells (q1a kd tb a1 n1 W a2 n2 k2 a3 n3 k3 a4 n4 k4 a5 n5 V a6 n6 U a7 n7 T a8 n8 O wo wt wn wi wk wv wx a9 n9 M a10 H D a11 G C L nm) 40))).alloc (.cells q0a 46))).heap.size (((w.alloc (.cells (q1a kd tb a1 n1 W a2 n2 k2 a3 n3 k3 a4 n4 k4 a5 n5 V a6 n6 U a7 n7 T a8 n8 O wo wt wn wi wk wv wx a9 n9 M a10 H D a11 G C L nm) 40))).alloc (.cells q0a 46)) (((w.alloc (.cells (q1a kd tb a1 n1 W a2 n2 k2 a3 n3 k3 a4 n4 k4 a5 n5 V a6 n6 U a7 n7 T a8 n8 O wo wt wn wi wk wv wx a9 n9 M a10 H D a11 G C L nm) 40))).alloc (.cells q0a 46))):=zi;have bi:Hid (SttAt w s ⟨qs a1 n1 W,qs a2 n2 k2,qs a3 n3 k3,qs a4 n4 k4,qs a5 n5 V,qs a6 n6 U,qs a7 n7 T,qs a8 n8 O,qs a9 n9 M,qs a10 H D,qs a11 G C⟩):=by have:=HD.mono zi;rw [bg.out,bf.out,be.out,bc.out,bb.out,ba.out,aZ.out,aY.out,aX.out,am.out,al.out] at this;exact this
 obtain ⟨ns,aM⟩:=gx S.length
 have aG:Hid (∀w',Below w.heap.size w w'->SttAt w' s ⟨qs a1 n1 W,qs a2 n2 k2,qs a3 n3 k3,qs a4 n4 k4,qs a5 n5 V,qs a6 n6 U,qs a7 n7 T,qs a8 n8 O,qs a9 n9 M,qs a10 H D,qs a11 G C⟩->Calls Tryz.prog 23 #[qs sa S.length sc,.agg (q1a kd tb a1 n1 W a2 n2 k2 a3 n3 k3 a4 n4 k4 a5 n5 V a6 n6 U a7 n7 T a8 n8 O wo wt wn wi wk wv wx a9 n9 M a10 H D a11 G C L nm)] w' (BoolP (StF s) w')):=λ w' K h=> by have:=cSmall_calls s ⟨qs a1 n1 W,qs a2 n2 k2,qs a3 n3 k3,qs a4 n4 k4,qs a5 n5 V,qs a6 n6 U,qs a7 n7 T,qs a8 n8 O,qs a9 n9 M,qs a10 H D,qs a11 G C⟩ w' h S sa sc (hsc.mono TbE.mono K) hz;simp only [Stt.cells,Ex.cells,cons_append,nil_append,HK.out,aU.out,aW.out,HL.out,HC.1,HC.2.1,HC.2.2.1,HC.2.2.2.1,HC.2.2.2.2.1,HC.2.2.2.2.2.1,HC.2.2.2.2.2.2] at this;exact this
 have aI:Hid (StF s->kd=5->∀w',Below w.heap.size w w'->SttAt w' s ⟨qs a1 n1 W,qs a2 n2 k2,qs a3 n3 k3,qs a4 n4 k4,qs a5 n5 V,qs a6 n6 U,qs a7 n7 T,qs a8 n8 O,qs a9 n9 M,qs a10 H D,qs a11 G C⟩->Calls Tryz.prog 24 #[qs sa S.length sc,.agg (q1a kd tb a1 n1 W a2 n2 k2 a3 n3 k3 a4 n4 k4 a5 n5 V a6 n6 U a7 n7 T a8 n8 O wo wt wn wi wk wv wx a9 n9 M a10 H D a11 G C L nm)] w' (QryP s ⟨qs a1 n1 W,qs a2 n2 k2,qs a3 n3 k3,qs a4 n4 k4,qs a5 n5 V,qs a6 n6 U,qs a7 n7 T,qs a8 n8 O,qs a9 n9 M,qs a10 H D,qs a11 G C⟩ w')):=λ hF h5 w' K h=> by have:=cBind_calls s ⟨qs a1 n1 W,qs a2 n2 k2,qs a3 n3 k3,qs a4 n4 k4,qs a5 n5 V,qs a6 n6 U,qs a7 n7 T,qs a8 n8 O,qs a9 n9 M,qs a10 H D,qs a11 G C⟩ w' h S sa sc (hsc.mono TbE.mono K) hz.cols hz.str (hz.qry hF (HK.trans h5)) (HK.trans h5);simp only [Stt.cells,Ex.cells,cons_append,nil_append,HK.out,aU.out,aW.out,HL.out,HC.1,HC.2.1,HC.2.2.1,HC.2.2.2.1,HC.2.2.2.2.1,HC.2.2.2.2.2.1,HC.2.2.2.2.2.2] at this;exact this
 obtain ⟨la,n,lc,rfl,hn,bk⟩:=hr.shape;unfold maxLen at bk;have aH:=hid hn;have HR:=hid hr;rw [aM] at aG aI ⊢;clear aM hsc hz hr hn;go_enter Tryz.func9,Tryz.ntmps9;go_wp2_with (refine wpList_load_stmt rfl _ rfl _ rfl V0.out.cell (by rfl) ?_);refine (aG.out _ ag (bi.mono ag)).mono ?_;rintro e w1 ⟨q,rfl,hq,K⟩;have HF:=hid hq;have J:=hid (ag.trans (K.mono ag.size));have aF:=hid (V0.below K V0.lt);have aa:=hid (V1.below K V1.lt);have bn:Hid (w.heap.size+2<=w1.heap.size):=by have:=K.size;simp at this;exact this
 clear K hq V0 V1 aG ag bp;have c0:=aF.a0;cases q with
 | false=>
  go_wp2_with (refine wpList_store_row rfl _ _ _ rfl _ rfl rfl aa.out rfl (by kernel_rfl) rfl ?_);intro wE VE I;have F:=hid (J.trans (I.below J.size λ k hk=> by show ¬ k=_;omega));clear I;go_wp2;refine bodyPost_ret (v:=.tuple #[.agg q0a,.bool false]) ?_ rfl ?_
  . exact results_cell_tmp rfl _ _ rfl VE Tryz.underlying46 rfl (by kernel_rfl)
  . exact ⟨bd0,false,rfl,(λ h=> (by cases h)),F⟩
 | true=>
  by_cases h5:kd=5
  . subst h5
    by_cases h30:(30:Int) < (n:Int)
    . go_wp2_with (refine wpList_store_row rfl _ _ _ rfl _ rfl rfl aa.out rfl (by kernel_rfl) rfl ?_)
      intro wE VE I;have F:=hid (J.trans (I.below J.size λ k hk=> by show ¬ k=_;omega));clear I;go_wp2;refine bodyPost_ret (v:=.tuple #[.agg q0a,.bool false]) ?_ rfl ?_
      . exact results_cell_tmp rfl _ _ rfl VE Tryz.underlying46 rfl (by kernel_rfl)
      . exact ⟨bd0,false,rfl,(λ h=> (by cases h)),F⟩
    have bw:n<=30:=by omega
    have hF:=HF.out (by simp);have br:=hid (hF.sel (HK));go_wp2_with (refine wpList_load_stmt rfl _ rfl _ rfl aF.out.cell (by rfl) ?_);refine (aI.out hF (by first | rfl | trivial) _ J (bi.mono J)).mono ?_;rintro e w2 ⟨A,f,rfl,hq,K⟩;have aV:=hid hq;have aT:=hid (J.trans (K.mono J.size));have aE:=hid (aa.below K aa.lt);clear K hq aI HF hF c0 aF;simp only [Bd.arr];go_wp2_with (refine wpList_store_row rfl _ _ _ rfl _ rfl rfl (VarIs.new _ _ _) rfl (by kernel_rfl) rfl ?_);intro wa V2 A2;have ai:=hid (((zi.alloc lr _).trans (A2.below (by simp) (λ k hk=> by show ¬ k=_;omega)):Below w2.heap.size w2 wa));have ah:=hid (aT.trans (ai.mono aT.size));have aC:=hid (aE.below ai aE.lt);clear A2 aE aa;by_cases hf0:f=0
    . subst hf0
      obtain ⟨⟨cols,bj,gs,aO,ak,bl⟩,aK,aj⟩:=aV.out (by first | rfl | trivial);have bv:=hid aO;have bh:=hid (ak.mono ai (Y:=λ j=> j < w.heap.size+2) λ j _ h=> lt_of_lt_of_le h bn);have bt:=hid (And.intro aK aj);have bq:=hid bh.here.2.2;clear aO ak aK aj aV ai;go_wp2;go_loopw [40] (λ z wr=> ∃k:Nat,k<=n/\z=qi k/\Hid (∀r∈R.take k,RowOf (cols.map (·.type)) r)/\Hid (Below wa.heap.size wa wr)) (λ z _=> n - (intOf z).toNat)
      case atStart=> exact ⟨0,zero_le _,rfl,(λ r h=> by simp at h),zi⟩
      case round=>
       obtain ⟨k,hk,rfl,Hj,Hm⟩:=hrel;have ad:=hid (ah.trans (Hm.mono ah.size));have aB:=hid (aC.below Hm aC.lt);have aR:=hid (V2.below Hm V2.lt);have aJ:=aR.a24;by_cases hlt:k < n
       . have an:k < R.length:=by have:=aH.out;omega
         obtain ⟨b,o,rfl⟩:=HR.has k hlt;obtain ⟨ax,nx,cx,ae,-⟩:=HR.row k an;obtain ⟨hc,hx,bm⟩:=ae.out _ ad;obtain ⟨aL,bz⟩:nx=R[k].length/\nx<=9223372036854775807:=by obtain ⟨_,_,_,e,h1,h2⟩:=hx.shape;injection e with e1 e2 e3;unfold maxLen at h2;omega
         have HT:=hid λ (h:RowOf (cols.map (·.type)) R[k])=> rows_take Hj an h;generalize R[k]=Rk at *;have HX:=hid hx;have bC:(0:Int)<=(k:Int):=by omega
         have kk:(k:Int) < (n:Int):=by omega
         have bu:=hid aL;clear an ae hx bm aL;have bs:=hid (row_calls (cols.map (·.type)) Rk (qs A.vars.a A.vars.n A.vars.c) (qs ax nx cx) wr (vars_of (bq.mono VaE.mono Hm)) HX);go_wp2_with fail;refine bs.mono ?_;rintro e w4 ⟨q,rfl,hq,K⟩;have HQ:=hid hq;have aS:=hid (Hm.trans (K.mono Hm.size));have ab:=hid (ad.trans (K.mono ad.size));have ac:=hid (aB.below K aB.lt);replace HX:=hid (HX.mono K);clear hq K hc aJ;cases q with
         | false=>
          go_wp2_with (refine wpList_store_row rfl _ _ _ rfl _ rfl rfl ac.out rfl (by kernel_rfl) rfl ?_);intro wE VE I;have F:=hid (ab.trans (I.below ab.size λ k hk=> by show ¬ k=_;omega));clear I;go_wp2;refine bodyPost_ret (v:=.tuple #[.agg q0a,.bool false]) ?_ rfl ?_
          . exact results_cell_tmp rfl _ _ rfl VE Tryz.underlying46 rfl (by kernel_rfl)
          . exact ⟨bd0,false,rfl,(λ h=> (by cases h)),F⟩
         | true=>
          go_wp2;go_loopw [52] (λ z wr=> ∃j:Nat,j<=nx/\z=qi j/\Hid (Below w4.heap.size w4 wr)) (λ z _=> nx - (intOf z).toNat)
          case atStart=> exact ⟨0,zero_le _,rfl,zi⟩
          case round=>
           obtain ⟨j,hj,rfl,Hz⟩:=hrel
           rename World=> wj
           by_cases hjn:j < nx
           . have aN:j < Rk.length:=by rw [<-bu.out];exact hjn
             obtain ⟨bx,ox,rfl⟩:=ValsAt.has (HX.mono Hz) j hjn;obtain ⟨d0,d1,d2⟩:=ValsAt.cell (HX.mono Hz) j aN;generalize Rk[j]=y at *;have bD:(0:Int)<=(j:Int):=by omega
             have jj:(j:Int) < (nx:Int):=by omega
             clear aN;go_wp2_with (refine wpList_store_row rfl _ _ _ rfl _ rfl rfl (VarIs.new _ _ _) rfl (by kernel_rfl) rfl ?_);intro w7 V7 A7;have H7:=hid (Hz.trans (((zi.alloc lr _).trans (A7.below (by simp) (λ k hk=> by show ¬ k=_;omega)):Below wj.heap.size wj w7).mono Hz.size));clear A7 d0 d1 d2;have y1:=V7.a1;by_cases g1:y.int < -2147483648
             . have aD:=hid (ac.below H7 ac.lt)
               have af:=hid (ab.trans (H7.mono ab.size));go_wp2_with (refine wpList_store_row rfl _ _ _ rfl _ rfl rfl aD.out rfl (by kernel_rfl) rfl ?_);intro wE VE I;have F:=hid (af.trans (I.below af.size λ k hk=> by show ¬ k=_;omega));clear I;go_wp2;refine bodyPost_ret (v:=.tuple #[.agg q0a,.bool false]) ?_ rfl ?_
               . exact results_cell_tmp rfl _ _ rfl VE Tryz.underlying46 rfl (by kernel_rfl)
               . exact ⟨bd0,false,rfl,(λ h=> (by cases h)),F⟩
             by_cases g2:2147483647 < y.int
             . have aD:=hid (ac.below H7 ac.lt)
               have af:=hid (ab.trans (H7.mono ab.size));go_wp2_with (refine wpList_store_row rfl _ _ _ rfl _ rfl rfl aD.out rfl (by kernel_rfl) rfl ?_);intro wE VE I;have F:=hid (af.trans (I.below af.size λ k hk=> by show ¬ k=_;omega));clear I;go_wp2;refine bodyPost_ret (v:=.tuple #[.agg q0a,.bool false]) ?_ rfl ?_
               . exact results_cell_tmp rfl _ _ rfl VE Tryz.underlying46 rfl (by kernel_rfl)
               . exact ⟨bd0,false,rfl,(λ h=> (by cases h)),F⟩
             go_wp2;clear y1;go_roundw
             case rel=> exact ⟨j+1,by omega,by go_num,H7⟩
             case measure=> simp [intOf];omega
           . obtain rfl:nx=j:=by omega
             have bo:=hid (aS.trans (Hz.mono aS.size));go_wp2;go_roundw
             case rel=> exact ⟨k+1,by omega,by go_num,HT.out (HQ.out (by simp)),bo⟩
             case measure=> simp [intOf];omega
       . obtain rfl:n=k:=by omega
         clear aJ;go_wp2_with (first | (refine wpList_load_bound rfl _ rfl _ rfl aR.out.cell (by rfl) ?_) | (refine wpList_store_row rfl _ _ _ rfl _ rfl rfl aB.out rfl (by kernel_rfl) rfl ?_));intro wE VE I;have F:=hid (ad.trans (I.below ad.size λ k hk=> by show ¬ k=_;omega));go_wp2;refine bodyPost_ret (v:=.tuple #[.agg #[qi A.kind,qt A.tab,qs A.cr0.a A.cr0.n A.cr0.c,qs A.cr1.a A.cr1.n A.cr1.c,qs A.cr2.a A.cr2.n A.cr2.c,qs A.cr3.a A.cr3.n A.cr3.c,qs A.vals.a A.vals.n A.vals.c,qs A.sets.a A.sets.n A.sets.c,qs A.items.a A.items.n A.items.c,qs A.frm.a A.frm.n A.frm.c,qi A.whr.op,qt A.whr.tab,qt A.whr.nm,qi A.whr.idx,qi A.whr.lit.kind,qi A.whr.lit.int,qt A.whr.lit.text,qs A.whr.args.a A.whr.args.n A.whr.args.c,qs A.group.a A.group.n A.group.c,qs A.order.a A.order.n A.order.c,qi A.limit,qt A.name,qi A.table,qs A.tables.a A.tables.n A.tables.c,qs A.vars.a A.vars.n A.vars.c,qs A.rows.a A.rows.n A.rows.c],.bool true]) ?_ rfl ?_
         . exact results_cell_tmp rfl _ _ rfl VE Tryz.underlying46 rfl (by kernel_rfl)
         . exact ⟨A,true,rfl,(λ _=> ⟨by have:=aH.out;omega,br,⟨cols,bj,gs,bv,((bh.mono Hm (Y:=λ j=> j < w.heap.size+2) λ _ _ h=> h).agr I (λ j _ e=> by have e:j=w.heap.size+1:=e;show j < _;omega) (Z:=λ j=> j < w.heap.size) λ j _ h=> by show j < _;omega),bl,λ r hr=> Hj.out r (by rw [aH.out,take_length];exact hr)⟩,bt⟩),F⟩
    . have zf:(f !=0)=true:=by simp [hf0]
      go_wp2_with (refine wpList_store_row rfl _ _ _ rfl _ rfl rfl aC.out rfl (by kernel_rfl) rfl ?_);intro wE VE I;have F:=hid (ah.trans (I.below ah.size λ k hk=> by show ¬ k=_;omega));clear I;go_wp2;refine bodyPost_ret (v:=.tuple #[.agg q0a,.bool false]) ?_ rfl ?_
      . exact results_cell_tmp rfl _ _ rfl VE Tryz.underlying46 rfl (by kernel_rfl)
      . exact ⟨bd0,false,rfl,(λ h=> (by cases h)),F⟩
  . have z5:(kd !=5)=true:=by simp [h5]
    go_wp2_with (refine wpList_store_row rfl _ _ _ rfl _ rfl rfl aa.out rfl (by kernel_rfl) rfl ?_);intro wE VE I;have F:=hid (J.trans (I.below J.size λ k hk=> by show ¬ k=_;omega));clear I;go_wp2;refine bodyPost_ret (v:=.tuple #[.agg q0a,.bool false]) ?_ rfl ?_
    . exact results_cell_tmp rfl _ _ rfl VE Tryz.underlying46 rfl (by kernel_rfl)
    . exact ⟨bd0,false,rfl,(λ h=> (by cases h)),F⟩
end
section
open Go.Sort
def itF (y:Itm) (R:Rw):Vl:=if y.agg=1 then nilV else (Ex.value R y.e).getD nilV
def xpOf (e:Ex) (s:Sl):Xp:=⟨e.op,e.table,e.name,e.index,e.v,s⟩
theorem items_of {w:World} {its:List Itm} {s:Value} (h:LsAt 9 ItE w its s):∃js:List It,ItemsAt w js s/\js.length=its.length/\∀i (h:i < js.length) (h':i < its.length),js[i].k=its[i].agg/\js[i].f=itF its[i]/\∃sl:Sl,js[i].e=xpOf its[i].e sl/\ArgsAt w its[i].e.args (qs sl.a sl.n sl.c):=by
 rcases h with ⟨rfl,b,rfl⟩ | ⟨b,o,n,c,rfl,rfl,H,I,G⟩
 . exact ⟨[],.mt,rfl,λ i h=> absurd h (by simp)⟩
 . have F:∀i:Fin its.length,∃sl:Sl,(∀j,j < 9->w.cell? ⟨b,o+i * 9+j,none⟩=(qi its[i].agg::(xpOf its[i].e sl).cells)[j]?)/\ArgsAt w its[i].e.args (qs sl.a sl.n sl.c):=λ i=> by
    obtain ⟨cs,-,D,v,rfl,C⟩:=G i i.isLt;obtain ⟨a,m,k,rfl,-,-⟩:=C.shape;exact ⟨⟨a,m,k⟩,λ j hj=> D j hj,C⟩
   obtain ⟨f,hf⟩:=Classical.axiomOfChoice F;obtain ⟨g,q⟩:∃g:Fin its.length->It,∀i,g i=⟨its[i].agg,xpOf its[i].e (f i),itF its[i]⟩:=⟨_,λ _=> rfl⟩
   have hl:((List.finRange its.length).map g).length=its.length:=by simp
   have A:∀i (h:i < its.length) (h':i < ((List.finRange its.length).map g).length),((List.finRange its.length).map g)[i]=⟨its[i].agg,xpOf its[i].e (f ⟨i,h⟩),itF its[i]⟩:=λ i h h'=> by simp [q]
   refine ⟨_,.lie _ b o _ c hl.symm H (by first | omega | (unfold maxLen;omega)) λ i hi j hj=> ?_,hl,λ i hi hi'=> ?_⟩
   . rw [A i (by omega) hi]
     exact (hf ⟨i,by omega⟩).1 j hj
   . rw [A i hi' hi]
     exact ⟨rfl,rfl,f ⟨i,hi'⟩,rfl,(hf ⟨i,hi'⟩).2⟩
theorem group_of {w:World} {gs:List Ex} {s:Value} (h:ArgsAt w gs s):∃es:List Xp,XpsAt w es s/\es.length=gs.length/\∀i (h:i < es.length) (h':i < gs.length),es[i].idx=gs[i].index:=by
 rcases ls_of_args h with ⟨rfl,b,rfl⟩ | ⟨b,o,n,c,rfl,rfl,G,H,F⟩
 . exact ⟨[],.mt,rfl,λ i h=> absurd h (by simp)⟩
 . have D:∀i:Fin gs.length,∃sl:Sl,∀j,j < 8->w.cell? ⟨b,o+i * 8+j,none⟩=(xpOf gs[i] sl).cells[j]? :=λ i=> by
    obtain ⟨cs,-,C,v,rfl,A⟩:=F i i.isLt;obtain ⟨a,m,k,rfl,-,-⟩:=A.shape;exact ⟨⟨a,m,k⟩,λ j hj=> C j hj⟩
   obtain ⟨f,hf⟩:=Classical.axiomOfChoice D;have hl:((List.finRange gs.length).map λ i=> xpOf gs[i] (f i)).length=gs.length:=by simp
   have q:∀i (h:i < gs.length) (h':i < ((List.finRange gs.length).map λ i=> xpOf gs[i] (f i)).length),((List.finRange gs.length).map λ i=> xpOf gs[i] (f i))[i]=xpOf gs[i] (f ⟨i,h⟩):=λ i h h'=> by simp
   refine ⟨_,.lie _ b o _ c hl.symm G (by first | omega | (unfold maxLen;omega)) λ i hi j hj=> ?_,hl,λ i hi hi'=> ?_⟩
   . rw [q i (by omega) hi]
     exact hf ⟨i,by omega⟩ j hj
   . rw [q i hi' hi]
     rfl
def odsOf (l:List Ord):List Od:=l.map λ o=> ⟨o.item,o.desc⟩
theorem ods_of {w:World} {l:List Ord} {s:Value} (h:LsAt 2 OrE w l s):OrdsAt w (odsOf l) s:=by
 rcases h with ⟨rfl,b,rfl⟩ | ⟨b,o,n,c,rfl,rfl,G,H,F⟩
 . exact .mt
 . refine .lie _ b o _ c (by simp [odsOf]) G (by first | omega | (unfold maxLen;omega)) λ i hi=> ?_
   have q:i < l.length:=by simpa [odsOf] using hi
   obtain ⟨cs,-,A,rfl⟩:=F i q;have D:=A 0 (by omega);have C:=A 1 (by omega);simp only [add_zero,getElem?_cons_zero,getElem?_cons_succ] at D C;simp only [odsOf,List.getElem_map];exact ⟨D,C⟩
theorem bound_fit {w:World} {s:Stt} {cols:List Cl} {its:List Itm} {gs:List Ex} {bd:Bd} {R:List Rw} (hq:BQ (cols.map (·.type)) s its gs) (hat:BdAt cols its gs bd w) (ho:LsAt 2 OrE w s.order (qs bd.order.a bd.order.n bd.order.c)) (hF:SelF s) (hR:∀r∈R,RowOf (cols.map (·.type)) r) (hc:cols.length<=3300000) (hn:its.length<=1100000/\gs.length<=1100000):
 ∃(K:List Xp) (H:List It),ItsFit H K/\∀(L:List Rw),(∀r∈L,r∈R)->L.length<=30->RFit bd K H (odsOf s.order) L cols.length w/\∀i∈H,i.k≠1->RvOk w i L:=by
 obtain ⟨H,j1,j2,j3⟩:=items_of hat.1;obtain ⟨K,e1,e2,e3⟩:=group_of hat.2.1;have hj:∀i∈H,∃y∈its,i.k=y.agg/\i.f=itF y/\∃T:Sl,i.e=xpOf y.e T/\ArgsAt w y.e.args (qs T.a T.n T.c):=λ i hi=> by obtain ⟨q,C,rfl⟩:=mem_iff_getElem.1 hi;exact ⟨its[q],getElem_mem _,j3 q C (by omega)⟩
 have J:∀y∈its,y.agg≠1->∀r∈R,∃v,Ex.value r y.e=some v/\v.text.size<=maxLen/\RvAt r y.e v/\ExS y.e:=λ y A h1 r hr=> by
  obtain ⟨D,-,t,G⟩:=(hq.items y A).resolve_left h1;obtain ⟨v,U,O,F⟩:=rv_all (.inl (hR r hr)) G;refine ⟨v,U,?_,F,D⟩;unfold maxLen;rcases O with ⟨-,-,h⟩ | ⟨-,-,h⟩ | ⟨-,-,-,h⟩
  . rw [h];exact zero_le _
  . rw [h];exact zero_le _
  . omega
 have hm:∀r∈R,r.length=cols.length:=λ r hr=> by rw [(hR r hr).1,length_map]
 have aa:KeyFit K cols.length:=λ x hx=> by obtain ⟨q,C,rfl⟩:=mem_iff_getElem.1 hx;rw [e3 q C (by omega)];obtain ⟨-,i,h1,D⟩:=hq.group gs[q] (getElem_mem _);rw [h1];rw [length_map] at D;omega
 have ac:∀y∈its,∃i∈H,i.k=y.agg:=λ y A=> by obtain ⟨q,C,rfl⟩:=mem_iff_getElem.1 A;exact ⟨H[q],getElem_mem _,(j3 q (by omega) C).1⟩
 have ab:aggd H K=true->0 < gs.length\/∃y∈its,y.agg≠0:=λ h=> by
  unfold aggd at h;rw [Bool.or_eq_true] at h;rcases h with h | h
  . left
    have:K.length≠0:=by simpa using h
    omega
  . right
    obtain ⟨i,hi,hk⟩:=List.any_eq_true.1 h;obtain ⟨y,A,e,-⟩:=hj i hi;exact ⟨y,A,by rw [<-e];simpa using hk⟩
 have I:aggd H K=true->∀i∈H,i.k=0->∃y∈its,i.f=itF y/\y.agg=0/\y.e.op=2/\∃q,∃h:q < K.length,K[q].idx=y.e.index/\0<=y.e.index:=λ h i hi h0=> by obtain ⟨y,A,h1,D,-⟩:=hj i hi;obtain ⟨G,g,U,O⟩:=(hq.fit (ab h)).2 y A (by rw [<-h1];exact h0);obtain ⟨q,C,rfl⟩:=mem_iff_getElem.1 U;obtain ⟨-,n,F,-⟩:=hq.group gs[q] (getElem_mem _);exact ⟨y,A,D,by rw [<-h1];exact h0,G,q,by omega,by rw [e3 q (by omega) C,O],by rw [<-O,F];omega⟩
 refine ⟨K,H,λ h i hi h0=> ?_,λ L hL hl2=> ⟨⟨e1,j1,ods_of ho,λ i hi h1 r hr w' sv hb V=> ?_,λ i hi r hr=> ?_,λ h h' i hi h0=> ?_,λ r hr=> hm r (hL r hr),aa,λ o ho=> ?_,by omega,by omega,by omega,by omega⟩,λ i hi h1 r hr w' sv hb V=> ?_⟩⟩
 . obtain ⟨y,A,h1,D,G,q,U,O,F⟩:=I h i hi h0
   refine ⟨by omega,λ r t hrt=> ?_⟩;have M:=congrArg (λ l=> l[q]?) hrt;unfold keyV at M;simp only [List.getElem?_map,getElem?_eq_getElem U,Option.map_some] at M;rw [O] at M;have h8:=Option.some.inj M;rw [h1];unfold itF;rw [if_neg (by omega),if_neg (by omega)];have V:∀r:Rw,(Ex.value r y.e).getD nilV=r.getD y.e.index.toNat nilV:=λ r=> by obtain ⟨y0,ye⟩:=y;cases ye;simp only [Ex.op] at G;simp only [Ex.index] at F ⊢;subst G;simp [Ex.value,F,getD_eq_getElem?_getD]
   rw [V,V];exact h8
 . obtain ⟨y,A,D,G,T,U,O⟩:=hj i hi
   obtain ⟨v,F,-,-,M⟩:=J y A (by rw [<-D];exact h1) r (hL r hr);rw [U,G];unfold itF ValEnd;rw [if_neg (by rw [<-D];exact h1),F];exact value_calls _ y.e lr M r _ sv w' v (O.mono hb) V F
 . obtain ⟨y,A,D,G,-⟩:=hj i hi
   rw [G];unfold itF;split
   . exact zero_le _
   . rename_i h1
     obtain ⟨v,F,M,-⟩:=J y A h1 r (hL r hr);rw [F];exact M
 . have D:aggd H K=true:=by unfold aggd;rw [h',Bool.or_true]
   obtain ⟨y,-,-,-,-,q,G,-⟩:=I D i hi h0;omega
 . obtain ⟨o',W,rfl⟩:=List.mem_map.1 ho
   refine ⟨(hF.2.2.1 o' W).1,?_⟩;have:=hq.ord o' W;rw [length_map] at this;by_cases h0:its.length=0
   . rw [if_pos (by omega)];rw [if_pos h0] at this;exact this
   . rw [if_neg (by omega),j2];rw [if_neg h0] at this;exact this
 . obtain ⟨y,A,D,G,T,U,O⟩:=hj i hi
   obtain ⟨v,F,-,M,-⟩:=J y A (by rw [<-D];exact h1) r (hL r hr);rw [U,G];unfold itF ValEnd;rw [if_neg (by rw [<-D];exact h1),F];exact M T.a T.n T.c sv w' (O.mono hb) V
theorem groupsL_sum (es:List Xp) (L:List Rw):((groupsL es L).map List.length).sum=L.length:=by
 rw [<-List.length_flatten];unfold groupsL;split
 . simp
 . rw [grpS_flat]
   exact ((stS_spec es L).2.perm (keyC_ord es)).length_eq.symm
theorem quiet_load_rowW {P:Program} {ops:Array Oper} {rest:List Oper} {o:Oper} {a:Act} {w:World} {K:Act->Prop} (hgd:Region.wanted o (yielded ops a.tmps)=true) (ty:TypeId) (x:Operand) (ho:o.op=.load ty x) (b:Nat) (hx:a.eval x=.pointer (some ⟨b,0,none⟩)) {cs:List Value} (d:TypeDesc) (h:∀j,w.cell? ⟨b,j,none⟩=cs.toArray[j]?)
 (hu:P.underlying ty=some d) (hd:d.isRow=true) (hi:(P.info? ty).map (·.size)=some cs.length) (hK:wpQuiet P ops (Cls w) K rest (a.put o.dst (.agg cs.toArray))):wpQuiet P ops (Cls w) K (o::rest) a:=by
 refine wpQuiet_of_yields (v:=.agg cs.toArray) (.inl ⟨hgd,λ w' hw'=> ?_⟩) hK;unfold Oper.quietAt execOp;have q:=run_loadAt_mid (P:=P) w' b 0 ty cs d (λ j v hv=> by
  rw [zero_add];have h1:w.cell? ⟨b,j,none⟩=some v:=by rw [h j];simpa using hv
  rw [hw'.below.cell (p:=⟨b,j,none⟩) (World.block_lt_of_cell? _ _ h1)];exact h1) hu hd hi
 simp only [ho,hx,q,Sem.run_bind,Sem.run_pure,Result.andThen_ok,Oper.quietUpon];exact ⟨trivial,trivial⟩
theorem own_lt {w:World} {B g n c:Nat} {L:List Rw} (h:RowsOwn w B L (qs (some ⟨g,0,none⟩) n c)):g < w.heap.size:=by
 obtain ⟨o,h1,-⟩:=h;exact (h1.lt g rfl).2
end
end
end Go.Proofs.YtcomoomndgbckaaGreat
