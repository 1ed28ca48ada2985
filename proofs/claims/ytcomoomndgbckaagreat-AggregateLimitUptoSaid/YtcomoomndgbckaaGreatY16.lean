/- Part 16 of the proof. -/
import Derived.Test.YtcomoomndgbckaaGreatY14
set_option maxHeartbeats 16000000
set_option maxRecDepth 100000
open Go Go.RowKit
open Go.Lib (hid)
open List (getElem_cons_zero getElem_cons_succ)
open Nat (le_succ add_zero zero_mul one_mul)
namespace Go.Proofs.YtcomoomndgbckaaGreat
noncomputable section
def RvAt (R:Rw) (E:Ex) (v:Vl):Prop:=∀(a:Option Addr) (n c:Nat) (r:Value) (w:World),ArgsAt w E.args (qs a n c)->ValsAt w R r->
 Calls Tryz.prog 59 #[.agg #[qi E.op,qt E.table,qt E.name,qi E.index,qi E.v.kind,qi E.v.int,qt E.v.text,qs a n c],r] w λ e w'=> e=.returned v.val/\Below w.heap.size w w'
theorem rv_lit (tb nm:ByteArray) (ix:Int) (v:Vl) (args:List Ex) (R:Rw):RvAt R (.mk 1 tb nm ix v args) v:=by
 intro a n c r w A C;simp only [Ex.op,Ex.table,Ex.name,Ex.index,Ex.v];clear A C;have q:Hid (∀o o',Below w.heap.size w ((w.alloc o).alloc o')):=λ o o'=> (zi.alloc lr o).alloc (by simp) o';go_enter Tryz.func59,Tryz.ntmps59;go_wp2;exact bodyPost_ret (v:=.agg #[qi v.kind,qi v.int,qt v.text]) (by simp [results,Tryz.results59,go_sem]) rfl ⟨rfl,q.out _ _⟩
theorem rv_col (tb nm:ByteArray) (i:Nat) (v0 v:Vl) (args:List Ex) (R:Rw) (h:R[i]? =some v):RvAt R (.mk 2 tb nm i v0 args) v:=by
 intro a n c r w A C;simp only [Ex.op,Ex.table,Ex.name,Ex.index,Ex.v];clear A;have q:Hid (∀o o',Below w.heap.size w ((w.alloc o).alloc o')):=λ o o'=> (zi.alloc lr o).alloc (by simp) o';obtain ⟨hi,rfl⟩:=List.getElem?_eq_some_iff.1 h;cases C with
 | mt=> simp at hi
 | lie _ b o k cap hn hlt hml hc ht=>
  obtain ⟨h0,h1,F⟩:=(ValsAt.lie _ b o k cap hn hlt hml hc ht).cell i hi;have D:i < k:=by omega
  unfold maxLen at hml;clear hc hn h;generalize R[i]=v at *;go_enter Tryz.func59,Tryz.ntmps59;go_wp2;exact bodyPost_ret (v:=.agg #[qi v.kind,qi v.int,qt v.text]) (by simp [results,Tryz.results59,go_sem]) rfl ⟨rfl,q.out _ _⟩
theorem rv_neg (tb nm:ByteArray) (ix:Int) (v0:Vl) (A:Ex) (l:List Ex) (R:Rw) (x v:Vl) (hA:RvAt R A x) (hv:v=if x.kind=0 then Vl.null else ⟨1,wrap64 (-x.int),⟨#[]⟩⟩):RvAt R (.mk 3 tb nm ix v0 (A::l)) v:=by
 intro a n c r w K hr;simp only [Ex.op,Ex.table,Ex.name,Ex.index,Ex.v];simp only [Ex.args] at K;obtain ⟨b,o,rfl,H,V⟩:∃b o,a=some ⟨b,o,none⟩/\b < w.heap.size/\1<=n:=by
  cases K with
  | lie _ b o _ _ _ V H=> exact ⟨b,o,rfl,H,by simp at V;omega⟩
 have k0:(0:Int) < (n:Int):=by omega
 have k2:0 < n:=by omega
 obtain ⟨s0,F,c0,c1,c2,c3,c4,c5,c6,c7⟩:=K.cell 0 (by simp);simp only [getElem_cons_zero,zero_mul,add_zero] at c0 c1 c2 c3 c4 c5 c6 c7 F;obtain ⟨a0,n0,e0,rfl,-,-⟩:=F.shape;have HA:=hid (hA a0 n0 e0 r);have Hv:=hid hv;have D:Hid (∀o o',Below w.heap.size w ((w.alloc o).alloc o')):=λ o o'=> (zi.alloc lr o).alloc (by simp) o';have V1:=hid ((VarIs.new w #[qi 3,qt tb,qt nm,qi ix,qi v0.kind,qi v0.int,qt v0.text,qs (some ⟨b,o,none⟩) n c] 37).alloc (.cells q0c 35));have V2:=hid (VarIs.new (w.alloc (.cells #[qi 3,qt tb,qt nm,qi ix,qi v0.kind,qi v0.int,qt v0.text,qs (some ⟨b,o,none⟩) n c] 37)) q0c 35);clear K hA hv;go_enter Tryz.func59,Tryz.ntmps59;go_wp2_with fail;refine (HA.out _ (F.mono (D.out _ _)) (hr.mono (D.out _ _))).mono ?_;rintro e w1 ⟨rfl,C⟩;have T:=hid (V2.below C (by simp));have V4:=hid (V1.below C (by simp;omega));obtain ⟨L,O,W⟩:=T.out;obtain ⟨g1,g2,g3⟩:=V4.out;have J:=hid ((D.out _ _).trans (C.mono (D.out _ _).size));simp only [World.size_alloc] at L O W;clear C c0 c1 c2 c3 c4 c5 c6 c7 V1 V2;simp only [Vl.val];by_cases h0:x.kind=0
 . have M:(x.kind==0)=true:=by simp [h0]
   have q:Hid (v=Vl.null):=by show _=_;rw [Hv.out,if_pos h0]
   clear h0;go_wp2;exact bodyPost_ret (v:=.agg q0c) (by simp [results,Tryz.results59,go_sem,O,L]) rfl ⟨by rw [q.out];rfl,(((J.setCell (le_succ _) _).setCell (le_succ _) _).setCell (le_succ _) _).alloc (by simp;omega) _⟩
 . have M:(x.kind==0)=false:=by simp [h0]
   have q:Hid (v=⟨1,wrap64 (-x.int),⟨#[]⟩⟩):=by show _=_;rw [Hv.out,if_neg h0]
   clear h0;go_wp2_with fail;refine (rinteger_calls _ _).mono ?_;rintro e w2 ⟨rfl,G⟩;obtain ⟨p1,U,p3⟩:=(T.alloc _).below G (by simp at L ⊢;omega);have I:=hid ((J.alloc (by omega) _).trans (G.mono (by simp;omega)));clear G L O W g1 g2 g3 T V4;simp only [World.size_alloc] at p1 U p3;simp only [Vl.val];go_wp2;exact bodyPost_ret (v:=.agg #[qi 1,qi (wrap64 (-x.int)),qt ⟨#[]⟩]) (by simp [results,Tryz.results59,go_sem,U]) rfl ⟨by rw [q.out];rfl,((I.setCell (le_succ _) _).setCell (le_succ _) _).setCell (le_succ _) _⟩
theorem rv_len (tb nm:ByteArray) (ix:Int) (v0:Vl) (A:Ex) (l:List Ex) (R:Rw) (x v:Vl) (hA:RvAt R A x) (hv:v=if x.kind=0 then Vl.null else ⟨1,x.text.size,⟨#[]⟩⟩):RvAt R (.mk 9 tb nm ix v0 (A::l)) v:=by
 intro a n c r w K hr;simp only [Ex.op,Ex.table,Ex.name,Ex.index,Ex.v];simp only [Ex.args] at K;obtain ⟨b,o,rfl,H,V⟩:∃b o,a=some ⟨b,o,none⟩/\b < w.heap.size/\1<=n:=by
  cases K with
  | lie _ b o _ _ _ V H=> exact ⟨b,o,rfl,H,by simp at V;omega⟩
 have k0:(0:Int) < (n:Int):=by omega
 have k2:0 < n:=by omega
 obtain ⟨s0,F,c0,c1,c2,c3,c4,c5,c6,c7⟩:=K.cell 0 (by simp);simp only [getElem_cons_zero,zero_mul,add_zero] at c0 c1 c2 c3 c4 c5 c6 c7 F;obtain ⟨a0,n0,e0,rfl,-,-⟩:=F.shape;have HA:=hid (hA a0 n0 e0 r);have Hv:=hid hv;have D:Hid (∀o o',Below w.heap.size w ((w.alloc o).alloc o')):=λ o o'=> (zi.alloc lr o).alloc (by simp) o';have V1:=hid ((VarIs.new w #[qi 9,qt tb,qt nm,qi ix,qi v0.kind,qi v0.int,qt v0.text,qs (some ⟨b,o,none⟩) n c] 37).alloc (.cells q0c 35));have V2:=hid (VarIs.new (w.alloc (.cells #[qi 9,qt tb,qt nm,qi ix,qi v0.kind,qi v0.int,qt v0.text,qs (some ⟨b,o,none⟩) n c] 37)) q0c 35);clear K hA hv;go_enter Tryz.func59,Tryz.ntmps59;go_wp2_with fail;refine (HA.out _ (F.mono (D.out _ _)) (hr.mono (D.out _ _))).mono ?_;rintro e w1 ⟨rfl,C⟩;have T:=hid (V2.below C (by simp));have V4:=hid (V1.below C (by simp;omega));obtain ⟨L,O,W⟩:=T.out;obtain ⟨g1,g2,g3⟩:=V4.out;have J:=hid ((D.out _ _).trans (C.mono (D.out _ _).size));simp only [World.size_alloc] at L O W;clear C c0 c1 c2 c3 c4 c5 c6 c7 V1 V2;simp only [Vl.val];by_cases h0:x.kind=0
 . have M:(x.kind==0)=true:=by simp [h0]
   have q:Hid (v=Vl.null):=by show _=_;rw [Hv.out,if_pos h0]
   clear h0;go_wp2;exact bodyPost_ret (v:=.agg q0c) (by simp [results,Tryz.results59,go_sem,O,L]) rfl ⟨by rw [q.out];rfl,(((J.setCell (le_succ _) _).setCell (le_succ _) _).setCell (le_succ _) _).alloc (by simp;omega) _⟩
 . have M:(x.kind==0)=false:=by simp [h0]
   have q:Hid (v=⟨1,x.text.size,⟨#[]⟩⟩):=by show _=_;rw [Hv.out,if_neg h0]
   clear h0;go_wp2_with fail;refine (rinteger_calls _ _).mono ?_;rintro e w2 ⟨rfl,G⟩;obtain ⟨p1,U,p3⟩:=(T.alloc _).below G (by simp at L ⊢;omega);have I:=hid ((J.alloc (by omega) _).trans (G.mono (by simp;omega)));clear G L O W g1 g2 g3 T V4;simp only [World.size_alloc] at p1 U p3;simp only [Vl.val];go_wp2;exact bodyPost_ret (v:=.agg #[qi 1,qi (x.text.size),qt ⟨#[]⟩]) (by simp [results,Tryz.results59,go_sem,U]) rfl ⟨by rw [q.out];rfl,((I.setCell (le_succ _) _).setCell (le_succ _) _).setCell (le_succ _) _⟩
theorem rv_add (tb nm:ByteArray) (ix:Int) (v0:Vl) (A B:Ex) (l:List Ex) (R:Rw) (x y v:Vl) (hA:RvAt R A x) (hB:RvAt R B y) (hv:v=if x.kind=0 then Vl.null else if y.kind=0 then Vl.null else ⟨1,wrap64 (x.int+y.int),⟨#[]⟩⟩):RvAt R (.mk 4 tb nm ix v0 (A::B::l)) v:=by
 intro a n c r w U hr;simp only [Ex.op,Ex.table,Ex.name,Ex.index,Ex.v];simp only [Ex.args] at U;obtain ⟨b,o,rfl,D,hn⟩:∃b o,a=some ⟨b,o,none⟩/\b < w.heap.size/\2<=n:=by
  cases U with
  | lie _ b o _ _ _ hn D=> exact ⟨b,o,rfl,D,by simp at hn;omega⟩
 have k0:(0:Int) < (n:Int):=by omega
 have k1:(1:Int) < (n:Int):=by omega
 have k2:0 < n:=by omega
 have k3:1 < n:=by omega
 obtain ⟨s0,K,c0,c1,c2,c3,c4,c5,c6,c7⟩:=U.cell 0 (by simp);obtain ⟨s1,J,d0,d1,d2,d3,d4,d5,d6,d7⟩:=U.cell 1 (by simp);simp only [getElem_cons_zero,getElem_cons_succ,zero_mul,add_zero,one_mul] at c0 c1 c2 c3 c4 c5 c6 c7 K d0 d1 d2 d3 d4 d5 d6 d7 J;obtain ⟨a0,n0,e0,rfl,-,-⟩:=K.shape;obtain ⟨a1,n1,e1,rfl,-,-⟩:=J.shape;have HA:=hid (hA a0 n0 e0 r);have HB:=hid (hB a1 n1 e1 r);have Hv:=hid hv;have H:Hid (∀o o',Below w.heap.size w ((w.alloc o).alloc o')):=λ o o'=> (zi.alloc lr o).alloc (by simp) o';have V1:=hid ((VarIs.new w #[qi 4,qt tb,qt nm,qi ix,qi v0.kind,qi v0.int,qt v0.text,qs (some ⟨b,o,none⟩) n c] 37).alloc (.cells q0c 35));have V2:=hid (VarIs.new (w.alloc (.cells #[qi 4,qt tb,qt nm,qi ix,qi v0.kind,qi v0.int,qt v0.text,qs (some ⟨b,o,none⟩) n c] 37)) q0c 35);clear U hA hB hv;go_enter Tryz.func59,Tryz.ntmps59;go_wp2_with fail;refine (HA.out _ (K.mono (H.out _ _)) (hr.mono (H.out _ _))).mono ?_;rintro e w1 ⟨rfl,G⟩;have V3:=hid (V2.below G (by simp));have V4:=hid (V1.below G (by simp;omega));obtain ⟨f1,f2,f3⟩:=V3.out;obtain ⟨g1,g2,g3⟩:=V4.out;have C:=hid ((H.out _ _).trans (G.mono (H.out _ _).size));simp only [World.size_alloc] at f1 f2 f3;have d0:=(C.cell (p:=⟨b,o+8,none⟩) D).trans d0;have d1:=(C.cell (p:=⟨b,o+8+1,none⟩) D).trans d1;have d2:=(C.cell (p:=⟨b,o+8+2,none⟩) D).trans d2;have d3:=(C.cell (p:=⟨b,o+8+3,none⟩) D).trans d3;have d4:=(C.cell (p:=⟨b,o+8+4,none⟩) D).trans d4;have d5:=(C.cell (p:=⟨b,o+8+5,none⟩) D).trans d5;have d6:=(C.cell (p:=⟨b,o+8+6,none⟩) D).trans d6;have d7:=(C.cell (p:=⟨b,o+8+7,none⟩) D).trans d7;clear G c0 c1 c2 c3 c4 c5 c6 c7 V1 V2;simp only [Vl.val];by_cases h0:x.kind=0
 . have M:(x.kind==0)=true:=by simp [h0]
   have q:Hid (v=Vl.null):=by show _=_;rw [Hv.out,if_pos h0]
   clear h0;go_wp2;exact bodyPost_ret (v:=.agg q0c) (by simp [results,Tryz.results59,go_sem,f2,f1]) rfl ⟨by rw [q.out];rfl,(((C.setCell (le_succ _) _).setCell (le_succ _) _).setCell (le_succ _) _).alloc (by simp;omega) _⟩
 . have M:(x.kind==0)=false:=by simp [h0]
   have q:Hid (v=if y.kind=0 then Vl.null else ⟨1,wrap64 (x.int+y.int),⟨#[]⟩⟩):=by show _=_;rw [Hv.out,if_neg h0]
   clear h0;have aa:b < w1.heap.size:=by omega
   go_wp2_with fail;refine (HB.out _ (J.mono (C.alloc (by omega) _)) (hr.mono (C.alloc (by omega) _))).mono ?_;rintro e w2 ⟨rfl,F⟩;have V5:=hid ((V3.alloc _).below F (by simp at f1 ⊢;omega));have V6:=hid ((V4.alloc _).below F (by simp;omega));have V7:=hid ((VarIs.new w1 #[qi x.kind,qi x.int,qt x.text] 35).below F (by simp));have I:=hid ((C.alloc (by omega) _).trans (F.mono (by simp;omega)));clear F f1 f2 f3 g1 g2 g3 V3 V4 d0 d1 d2 d3 d4 d5 d6 d7;obtain ⟨T,O,W⟩:=V5.out;obtain ⟨q1,q2,q3⟩:=V6.out;obtain ⟨u1,u2,u3⟩:=V7.out;simp only [World.size_alloc] at T O W;simp only [Vl.val];by_cases h0:y.kind=0
   . have M:(y.kind==0)=true:=by simp [h0]
     have q:Hid (v=Vl.null):=by show _=_;rw [q.out,if_pos h0]
     clear h0;go_wp2;exact bodyPost_ret (v:=.agg q0c) (by simp [results,Tryz.results59,go_sem,O,T]) rfl ⟨by rw [q.out];rfl,(((I.setCell (le_succ _) _).setCell (le_succ _) _).setCell (le_succ _) _).alloc (by simp;omega) _⟩
   . have M:(y.kind==0)=false:=by simp [h0]
     have q:Hid (v=⟨1,wrap64 (x.int+y.int),⟨#[]⟩⟩):=by show _=_;rw [q.out,if_neg h0]
     clear h0;go_wp2_with fail;refine (rinteger_calls _ _).mono ?_;rintro e w3 ⟨rfl,L⟩;have V8:=hid ((V5.alloc _).below L (by simp at T ⊢;omega));have V:=hid ((I.alloc (by omega) _).trans (L.mono (by simp;omega)));clear L T O W q1 q2 q3 u1 u2 u3 V5 V6 V7;obtain ⟨T,O,W⟩:=V8.out;simp only [World.size_alloc] at T O W;simp only [Vl.val];go_wp2;exact bodyPost_ret (v:=.agg #[qi 1,qi (wrap64 (x.int+y.int)),qt ⟨#[]⟩]) (by simp [results,Tryz.results59,go_sem,O]) rfl ⟨by rw [q.out];rfl,((V.setCell (le_succ _) _).setCell (le_succ _) _).setCell (le_succ _) _⟩
theorem rv_sub (tb nm:ByteArray) (ix:Int) (v0:Vl) (A B:Ex) (l:List Ex) (R:Rw) (x y v:Vl) (hA:RvAt R A x) (hB:RvAt R B y) (hv:v=if x.kind=0 then Vl.null else if y.kind=0 then Vl.null else ⟨1,wrap64 (x.int - y.int),⟨#[]⟩⟩):RvAt R (.mk 5 tb nm ix v0 (A::B::l)) v:=by
 intro a n c r w U hr;simp only [Ex.op,Ex.table,Ex.name,Ex.index,Ex.v];simp only [Ex.args] at U;obtain ⟨b,o,rfl,D,hn⟩:∃b o,a=some ⟨b,o,none⟩/\b < w.heap.size/\2<=n:=by
  cases U with
  | lie _ b o _ _ _ hn D=> exact ⟨b,o,rfl,D,by simp at hn;omega⟩
 have k0:(0:Int) < (n:Int):=by omega
 have k1:(1:Int) < (n:Int):=by omega
 have k2:0 < n:=by omega
 have k3:1 < n:=by omega
 obtain ⟨s0,K,c0,c1,c2,c3,c4,c5,c6,c7⟩:=U.cell 0 (by simp);obtain ⟨s1,J,d0,d1,d2,d3,d4,d5,d6,d7⟩:=U.cell 1 (by simp);simp only [getElem_cons_zero,getElem_cons_succ,zero_mul,add_zero,one_mul] at c0 c1 c2 c3 c4 c5 c6 c7 K d0 d1 d2 d3 d4 d5 d6 d7 J;obtain ⟨a0,n0,e0,rfl,-,-⟩:=K.shape;obtain ⟨a1,n1,e1,rfl,-,-⟩:=J.shape;have HA:=hid (hA a0 n0 e0 r);have HB:=hid (hB a1 n1 e1 r);have Hv:=hid hv;have H:Hid (∀o o',Below w.heap.size w ((w.alloc o).alloc o')):=λ o o'=> (zi.alloc lr o).alloc (by simp) o';have V1:=hid ((VarIs.new w #[qi 5,qt tb,qt nm,qi ix,qi v0.kind,qi v0.int,qt v0.text,qs (some ⟨b,o,none⟩) n c] 37).alloc (.cells q0c 35));have V2:=hid (VarIs.new (w.alloc (.cells #[qi 5,qt tb,qt nm,qi ix,qi v0.kind,qi v0.int,qt v0.text,qs (some ⟨b,o,none⟩) n c] 37)) q0c 35);clear U hA hB hv;go_enter Tryz.func59,Tryz.ntmps59;go_wp2_with fail;refine (HA.out _ (K.mono (H.out _ _)) (hr.mono (H.out _ _))).mono ?_;rintro e w1 ⟨rfl,G⟩;have V3:=hid (V2.below G (by simp));have V4:=hid (V1.below G (by simp;omega));obtain ⟨f1,f2,f3⟩:=V3.out;obtain ⟨g1,g2,g3⟩:=V4.out;have C:=hid ((H.out _ _).trans (G.mono (H.out _ _).size));simp only [World.size_alloc] at f1 f2 f3;have d0:=(C.cell (p:=⟨b,o+8,none⟩) D).trans d0;have d1:=(C.cell (p:=⟨b,o+8+1,none⟩) D).trans d1;have d2:=(C.cell (p:=⟨b,o+8+2,none⟩) D).trans d2;have d3:=(C.cell (p:=⟨b,o+8+3,none⟩) D).trans d3;have d4:=(C.cell (p:=⟨b,o+8+4,none⟩) D).trans d4;have d5:=(C.cell (p:=⟨b,o+8+5,none⟩) D).trans d5;have d6:=(C.cell (p:=⟨b,o+8+6,none⟩) D).trans d6;have d7:=(C.cell (p:=⟨b,o+8+7,none⟩) D).trans d7;clear G c0 c1 c2 c3 c4 c5 c6 c7 V1 V2;simp only [Vl.val];by_cases h0:x.kind=0
 . have M:(x.kind==0)=true:=by simp [h0]
   have q:Hid (v=Vl.null):=by show _=_;rw [Hv.out,if_pos h0]
   clear h0;go_wp2;exact bodyPost_ret (v:=.agg q0c) (by simp [results,Tryz.results59,go_sem,f2,f1]) rfl ⟨by rw [q.out];rfl,(((C.setCell (le_succ _) _).setCell (le_succ _) _).setCell (le_succ _) _).alloc (by simp;omega) _⟩
 . have M:(x.kind==0)=false:=by simp [h0]
   have q:Hid (v=if y.kind=0 then Vl.null else ⟨1,wrap64 (x.int - y.int),⟨#[]⟩⟩):=by show _=_;rw [Hv.out,if_neg h0]
   clear h0;have aa:b < w1.heap.size:=by omega
   go_wp2_with fail;refine (HB.out _ (J.mono (C.alloc (by omega) _)) (hr.mono (C.alloc (by omega) _))).mono ?_;rintro e w2 ⟨rfl,F⟩;have V5:=hid ((V3.alloc _).below F (by simp at f1 ⊢;omega));have V6:=hid ((V4.alloc _).below F (by simp;omega));have V7:=hid ((VarIs.new w1 #[qi x.kind,qi x.int,qt x.text] 35).below F (by simp));have I:=hid ((C.alloc (by omega) _).trans (F.mono (by simp;omega)));clear F f1 f2 f3 g1 g2 g3 V3 V4 d0 d1 d2 d3 d4 d5 d6 d7;obtain ⟨T,O,W⟩:=V5.out;obtain ⟨q1,q2,q3⟩:=V6.out;obtain ⟨u1,u2,u3⟩:=V7.out;simp only [World.size_alloc] at T O W;simp only [Vl.val];by_cases h0:y.kind=0
   . have M:(y.kind==0)=true:=by simp [h0]
     have q:Hid (v=Vl.null):=by show _=_;rw [q.out,if_pos h0]
     clear h0;go_wp2;exact bodyPost_ret (v:=.agg q0c) (by simp [results,Tryz.results59,go_sem,O,T]) rfl ⟨by rw [q.out];rfl,(((I.setCell (le_succ _) _).setCell (le_succ _) _).setCell (le_succ _) _).alloc (by simp;omega) _⟩
   . have M:(y.kind==0)=false:=by simp [h0]
     have q:Hid (v=⟨1,wrap64 (x.int - y.int),⟨#[]⟩⟩):=by show _=_;rw [q.out,if_neg h0]
     clear h0;go_wp2_with fail;refine (rinteger_calls _ _).mono ?_;rintro e w3 ⟨rfl,L⟩;have V8:=hid ((V5.alloc _).below L (by simp at T ⊢;omega));have V:=hid ((I.alloc (by omega) _).trans (L.mono (by simp;omega)));clear L T O W q1 q2 q3 u1 u2 u3 V5 V6 V7;obtain ⟨T,O,W⟩:=V8.out;simp only [World.size_alloc] at T O W;simp only [Vl.val];go_wp2;exact bodyPost_ret (v:=.agg #[qi 1,qi (wrap64 (x.int - y.int)),qt ⟨#[]⟩]) (by simp [results,Tryz.results59,go_sem,O]) rfl ⟨by rw [q.out];rfl,((V.setCell (le_succ _) _).setCell (le_succ _) _).setCell (le_succ _) _⟩
theorem rv_mul (tb nm:ByteArray) (ix:Int) (v0:Vl) (A B:Ex) (l:List Ex) (R:Rw) (x y v:Vl) (hA:RvAt R A x) (hB:RvAt R B y) (hv:v=if x.kind=0 then Vl.null else if y.kind=0 then Vl.null else ⟨1,wrap64 (x.int * y.int),⟨#[]⟩⟩):RvAt R (.mk 6 tb nm ix v0 (A::B::l)) v:=by
 intro a n c r w U hr;simp only [Ex.op,Ex.table,Ex.name,Ex.index,Ex.v];simp only [Ex.args] at U;obtain ⟨b,o,rfl,D,hn⟩:∃b o,a=some ⟨b,o,none⟩/\b < w.heap.size/\2<=n:=by
  cases U with
  | lie _ b o _ _ _ hn D=> exact ⟨b,o,rfl,D,by simp at hn;omega⟩
 have k0:(0:Int) < (n:Int):=by omega
 have k1:(1:Int) < (n:Int):=by omega
 have k2:0 < n:=by omega
 have k3:1 < n:=by omega
 obtain ⟨s0,K,c0,c1,c2,c3,c4,c5,c6,c7⟩:=U.cell 0 (by simp);obtain ⟨s1,J,d0,d1,d2,d3,d4,d5,d6,d7⟩:=U.cell 1 (by simp);simp only [getElem_cons_zero,getElem_cons_succ,zero_mul,add_zero,one_mul] at c0 c1 c2 c3 c4 c5 c6 c7 K d0 d1 d2 d3 d4 d5 d6 d7 J;obtain ⟨a0,n0,e0,rfl,-,-⟩:=K.shape;obtain ⟨a1,n1,e1,rfl,-,-⟩:=J.shape;have HA:=hid (hA a0 n0 e0 r);have HB:=hid (hB a1 n1 e1 r);have Hv:=hid hv;have H:Hid (∀o o',Below w.heap.size w ((w.alloc o).alloc o')):=λ o o'=> (zi.alloc lr o).alloc (by simp) o';have V1:=hid ((VarIs.new w #[qi 6,qt tb,qt nm,qi ix,qi v0.kind,qi v0.int,qt v0.text,qs (some ⟨b,o,none⟩) n c] 37).alloc (.cells q0c 35));have V2:=hid (VarIs.new (w.alloc (.cells #[qi 6,qt tb,qt nm,qi ix,qi v0.kind,qi v0.int,qt v0.text,qs (some ⟨b,o,none⟩) n c] 37)) q0c 35);clear U hA hB hv;go_enter Tryz.func59,Tryz.ntmps59;go_wp2_with fail;refine (HA.out _ (K.mono (H.out _ _)) (hr.mono (H.out _ _))).mono ?_;rintro e w1 ⟨rfl,G⟩;have V3:=hid (V2.below G (by simp));have V4:=hid (V1.below G (by simp;omega));obtain ⟨f1,f2,f3⟩:=V3.out;obtain ⟨g1,g2,g3⟩:=V4.out;have C:=hid ((H.out _ _).trans (G.mono (H.out _ _).size));simp only [World.size_alloc] at f1 f2 f3;have d0:=(C.cell (p:=⟨b,o+8,none⟩) D).trans d0;have d1:=(C.cell (p:=⟨b,o+8+1,none⟩) D).trans d1;have d2:=(C.cell (p:=⟨b,o+8+2,none⟩) D).trans d2;have d3:=(C.cell (p:=⟨b,o+8+3,none⟩) D).trans d3;have d4:=(C.cell (p:=⟨b,o+8+4,none⟩) D).trans d4;have d5:=(C.cell (p:=⟨b,o+8+5,none⟩) D).trans d5;have d6:=(C.cell (p:=⟨b,o+8+6,none⟩) D).trans d6;have d7:=(C.cell (p:=⟨b,o+8+7,none⟩) D).trans d7;clear G c0 c1 c2 c3 c4 c5 c6 c7 V1 V2;simp only [Vl.val];by_cases h0:x.kind=0
 . have M:(x.kind==0)=true:=by simp [h0]
   have q:Hid (v=Vl.null):=by show _=_;rw [Hv.out,if_pos h0]
   clear h0;go_wp2;exact bodyPost_ret (v:=.agg q0c) (by simp [results,Tryz.results59,go_sem,f2,f1]) rfl ⟨by rw [q.out];rfl,(((C.setCell (le_succ _) _).setCell (le_succ _) _).setCell (le_succ _) _).alloc (by simp;omega) _⟩
 . have M:(x.kind==0)=false:=by simp [h0]
   have q:Hid (v=if y.kind=0 then Vl.null else ⟨1,wrap64 (x.int * y.int),⟨#[]⟩⟩):=by show _=_;rw [Hv.out,if_neg h0]
   clear h0;have aa:b < w1.heap.size:=by omega
   go_wp2_with fail;refine (HB.out _ (J.mono (C.alloc (by omega) _)) (hr.mono (C.alloc (by omega) _))).mono ?_;rintro e w2 ⟨rfl,F⟩;have V5:=hid ((V3.alloc _).below F (by simp at f1 ⊢;omega));have V6:=hid ((V4.alloc _).below F (by simp;omega));have V7:=hid ((VarIs.new w1 #[qi x.kind,qi x.int,qt x.text] 35).below F (by simp));have I:=hid ((C.alloc (by omega) _).trans (F.mono (by simp;omega)));clear F f1 f2 f3 g1 g2 g3 V3 V4 d0 d1 d2 d3 d4 d5 d6 d7;obtain ⟨T,O,W⟩:=V5.out;obtain ⟨q1,q2,q3⟩:=V6.out;obtain ⟨u1,u2,u3⟩:=V7.out;simp only [World.size_alloc] at T O W;simp only [Vl.val];by_cases h0:y.kind=0
   . have M:(y.kind==0)=true:=by simp [h0]
     have q:Hid (v=Vl.null):=by show _=_;rw [q.out,if_pos h0]
     clear h0;go_wp2;exact bodyPost_ret (v:=.agg q0c) (by simp [results,Tryz.results59,go_sem,O,T]) rfl ⟨by rw [q.out];rfl,(((I.setCell (le_succ _) _).setCell (le_succ _) _).setCell (le_succ _) _).alloc (by simp;omega) _⟩
   . have M:(y.kind==0)=false:=by simp [h0]
     have q:Hid (v=⟨1,wrap64 (x.int * y.int),⟨#[]⟩⟩):=by show _=_;rw [q.out,if_neg h0]
     clear h0;go_wp2_with fail;refine (rinteger_calls _ _).mono ?_;rintro e w3 ⟨rfl,L⟩;have V8:=hid ((V5.alloc _).below L (by simp at T ⊢;omega));have V:=hid ((I.alloc (by omega) _).trans (L.mono (by simp;omega)));clear L T O W q1 q2 q3 u1 u2 u3 V5 V6 V7;obtain ⟨T,O,W⟩:=V8.out;simp only [World.size_alloc] at T O W;simp only [Vl.val];go_wp2;exact bodyPost_ret (v:=.agg #[qi 1,qi (wrap64 (x.int * y.int)),qt ⟨#[]⟩]) (by simp [results,Tryz.results59,go_sem,O]) rfl ⟨by rw [q.out];rfl,((V.setCell (le_succ _) _).setCell (le_succ _) _).setCell (le_succ _) _⟩
theorem rv_div (tb nm:ByteArray) (ix:Int) (v0:Vl) (A B:Ex) (l:List Ex) (R:Rw) (x y v:Vl) (hA:RvAt R A x) (hB:RvAt R B y) (Hy:Hid (0 < y.int)) (hv:v=if x.kind=0 then Vl.null else if y.kind=0 then Vl.null else ⟨1,floorS x.int y.int,⟨#[]⟩⟩):RvAt R (.mk 7 tb nm ix v0 (A::B::l)) v:=by
 intro a n c r w U hr;simp only [Ex.op,Ex.table,Ex.name,Ex.index,Ex.v];simp only [Ex.args] at U;obtain ⟨b,o,rfl,D,hn⟩:∃b o,a=some ⟨b,o,none⟩/\b < w.heap.size/\2<=n:=by
  cases U with
  | lie _ b o _ _ _ hn D=> exact ⟨b,o,rfl,D,by simp at hn;omega⟩
 have k0:(0:Int) < (n:Int):=by omega
 have k1:(1:Int) < (n:Int):=by omega
 have k2:0 < n:=by omega
 have k3:1 < n:=by omega
 obtain ⟨s0,K,c0,c1,c2,c3,c4,c5,c6,c7⟩:=U.cell 0 (by simp);obtain ⟨s1,J,d0,d1,d2,d3,d4,d5,d6,d7⟩:=U.cell 1 (by simp);simp only [getElem_cons_zero,getElem_cons_succ,zero_mul,add_zero,one_mul] at c0 c1 c2 c3 c4 c5 c6 c7 K d0 d1 d2 d3 d4 d5 d6 d7 J;obtain ⟨a0,n0,e0,rfl,-,-⟩:=K.shape;obtain ⟨a1,n1,e1,rfl,-,-⟩:=J.shape;have HA:=hid (hA a0 n0 e0 r);have HB:=hid (hB a1 n1 e1 r);have Hv:=hid hv;have H:Hid (∀o o',Below w.heap.size w ((w.alloc o).alloc o')):=λ o o'=> (zi.alloc lr o).alloc (by simp) o';have V1:=hid ((VarIs.new w #[qi 7,qt tb,qt nm,qi ix,qi v0.kind,qi v0.int,qt v0.text,qs (some ⟨b,o,none⟩) n c] 37).alloc (.cells q0c 35));have V2:=hid (VarIs.new (w.alloc (.cells #[qi 7,qt tb,qt nm,qi ix,qi v0.kind,qi v0.int,qt v0.text,qs (some ⟨b,o,none⟩) n c] 37)) q0c 35);clear U hA hB hv;go_enter Tryz.func59,Tryz.ntmps59;go_wp2_with fail;refine (HA.out _ (K.mono (H.out _ _)) (hr.mono (H.out _ _))).mono ?_;rintro e w1 ⟨rfl,G⟩;have V3:=hid (V2.below G (by simp));have V4:=hid (V1.below G (by simp;omega));obtain ⟨f1,f2,f3⟩:=V3.out;obtain ⟨g1,g2,g3⟩:=V4.out;have C:=hid ((H.out _ _).trans (G.mono (H.out _ _).size));simp only [World.size_alloc] at f1 f2 f3;have d0:=(C.cell (p:=⟨b,o+8,none⟩) D).trans d0;have d1:=(C.cell (p:=⟨b,o+8+1,none⟩) D).trans d1;have d2:=(C.cell (p:=⟨b,o+8+2,none⟩) D).trans d2;have d3:=(C.cell (p:=⟨b,o+8+3,none⟩) D).trans d3;have d4:=(C.cell (p:=⟨b,o+8+4,none⟩) D).trans d4;have d5:=(C.cell (p:=⟨b,o+8+5,none⟩) D).trans d5;have d6:=(C.cell (p:=⟨b,o+8+6,none⟩) D).trans d6;have d7:=(C.cell (p:=⟨b,o+8+7,none⟩) D).trans d7;clear G c0 c1 c2 c3 c4 c5 c6 c7 V1 V2;simp only [Vl.val];by_cases h0:x.kind=0
 . have M:(x.kind==0)=true:=by simp [h0]
   have q:Hid (v=Vl.null):=by show _=_;rw [Hv.out,if_pos h0]
   clear h0;go_wp2;exact bodyPost_ret (v:=.agg q0c) (by simp [results,Tryz.results59,go_sem,f2,f1]) rfl ⟨by rw [q.out];rfl,(((C.setCell (le_succ _) _).setCell (le_succ _) _).setCell (le_succ _) _).alloc (by simp;omega) _⟩
 . have M:(x.kind==0)=false:=by simp [h0]
   have q:Hid (v=if y.kind=0 then Vl.null else ⟨1,floorS x.int y.int,⟨#[]⟩⟩):=by show _=_;rw [Hv.out,if_neg h0]
   clear h0;have aa:b < w1.heap.size:=by omega
   go_wp2_with fail;refine (HB.out _ (J.mono (C.alloc (by omega) _)) (hr.mono (C.alloc (by omega) _))).mono ?_;rintro e w2 ⟨rfl,F⟩;have V5:=hid ((V3.alloc _).below F (by simp at f1 ⊢;omega));have V6:=hid ((V4.alloc _).below F (by simp;omega));have V7:=hid ((VarIs.new w1 #[qi x.kind,qi x.int,qt x.text] 35).below F (by simp));have I:=hid ((C.alloc (by omega) _).trans (F.mono (by simp;omega)));clear F f1 f2 f3 g1 g2 g3 V3 V4 d0 d1 d2 d3 d4 d5 d6 d7;obtain ⟨T,O,W⟩:=V5.out;obtain ⟨q1,q2,q3⟩:=V6.out;obtain ⟨u1,u2,u3⟩:=V7.out;simp only [World.size_alloc] at T O W;simp only [Vl.val];by_cases h0:y.kind=0
   . have M:(y.kind==0)=true:=by simp [h0]
     have q:Hid (v=Vl.null):=by show _=_;rw [q.out,if_pos h0]
     clear h0;go_wp2;exact bodyPost_ret (v:=.agg q0c) (by simp [results,Tryz.results59,go_sem,O,T]) rfl ⟨by rw [q.out];rfl,(((I.setCell (le_succ _) _).setCell (le_succ _) _).setCell (le_succ _) _).alloc (by simp;omega) _⟩
   . have M:(y.kind==0)=false:=by simp [h0]
     have q:Hid (v=⟨1,floorS x.int y.int,⟨#[]⟩⟩):=by show _=_;rw [q.out,if_neg h0]
     clear h0;go_wp2_with fail;refine (rfloor_calls _ _ Hy _).mono ?_;rintro e w3 ⟨rfl,rfl⟩;go_wp2_with fail;refine (rinteger_calls _ _).mono ?_;rintro e w3 ⟨rfl,L⟩;have V8:=hid ((V5.alloc _).below L (by simp at T ⊢;omega));have V:=hid ((I.alloc (by omega) _).trans (L.mono (by simp;omega)));clear L T O W q1 q2 q3 u1 u2 u3 V5 V6 V7;obtain ⟨T,O,W⟩:=V8.out;simp only [World.size_alloc] at T O W;simp only [Vl.val];go_wp2;exact bodyPost_ret (v:=.agg #[qi 1,qi (floorS x.int y.int),qt ⟨#[]⟩]) (by simp [results,Tryz.results59,go_sem,O]) rfl ⟨by rw [q.out];rfl,((V.setCell (le_succ _) _).setCell (le_succ _) _).setCell (le_succ _) _⟩
theorem rv_mod (tb nm:ByteArray) (ix:Int) (v0:Vl) (A B:Ex) (l:List Ex) (R:Rw) (x y v:Vl) (hA:RvAt R A x) (hB:RvAt R B y) (Hy:Hid (0 < y.int)) (hv:v=if x.kind=0 then Vl.null else if y.kind=0 then Vl.null else ⟨1,wrap64 (x.int - wrap64 (y.int * floorS x.int y.int)),⟨#[]⟩⟩):RvAt R (.mk 8 tb nm ix v0 (A::B::l)) v:=by
 intro a n c r w hs hr;simp only [Ex.op,Ex.table,Ex.name,Ex.index,Ex.v];simp only [Ex.args] at hs;obtain ⟨b,o,rfl,D,hn⟩:∃b o,a=some ⟨b,o,none⟩/\b < w.heap.size/\2<=n:=by
  cases hs with
  | lie _ b o _ _ _ hn D=> exact ⟨b,o,rfl,D,by simp at hn;omega⟩
 have k0:(0:Int) < (n:Int):=by omega
 have k1:(1:Int) < (n:Int):=by omega
 have k2:0 < n:=by omega
 have k3:1 < n:=by omega
 obtain ⟨s0,T,c0,c1,c2,c3,c4,c5,c6,c7⟩:=hs.cell 0 (by simp);obtain ⟨s1,O,d0,d1,d2,d3,d4,d5,d6,d7⟩:=hs.cell 1 (by simp);simp only [getElem_cons_zero,getElem_cons_succ,zero_mul,add_zero,one_mul] at c0 c1 c2 c3 c4 c5 c6 c7 T d0 d1 d2 d3 d4 d5 d6 d7 O;obtain ⟨a0,n0,e0,rfl,-,-⟩:=T.shape;obtain ⟨a1,n1,e1,rfl,-,-⟩:=O.shape;have HA:=hid (hA a0 n0 e0 r);have HB:=hid (hB a1 n1 e1 r);have Hv:=hid hv;have J:Hid (∀o o',Below w.heap.size w ((w.alloc o).alloc o')):=λ o o'=> (zi.alloc lr o).alloc (by simp) o';have V1:=hid ((VarIs.new w #[qi 8,qt tb,qt nm,qi ix,qi v0.kind,qi v0.int,qt v0.text,qs (some ⟨b,o,none⟩) n c] 37).alloc (.cells q0c 35));have V2:=hid (VarIs.new (w.alloc (.cells #[qi 8,qt tb,qt nm,qi ix,qi v0.kind,qi v0.int,qt v0.text,qs (some ⟨b,o,none⟩) n c] 37)) q0c 35);clear hs hA hB hv;go_enter Tryz.func59,Tryz.ntmps59;go_wp2_with fail;refine (HA.out _ (T.mono (J.out _ _)) (hr.mono (J.out _ _))).mono ?_;rintro e w1 ⟨rfl,I⟩;have V3:=hid (V2.below I (by simp));have V4:=hid (V1.below I (by simp;omega));obtain ⟨f1,f2,f3⟩:=V3.out;obtain ⟨g1,g2,g3⟩:=V4.out;have C:=hid ((J.out _ _).trans (I.mono (J.out _ _).size));simp only [World.size_alloc] at f1 f2 f3;have d0:=(C.cell (p:=⟨b,o+8,none⟩) D).trans d0;have d1:=(C.cell (p:=⟨b,o+8+1,none⟩) D).trans d1;have d2:=(C.cell (p:=⟨b,o+8+2,none⟩) D).trans d2;have d3:=(C.cell (p:=⟨b,o+8+3,none⟩) D).trans d3;have d4:=(C.cell (p:=⟨b,o+8+4,none⟩) D).trans d4;have d5:=(C.cell (p:=⟨b,o+8+5,none⟩) D).trans d5;have d6:=(C.cell (p:=⟨b,o+8+6,none⟩) D).trans d6;have d7:=(C.cell (p:=⟨b,o+8+7,none⟩) D).trans d7;clear I c0 c1 c2 c3 c4 c5 c6 c7 V1 V2;simp only [Vl.val];by_cases h0:x.kind=0
 . have V:(x.kind==0)=true:=by simp [h0]
   have q:Hid (v=Vl.null):=by show _=_;rw [Hv.out,if_pos h0]
   clear h0;go_wp2;exact bodyPost_ret (v:=.agg q0c) (by simp [results,Tryz.results59,go_sem,f2,f1]) rfl ⟨by rw [q.out];rfl,(((C.setCell (le_succ _) _).setCell (le_succ _) _).setCell (le_succ _) _).alloc (by simp;omega) _⟩
 . have V:(x.kind==0)=false:=by simp [h0]
   have q:Hid (v=if y.kind=0 then Vl.null else ⟨1,wrap64 (x.int - wrap64 (y.int * floorS x.int y.int)),⟨#[]⟩⟩):=by show _=_;rw [Hv.out,if_neg h0]
   clear h0;have ai:b < w1.heap.size:=by omega
   go_wp2_with fail;refine (HB.out _ (O.mono (C.alloc (by omega) _)) (hr.mono (C.alloc (by omega) _))).mono ?_;rintro e w2 ⟨rfl,F⟩;have V5:=hid ((V3.alloc _).below F (by simp at f1 ⊢;omega));have V6:=hid ((V4.alloc _).below F (by simp;omega));have V7:=hid ((VarIs.new w1 #[qi x.kind,qi x.int,qt x.text] 35).below F (by simp));have L:=hid ((C.alloc (by omega) _).trans (F.mono (by simp;omega)));clear F f1 f2 f3 g1 g2 g3 V3 V4 d0 d1 d2 d3 d4 d5 d6 d7;obtain ⟨H,G,M⟩:=V5.out;obtain ⟨q1,q2,q3⟩:=V6.out;obtain ⟨u1,u2,u3⟩:=V7.out;simp only [World.size_alloc] at H G M;simp only [Vl.val];by_cases h0:y.kind=0
   . have V:(y.kind==0)=true:=by simp [h0]
     have q:Hid (v=Vl.null):=by show _=_;rw [q.out,if_pos h0]
     clear h0;go_wp2;exact bodyPost_ret (v:=.agg q0c) (by simp [results,Tryz.results59,go_sem,G,H]) rfl ⟨by rw [q.out];rfl,(((L.setCell (le_succ _) _).setCell (le_succ _) _).setCell (le_succ _) _).alloc (by simp;omega) _⟩
   . have V:(y.kind==0)=false:=by simp [h0]
     have q:Hid (v=⟨1,wrap64 (x.int - wrap64 (y.int * floorS x.int y.int)),⟨#[]⟩⟩):=by show _=_;rw [q.out,if_neg h0]
     clear h0;have V8:=hid (V5.alloc (.cells #[qi y.kind,qi y.int,qt y.text] 35));have V9:=hid (V7.alloc (.cells #[qi y.kind,qi y.int,qt y.text] 35));have aa:=hid (VarIs.new w2 #[qi y.kind,qi y.int,qt y.text] 35);have ae:=hid (L.alloc (by omega) (.cells #[qi y.kind,qi y.int,qt y.text] 35));go_wp2_with fail;generalize w2.alloc (.cells #[qi y.kind,qi y.int,qt y.text] 35)=W at *;clear H G M q1 q2 q3 u1 u2 u3;refine wp_region_still_tail 11 (by kernel_rfl) (by kernel_rfl) ?_;simp only [List.take_succ_cons,List.take_zero,List.drop_succ_cons,List.drop_zero];change wpStill _ _ W.drew _ _ _;have ag:VarIs W.drew _ _:=⟨V8.lt,V8.cell,V8.free⟩
     have af:VarIs W.drew _ _:=⟨V9.lt,V9.cell,V9.free⟩
     have ab:VarIs W.drew _ _:=⟨aa.lt,aa.cell,aa.free⟩
     have ad:=hid (ae.drew);show wpStill _ _ _ (λ a'=> wpList _ _ _ _ a' W.drew) _ _;generalize W.drew=wd at *;obtain ⟨H,G,M⟩:=ag;obtain ⟨q1,q2,q3⟩:=af;obtain ⟨u1,u2,u3⟩:=ab;simp only [World.size_alloc] at H G M
     iterate 8 still_step
     refine wpStill_step (λ K hK=> ?_);go_simp;refine ⟨_,(rfloor_calls _ _ Hy _).mono (λ e w' h=> ⟨h.1,h.2.symm⟩),hK _ ?_⟩;clear hK K
     iterate 2 still_step
     refine wpStill_nil ?_;go_wp2_with fail;refine (rinteger_calls _ _).mono ?_;rintro e w3 ⟨rfl,U⟩;have ah:=hid (VarIs.below (b:=w.heap.size+1) (c:=q0c) ⟨H,G,M⟩ U H);have ac:=hid (ad.trans (U.mono (by omega)));clear U H G M q1 q2 q3 u1 u2 u3;obtain ⟨H,G,M⟩:=ah.out;simp only [Vl.val];go_wp2;exact bodyPost_ret (v:=.agg #[qi 1,qi (wrap64 (x.int - wrap64 (y.int * floorS x.int y.int))),qt ⟨#[]⟩]) (by simp [results,Tryz.results59,go_sem,G]) rfl ⟨by rw [q.out];rfl,((ac.setCell (le_succ _) _).setCell (le_succ _) _).setCell (le_succ _) _⟩
theorem rv_all {L:List Int} {R:Rw} {t:Int} {E:Ex} (F:RowOf L R\/E.cols=false) (h:VT L t E):∃v,Ex.value R E=some v/\v.Of t/\RvAt R E v:=by
 induction h with
 | lit t tb nm ix v h=> exact ⟨v,by simp [Ex.value],h,rv_lit tb nm ix v [] R⟩
 | col t t' tb nm i v h ht=>
  rcases F with F | F
  . obtain ⟨hi,rfl⟩:=List.getElem?_eq_some_iff.1 h
    have M:i < R.length:=by rw [F.1];exact hi
    exact ⟨R[i],by simp [Ex.value,M],(F.2 i M hi).wide ht,rv_col tb nm i v R[i] [] R (by simp [M])⟩
  . simp [Ex.cols] at F
 | neg tb nm ix v A hA ih=>
  obtain ⟨a,C,hof,K⟩:=ih (F.imp_right λ h=> by simpa [Ex.cols,Ex.colsL] using h);have H:=rv_neg tb nm ix v A [] R a _ K rfl;by_cases h0:a.kind=0
  . exact ⟨Vl.null,by simp [Ex.value,Ex.values,C,h0],of_null _,by rw [if_pos h0] at H;exact H⟩
  . exact ⟨⟨1,wrap64 (-a.int),⟨#[]⟩⟩,by simp [Ex.value,Ex.values,C,h0,computeS],of_int _,by rw [if_neg h0] at H;exact H⟩
 | len tb nm ix v A hA ih=>
  obtain ⟨a,C,hof,K⟩:=ih (F.imp_right λ h=> by simpa [Ex.cols,Ex.colsL] using h);have H:=rv_len tb nm ix v A [] R a _ K rfl;by_cases h0:a.kind=0
  . exact ⟨Vl.null,by simp [Ex.value,Ex.values,C,h0],of_null _,by rw [if_pos h0] at H;exact H⟩
  . exact ⟨⟨1,a.text.size,⟨#[]⟩⟩,by simp [Ex.value,Ex.values,C,h0,computeS],of_int _,by rw [if_neg h0] at H;exact H⟩
 | bin op hop tb nm ix v A B hA hB ihA ihB=>
  have D:(op==2)=false:=by rcases hop with rfl | rfl | rfl <;> rfl
  obtain ⟨a,C,_,q⟩:=ihA (F.imp_right λ h=> by simp [Ex.cols,Ex.colsL,D] at h;exact h.1);obtain ⟨b,G,_,o⟩:=ihB (F.imp_right λ h=> by simp [Ex.cols,Ex.colsL,D] at h;exact h.2);by_cases h0:a.kind=0
  . rcases hop with rfl | rfl | rfl
    . exact ⟨Vl.null,by simp [Ex.value,Ex.values,C,h0],of_null _,rv_add tb nm ix v A B [] R a b _ q o (by rw [if_pos h0])⟩
    . exact ⟨Vl.null,by simp [Ex.value,Ex.values,C,h0],of_null _,rv_sub tb nm ix v A B [] R a b _ q o (by rw [if_pos h0])⟩
    . exact ⟨Vl.null,by simp [Ex.value,Ex.values,C,h0],of_null _,rv_mul tb nm ix v A B [] R a b _ q o (by rw [if_pos h0])⟩
  by_cases h1:b.kind=0
  . rcases hop with rfl | rfl | rfl
    . exact ⟨Vl.null,by simp [Ex.value,Ex.values,C,G,h1],of_null _,rv_add tb nm ix v A B [] R a b _ q o (by rw [if_neg h0,if_pos h1])⟩
    . exact ⟨Vl.null,by simp [Ex.value,Ex.values,C,G,h1],of_null _,rv_sub tb nm ix v A B [] R a b _ q o (by rw [if_neg h0,if_pos h1])⟩
    . exact ⟨Vl.null,by simp [Ex.value,Ex.values,C,G,h1],of_null _,rv_mul tb nm ix v A B [] R a b _ q o (by rw [if_neg h0,if_pos h1])⟩
  rcases hop with rfl | rfl | rfl
  . exact ⟨⟨1,wrap64 (a.int+b.int),⟨#[]⟩⟩,by simp [Ex.value,Ex.values,C,h0,G,h1,computeS],of_int _,rv_add tb nm ix v A B [] R a b _ q o (by rw [if_neg h0,if_neg h1])⟩
  . exact ⟨⟨1,wrap64 (a.int - b.int),⟨#[]⟩⟩,by simp [Ex.value,Ex.values,C,h0,G,h1,computeS],of_int _,rv_sub tb nm ix v A B [] R a b _ q o (by rw [if_neg h0,if_neg h1])⟩
  . exact ⟨⟨1,wrap64 (a.int * b.int),⟨#[]⟩⟩,by simp [Ex.value,Ex.values,C,h0,G,h1,computeS],of_int _,rv_mul tb nm ix v A B [] R a b _ q o (by rw [if_neg h0,if_neg h1])⟩
 | div op hop tb nm ix v A B d hA hB hc hd hk h1 h2 ihA ihB=>
  have D:(op==2)=false:=by rcases hop with rfl | rfl <;> rfl
  obtain ⟨a,C,_,q⟩:=ihA (F.imp_right λ h=> by simp [Ex.cols,Ex.colsL,D] at h;exact h.1);obtain ⟨b,G,_,o⟩:=ihB (.inr hc);have T:Ex.value R B=some d:=by rw [value_nocols R _ B lr hc];exact hd
  obtain rfl:b=d:=by rw [G] at T;exact Option.some.inj T
  have J:¬ b.kind=0:=by omega
  have O:¬ b.int<=0:=by omega
  have I:Hid (0 < b.int):=by show _ < _;omega
  by_cases h0:a.kind=0
  . rcases hop with rfl | rfl
    . exact ⟨Vl.null,by simp [Ex.value,Ex.values,C,h0],of_null _,rv_div tb nm ix v A B [] R a b _ q o I (by rw [if_pos h0])⟩
    . exact ⟨Vl.null,by simp [Ex.value,Ex.values,C,h0],of_null _,rv_mod tb nm ix v A B [] R a b _ q o I (by rw [if_pos h0])⟩
  rcases hop with rfl | rfl
  . exact ⟨⟨1,floorS a.int b.int,⟨#[]⟩⟩,by simp [Ex.value,Ex.values,C,h0,G,J,O,computeS],of_int _,rv_div tb nm ix v A B [] R a b _ q o I (by rw [if_neg h0,if_neg J])⟩
  . exact ⟨⟨1,wrap64 (a.int - wrap64 (b.int * floorS a.int b.int)),⟨#[]⟩⟩,by simp [Ex.value,Ex.values,C,h0,G,J,O,computeS],of_int _,rv_mod tb nm ix v A B [] R a b _ q o I (by rw [if_neg h0,if_neg J])⟩
end
end Go.Proofs.YtcomoomndgbckaaGreat
