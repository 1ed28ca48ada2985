/- Part 11 of the proof. -/
import Derived.Test.YtcomoomndgbckaaGreatY09
set_option maxHeartbeats 16000000
set_option maxRecDepth 100000
open Go Go.RowKit
open Go.Lib (hid)
open List (getElem_mem length_append nil_append cons_append)
open Nat (zero_le le_succ lt_succ_self le_trans lt_of_lt_of_le)
namespace Go.Proofs.YtcomoomndgbckaaGreat
noncomputable section
section
open Go.Sort
structure DfZ (d:Df):Prop where
 lens:d.cols.length<=2000000/\d.keys.length<=2000000/\d.fks.length<=2000000/\d.checks.length<=2000000
 cols:∀c∈d.cols,c.name.size<=2000000
 keys:∀x∈d.keys,nmB x<=10000000
 fks:∀f∈d.fks,nmB f.cols<=10000000/\f.table.size<=2000000/\nmB f.target<=10000000
 checks:∀e∈d.checks,e.bulk<=2000000
theorem Bl.made1 {α:Type} {t:TypeId} {sz:Nat} {E:World->α->List Value->Prop} {B:Nat} {X:Nat->Prop} {w:World} (o:Obj) (hB:B<=w.heap.size+1):Bl t sz E B X ((w.alloc o).alloc (.cells #[] t)) [] (qs (some ⟨w.heap.size+1,0,none⟩) 0 0):=by
 have:=Bl.made (t:=t) (sz:=sz) (E:=E) (X:=X) (w:=w.alloc o) (B:=B) (by simpa using hB);simpa using this
theorem aElem_calls (d:Df) (a1 a2 a3 a4:Option Addr) (L W n3 n4 k1 k2 k3 k4:Nat) (w:World) (hd:DfAt w d (qs a1 L k1) (qs a2 W k2) (qs a3 n3 k3) (qs a4 n4 k4)) (hz:DfZ d) (hf1:∀c∈d.cols,ColF c) (hf4:∀e∈d.checks,Fm e):
 Calls Tryz.prog 112 #[.agg #[qs a1 L k1,qs a2 W k2,qs a3 n3 k3,qs a4 n4 k4]] w (SizeS bigS w):=by
 have ag:d.cols.length=L:=by obtain ⟨_,_,e,-⟩:=hd.cols.shape;exact (Value.slice.inj e).2.1.symm
 have af:d.keys.length=W:=by obtain ⟨_,_,e,-⟩:=hd.keys.shape;exact (Value.slice.inj e).2.1.symm
 have ae:d.fks.length=n3:=by obtain ⟨_,_,e,-⟩:=hd.fks.shape;exact (Value.slice.inj e).2.1.symm
 have ad:d.checks.length=n4:=by obtain ⟨_,_,_,e,h,-⟩:=hd.checks.shape;exact (Value.slice.inj e).2.1 ▸ h.symm
 have m1:L<=2000000:=ag ▸ hz.lens.1;have m2:W<=2000000:=af ▸ hz.lens.2.1;have m3:n3<=2000000:=ae ▸ hz.lens.2.2.1;have m4:n4<=2000000:=ad ▸ hz.lens.2.2.2;have aC:=hid ag;have aB:=hid af;have aA:=hid ae;have az:=hid ad;have HD:Hid (DfAt w d (qs a1 d.cols.length k1) (qs a2 d.keys.length k2) (qs a3 d.fks.length k3) (qs a4 d.checks.length k4)):=by show DfAt _ _ _ _ _ _;rw [ag,af,ae,ad];exact hd
 have HZ:=hid hz;have aE:=hid hf1;have aD:=hid hf4;clear hd hz ag af ae ad hf1 hf4;have Hv:=hid (VarIs.new w #[qs a1 L k1,qs a2 W k2,qs a3 n3 k3,qs a4 n4 k4] 29);have ai:Hid (∀o,Below w.heap.size w (w.alloc o)):=λ o=> zi.alloc lr o;go_enter Tryz.func112,Tryz.ntmps112;go_wp2;go_loopw [3,4] (λ v z wr=> ∃(k:Nat) (ss:List ByteArray),k<=L/\z=qi k/\Hid (ss.length=k)/\Hid (∀x∈ss,x.size<=100000000)/\Hid (Bl 9 1 NmE (w.heap.size+1) (λ _=> False) wr ss v)/\Hid (Below (w.heap.size+1) (w.alloc (.cells #[qs a1 L k1,qs a2 W k2,qs a3 n3 k3,qs a4 n4 k4] 29)) wr)) (λ _ z _=> L - (intOf z).toNat)
 case atStart=> exact ⟨0,[],zero_le _,rfl,rfl,(λ x h=> by cases h),Bl.made1 _ lr,zi.alloc (by simp) _⟩
 case round=>
  obtain ⟨k,ss,hk,rfl,C,Hm,HB,K⟩:=hrel
  rename_i v _
  have T:=hid ((ai.out _).trans (K.mono (le_succ _)));obtain ⟨v1,J,-⟩:=Hv.below K (lt_succ_self _);have c0:=J 0;have c1:=J 1;have c2:=J 2;have c3:=J 3;simp only [q2a] at c0 c1 c2 c3;clear J;by_cases hlt:k < L
  . have A:k < d.cols.length:=by rw [aC.out];exact hlt
    have aa:=HD.cols.mono ClE.mono T;obtain ⟨b,o,rfl,aq,g0,g1,g2,g3,g4,g5⟩:=ClAt.cell aa k A;have HY:=hid (HZ.cols _ (getElem_mem A));have HF:=hid (aE.out _ (getElem_mem A));generalize d.cols[k]=y at *;obtain ⟨nm,ty,lo,hi,mx,nn⟩:=y;simp only at g0 g1 g2 g3 g4 g5 HY;obtain ⟨aK,aL,aJ⟩:(-2147483648<=lo/\lo<=2147483648)/\(-2147483648<=hi/\hi<=2147483648)/\0<=mx/\mx<=2147483648:=HF.out;clear aa A;have aI:nm.size<=2000000:=HY;go_upto_region 6 with (fail)
    have ac:=hid (VarIs.new wr #[qt nm,qi ty,qi lo,qi hi,qi mx,.bool nn] 125);have ah:=hid ((Below.refl wr.heap.size wr).alloc lr (.cells #[qt nm,qi ty,qi lo,qi hi,qi mx,.bool nn] 125));go_cut [6] from 24 to 31 (λ z wx=> ∃x:ByteArray,z=qt x/\x.size<=2001000/\Hid (Below (wr.heap.size+1) (wr.alloc (.cells #[qt nm,qi ty,qi lo,qi hi,qi mx,.bool nn] 125)) wx))
    case first=>
     as_aux_lemma=>
      have L:¬ 9223372036854775807 < nm.size+6:=by omega
      obtain ⟨u1,u2,-⟩:=ac.out;have e0:=u2 0;have e1:=u2 1;have e2:=u2 2;have e3:=u2 3;have e4:=u2 4;have e5:=u2 5;simp only [q2a] at e0 e1 e2 e3 e4 e5;clear u2;refine wp_region_segs [([0,1,2,3,4],5)] [6,7,8] [] (by kernel_rfl) (by kernel_rfl) ?_;simp only [q2c,wpSegs];have an:=cell_regrown (w:=(wr.alloc (.cells #[qt nm,qi ty,qi lo,qi hi,qi mx,.bool nn] 125)).drew) e0;have am:=cell_regrown (w:=(wr.alloc (.cells #[qt nm,qi ty,qi lo,qi hi,qi mx,.bool nn] 125)).drew) e1;have al:=cell_regrown (w:=(wr.alloc (.cells #[qt nm,qi ty,qi lo,qi hi,qi mx,.bool nn] 125)).drew) e2;have ax:=cell_regrown (w:=(wr.alloc (.cells #[qt nm,qi ty,qi lo,qi hi,qi mx,.bool nn] 125)).drew) e3;have aw:=cell_regrown (w:=(wr.alloc (.cells #[qt nm,qi ty,qi lo,qi hi,qi mx,.bool nn] 125)).drew) e4;have av:=cell_regrown (w:=(wr.alloc (.cells #[qt nm,qi ty,qi lo,qi hi,qi mx,.bool nn] 125)).drew) e5;clear e0 e1 e2 e3 e4 e5;have D:Hid (Below (wr.alloc (.cells #[qt nm,qi ty,qi lo,qi hi,qi mx,.bool nn] 125)).heap.size (wr.alloc (.cells #[qt nm,qi ty,qi lo,qi hi,qi mx,.bool nn] 125)) (wr.alloc (.cells #[qt nm,qi ty,qi lo,qi hi,qi mx,.bool nn] 125)).drew):=zi.drew
      repeat (quiet_step (fail))
      refine wpQuiet_nil ?_;refine ⟨rfl,λ wy hby=> ?_⟩;go_simp;simp only [uponV];have I:=hid (D.trans (hby.mono D.size));refine (aNum_calls' mx _ (by omega) (by omega)).mono ?_;rintro e w1 ⟨x,rfl,hx,G⟩;refine ⟨_,rfl,G,?_⟩;replace D:=hid (I.trans (G.mono I.size));clear G hby I;have W:¬ 9223372036854775807 < nm.size+6+x.size:=by omega
      have n3:¬ 9223372036854775807 < nm.size+6+x.size+1:=by omega
      go_simp
      repeat (quiet_step (fail))
      refine wpQuiet_nil ?_;intro wz M;replace D:=hid (D.trans (M.mono D.size));clear M;simp only [wpList];go_wp2;go_meet;exact ⟨_,rfl,(by simp only [ByteArray.size_append];show _+6+_+1<=_;omega),(by have h:=D.out;simp only [World.size_alloc] at h;exact h)⟩
    obtain ⟨x6,rfl,aj,O⟩:=hcut;go_upto_region 7 with (fail)
    obtain ⟨u1,u2,-⟩:=ac.below O (lt_succ_self _);have e0:=u2 0;have e1:=u2 1;have e2:=u2 2;have e3:=u2 3;have e4:=u2 4;have e5:=u2 5;simp only [q2a] at e0 e1 e2 e3 e4 e5;clear u2;go_cut [34] from 32 to 34 (λ z wx=> ∃q:Bool,z=.bool q/\wc=wx)
    case first=>
     by_cases h1:ty=1
     . subst h1
       go_wp2;go_meet;exact ⟨_,rfl,rfl⟩
     . go_wp2
       go_meet;exact ⟨_,rfl,rfl⟩
    obtain ⟨q7,rfl,rfl⟩:=hcut;go_step;go_cut [6] from 35 to 47 (λ z wx=> ∃x:ByteArray,z=qt x/\x.size<=2001000/\Hid (Below (wr.heap.size+1) (wr.alloc (.cells #[qt nm,qi ty,qi lo,qi hi,qi mx,.bool nn] 125)) wx))
    case first=>
     as_aux_lemma=>
      cases q7 with
      | false=>
       go_wp2;go_meet;exact ⟨_,rfl,aj,O⟩
      | true=>
       have L:¬ 9223372036854775807 < nm.size+9:=by omega
       go_upto_region 8 with (fail)
       refine wp_region_segs [([0,1,2,3,4,8,9],5),([6,7],10)] [11,12,13] [] (by kernel_rfl) (by kernel_rfl) ?_;simp only [q2c,wpSegs];have an:=cell_regrown (w:=wc.drew) e0;have am:=cell_regrown (w:=wc.drew) e1;have al:=cell_regrown (w:=wc.drew) e2;have ax:=cell_regrown (w:=wc.drew) e3;have aw:=cell_regrown (w:=wc.drew) e4;have av:=cell_regrown (w:=wc.drew) e5;clear e0 e1 e2 e3 e4 e5;have D:Hid (Below (wc).heap.size (wc) (wc).drew):=zi.drew
       repeat (quiet_step (fail))
       refine wpQuiet_nil ?_;refine ⟨rfl,λ wy hby=> ?_⟩;go_simp;simp only [uponV];have I:=hid (D.trans (hby.mono D.size));refine (aNum_calls' lo _ (by omega) (by omega)).mono ?_;rintro e w1 ⟨x,rfl,hx,G⟩;refine ⟨_,rfl,G,?_⟩;replace D:=hid (I.trans (G.mono I.size));clear G hby I;have W:¬ 9223372036854775807 < nm.size+9+x.size:=by omega
       have n3:¬ 9223372036854775807 < nm.size+9+x.size+2:=by omega
       go_simp
       repeat (quiet_step (fail))
       refine wpQuiet_nil ?_;refine ⟨rfl,λ wy hby=> ?_⟩;go_simp;simp only [uponV];have I:=hid (D.trans (hby.mono D.size));refine (aNum_calls' hi _ (by omega) (by omega)).mono ?_;rintro e w2 ⟨y,rfl,hy,G⟩;refine ⟨_,rfl,G,?_⟩;replace D:=hid (I.trans (G.mono I.size));clear G hby I;have n4:¬ 9223372036854775807 < nm.size+9+x.size+2+y.size:=by omega
       have n5:¬ 9223372036854775807 < nm.size+9+x.size+2+y.size+1:=by omega
       go_simp
       repeat (quiet_step (fail))
       refine wpQuiet_nil ?_;intro wz M;replace D:=hid (D.trans (M.mono D.size));clear M;simp only [wpList];go_wp2;go_meet;exact ⟨_,rfl,(by simp only [ByteArray.size_append];show _+9+_+2+_+1<=_;omega),O.trans (D.mono (by have:=O.size;simp at this;omega))⟩
    clear O aj e0 e1 e2 e3 e4 e5 u1;obtain ⟨x6,rfl,aj,O⟩:=hcut;obtain ⟨u1,u2,-⟩:=ac.below O (lt_succ_self _);have e0:=u2 0;have e1:=u2 1;have e2:=u2 2;have e3:=u2 3;have e4:=u2 4;have e5:=u2 5;simp only [q2a] at e0 e1 e2 e3 e4 e5;clear u2;clear e0 e1 e2 e3 e4 u1;have F:=hid (K.trans ((ah.trans (O.mono (le_succ _))).mono (by have:=K.size;simp at this;omega)));have ab:=hid (HB.below (ah.trans (O.mono (le_succ _))));cases nn with
    | true=>
     go_wp2_with (at_builtin;go_loud (refine wpList_pushS rfl _ _ rfl rfl ab.out rfl ?c0 ?c1 ?_))
     case c0=> have:=C.out;omega
     case c1=> have:=F.size;simp at this;omega
     intro v' w' V H;have U:=hid (F.trans H);clear H;go_wp2;go_roundw
     case rel=> exact ⟨k+1,_,by omega,by go_num,(by show _=_;rw [length_append,C.out];rfl),all_snoc Hm (by simp only [ByteArray.size_append];show _+9<=_;omega),V,U⟩
     case measure=> simp [intOf];omega
    | false=>
     go_wp2_with (at_builtin;go_loud (refine wpList_pushS rfl _ _ rfl rfl ab.out rfl ?c0 ?c1 ?_))
     case c0=> have:=C.out;omega
     case c1=> have:=F.size;simp at this;omega
     intro v' w' V H;have U:=hid (F.trans H);clear H;go_wp2;go_roundw
     case rel=> exact ⟨k+1,_,by omega,by go_num,(by show _=_;rw [length_append,C.out];rfl),all_snoc Hm (by omega),V,U⟩
     case measure=> simp [intOf];omega
  . obtain rfl:L=k:=by omega
    go_wp2;clear c0 c1 c2 c3 v1;go_loopw [3,7] (λ v z wr=> ∃(k:Nat) (ss:List ByteArray),k<=W/\z=qi k/\Hid (ss.length=L+k)/\Hid (∀x∈ss,x.size<=100000000)/\Hid (Bl 9 1 NmE (w.heap.size+1) (λ _=> False) wr ss v)/\Hid (Below (w.heap.size+1) (w.alloc (.cells #[qs a1 L k1,qs a2 W k2,qs a3 n3 k3,qs a4 n4 k4] 29)) wr)) (λ _ z _=> W - (intOf z).toNat)
    case atStart=> exact ⟨0,ss,zero_le _,rfl,C,Hm,HB,K⟩
    case round=>
     obtain ⟨k,ss,hk,rfl,C,Hm,HB,K⟩:=hrel
     rename_i v _
     have T:=hid ((ai.out _).trans (K.mono (le_succ _)));obtain ⟨v1,J,-⟩:=Hv.below K (lt_succ_self _);have c0:=J 0;have c1:=J 1;have c2:=J 2;have c3:=J 3;simp only [q2a] at c0 c1 c2 c3;clear J;by_cases hlt:k < W
     . have A:k < d.keys.length:=by rw [aB.out];exact hlt
       have aa:=HD.keys.mono (LlE.mono NmE.mono) T;obtain ⟨b,o,a5,k5,rfl,aq,e0,hx⟩:=LlAt.cell aa k A;have HY:=hid (HZ.keys _ (getElem_mem A));generalize d.keys[k]=y at *;have HC:=hid (aComma_calls y _ _ _ hx (by have:=HY.out;omega));clear aa A hx;go_wp2_with fail;refine HC.mono ?_;rintro e w1 ⟨x,rfl,hx,G⟩;have ay:x.size<=50000000:=by have:=HY.out;omega
       have ab:=hid (HB.below G);have F:=hid (K.trans (G.mono (by have:=K.size;simp at this;omega)));clear G hx e0 c0 c1 c2 c3 v1;go_wp2_with (at_builtin;go_loud (refine wpList_pushS rfl _ _ rfl rfl ab.out rfl ?c0 ?c1 ?_))
       case c0=> have:=C.out;omega
       case c1=> have:=F.size;simp at this;omega
       intro v' w' V H;have U:=hid (F.trans H);clear H;go_wp2;go_roundw
       case rel=> exact ⟨k+1,_,by omega,by go_num,(by show _=_;rw [length_append,C.out];rfl),all_snoc Hm (by simp only [ByteArray.size_append];show 8+_+1<=_;omega),V,U⟩
       case measure=> simp [intOf];omega
     . obtain rfl:W=k:=by omega
       go_wp2;clear c0 c1 c2 c3 v1;go_loopw [3,8] (λ v z wr=> ∃(k:Nat) (ss:List ByteArray),k<=n3/\z=qi k/\Hid (ss.length=L+W+k)/\Hid (∀x∈ss,x.size<=100000000)/\Hid (Bl 9 1 NmE (w.heap.size+1) (λ _=> False) wr ss v)/\Hid (Below (w.heap.size+1) (w.alloc (.cells #[qs a1 L k1,qs a2 W k2,qs a3 n3 k3,qs a4 n4 k4] 29)) wr)) (λ _ z _=> n3 - (intOf z).toNat)
       case atStart=> exact ⟨0,ss,zero_le _,rfl,C,Hm,HB,K⟩
       case round=>
        obtain ⟨k,ss,hk,rfl,C,Hm,HB,K⟩:=hrel
        rename_i v _
        have T:=hid ((ai.out _).trans (K.mono (le_succ _)));obtain ⟨v1,J,-⟩:=Hv.below K (lt_succ_self _);have c0:=J 0;have c1:=J 1;have c2:=J 2;have c3:=J 3;simp only [q2a] at c0 c1 c2 c3;clear J;by_cases hlt:k < n3
        . have A:k < d.fks.length:=by rw [aA.out];exact hlt
          have aa:=HD.fks.mono RfE.mono T;obtain ⟨b,o,a5,k5,a6,k6,rfl,aq,g0,g1,g2,hx,hy⟩:=RfAt.cell aa k A;have HY:=hid (HZ.fks _ (getElem_mem A));generalize d.fks[k]=y at *;obtain ⟨yc,yt,yg⟩:=y;simp only at g0 g1 g2 hx hy HY;clear aa A;obtain ⟨aH,aG,aF⟩:=HY.out;obtain ⟨m5,ap⟩:=gx yc.length
          obtain ⟨m6,ao⟩:=gx yg.length
          have HC:=hid λ w h=> aComma_calls yc a5 k5 w h (by omega);have HG:=hid λ w h=> aComma_calls yg a6 k6 w h (by omega);have au:=hid hx;have ar:=hid hy;rw [ap] at g0 HC au;rw [ao] at g2 HG ar;clear hx hy ap ao;go_upto_region 20 with (fail)
          have ac:=hid (VarIs.new wr #[qs a5 m5 k5,qt yt,qs a6 m6 k6] 129);have ah:=hid ((Below.refl wr.heap.size wr).alloc lr (.cells #[qs a5 m5 k5,qt yt,qs a6 m6 k6] 129));have e0:=ac.a0;have e1:=ac.a1;have e2:=ac.a2;refine wp_region_segs [([0,1,2,6,7,10,11],3),([4,5,8,9],12),([13,14],15)] [] [16,17] (by kernel_rfl) (by kernel_rfl) ?_;simp only [q2c,wpSegs];have an:=cell_regrown (w:=(wr.alloc (.cells #[qs a5 m5 k5,qt yt,qs a6 m6 k6] 129)).drew) e0;have am:=cell_regrown (w:=(wr.alloc (.cells #[qs a5 m5 k5,qt yt,qs a6 m6 k6] 129)).drew) e1;have al:=cell_regrown (w:=(wr.alloc (.cells #[qs a5 m5 k5,qt yt,qs a6 m6 k6] 129)).drew) e2;clear e0 e1 e2;have D:Hid (Below (wr.alloc (.cells #[qs a5 m5 k5,qt yt,qs a6 m6 k6] 129)).heap.size (wr.alloc (.cells #[qs a5 m5 k5,qt yt,qs a6 m6 k6] 129)) (wr.alloc (.cells #[qs a5 m5 k5,qt yt,qs a6 m6 k6] 129)).drew):=zi.drew
          repeat (quiet_step (fail))
          replace D:Hid (Below wr.heap.size wr (wr.alloc (.cells #[qs a5 m5 k5,qt yt,qs a6 m6 k6] 129)).drew):=ah.drew;refine wpQuiet_nil ?_;refine ⟨rfl,λ wy hby=> ?_⟩;go_simp;simp only [uponV];have I:=hid (D.trans (hby.mono D.size));refine (HC.out _ (au.mono NmE.mono I)).mono ?_;rintro e w1 ⟨x,rfl,hx,G⟩;refine ⟨_,rfl,G,?_⟩;replace D:=hid (I.trans (G.mono I.size));clear G hby I;have L:¬ 9223372036854775807 < 13+x.size:=by omega
          have W:¬ 9223372036854775807 < 13+x.size+13:=by omega
          have n3:¬ 9223372036854775807 < 13+x.size+13+yt.size:=by omega
          have n4:¬ 9223372036854775807 < 13+x.size+13+yt.size+2:=by omega
          go_simp
          repeat (quiet_step (fail))
          refine wpQuiet_nil ?_;refine ⟨rfl,λ wy hby=> ?_⟩;go_simp;simp only [uponV];have I:=hid (D.trans (hby.mono D.size));refine (HG.out _ (ar.mono NmE.mono I)).mono ?_;rintro e w2 ⟨y,rfl,hy,G⟩;refine ⟨_,rfl,G,?_⟩;replace D:=hid (I.trans (G.mono I.size));clear G hby I;have n5:¬ 9223372036854775807 < 13+x.size+13+yt.size+2+y.size:=by omega
          have n6:¬ 9223372036854775807 < 13+x.size+13+yt.size+2+y.size+1:=by omega
          go_simp
          repeat (quiet_step (fail))
          refine wpQuiet_nil ?_;refine ⟨rfl,λ wy hby=> ?_⟩;go_simp;have I:=hid (D.trans (hby.mono D.size));refine uponV_box λ wv HV Hbv=> ⟨Hbv,?_⟩
          replace D:=hid (I.trans (Hbv.mono I.size));clear hby I;go_simp
          repeat (quiet_step (fail))
          refine wpQuiet_nil ?_;intro wz M;replace D:=hid (D.trans (M.mono D.size));replace HV:=hid (HV.below M HV.lt);clear M;have ab:=hid (HB.below D);have F:=hid (K.trans (D.mono (by have:=K.size;simp at this;omega)));go_wp2_with (at_builtin;go_loud (refine wpList_pushT rfl _ _ rfl rfl ab.out rfl HV.out ?c0 ?c1 ?_))
          case c0=> have:=C.out;omega
          case c1=> have:=F.size;simp at this;omega
          intro v' w' V H;have U:=hid (F.trans H);clear H;go_wp2;go_roundw
          case rel=> exact ⟨k+1,_,by omega,by go_num,(by show _=_;rw [length_append,C.out];rfl),all_snoc Hm (by simp only [ByteArray.size_append];show 13+_+13+_+2+_+1<=_;omega),V,U⟩
          case measure=> simp [intOf];omega
        . obtain rfl:n3=k:=by omega
          go_wp2;clear c0 c1 c2 c3 v1;go_loopw [3,10] (λ v z wr=> ∃(k:Nat) (ss:List ByteArray),k<=n4/\z=qi k/\Hid (ss.length=L+W+n3+k)/\Hid (∀x∈ss,x.size<=100000000)/\Hid (Bl 9 1 NmE (w.heap.size+1) (λ _=> False) wr ss v)/\Hid (Below (w.heap.size+1) (w.alloc (.cells #[qs a1 L k1,qs a2 W k2,qs a3 n3 k3,qs a4 n4 k4] 29)) wr)) (λ _ z _=> n4 - (intOf z).toNat)
          case atStart=> exact ⟨0,ss,zero_le _,rfl,C,Hm,HB,K⟩
          case round=>
           obtain ⟨k,ss,hk,rfl,C,Hm,HB,K⟩:=hrel
           rename_i v _
           have T:=hid ((ai.out _).trans (K.mono (le_succ _)));obtain ⟨v1,J,-⟩:=Hv.below K (lt_succ_self _);have c0:=J 0;have c1:=J 1;have c2:=J 2;have c3:=J 3;simp only [q2a] at c0 c1 c2 c3;clear J;by_cases hlt:k < n4
           . have A:k < d.checks.length:=by rw [az.out];exact hlt
             obtain ⟨b,o,rfl⟩:=HD.checks.addr A;obtain ⟨s',ak,d0,d1,d2,d3,d4,d5,d6,d7⟩:=(HD.checks.mono T).cell k A;obtain ⟨sa,sn,sc,rfl,-,-⟩:=ak.shape;have HY:=hid (HZ.checks _ (getElem_mem A));have HE:=hid (aD.out _ (getElem_mem A));generalize d.checks[k]=E' at *;have HP:=hid (aPrint_calls _ E' lr HE (by have:=HY.out;omega) 1 sa sn sc _ ak);clear ak A;go_wp2_with fail;refine HP.mono ?_;rintro e w1 ⟨x,rfl,hx,G⟩;have ay:x.size<=60000000:=by have:=HY.out;omega
             have ab:=hid (HB.below G);have F:=hid (K.trans (G.mono (by have:=K.size;simp at this;omega)));clear G hx d0 d1 d2 d3 d4 d5 d6 d7 c0 c1 c2 c3 v1;go_wp2_with (at_builtin;go_loud (refine wpList_pushS rfl _ _ rfl rfl ab.out rfl ?c0 ?c1 ?_))
             case c0=> have:=C.out;omega
             case c1=> have:=F.size;simp at this;omega
             intro v' w' V H;have U:=hid (F.trans H);clear H;go_wp2;go_roundw
             case rel=> exact ⟨k+1,_,by omega,by go_num,(by show _=_;rw [length_append,C.out];rfl),all_snoc Hm (by simp only [ByteArray.size_append];show 7+_+1<=_;omega),V,U⟩
             case measure=> simp [intOf];omega
           . obtain rfl:n4=k:=by omega
             have HS:=hid (HB.at (by have:=C.out;omega));obtain ⟨va,vc,rfl⟩:=HB.shape;have hq:nmB ss<=bigS:=by unfold bigS;have h1:=nmB_unif ss _ Hm;have h2:=Nat.mul_le_mul_right (100000000+2) (show ss.length<=8000000 by have:=C.out;omega);omega
             have HC:=hid (aComma_calls ss va vc _ HS (by unfold bigS at hq;omega));have HQ:=hid hq;clear hq;go_wp2_with fail;refine HC.mono ?_;rintro e w1 ⟨x,rfl,hx,G⟩;have HX:=hid (le_trans hx HQ);have F:=hid (T.trans (G.mono T.size));clear G hx;go_wp2;go_ret;exact ⟨_,rfl,HX,F⟩
end
section
open Go.Sort
structure SttZ (s:Stt):Prop where
 create:DfZ s.create
 values:s.values.length<=2000000/\∀x∈s.values,Ex.bulkL x<=2000000/\x.length<=2000000
 sets:s.sets.length<=2000000/\∀x∈s.sets,x.e.bulk<=2000000
 items:s.items.length<=2000000/\∀x∈s.items,x.e.bulk<=2000000
 src:s.src.length<=2000000/\∀x∈s.src,x.table.size<=2000000/\x.alias.size<=2000000
 cond:s.cond.bulk<=2000000
 group:Ex.bulkL s.group<=2000000
 groupLen:s.group.length<=2000000
 order:s.order.length<=2000000
theorem made2 {α:Type} {t:TypeId} {sz:Nat} {E:World->α->List Value->Prop} {B:Nat} {X:Nat->Prop} {w:World} (o o':Obj) (hB:B<=w.heap.size+2):Bl t sz E B X (((w.alloc o).alloc o').alloc (.cells #[] t)) [] (qs (some ⟨w.heap.size+2,0,none⟩) 0 0):=by
 have:=Bl.made (t:=t) (sz:=sz) (E:=E) (X:=X) (w:=(w.alloc o).alloc o') (B:=B) (by simpa using hB);simpa using this
theorem Bl.keepS {B:Nat} {w w':World} {ss:List ByteArray} {u:Value} {r:Option Nat} (h:Bl 9 1 NmE B (λ _=> False) w ss u) (hg:w.grownBy w' r) (hu:∀k,u.ownBlock=some k->r≠some k):Bl 9 1 NmE B (λ _=> False) w' ss u:=by
 obtain ⟨cs,h1,o⟩:=h;refine ⟨cs,h1.kept hg ?_,λ i hi=> λ w'' _=> (o i hi).here⟩;cases hv:u.ownBlock with
 | none=> exact .inl rfl
 | some k=> exact .inr λ e=> hu k hv (e.symm.trans rfl)
theorem wpList_pushU {ops:Array Oper} {rest:List Oper} {o:Oper} {a:Act} {Q:Exit->Act->World->Prop} {w:World} (hgd:o.guard=none) (s x:Operand) (ho:o.op=.call { callee:=.builtin .append,args:=#[s,x],argTypes:=#[127,127] })
 {B:Nat} {ss:List ByteArray} {v:Value} (hs:a.eval s=v) (h1:Bl 9 1 NmE B (λ _=> False) w ss v) {y:ByteArray} (hx:a.eval x=qs (some ⟨w.heap.size,0,none⟩) 1 1) (hlen:ss.length<=1000000000) (hB:B<=w.heap.size)
 (h:∀v' w',Hid (Bl 9 1 NmE B (λ _=> False) w' (ss++[y]) v')->Hid (Below B w w')->Hid (w.grownBy w' v.ownBlock)->Hid (∀k,v'.ownBlock=some k->v.ownBlock=some k\/w.heap.size<=k)->wpList Tryz.prog ops Q rest (a.put o.dst v') w'):wpList Tryz.prog ops Q (o::rest) a (w.alloc (.cells #[qt y] 9)):=by
 obtain ⟨F,D,C,A,q⟩:=info_parts Tryz.info9';exact wpList_push hgd s x 127 ho F (qt ⟨#[]⟩) 16 Tryz.underlying127 D C A q rfl (by decide) (by decide) hs h1 y [qt y] 9 hx rfl (one_str y) (Ind.triv λ _=> rfl) hlen hB (λ _ h=> h.elim) h
theorem aWhere_calls (s:Stt) (v:StV) (w:World) (h:SttAt w s v) (W:s.cond.op=0\/Fm s.cond) (hz:s.cond.bulk<=2000000):Calls Tryz.prog 116 #[.agg (s.cells v).toArray] w (SizeS 100000000 w):=by
 obtain ⟨a1,n1,k1,a2,n2,k2,a3,n3,k3,a4,n4,k4,a5,n5,k5,a6,n6,k6,a7,n7,k7,a8,n8,k8,a9,n9,k9,a10,U,C,a11,T,A,rfl,h1,m1,h2,m2,h3,m3,h4,m4,h5,m5,h6,m6,h7,m7,h8,m8,h9,m9,ab,aq,aa,ap⟩:=h.shapes;have ao:=hid h1;have an:=hid h2;have am:=hid h3;have al:=hid h4;have ak:=hid h5;have aj:=hid h6;have ai:=hid h7;have ah:=hid h8;have ac:=hid h9;have ae:=hid ab;have ad:=hid aa;clear h1 h2 h3 h4 h5 h6 h7 h8 h9 ab aa;have HF:=hid W;have HZ:=hid hz;have HD:Hid (SttAt w s ⟨qs a1 s.create.cols.length k1,qs a2 s.create.keys.length k2,qs a3 s.create.fks.length k3,qs a4 s.create.checks.length k4,qs a5 s.values.length k5,qs a6 s.sets.length k6,qs a7 s.items.length k7,qs a8 s.src.length k8,qs a9 s.cond.args.length k9,qs a10 s.group.length C,qs a11 s.order.length A⟩):=by show SttAt _ _ _;rw [ao.out,an.out,am.out,al.out,ak.out,aj.out,ai.out,ah.out,ac.out,ae.out,ad.out];exact h
 clear h W hz;simp only [Stt.cells,Ex.cells,cons_append,nil_append];obtain ⟨V,hl⟩:=gx s.limit
 have HL:=hid hl;obtain ⟨kd,O⟩:=gx s.kind
 obtain ⟨tb,L⟩:=gx s.table
 obtain ⟨wo,H⟩:=gx s.cond.op
 obtain ⟨wt,G⟩:=gx s.cond.table
 obtain ⟨wn,I⟩:=gx s.cond.name
 obtain ⟨wi,K⟩:=gx s.cond.index
 obtain ⟨wk,J⟩:=gx s.cond.v.kind
 obtain ⟨wv,F⟩:=gx s.cond.v.int
 obtain ⟨wx,D⟩:=gx s.cond.v.text
 obtain ⟨nm,M⟩:=gx s.name
 rw [O,L,H,G,I,K,J,F,D,M,hl];have HK:=hid O;have au:=hid L;have av:=hid M;have q:=hid (And.intro H (And.intro G (And.intro I (And.intro K (And.intro J (And.intro F D))))));clear O L H G I K J F D M hl;have Hv:=hid (VarIs.new w (q1a kd tb a1 n1 k1 a2 n2 k2 a3 n3 k3 a4 n4 k4 a5 n5 k5 a6 n6 k6 a7 n7 k7 a8 n8 k8 wo wt wn wi wk wv wx a9 n9 k9 a10 U C a11 T A V nm) 40);have ag:Hid (∀o,Below w.heap.size w (w.alloc o)):=λ o=> zi.alloc lr o;go_enter Tryz.func116,Tryz.ntmps116;have HB:=hid (ag.out (.cells (q1a kd tb a1 n1 k1 a2 n2 k2 a3 n3 k3 a4 n4 k4 a5 n5 k5 a6 n6 k6 a7 n7 k7 a8 n8 k8 wo wt wn wi wk wv wx a9 n9 k9 a10 U C a11 T A V nm) 40));by_cases h0:wo=0
 . subst h0
   go_wp2;go_ret;exact ⟨_,rfl,zero_le _,HB⟩
 . have W:Fm s.cond:=by
    rcases HF.out with h | h
    . exact absurd (q.1.symm.trans h) h0
    . exact h
   have HP:=hid λ w h=> aPrint_calls _ s.cond lr W (by have:=HZ.out;omega) 1 a9 n9 k9 w h;rw [q.1,q.2.1,q.2.2.1,q.2.2.2.1,q.2.2.2.2.1,q.2.2.2.2.2.1,q.2.2.2.2.2.2] at HP;have HX:=hid (HD.cond.mono HB);simp only [ac.out] at HX;clear W;go_wp2_with fail;refine (HP.out _ HX).mono ?_;rintro e w1 ⟨x,rfl,hx,hb⟩;have ar:x.size<=60000000:=by have:=HZ.out;omega
   have af:=hid (HB.trans (hb.mono HB.size));clear hb hx;go_wp2;go_ret;exact ⟨_,rfl,(by rw [ByteArray.size_append];show 7+_<=_;omega),af⟩
theorem aSel_calls (s:Stt) (v:StV) (w:World) (h:SttAt w s v) (hF:SelF s) (hF5:s.cond.op=0\/Fm s.cond) (hz:SttZ s):Calls Tryz.prog 117 #[.agg (s.cells v).toArray] w (SizeS 5000000000000000 w):=by
 obtain ⟨a1,n1,k1,a2,n2,k2,a3,n3,k3,a4,n4,k4,a5,n5,k5,a6,n6,k6,a7,n7,k7,a8,n8,k8,a9,n9,k9,a10,T,I,a11,D,U,rfl,h1,m1,h2,m2,h3,m3,h4,m4,h5,m5,h6,m6,h7,m7,h8,m8,h9,m9,aU,bA,aT,bz⟩:=h.shapes;have bd:=hid h1;have bc:=hid h2;have bb:=hid h3;have ba:=hid h4;have aZ:=hid h5;have aY:=hid h6;have ar:=hid h7;have aq:=hid h8;have aX:=hid h9;have ad:=hid aU;have ac:=hid aT;clear h1 h2 h3 h4 h5 h6 h7 h8 h9 aU aT;have HF:=hid hF;have bt:=hid hF5;have HZ:=hid hz;have HD:Hid (SttAt w s ⟨qs a1 s.create.cols.length k1,qs a2 s.create.keys.length k2,qs a3 s.create.fks.length k3,qs a4 s.create.checks.length k4,qs a5 s.values.length k5,qs a6 s.sets.length k6,qs a7 s.items.length k7,qs a8 s.src.length k8,qs a9 s.cond.args.length k9,qs a10 s.group.length I,qs a11 s.order.length U⟩):=by show SttAt _ _ _;rw [bd.out,bc.out,bb.out,ba.out,aZ.out,aY.out,ar.out,aq.out,aX.out,ad.out,ac.out];exact h
 clear h hF hF5 hz;simp only [Stt.cells,Ex.cells,cons_append,nil_append];obtain ⟨ah,hl⟩:=gx s.limit
 have HL:=hid hl;obtain ⟨kd,aH⟩:=gx s.kind
 obtain ⟨tb,aF⟩:=gx s.table
 obtain ⟨wo,aB⟩:=gx s.cond.op
 obtain ⟨wt,aA⟩:=gx s.cond.table
 obtain ⟨wn,aC⟩:=gx s.cond.name
 obtain ⟨wi,aE⟩:=gx s.cond.index
 obtain ⟨wk,aD⟩:=gx s.cond.v.kind
 obtain ⟨wv,az⟩:=gx s.cond.v.int
 obtain ⟨wx,ay⟩:=gx s.cond.v.text
 obtain ⟨nm,aG⟩:=gx s.name
 rw [aH,aF,aB,aA,aC,aE,aD,az,ay,aG,hl];have HK:=hid aH;have bp:=hid aF;have bs:=hid aG;have HC:=hid (And.intro aB (And.intro aA (And.intro aC (And.intro aE (And.intro aD (And.intro az ay))))));clear aH aF aB aA aC aE aD az ay aG hl;have Hv:=hid (VarIs.new w (q1a kd tb a1 n1 k1 a2 n2 k2 a3 n3 k3 a4 n4 k4 a5 n5 k5 a6 n6 k6 a7 n7 k7 a8 n8 k8 wo wt wn wi wk wv wx a9 n9 k9 a10 T I a11 D U ah nm) 40);have ap:Hid (∀o,Below w.heap.size w (w.alloc o)):=λ o=> zi.alloc lr o;go_enter Tryz.func117,Tryz.ntmps117;have bx:n8<=2000000:=aq.out ▸ HZ.src.1;have bw:D<=2000000:=ac.out ▸ HZ.order;go_wp2;go_loopw [3,5] (λ v z wr=> ∃(k:Nat) (ss:List ByteArray),k<=n8/\z=qi k/\Hid (ss.length=k)/\Hid (∀x∈ss,x.size<=100000000)/\Hid (Bl 9 1 NmE (w.heap.size+1) (λ _=> False) wr ss v)/\Hid (Bl 9 1 NmE (w.heap.size+1) (λ _=> False) wr [] (qs (some ⟨w.heap.size+2,0,none⟩) 0 0))/\Hid (v.ownBlock≠some (w.heap.size+2))/\Hid (w.heap.size+2 < wr.heap.size)/\Hid (Below (w.heap.size+1) (w.alloc (.cells (q1a kd tb a1 n1 k1 a2 n2 k2 a3 n3 k3 a4 n4 k4 a5 n5 k5 a6 n6 k6 a7 n7 k7 a8 n8 k8 wo wt wn wi wk wv wx a9 n9 k9 a10 T I a11 D U ah nm) 40)) wr)) (λ _ z _=> n8 - (intOf z).toNat)
 case atStart=> exact ⟨0,[],zero_le _,rfl,rfl,(λ x h=> by cases h),(Bl.made1 _ lr).below (zi.alloc lr _),made2 _ _ (le_succ _),(by show (some (w.heap.size+1):Option Nat)≠some (w.heap.size+2);simp),(by show _ < _;simp),(zi.alloc (by simp) _).alloc (by simp) _⟩
 case round=>
  obtain ⟨k,ss,W,rfl,ao,Hm,HB,HO,H,aI,Hb⟩:=hrel;have ag:=hid ((ap.out _).trans (Hb.mono (le_succ _)));obtain ⟨v1,G,-⟩:=Hv.below Hb (lt_succ_self _);have c9:=G 9;have K:=G 19;simp only [q2a] at c9 K;clear G;by_cases hlt:k < n8
  . have V:k < s.src.length:=by rw [aq.out];exact hlt
    have ai:=HD.src.mono SrE.mono ag;obtain ⟨b,o,rfl,aS,d0,d1⟩:=SrAt.cell ai k V;have HY:=hid (HZ.src.2 _ (getElem_mem V));generalize s.src[k]=y at *;obtain ⟨yt,ya⟩:=y;simp only at d0 d1 HY;obtain ⟨bl,bk⟩:=HY.out;clear ai V;go_upto_region 6 with (fail)
    go_cut [31] from 25 to 31 (λ z wx=> ∃q:Bool,z=.bool q/\wr=wx)
    case first=> go_wp2 <;> (go_meet;exact ⟨_,rfl,rfl⟩)
    obtain ⟨q,rfl,rfl⟩:=hcut;go_step;go_cut [6] from 32 to 40 (λ z wx=> ∃x:ByteArray,z=qt x/\x.size<=5000000/\wr=wx)
    case first=>
     cases q with
     | true=>
      go_wp2;go_meet;exact ⟨_,rfl,(by simp only [ByteArray.size_append];show _+(4+_)<=_;omega),rfl⟩
     | false=>
      go_wp2;go_meet;exact ⟨_,rfl,(by omega),rfl⟩
    obtain ⟨x6,rfl,bC,rfl⟩:=hcut;go_wp2_with (at_builtin;go_loud (refine wpList_pushU rfl _ _ rfl rfl HB.out rfl ?c0 ?c1 ?_))
    case c0=> have:=ao.out;omega
    case c1=> have:=Hb.size;simp at this;omega
    intro v' w' an J hg hd;have ak:=hid (Hb.trans J);have br:=hid (HO.keepS hg (λ k W=> by cases W;exact H));have aj:Hid (v'.ownBlock≠some (w.heap.size+2)):=λ e=> by
     rcases hd.out _ e with h | h
     . exact H.out h
     . have:=aI.out
       omega
    have aV:=hid (lt_of_lt_of_le aI hg.size);clear J hg hd d0 d1;go_wp2;go_roundw
    case rel=> exact ⟨k+1,_,by omega,by go_num,(by show _=_;rw [length_append,ao.out];rfl),all_snoc Hm (by omega),an,br,aj,aV,ak⟩
    case measure=> simp [intOf];omega
  . obtain rfl:n8=k:=by omega
    go_wp2;clear c9 K v1;go_loopw [4,7] (λ u z wr=> ∃(k:Nat) (so:List ByteArray),k<=D/\z=qi k/\Hid (so.length=k)/\Hid (∀x∈so,x.size<=100000000)/\Hid (Bl 9 1 NmE (w.heap.size+1) (λ _=> False) wr so u)/\Hid (Bl 9 1 NmE (w.heap.size+1) (λ _=> False) wr ss u3)/\Hid (∀k,u3.ownBlock=some k->u.ownBlock≠some k)/\Hid (Below (w.heap.size+1) (w.alloc (.cells (q1a kd tb a1 n1 k1 a2 n2 k2 a3 n3 k3 a4 n4 k4 a5 n5 k5 a6 n6 k6 a7 n7 k7 a8 n8 k8 wo wt wn wi wk wv wx a9 n9 k9 a10 T I a11 D U ah nm) 40)) wr)) (λ _ z _=> D - (intOf z).toNat)
    case atStart=> exact ⟨0,[],zero_le _,rfl,rfl,(λ x h=> by cases h),HO,HB,(λ k W e=> by cases e;exact H.out W),Hb⟩
    case round=>
     clear HO HB H aI Hb ag;obtain ⟨k,so,W,rfl,af,aJ,HO,HB,H,Hb⟩:=hrel;have ag:=hid ((ap.out _).trans (Hb.mono (le_succ _)));obtain ⟨v1,G,-⟩:=Hv.below Hb (lt_succ_self _);have c8:=G 8;have ab:=G 18;have K:=G 19;have aa:=G 20;simp only [q2a] at c8 ab K aa;clear G;by_cases hlt:k < D
     . have V:k < s.order.length:=by rw [ac.out];exact hlt
       have ai:=HD.order.mono OrE.mono ag;obtain ⟨b,o,rfl,aS,d0,d1⟩:=OrAt.cell ai k V;have HY:=hid (HF.2.2.1 _ (getElem_mem V));generalize s.order[k]=y at *;obtain ⟨yi,yd⟩:=y;simp only at d0 d1;obtain ⟨bl,bk⟩:1<=yi/\yi<=2147483648:=HY.out;clear ai V;go_wp2_with fail;refine (aNum_calls' yi _ (by omega) (by omega)).mono ?_;rintro e w1 ⟨x,rfl,hx,C⟩;have F:=hid (Hb.trans (C.mono (by have:=Hb.size;simp at this;omega)));have aW:=hid (HO.below C);have au:=hid (HB.below C);replace d1:=(C.cell (p:=⟨b,o+k * 2+1,none⟩) aS).trans d1;clear C d0 c8 ab K aa v1;obtain ⟨v1,G,-⟩:=Hv.below F (lt_succ_self _);have K:=G 19;simp only [q2a] at K;clear G;cases yd with
       | true=>
        go_wp2_with (at_builtin;go_loud (refine wpList_pushU rfl _ _ rfl rfl aW.out rfl ?c0 ?c1 ?_))
        case c0=> have:=af.out;omega
        case c1=> have:=F.size;simp at this;omega
        intro v' w' an J hg hd;have ak:=hid (F.trans J);have aK:=hid (au.keepS hg (λ k W=> H.out k W));have aj:Hid (∀k,u3.ownBlock=some k->v'.ownBlock≠some k):=λ k W e=> by
         rcases hd.out _ e with h | h
         . exact H.out k W h
         . have:=(au.ge k W).2
           omega
        clear J hg hd d1;go_wp2;go_roundw
        case rel=> exact ⟨k+1,_,by omega,by go_num,(by show _=_;rw [length_append,af.out];rfl),all_snoc aJ (by simp only [ByteArray.size_append];show _+5<=_;omega),an,aK,aj,ak⟩
        case measure=> simp [intOf];omega
       | false=>
        go_wp2_with (at_builtin;go_loud (refine wpList_pushU rfl _ _ rfl rfl aW.out rfl ?c0 ?c1 ?_))
        case c0=> have:=af.out;omega
        case c1=> have:=F.size;simp at this;omega
        intro v' w' an J hg hd;have ak:=hid (F.trans J);have aK:=hid (au.keepS hg (λ k W=> H.out k W));have aj:Hid (∀k,u3.ownBlock=some k->v'.ownBlock≠some k):=λ k W e=> by
         rcases hd.out _ e with h | h
         . exact H.out k W h
         . have:=(au.ge k W).2
           omega
        clear J hg hd d1;go_wp2;go_roundw
        case rel=> exact ⟨k+1,_,by omega,by go_num,(by show _=_;rw [length_append,af.out];rfl),all_snoc aJ (by omega),an,aK,aj,ak⟩
        case measure=> simp [intOf];omega
     . obtain rfl:D=k:=by omega
       go_upto_region 16 with (fail)
       clear c8 ab K aa v1;have am:nmB ss<=bigS:=by unfold bigS;have h1:=nmB_unif ss _ Hm;have h2:=Nat.mul_le_mul_right (100000000+2) (show ss.length<=2000000 by have:=ao.out;omega);omega
       obtain ⟨va,vc,rfl⟩:=HB.shape;have bv:=hid λ w h=> (aComma_calls ss va vc w h (by unfold bigS at am;omega))
       have bi:=hid (HB.at (by have:=ao.out;omega));have bj:=hid am;clear am;have al:nmB so<=bigS:=by unfold bigS;have h1:=nmB_unif so _ aJ;have h2:=Nat.mul_le_mul_right (100000000+2) (show so.length<=2000000 by have:=af.out;omega);omega
       obtain ⟨ua,uc,rfl⟩:=HO.shape;have bu:=hid λ w h=> (aComma_calls so ua uc w h (by unfold bigS at al;omega))
       have bg:=hid (HO.at (by have:=af.out;omega));have bh:=hid al;clear al;have av:bigS=1000000000000000:=rfl;have aL:=hid av;clear av;obtain ⟨v1,G,-⟩:=Hv.below Hb (lt_succ_self _);have c8:=G 8;simp only [q2a] at c8;clear G;have bq:Hid (SttAt wr s ⟨qs a1 n1 k1,qs a2 n2 k2,qs a3 n3 k3,qs a4 n4 k4,qs a5 n5 k5,qs a6 n6 k6,qs a7 n7 k7,qs a8 n8 k8,qs a9 n9 k9,qs a10 T I,qs a11 D U⟩):=by have:=HD.mono ag;rw [bd.out,bc.out,bb.out,ba.out,aZ.out,aY.out,ar.out,aq.out,aX.out,ad.out,ac.out] at this;exact this
       have bo:Hid (∀w',SttAt w' s ⟨qs a1 n1 k1,qs a2 n2 k2,qs a3 n3 k3,qs a4 n4 k4,qs a5 n5 k5,qs a6 n6 k6,qs a7 n7 k7,qs a8 n8 k8,qs a9 n9 k9,qs a10 T I,qs a11 D U⟩->Calls Tryz.prog 116 #[.agg (q1a kd tb a1 n1 k1 a2 n2 k2 a3 n3 k3 a4 n4 k4 a5 n5 k5 a6 n6 k6 a7 n7 k7 a8 n8 k8 wo wt wn wi wk wv wx a9 n9 k9 a10 T I a11 D U ah nm)] w' (SizeS 100000000 w')):=λ w' h=> by have:=aWhere_calls s _ w' h bt HZ.cond;simp only [Stt.cells,Ex.cells,cons_append,nil_append,HK.out,bp.out,bs.out,HL.out,HC.1,HC.2.1,HC.2.2.1,HC.2.2.2.1,HC.2.2.2.2.1,HC.2.2.2.2.2.1,HC.2.2.2.2.2.2] at this;exact this
       have be:=hid (HD.items.mono ItE.mono ag);simp only [ar.out] at be;have bf:=hid λ w h=> aItems_calls s.items a7 k7 w h HF.1 HZ.items.2 HZ.items.1;simp only [ar.out] at bf;have bn:=hid (Hv.below Hb (lt_succ_self _)).cell;refine wp_region_segs [([0,1,5,8],2),([3,4],6),([7],9)] [10,11] [] (by kernel_rfl) (by kernel_rfl) ?_;simp only [q2c,wpSegs];have bB:=cell_regrown (w:=wr.drew) c8;clear c8;have Hr:Hid (Below (wr).heap.size (wr) (wr).drew):=zi.drew
       repeat (quiet_step (fail))
       refine quiet_load_row rfl 40 _ rfl _ rfl _ bn Tryz.underlying40 rfl (by kernel_rfl) ?_;go_simp
       repeat (quiet_step (fail))
       refine wpQuiet_nil ?_;refine ⟨rfl,λ wy hby=> ?_⟩;go_simp;simp only [uponV];have Hy:=hid (Hr.trans (hby.mono Hr.size));refine (bf.out _ (be.mono ItE.mono Hy)).mono ?_;rintro e w1 ⟨x1,rfl,aQ,C⟩;refine ⟨_,rfl,C,?_⟩;replace Hr:=hid (Hy.trans (C.mono Hy.size));clear C hby Hy;have aP:x1.size<=1000000000000000:=aL.out ▸ aQ;have n1:¬ 9223372036854775807 < 7+x1.size:=by omega
       have n2:¬ 9223372036854775807 < 7+x1.size+6:=by omega
       go_simp
       repeat (quiet_step (fail))
       refine wpQuiet_nil ?_;refine ⟨rfl,λ wy hby=> ?_⟩;go_simp;simp only [uponV];have Hy:=hid (Hr.trans (hby.mono Hr.size));refine (bv.out _ (bi.mono NmE.mono Hy)).mono ?_;rintro e w2 ⟨x2,rfl,aO,C⟩;refine ⟨_,rfl,C,?_⟩;replace Hr:=hid (Hy.trans (C.mono Hy.size));clear C hby Hy;have aN:x2.size<=1000000000000000:=aL.out ▸ le_trans aO bj;have n3:¬ 9223372036854775807 < 7+x1.size+6+x2.size:=by omega
       go_simp
       repeat (quiet_step (fail))
       refine wpQuiet_nil ?_;refine ⟨rfl,λ wy hby=> ?_⟩;go_simp;simp only [uponV];have Hy:=hid (Hr.trans (hby.mono Hr.size));refine (bo.out _ (bq.mono Hy)).mono ?_;rintro e w3 ⟨x3,rfl,bm,C⟩;refine ⟨_,rfl,C,?_⟩;replace Hr:=hid (Hy.trans (C.mono Hy.size));clear C hby Hy;have n4:¬ 9223372036854775807 < 7+x1.size+6+x2.size+x3.size:=by omega
       go_simp
       repeat (quiet_step (fail))
       refine wpQuiet_nil ?_;intro wz aR;replace Hr:=hid (Hr.trans (aR.mono Hr.size));clear aR;simp only [wpList];have A:=hid (Hb.trans (Hr.mono (by have:=Hb.size;simp at this;omega)));have M:=hid (bg.mono NmE.mono Hr);have ae:(⟨#[83,69,76,69,67,84,32]⟩++x1++⟨#[32,70,82,79,77,32]⟩++x2++x3:ByteArray).size<=2100000000000000:=by simp only [ByteArray.size_append];show 7+_+6+_+_<=_;omega
       generalize (⟨#[83,69,76,69,67,84,32]⟩++x1++⟨#[32,70,82,79,77,32]⟩++x2++x3:ByteArray)=x9 at *;clear Hr n1 n2 n3 n4 aQ aO bm aP aN;go_upto_region 17 with (fail)
       obtain ⟨v1,G,-⟩:=Hv.below A (lt_succ_self _);have ab:=G 18;simp only [q2a] at ab;clear G;go_cut [85] from 82 to 85 (λ z wy=> ∃q:Bool,z=.bool q/\wz=wy)
       case first=> go_wp2 <;> (go_meet;exact ⟨_,rfl,rfl⟩)
       obtain ⟨q,rfl,rfl⟩:=hcut;go_step;go_cut [9] from 86 to 91 (λ z wy=> ∃x:ByteArray,z=qt x/\x.size<=2200000000000000/\Hid (Below wz.heap.size wz wy))
       case first=>
        cases q with
        | false=>
         go_wp2;go_meet;exact ⟨_,rfl,(by omega),zi⟩
        | true=>
         as_aux_lemma=>
          have HG:=hid (HD.group.mono ((ap.out _).trans (A.mono (le_succ _))));simp only [ad.out] at HG;go_wp2_with fail;refine (aExprs_calls s.group a10 T I _ HG (λ e he=> (HF.2.1 e he).2) (by have:=HZ.group;omega) (by have:=ad.out;have:=HZ.groupLen;omega)).mono ?_;rintro e w1 ⟨y,rfl,hy,C⟩;have F:=hid C;have aM:y.size<=70000000:=by have:=HZ.group;omega
          clear C hy ab v1;go_wp2;go_meet;exact ⟨_,rfl,(by simp only [ByteArray.size_append];show _+(10+_)<=_;omega),F⟩
       clear ab v1 ae;obtain ⟨x9,rfl,ae,Hn⟩:=hcut
       rename World=> ax
       have O:=hid (A.trans (Hn.mono (by have:=A.size;simp at this;omega)));have L:=hid (M.mono NmE.mono Hn);clear A M Hn;have A:=O;have M:=L;clear O L;go_upto_region 19 with (fail)
       go_cut [94] from 92 to 94 (λ z wy=> ∃q:Bool,z=.bool q/\ax=wy)
       case first=> go_wp2 <;> (go_meet;exact ⟨_,rfl,rfl⟩)
       obtain ⟨q,rfl,rfl⟩:=hcut;go_step;go_cut [9] from 95 to 99 (λ z wy=> ∃x:ByteArray,z=qt x/\x.size<=3300000000000000/\Hid (Below ax.heap.size ax wy))
       case first=>
        cases q with
        | false=>
         go_wp2;go_meet;exact ⟨_,rfl,(by omega),zi⟩
        | true=>
         as_aux_lemma=>
          go_wp2_with fail;refine (bu.out _ M).mono ?_;rintro e w1 ⟨y,rfl,hy,C⟩;have F:=hid C;have aM:y.size<=1000000000000000:=aL.out ▸ le_trans hy bh;clear C hy;go_wp2;go_meet;exact ⟨_,rfl,(by simp only [ByteArray.size_append];show _+(10+_)<=_;omega),F⟩
       clear ae;obtain ⟨x9,rfl,ae,Hn⟩:=hcut
       rename World=> aw
       have O:=hid (A.trans (Hn.mono (by have:=A.size;simp at this;omega)));have L:=hid (M.mono NmE.mono Hn);clear A M Hn;have A:=O;have M:=L;clear O L;go_upto_region 21 with (fail)
       obtain ⟨v1,G,-⟩:=Hv.below A (lt_succ_self _);have aa:=G 20;simp only [q2a] at aa;clear G;go_cut [102] from 100 to 102 (λ z wy=> ∃q:Bool,z=.bool q/\aw=wy)
       case first=> go_wp2 <;> (go_meet;exact ⟨_,rfl,rfl⟩)
       obtain ⟨q,rfl,rfl⟩:=hcut;go_step;go_cut [9] from 103 to 108 (λ z wy=> ∃x:ByteArray,z=qt x/\x.size<=3400000000000000/\Hid (Below aw.heap.size aw wy))
       case first=>
        cases q with
        | false=>
         go_wp2;go_meet;exact ⟨_,rfl,(by omega),zi⟩
        | true=>
         as_aux_lemma=>
          go_wp2_with fail;refine (aNum_calls' ah _ (by have:=HF.2.2.2.2;have:=HL.out;omega) (by have:=HF.2.2.2.2;have:=HL.out;omega)).mono ?_;rintro e w1 ⟨y,rfl,hy,C⟩;have F:=hid C;have aM:y.size<=20:=hy;clear C hy aa v1;go_wp2;go_meet;exact ⟨_,rfl,(by simp only [ByteArray.size_append];show _+(7+_)<=_;omega),F⟩
       clear aa v1 ae;obtain ⟨x9,rfl,ae,Hn⟩:=hcut;have HE:=hid ((ap.out _).trans ((A.trans (Hn.mono (by have:=A.size;simp at this;omega))).mono (le_succ _)));clear Hn A M;go_wp2;go_ret;exact ⟨_,rfl,(by omega),HE⟩
end
end
end Go.Proofs.YtcomoomndgbckaaGreat
