/- Part 12 of the proof. -/
import Derived.Test.YtcomoomndgbckaaGreatY10
import Derived.Test.YtcomoomndgbckaaGreatY11
set_option maxHeartbeats 16000000
set_option maxRecDepth 100000
open Go Go.RowKit
open Go.Lib (hid)
open List (getElem_mem length_append nil_append cons_append)
open Nat (zero_le le_succ lt_succ_self le_trans)
namespace Go.Proofs.YtcomoomndgbckaaGreat
noncomputable section
section
open Go.Sort
theorem AsAt.cell {w:World} {xs:List Asg} {a:Option Addr} {n c:Nat} (h:LsAt 10 AsE w xs (qs a n c)) (i:Nat) (hi:i < xs.length):∃b o a1 A c1,a=some ⟨b,o,none⟩/\b < w.heap.size/\ArgsAt w xs[i].e.args (qs a1 A c1)/\
 w.cell? ⟨b,o+i * 10,none⟩=some (qt xs[i].col)/\w.cell? ⟨b,o+i * 10+2,none⟩=some (qi xs[i].e.op)/\w.cell? ⟨b,o+i * 10+3,none⟩=some (qt xs[i].e.table)/\w.cell? ⟨b,o+i * 10+4,none⟩=some (qt xs[i].e.name)/\w.cell? ⟨b,o+i * 10+5,none⟩=some (qi xs[i].e.index)/\
 w.cell? ⟨b,o+i * 10+6,none⟩=some (qi xs[i].e.v.kind)/\w.cell? ⟨b,o+i * 10+7,none⟩=some (qi xs[i].e.v.int)/\w.cell? ⟨b,o+i * 10+8,none⟩=some (qt xs[i].e.v.text)/\w.cell? ⟨b,o+i * 10+9,none⟩=some (qs a1 A c1):=by
 obtain ⟨b,o,cs,h1,D,F,q,s,rfl,C⟩:=h.get i hi;obtain ⟨a1,A,c1,rfl,-,-⟩:=C.shape;exact ⟨b,o,a1,A,c1,h1,D,C,by simpa [Ex.cells] using q 0 (by omega),by simpa [Ex.cells] using q 2 (by omega),by simpa [Ex.cells] using q 3 (by omega),by simpa [Ex.cells] using q 4 (by omega),by simpa [Ex.cells] using q 5 (by omega),by simpa [Ex.cells] using q 6 (by omega),by simpa [Ex.cells] using q 7 (by omega),by simpa [Ex.cells] using q 8 (by omega),by simpa [Ex.cells] using q 9 (by omega)⟩
theorem aBody_calls (s:Stt) (v:StV) (w:World) (h:SttAt w s v) (hF:StF s) (hs:SttS s) (hz:SttZ s):Calls Tryz.prog 82 #[.agg (s.cells v).toArray] w (SizeS 6000000000000000 w):=by
 obtain ⟨a1,n1,T,a2,W,k2,a3,V,k3,a4,U,k4,a5,L,k5,a6,K,k6,a7,n7,k7,a8,n8,k8,a9,n9,k9,a10,D,A,a11,C,q,rfl,h1,m1,h2,m2,h3,m3,h4,m4,h5,m5,h6,m6,h7,m7,h8,m8,h9,m9,ax,bi,aZ,bh⟩:=h.shapes;have au:=hid h1;have ar:=hid h2;have aq:=hid h3;have ap:=hid h4;have aj:=hid h5;have ai:=hid h6;have aE:=hid h7;have aD:=hid h8;have aC:=hid h9;have ah:=hid ax;have ag:=hid aZ;clear h1 h2 h3 h4 h5 h6 h7 h8 h9 ax aZ;have HF:=hid hF;have HS:=hid hs;have HZ:=hid hz;have HD:Hid (SttAt w s ⟨qs a1 s.create.cols.length T,qs a2 s.create.keys.length k2,qs a3 s.create.fks.length k3,qs a4 s.create.checks.length k4,qs a5 s.values.length k5,qs a6 s.sets.length k6,qs a7 s.items.length k7,qs a8 s.src.length k8,qs a9 s.cond.args.length k9,qs a10 s.group.length A,qs a11 s.order.length q⟩):=by show SttAt _ _ _;rw [au.out,ar.out,aq.out,ap.out,aj.out,ai.out,aE.out,aD.out,aC.out,ah.out,ag.out];exact h
 clear h hF hs hz;simp only [Stt.cells,Ex.cells,cons_append,nil_append];obtain ⟨H,hl⟩:=gx s.limit
 have HL:=hid hl;obtain ⟨kd,aQ⟩:=gx s.kind
 obtain ⟨I,aO⟩:=gx s.table
 obtain ⟨wo,aK⟩:=gx s.cond.op
 obtain ⟨wt,aJ⟩:=gx s.cond.table
 obtain ⟨wn,aL⟩:=gx s.cond.name
 obtain ⟨wi,aN⟩:=gx s.cond.index
 obtain ⟨wk,aM⟩:=gx s.cond.v.kind
 obtain ⟨wv,aI⟩:=gx s.cond.v.int
 obtain ⟨wx,aH⟩:=gx s.cond.v.text
 obtain ⟨nm,aP⟩:=gx s.name
 rw [aQ,aO,aK,aJ,aL,aN,aM,aI,aH,aP,hl];have HK:=hid aQ;have aA:=hid aO;have aB:=hid aP;have HC:=hid (And.intro aK (And.intro aJ (And.intro aL (And.intro aN (And.intro aM (And.intro aI aH))))));clear aQ aO aK aJ aL aN aM aI aH aP hl;have Hv:=hid (VarIs.new w (q1a kd I a1 n1 T a2 W k2 a3 V k3 a4 U k4 a5 L k5 a6 K k6 a7 n7 k7 a8 n8 k8 wo wt wn wi wk wv wx a9 n9 k9 a10 D A a11 C q H nm) 40);have O:Hid (∀o,Below w.heap.size w (w.alloc o)):=λ o=> zi.alloc lr o;go_enter Tryz.func82,Tryz.ntmps82;have F:Hid (Below (w.heap.size+1) (w.alloc (.cells (q1a kd I a1 n1 T a2 W k2 a3 V k3 a4 U k4 a5 L k5 a6 K k6 a7 n7 k7 a8 n8 k8 wo wt wn wi wk wv wx a9 n9 k9 a10 D A a11 C q H nm) 40)) ((w.alloc (.cells (q1a kd I a1 n1 T a2 W k2 a3 V k3 a4 U k4 a5 L k5 a6 K k6 a7 n7 k7 a8 n8 k8 wo wt wn wi wk wv wx a9 n9 k9 a10 D A a11 C q H nm) 40)).alloc (.cells #[] 9))):=hid (zi.alloc (by simp) _);have bA:I.size<=2000000:=aA.out ▸ HS.table;have bB:nm.size<=2000000:=aB.out ▸ HS.name;by_cases h1:kd=1
 . subst h1
   as_aux_lemma=>
    have z1:¬ 9223372036854775807 < 13+I.size:=by omega
    have z2:¬ 9223372036854775807 < 13+I.size+2:=by omega
    have ab:bigS=1000000000000000:=rfl;have av:=hid ab;clear ab;obtain ⟨v1,J,-⟩:=Hv.below F (lt_succ_self _);have c1:=J 1;have c2:=J 2;have c3:=J 3;have c4:=J 4;have c5:=J 5;simp only [q2a] at c1 c2 c3 c4 c5;clear J;have HX:Hid (DfAt ((w.alloc (.cells (q1a 1 I a1 n1 T a2 W k2 a3 V k3 a4 U k4 a5 L k5 a6 K k6 a7 n7 k7 a8 n8 k8 wo wt wn wi wk wv wx a9 n9 k9 a10 D A a11 C q H nm) 40)).alloc (.cells #[] 9)) s.create (qs a1 n1 T) (qs a2 W k2) (qs a3 V k3) (qs a4 U k4)):=by have:=HD.create.mono ((O.out _).trans (F.mono (le_succ _)));rw [au.out,ar.out,aq.out,ap.out] at this;exact this
    go_upto_region 4 with (fail)
    refine wp_region_segs [([0,1,2,3,4,5],6)] [7,8,9] [] (by kernel_rfl) (by kernel_rfl) ?_;simp only [q2c,wpSegs];have aF:=cell_regrown (w:=(((w.alloc (.cells (q1a 1 I a1 n1 T a2 W k2 a3 V k3 a4 U k4 a5 L k5 a6 K k6 a7 n7 k7 a8 n8 k8 wo wt wn wi wk wv wx a9 n9 k9 a10 D A a11 C q H nm) 40)).alloc (.cells #[] 9))).drew) c1;have bx:=cell_regrown (w:=(((w.alloc (.cells (q1a 1 I a1 n1 T a2 W k2 a3 V k3 a4 U k4 a5 L k5 a6 K k6 a7 n7 k7 a8 n8 k8 wo wt wn wi wk wv wx a9 n9 k9 a10 D A a11 C q H nm) 40)).alloc (.cells #[] 9))).drew) c2;have bw:=cell_regrown (w:=(((w.alloc (.cells (q1a 1 I a1 n1 T a2 W k2 a3 V k3 a4 U k4 a5 L k5 a6 K k6 a7 n7 k7 a8 n8 k8 wo wt wn wi wk wv wx a9 n9 k9 a10 D A a11 C q H nm) 40)).alloc (.cells #[] 9))).drew) c3;have bv:=cell_regrown (w:=(((w.alloc (.cells (q1a 1 I a1 n1 T a2 W k2 a3 V k3 a4 U k4 a5 L k5 a6 K k6 a7 n7 k7 a8 n8 k8 wo wt wn wi wk wv wx a9 n9 k9 a10 D A a11 C q H nm) 40)).alloc (.cells #[] 9))).drew) c4;have bu:=cell_regrown (w:=(((w.alloc (.cells (q1a 1 I a1 n1 T a2 W k2 a3 V k3 a4 U k4 a5 L k5 a6 K k6 a7 n7 k7 a8 n8 k8 wo wt wn wi wk wv wx a9 n9 k9 a10 D A a11 C q H nm) 40)).alloc (.cells #[] 9))).drew) c5;clear c1 c2 c3 c4 c5;have G:Hid (Below (((w.alloc (.cells (q1a 1 I a1 n1 T a2 W k2 a3 V k3 a4 U k4 a5 L k5 a6 K k6 a7 n7 k7 a8 n8 k8 wo wt wn wi wk wv wx a9 n9 k9 a10 D A a11 C q H nm) 40)).alloc (.cells #[] 9))).heap.size (((w.alloc (.cells (q1a 1 I a1 n1 T a2 W k2 a3 V k3 a4 U k4 a5 L k5 a6 K k6 a7 n7 k7 a8 n8 k8 wo wt wn wi wk wv wx a9 n9 k9 a10 D A a11 C q H nm) 40)).alloc (.cells #[] 9))) (((w.alloc (.cells (q1a 1 I a1 n1 T a2 W k2 a3 V k3 a4 U k4 a5 L k5 a6 K k6 a7 n7 k7 a8 n8 k8 wo wt wn wi wk wv wx a9 n9 k9 a10 D A a11 C q H nm) 40)).alloc (.cells #[] 9))).drew):=zi.drew
    repeat (quiet_step (fail))
    refine wpQuiet_nil ?_;refine ⟨rfl,λ wy hby=> ?_⟩;go_simp;simp only [uponV];have M:=hid (G.trans (hby.mono G.size));refine (aElem_calls s.create a1 a2 a3 a4 n1 W V U T k2 k3 k4 _ (HX.mono M) HZ.create (HF.create HK).1 (HF.create HK).2).mono ?_;rintro e w1 ⟨x,rfl,hx,hb⟩;refine ⟨_,rfl,hb,?_⟩;replace G:=hid (M.trans (hb.mono M.size));clear hb hby M;have aY:x.size<=1000000000000000:=av.out ▸ hx;have z3:¬ 9223372036854775807 < 13+I.size+2+x.size:=by omega
    have z4:¬ 9223372036854775807 < 13+I.size+2+x.size+1:=by omega
    go_simp
    repeat (quiet_step (fail))
    refine wpQuiet_nil ?_;intro wz aa;replace G:=hid (G.trans (aa.mono G.size));clear aa;simp only [wpList];have ae:=hid (F.trans (G.mono (by have:=F.size;simp at this ⊢)));clear G;go_wp2;go_ret;exact ⟨_,rfl,(by simp only [ByteArray.size_append];show 13+_+2+_+1<=_;omega),(O.out _).trans (ae.mono (le_succ _))⟩
 by_cases h2:kd=2
 . subst h2
   as_aux_lemma=>
    have bg:L<=2000000:=aj.out ▸ HZ.values.1;obtain ⟨v1,J,-⟩:=Hv.below F (lt_succ_self _);have c6:=J 6;simp only [q2a] at c6;clear J;go_wp2;clear c6 v1;go_loopw [3,4] (λ v z wr=> ∃(k:Nat) (ss:List ByteArray),k<=L/\z=qi k/\Hid (ss.length=k)/\Hid (∀x∈ss,x.size<=100000000)/\Hid (Bl 9 1 NmE (w.heap.size+1) (λ _=> False) wr ss v)/\Hid (Below (w.heap.size+1) (w.alloc (.cells (q1a 2 I a1 n1 T a2 W k2 a3 V k3 a4 U k4 a5 L k5 a6 K k6 a7 n7 k7 a8 n8 k8 wo wt wn wi wk wv wx a9 n9 k9 a10 D A a11 C q H nm) 40)) wr)) (λ _ z _=> L - (intOf z).toNat)
    case atStart=> exact ⟨0,[],zero_le _,rfl,rfl,(λ x h=> by cases h),Bl.made1 _ lr,F⟩
    case round=>
     obtain ⟨k,ss,hk,rfl,ad,Hm,HB,Hb⟩:=hrel;have az:=hid ((O.out _).trans (Hb.mono (le_succ _)));obtain ⟨v1,J,-⟩:=Hv.below Hb (lt_succ_self _);have c6:=J 6;simp only [q2a] at c6;clear J;by_cases hlt:k < L
     . have ac:k < s.values.length:=by rw [aj.out];exact hlt
       have ak:=HD.values.mono ExsE.mono az;obtain ⟨b,o,a12,aG,rfl,bc,d0,hx⟩:=ExsAt.cell ak k ac;have HY:=hid (HZ.values.2 _ (getElem_mem ac));have HE:=hid (HF.values HK _ (getElem_mem ac));generalize s.values[k]=y at *;have HC:=hid (aExprs_calls y a12 _ aG _ hx HE (by have:=HY.1;omega) (by have:=HY.2;omega));clear ak ac hx;go_wp2_with fail;refine HC.mono ?_;rintro e w1 ⟨x,rfl,hx,hb⟩;have aX:x.size<=70000000:=by have:=HY.1;omega
       have aW:=hid (HB.below hb);have an:=hid (Hb.trans (hb.mono (by have:=Hb.size;simp at this;omega)));clear hb hx d0 c6 v1;go_wp2_with (at_builtin;go_loud (refine wpList_pushS rfl _ _ rfl rfl aW.out rfl ?c0 ?c1 ?_))
       case c0=> have:=ad.out;omega
       case c1=> have:=an.size;simp at this;omega
       intro v' w' aw al;have aR:=hid (an.trans al);clear al;go_wp2;go_roundw
       case rel=> exact ⟨k+1,_,by omega,by go_num,(by show _=_;rw [length_append,ad.out];rfl),all_snoc Hm (by simp only [ByteArray.size_append];show 1+_+1<=_;omega),aw,aR⟩
       case measure=> simp [intOf];omega
     . obtain rfl:L=k:=by omega
       go_upto_region 10 with (fail)
       clear c6 v1;have ab:bigS=1000000000000000:=rfl;have av:=hid ab;clear ab;have af:nmB ss<=bigS:=by unfold bigS;have h1:=nmB_unif ss _ Hm;have h2:=Nat.mul_le_mul_right (100000000+2) (show ss.length<=2000000 by have:=ad.out;omega);omega
       obtain ⟨va,vc,rfl⟩:=HB.shape;have aV:=hid λ w h=> aComma_calls ss va vc w h (by unfold bigS at af;omega);have aT:=hid (HB.at (by have:=ad.out;omega));have aU:=hid af;clear af;obtain ⟨v1,J,-⟩:=Hv.below Hb (lt_succ_self _);have c1:=J 1;simp only [q2a] at c1;clear J;have z1:¬ 9223372036854775807 < 12+I.size:=by omega
       have z2:¬ 9223372036854775807 < 12+I.size+8:=by omega
       refine wp_region_segs [([0,1,2,3,4],5)] [6,7] [] (by kernel_rfl) (by kernel_rfl) ?_;simp only [q2c,wpSegs];have aF:=cell_regrown (w:=wr.drew) c1;clear c1;have G:Hid (Below (wr).heap.size (wr) (wr).drew):=zi.drew
       repeat (quiet_step (fail))
       refine wpQuiet_nil ?_;refine ⟨rfl,λ wy hby=> ?_⟩;go_simp;simp only [uponV];have M:=hid (G.trans (hby.mono G.size));refine (aV.out _ (aT.mono NmE.mono M)).mono ?_;rintro e w1 ⟨x,rfl,hx,hb⟩;refine ⟨_,rfl,hb,?_⟩;replace G:=hid (M.trans (hb.mono M.size));clear hb hby M;have aY:x.size<=1000000000000000:=av.out ▸ le_trans hx aU;have z3:¬ 9223372036854775807 < 12+I.size+8+x.size:=by omega
       go_simp
       repeat (quiet_step (fail))
       refine wpQuiet_nil ?_;intro wz aa;replace G:=hid (G.trans (aa.mono G.size));clear aa;simp only [wpList];have ae:=hid (Hb.trans (G.mono (by have:=Hb.size;simp at this;omega)));clear G;go_wp2;go_ret;exact ⟨_,rfl,(by simp only [ByteArray.size_append];show 12+_+8+_<=_;omega),(O.out _).trans (ae.mono (le_succ _))⟩
 by_cases h3:kd=3
 . subst h3
   as_aux_lemma=>
    have bf:K<=2000000:=ai.out ▸ HZ.sets.1;obtain ⟨v1,J,-⟩:=Hv.below F (lt_succ_self _);have c7:=J 7;simp only [q2a] at c7;clear J;go_wp2;clear c7 v1;go_loopw [3,5] (λ v z wr=> ∃(k:Nat) (ss:List ByteArray),k<=K/\z=qi k/\Hid (ss.length=k)/\Hid (∀x∈ss,x.size<=100000000)/\Hid (Bl 9 1 NmE (w.heap.size+1) (λ _=> False) wr ss v)/\Hid (Below (w.heap.size+1) (w.alloc (.cells (q1a 3 I a1 n1 T a2 W k2 a3 V k3 a4 U k4 a5 L k5 a6 K k6 a7 n7 k7 a8 n8 k8 wo wt wn wi wk wv wx a9 n9 k9 a10 D A a11 C q H nm) 40)) wr)) (λ _ z _=> K - (intOf z).toNat)
    case atStart=> exact ⟨0,[],zero_le _,rfl,rfl,(λ x h=> by cases h),Bl.made1 _ lr,F⟩
    case round=>
     obtain ⟨k,ss,hk,rfl,ad,Hm,HB,Hb⟩:=hrel;have az:=hid ((O.out _).trans (Hb.mono (le_succ _)));obtain ⟨v1,J,-⟩:=Hv.below Hb (lt_succ_self _);have c7:=J 7;simp only [q2a] at c7;clear J;by_cases hlt:k < K
     . have ac:k < s.sets.length:=by rw [ai.out];exact hlt
       have ak:=HD.sets.mono AsE.mono az;obtain ⟨b,o,a12,bb,aG,rfl,bc,hx,d0,d2,d3,d4,d5,d6,d7,d8,d9⟩:=AsAt.cell ak k ac;have HY:=hid (HZ.sets.2 _ (getElem_mem ac));have ba:=hid (HS.sets _ (getElem_mem ac)).1;have HE:=hid (HF.sets HK _ (getElem_mem ac));generalize s.sets[k]=y at *;obtain ⟨yc,yi,E'⟩:=y;simp only at hx d0 d2 d3 d4 d5 d6 d7 d8 d9 HY ba HE;have HP:=hid λ w h=> aPrint_calls _ E' lr HE (by have:=HY.out;omega) 1 a12 bb aG w h;have bd:=hid hx;have bz:yc.size<=2000000:=ba;have z1:¬ 9223372036854775807 < yc.size+3:=by omega
       have kk:(k:Int) < (K:Int):=by omega
       have bj:(0:Int)<=(k:Int):=by omega
       clear ak ac hx;go_upto_region 15 with (fail)
       refine wp_region_segs [([0,1,2,3,4,5,6,7,8,9,10,11,12,13],14),([15],16)] [] [17,18] (by kernel_rfl) (by kernel_rfl) ?_;simp only [q2c,wpSegs];have bt:=cell_regrown (w:=wr.drew) c7;have bs:=cell_regrown (w:=wr.drew) d0;have br:=cell_regrown (w:=wr.drew) d2;have bq:=cell_regrown (w:=wr.drew) d3;have bp:=cell_regrown (w:=wr.drew) d4;have bo:=cell_regrown (w:=wr.drew) d5;have bn:=cell_regrown (w:=wr.drew) d6;have bm:=cell_regrown (w:=wr.drew) d7;have bl:=cell_regrown (w:=wr.drew) d8;have bk:=cell_regrown (w:=wr.drew) d9;clear c7 d0 d2 d3 d4 d5 d6 d7 d8 d9;have G:Hid (Below (wr).heap.size (wr) (wr).drew):=zi.drew
       repeat (quiet_step (fail))
       refine wpQuiet_nil ?_;refine ⟨rfl,λ wy hby=> ?_⟩;go_simp;simp only [uponV];have M:=hid (G.trans (hby.mono G.size));refine (HP.out _ (bd.mono M)).mono ?_;rintro e w1 ⟨x,rfl,hx,hb⟩;refine ⟨_,rfl,hb,?_⟩;replace G:=hid (M.trans (hb.mono M.size));clear hb hby M;have aX:x.size<=60000000:=by have:=HY.out;omega
       have z2:¬ 9223372036854775807 < yc.size+3+x.size:=by omega
       go_simp
       repeat (quiet_step (fail))
       refine wpQuiet_nil ?_;refine ⟨rfl,λ wy hby=> ?_⟩;go_simp;have M:=hid (G.trans (hby.mono G.size));refine uponV_box λ wv HV Hbv=> ⟨Hbv,?_⟩
       replace G:=hid (M.trans (Hbv.mono M.size));clear hby M;go_simp
       repeat (quiet_step (fail))
       refine wpQuiet_nil ?_;intro wz aa;replace G:=hid (G.trans (aa.mono G.size));replace HV:=hid (HV.below aa HV.lt);clear aa v1;have aW:=hid (HB.below G);have an:=hid (Hb.trans (G.mono (by have:=Hb.size;simp at this;omega)));go_wp2_with (at_builtin;go_loud (refine wpList_pushT rfl _ _ rfl rfl aW.out rfl HV.out ?c0 ?c1 ?_))
       case c0=> have:=ad.out;omega
       case c1=> have:=an.size;simp at this;omega
       intro v' w' aw al;have aR:=hid (an.trans al);clear al;go_wp2;go_roundw
       case rel=> exact ⟨k+1,_,by omega,by go_num,(by show _=_;rw [length_append,ad.out];rfl),all_snoc Hm (by simp only [ByteArray.size_append];show _+3+_<=_;omega),aw,aR⟩
       case measure=> simp [intOf];omega
     . obtain rfl:K=k:=by omega
       go_upto_region 16 with (fail)
       clear c7 v1;have ab:bigS=1000000000000000:=rfl;have av:=hid ab;clear ab;have af:nmB ss<=bigS:=by unfold bigS;have h1:=nmB_unif ss _ Hm;have h2:=Nat.mul_le_mul_right (100000000+2) (show ss.length<=2000000 by have:=ad.out;omega);omega
       obtain ⟨va,vc,rfl⟩:=HB.shape;have aV:=hid λ w h=> aComma_calls ss va vc w h (by unfold bigS at af;omega);have aT:=hid (HB.at (by have:=ad.out;omega));have aU:=hid af;clear af;obtain ⟨v1,J,-⟩:=Hv.below Hb (lt_succ_self _);have c1:=J 1;simp only [q2a] at c1;clear J;have ao:Hid (SttAt wr s ⟨qs a1 n1 T,qs a2 W k2,qs a3 V k3,qs a4 U k4,qs a5 L k5,qs a6 K k6,qs a7 n7 k7,qs a8 n8 k8,qs a9 n9 k9,qs a10 D A,qs a11 C q⟩):=by have:=HD.mono az;rw [au.out,ar.out,aq.out,ap.out,aj.out,ai.out,aE.out,aD.out,aC.out,ah.out,ag.out] at this;exact this
       have aS:Hid (∀w',SttAt w' s ⟨qs a1 n1 T,qs a2 W k2,qs a3 V k3,qs a4 U k4,qs a5 L k5,qs a6 K k6,qs a7 n7 k7,qs a8 n8 k8,qs a9 n9 k9,qs a10 D A,qs a11 C q⟩->Calls Tryz.prog 116 #[.agg (q1a 3 I a1 n1 T a2 W k2 a3 V k3 a4 U k4 a5 L k5 a6 K k6 a7 n7 k7 a8 n8 k8 wo wt wn wi wk wv wx a9 n9 k9 a10 D A a11 C q H nm)] w' (SizeS 100000000 w')):=λ w' h=> by have:=aWhere_calls s _ w' h HF.cond HZ.cond;simp only [Stt.cells,Ex.cells,cons_append,nil_append,HK.out,aA.out,aB.out,HL.out,HC.1,HC.2.1,HC.2.2.1,HC.2.2.2.1,HC.2.2.2.2.1,HC.2.2.2.2.2.1,HC.2.2.2.2.2.2] at this;exact this
       have am:=hid (Hv.below Hb (lt_succ_self _)).cell;have z1:¬ 9223372036854775807 < 7+I.size:=by omega
       have z2:¬ 9223372036854775807 < 7+I.size+5:=by omega
       refine wp_region_segs [([0,1,2,3,4,7],5),([6],8)] [9,10] [] (by kernel_rfl) (by kernel_rfl) ?_;simp only [q2c,wpSegs];have aF:=cell_regrown (w:=wr.drew) c1;clear c1;have G:Hid (Below (wr).heap.size (wr) (wr).drew):=zi.drew
       repeat (quiet_step (fail))
       refine quiet_load_row rfl 40 _ rfl _ rfl _ am Tryz.underlying40 rfl (by kernel_rfl) ?_;go_simp
       repeat (quiet_step (fail))
       refine wpQuiet_nil ?_;refine ⟨rfl,λ wy hby=> ?_⟩;go_simp;simp only [uponV];have M:=hid (G.trans (hby.mono G.size));refine (aV.out _ (aT.mono NmE.mono M)).mono ?_;rintro e w1 ⟨x,rfl,hx,hb⟩;refine ⟨_,rfl,hb,?_⟩;replace G:=hid (M.trans (hb.mono M.size));clear hb hby M;have aY:x.size<=1000000000000000:=av.out ▸ le_trans hx aU;have z3:¬ 9223372036854775807 < 7+I.size+5+x.size:=by omega
       go_simp
       repeat (quiet_step (fail))
       refine wpQuiet_nil ?_;refine ⟨rfl,λ wy hby=> ?_⟩;go_simp;simp only [uponV];have M:=hid (G.trans (hby.mono G.size));refine (aS.out _ (ao.mono M)).mono ?_;rintro e w2 ⟨y,rfl,hy,hb⟩;refine ⟨_,rfl,hb,?_⟩;replace G:=hid (M.trans (hb.mono M.size));clear hb hby M;have z4:¬ 9223372036854775807 < 7+I.size+5+x.size+y.size:=by omega
       go_simp
       repeat (quiet_step (fail))
       refine wpQuiet_nil ?_;intro wz aa;replace G:=hid (G.trans (aa.mono G.size));clear aa;simp only [wpList];have ae:=hid (Hb.trans (G.mono (by have:=Hb.size;simp at this;omega)));clear G;go_wp2;go_ret;exact ⟨_,rfl,(by simp only [ByteArray.size_append];show 7+_+5+_+_<=_;omega),(O.out _).trans (ae.mono (le_succ _))⟩
 by_cases h4:kd=4
 . subst h4
   as_aux_lemma=>
    have z1:¬ 9223372036854775807 < 12+I.size:=by omega
    obtain ⟨v1,J,-⟩:=Hv.below F (lt_succ_self _);have c1:=J 1;simp only [q2a] at c1;clear J;have ao:Hid (SttAt ((w.alloc (.cells (q1a 4 I a1 n1 T a2 W k2 a3 V k3 a4 U k4 a5 L k5 a6 K k6 a7 n7 k7 a8 n8 k8 wo wt wn wi wk wv wx a9 n9 k9 a10 D A a11 C q H nm) 40)).alloc (.cells #[] 9)) s ⟨qs a1 n1 T,qs a2 W k2,qs a3 V k3,qs a4 U k4,qs a5 L k5,qs a6 K k6,qs a7 n7 k7,qs a8 n8 k8,qs a9 n9 k9,qs a10 D A,qs a11 C q⟩):=by have:=HD.mono ((O.out _).trans (F.mono (le_succ _)));rw [au.out,ar.out,aq.out,ap.out,aj.out,ai.out,aE.out,aD.out,aC.out,ah.out,ag.out] at this;exact this
    have aS:Hid (∀w',SttAt w' s ⟨qs a1 n1 T,qs a2 W k2,qs a3 V k3,qs a4 U k4,qs a5 L k5,qs a6 K k6,qs a7 n7 k7,qs a8 n8 k8,qs a9 n9 k9,qs a10 D A,qs a11 C q⟩->Calls Tryz.prog 116 #[.agg (q1a 4 I a1 n1 T a2 W k2 a3 V k3 a4 U k4 a5 L k5 a6 K k6 a7 n7 k7 a8 n8 k8 wo wt wn wi wk wv wx a9 n9 k9 a10 D A a11 C q H nm)] w' (SizeS 100000000 w')):=λ w' h=> by have:=aWhere_calls s _ w' h HF.cond HZ.cond;simp only [Stt.cells,Ex.cells,cons_append,nil_append,HK.out,aA.out,aB.out,HL.out,HC.1,HC.2.1,HC.2.2.1,HC.2.2.2.1,HC.2.2.2.2.1,HC.2.2.2.2.2.1,HC.2.2.2.2.2.2] at this;exact this
    have am:=hid (Hv.below F (lt_succ_self _)).cell;go_upto_region 18 with (fail)
    refine wp_region_segs [([0,1,2,3],4)] [5,6] [] (by kernel_rfl) (by kernel_rfl) ?_;simp only [q2c,wpSegs];have aF:=cell_regrown (w:=(((w.alloc (.cells (q1a 4 I a1 n1 T a2 W k2 a3 V k3 a4 U k4 a5 L k5 a6 K k6 a7 n7 k7 a8 n8 k8 wo wt wn wi wk wv wx a9 n9 k9 a10 D A a11 C q H nm) 40)).alloc (.cells #[] 9))).drew) c1;clear c1;have G:Hid (Below (((w.alloc (.cells (q1a 4 I a1 n1 T a2 W k2 a3 V k3 a4 U k4 a5 L k5 a6 K k6 a7 n7 k7 a8 n8 k8 wo wt wn wi wk wv wx a9 n9 k9 a10 D A a11 C q H nm) 40)).alloc (.cells #[] 9))).heap.size (((w.alloc (.cells (q1a 4 I a1 n1 T a2 W k2 a3 V k3 a4 U k4 a5 L k5 a6 K k6 a7 n7 k7 a8 n8 k8 wo wt wn wi wk wv wx a9 n9 k9 a10 D A a11 C q H nm) 40)).alloc (.cells #[] 9))) (((w.alloc (.cells (q1a 4 I a1 n1 T a2 W k2 a3 V k3 a4 U k4 a5 L k5 a6 K k6 a7 n7 k7 a8 n8 k8 wo wt wn wi wk wv wx a9 n9 k9 a10 D A a11 C q H nm) 40)).alloc (.cells #[] 9))).drew):=zi.drew
    repeat (quiet_step (fail))
    refine quiet_load_row rfl 40 _ rfl _ rfl _ am Tryz.underlying40 rfl (by kernel_rfl) ?_;go_simp
    repeat (quiet_step (fail))
    refine wpQuiet_nil ?_;refine ⟨rfl,λ wy hby=> ?_⟩;go_simp;simp only [uponV];have M:=hid (G.trans (hby.mono G.size));refine (aS.out _ (ao.mono M)).mono ?_;rintro e w2 ⟨y,rfl,hy,hb⟩;refine ⟨_,rfl,hb,?_⟩;replace G:=hid (M.trans (hb.mono M.size));clear hb hby M;have z2:¬ 9223372036854775807 < 12+I.size+y.size:=by omega
    go_simp
    repeat (quiet_step (fail))
    refine wpQuiet_nil ?_;intro wz aa;replace G:=hid (G.trans (aa.mono G.size));clear aa;simp only [wpList];have ae:=hid (F.trans (G.mono (by have:=F.size;simp at this ⊢)));clear G;go_wp2;go_ret;exact ⟨_,rfl,(by simp only [ByteArray.size_append];show 12+_+_<=_;omega),(O.out _).trans (ae.mono (le_succ _))⟩
 by_cases h5:kd=5
 . subst h5
   as_aux_lemma=>
    have ao:Hid (SttAt ((w.alloc (.cells (q1a 5 I a1 n1 T a2 W k2 a3 V k3 a4 U k4 a5 L k5 a6 K k6 a7 n7 k7 a8 n8 k8 wo wt wn wi wk wv wx a9 n9 k9 a10 D A a11 C q H nm) 40)).alloc (.cells #[] 9)) s ⟨qs a1 n1 T,qs a2 W k2,qs a3 V k3,qs a4 U k4,qs a5 L k5,qs a6 K k6,qs a7 n7 k7,qs a8 n8 k8,qs a9 n9 k9,qs a10 D A,qs a11 C q⟩):=by have:=HD.mono ((O.out _).trans (F.mono (le_succ _)));rw [au.out,ar.out,aq.out,ap.out,aj.out,ai.out,aE.out,aD.out,aC.out,ah.out,ag.out] at this;exact this
    have be:Hid (∀w',SttAt w' s ⟨qs a1 n1 T,qs a2 W k2,qs a3 V k3,qs a4 U k4,qs a5 L k5,qs a6 K k6,qs a7 n7 k7,qs a8 n8 k8,qs a9 n9 k9,qs a10 D A,qs a11 C q⟩->Calls Tryz.prog 117 #[.agg (q1a 5 I a1 n1 T a2 W k2 a3 V k3 a4 U k4 a5 L k5 a6 K k6 a7 n7 k7 a8 n8 k8 wo wt wn wi wk wv wx a9 n9 k9 a10 D A a11 C q H nm)] w' (SizeS 5000000000000000 w')):=λ w' h=> by have:=aSel_calls s _ w' h (HF.sel HK) HF.cond HZ;simp only [Stt.cells,Ex.cells,cons_append,nil_append,HK.out,aA.out,aB.out,HL.out,HC.1,HC.2.1,HC.2.2.1,HC.2.2.2.1,HC.2.2.2.2.1,HC.2.2.2.2.2.1,HC.2.2.2.2.2.2] at this;exact this
    have am:=hid (Hv.below F (lt_succ_self _)).cell;obtain ⟨v1,J,-⟩:=Hv.below F (lt_succ_self _);have c0:=J 0;simp only [q2a] at c0;clear J;go_wp2_with (refine wpList_load_stmt rfl _ rfl _ rfl am.out rfl ?_);refine (be.out _ ao).mono ?_;rintro e w1 ⟨x,rfl,hx,hb⟩;have aX:x.size<=5000000000000000:=hx;have ae:=hid (F.trans (hb.mono (by have:=F.size;simp at this ⊢)));clear hb hx c0 v1;go_wp2;go_ret;exact ⟨_,rfl,(by omega),(O.out _).trans (ae.mono (le_succ _))⟩
 by_cases h6:kd=6
 . subst h6
   as_aux_lemma=>
    go_wp2;go_ret;exact ⟨_,rfl,(Nat.le_of_ble_eq_true (by kernel_rfl)),(O.out _).trans (F.mono (le_succ _))⟩
 by_cases h7:kd=7
 . subst h7
   as_aux_lemma=>
    go_wp2;go_ret;exact ⟨_,rfl,(Nat.le_of_ble_eq_true (by kernel_rfl)),(O.out _).trans (F.mono (le_succ _))⟩
 by_cases h8:kd=8
 . subst h8
   as_aux_lemma=>
    go_wp2;go_ret;exact ⟨_,rfl,(Nat.le_of_ble_eq_true (by kernel_rfl)),(O.out _).trans (F.mono (le_succ _))⟩
 by_cases h9:kd=9
 . subst h9
   as_aux_lemma=>
    obtain ⟨v1,J,-⟩:=Hv.below F (lt_succ_self _);have ay:=J 21;simp only [q2a] at ay;clear J;go_wp2;go_ret;exact ⟨_,rfl,(by rw [ByteArray.size_append];show 10+_<=_;omega),(O.out _).trans (F.mono (le_succ _))⟩
 by_cases ax:kd=10
 . subst ax
   as_aux_lemma=>
    obtain ⟨v1,J,-⟩:=Hv.below F (lt_succ_self _);have ay:=J 21;simp only [q2a] at ay;clear J;go_wp2;go_ret;exact ⟨_,rfl,(by rw [ByteArray.size_append];show 12+_<=_;omega),(O.out _).trans (F.mono (le_succ _))⟩
 as_aux_lemma=>
  have ay:=(Hv.below F (lt_succ_self _)).a21;go_wp2;go_ret;exact ⟨_,rfl,(by rw [ByteArray.size_append];show 8+_<=_;omega),(O.out _).trans (F.mono (le_succ _))⟩
end
end
end Go.Proofs.YtcomoomndgbckaaGreat
