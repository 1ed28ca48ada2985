/- Part 23 of the proof. -/
import Derived.Test.YtcomoomndgbckaaGreatY21
import Derived.Test.YtcomoomndgbckaaGreatY22
set_option maxHeartbeats 16000000
set_option maxRecDepth 100000
open Go Go.RowKit
open Go.Lib (hid)
open List (getElem_mem length_append mem_singleton length_map map_append drop_eq_getElem_cons take_length take_append_getElem)
open Nat (zero_le le_succ lt_succ_self lt_of_lt_of_le)
namespace Go.Proofs.YtcomoomndgbckaaGreat
noncomputable section
section
open Go.Sort
def CoOk (p:List Value):Prop:=∃(co:Int) (l:List Value),p=qi co::l/\ -1048576<=co/\co<=1048576
theorem all_mem {α:Type} {l:List α} {P:α->Prop} (h:∀i (h:i < l.length),P l[i]):∀x∈l,P x:=λ x hx=> by
 obtain ⟨i,hi,rfl⟩:=List.getElem_of_mem hx;exact h i hi
def BndP (ps:List (List Value)) (w:World) (e:Ending) (w':World):Prop:=∃x:Int,e=.returned (qi x)/\(x<=1152921504606846976->∀p∈ps,CoOk p)/\Below w.heap.size w w'
theorem tBound_calls (d:Nat):∀(c:Int) (ps:List (List Value)) (a:Option Addr) (n k:Nat) (w:World),PtsAt d w ps (qs a n k)->ps.length=n->Calls Tryz.prog 160 #[.agg #[qi c,qs a n k]] w (BndP ps w):=by
 induction d using Nat.strongRecOn with
 | ind d ih=>
  intro c ps a n k w hp hn;have av:n<=2000000000000:=by obtain ⟨_,_,_,h⟩:=hp.shape;omega
  have HP:=hid hp;have HN:=hid hn;have ah:=hid ih;have Hv:=hid (VarIs.new w #[qi c,qs a n k] 189);have ab:Hid (∀o,Below w.heap.size w (w.alloc o)):=λ o=> zi.alloc lr o;clear hp hn ih;go_enter Tryz.func160,Tryz.ntmps160;go_wp2_with fail;refine (tWith_calls c _ _ _).mono ?_;rintro e w1 ⟨q,rfl,L,rfl⟩;have HQ:=hid L;clear L;cases q with
  | false=>
   go_wp2;go_ret;exact ⟨_,rfl,(λ h=> absurd h (by decide)),ab.out _⟩
  | true=>
   have hc:=HQ.1 (by simp);clear HQ;go_wp2_with fail;refine (tAbs_calls c _ (by omega)).mono ?_;rintro e w2 ⟨rfl,rfl⟩;generalize ((c.natAbs:Nat):Int)=s0;go_wp2;go_loopw [3,4] (λ zs z wr=> ∃(j:Nat) (x:Int),j<=n/\z=qi j/\zs=qi x/\Hid (∀i (h:i < ps.length),i < j->CoOk ps[i])/\Hid (Below (w.heap.size+1) (w.alloc (.cells #[qi c,qs a n k] 189)) wr)) (λ _ z _=> n - (intOf z).toNat)
   case atStart=> exact ⟨0,_,zero_le _,rfl,rfl,(λ i _ h=> absurd h (by omega)),zi⟩
   case round=>
    obtain ⟨j,x,hj,rfl,rfl,HG,Hb⟩:=hrel
    rename World=> wo
    have F:=hid ((ab.out _).trans (Hb.mono (le_succ _)));have c1:=(Hv.below Hb (lt_succ_self _)).a1;by_cases hlt:j < n
    . have G:j < ps.length:=by rw [HN.out];exact hlt
      obtain ⟨b,o,W,kd,vr,y,o1,m1,k1,xs,rfl,af,d0,d1,d2,d3,d4,M,K,U,hl⟩:=PtsAt.cell (PtsAt.mono HP F) j G;have ac:=hid M;have HL:=hid hl;have al:=hid U;have ai:=hid K;have aq:(0:Int)<=(j:Int):=by omega
      have jj:(j:Int) < (n:Int):=by omega
      clear af M hl U K;go_wp2_with (refine wpList_store_row rfl _ _ _ rfl _ rfl rfl (VarIs.new _ _ _) rfl (by kernel_rfl) rfl ?_);intro C I A5;clear c1 d0 d1 d2 d3 d4;have A:Hid (Below wo.heap.size wo C):=(zi.alloc lr _).trans (A5.below (by simp) (λ k hk=> by show ¬ k=_;omega));clear A5;have h1:=I.a1;go_upto_if 28 with (fail)
      go_cut [6] from 26 to 28 (λ z J=> ∃x:Int,z=qi x/\C=J)
      case first=>
       by_cases hk1:kd=1
       . subst hk1
         go_wp2;go_meet;exact ⟨_,rfl,rfl⟩
       . go_wp2
         go_meet;exact ⟨_,rfl,rfl⟩
      obtain ⟨b6,rfl,rfl⟩:=hcut;go_upto_if 31 with (fail)
      go_cut [6] from 29 to 40 (λ z J=> ∃x:Int,z=qi x/\Hid (Below C.heap.size C J))
      case first=>
       by_cases hk1:kd=2
       . subst hk1
         obtain ⟨ar,ae⟩:=al.out rfl;obtain ⟨b2,o2,x2,a2,n2,k2,e2,ad,rfl,ag,g0,g1,rfl,T,O⟩:=TmsAt.cell (LsAt.mono (TmE.mono _) HL A) ai ae;have au:¬ y=0:=by omega
         have mm:(0:Int) < (m1:Int):=by omega
         have aj:=hid O;have ak:=hid T;clear ag T O;have h3:=I.a3;have h4:=I.a4;go_upto_region 12 with (fail)
         refine wp_region_segs [([0,1,2,3,5,6],4)] [7,8,9] [] (by kernel_rfl) (by kernel_rfl) ?_;simp only [q2c,wpSegs];have an:=cell_regrown (w:=C.drew) h3;have am:=cell_regrown (w:=C.drew) h4;have ap:=cell_regrown (w:=C.drew) g0;have ao:=cell_regrown (w:=C.drew) g1;clear h1 h3 h4 g0 g1;have H:Hid (Below (C).heap.size (C) (C).drew):=zi.drew
         repeat (first | go_big_quiet_step (fail) | quiet_step (fail))
         refine wpQuiet_nil ?_;refine ⟨rfl,λ wy hby=> ?_⟩;go_simp;simp only [uponV];have Hy:=hid (H.trans (hby.mono H.size));refine (ah.out _ (lt_succ_self _) x2 ad a2 n2 k2 _ (PtsAt.mono aj Hy) ak).mono ?_;rintro e w6 ⟨t,rfl,-,hb⟩;refine ⟨_,rfl,hb,?_⟩;replace H:=hid (Hy.trans (hb.mono Hy.size));clear hb hby Hy;go_simp
         repeat (first | go_big_quiet_step (fail) | quiet_step (fail))
         refine wpQuiet_nil ?_;intro wz V;replace H:=hid (H.trans (V.mono H.size));clear V;simp only [wpList];go_wp2;go_meet;exact ⟨_,rfl,H⟩
       . go_wp2
         go_meet;exact ⟨_,rfl,zi⟩
      obtain ⟨bb,rfl,Hx⟩:=hcut
      rename World=> J
      clear h1;have h0:=(I.below Hx I.lt).a0;have Hz:=hid (Hb.trans ((A.trans (Hx.mono A.size)).mono (by have:=Hb.size;simp at this;omega)));have D:=hid (F.trans ((A.trans (Hx.mono A.size)).mono F.size));clear I Hx A;go_wp2_with fail;refine (tWith_calls W _ _ _).mono ?_;rintro e w7 ⟨q,rfl,L,rfl⟩;have HQ:=hid L;clear L;cases q with
      | false=>
       go_wp2;go_ret;exact ⟨_,rfl,(λ h=> absurd h (by decide)),D⟩
      | true=>
       have aw:=HQ.1 (by simp);clear HQ;have HA:=hid (tAbs_calls W J (by omega));by_cases hz:W=0
       . subst hz
         go_wp2_with fail;refine HA.mono ?_;rintro e w8 ⟨rfl,rfl⟩
         go_wp2 <;> first
          | (go_ret;exact ⟨_,rfl,(λ h=> absurd h (by decide)),D⟩)
          | (go_roundw <;> first | exact ⟨j+1,_,by omega,by go_num,rfl,snoc_all (P:=CoOk) HG G ⟨_,_,ac,by omega,by omega⟩,Hz⟩ | (simp [intOf];omega))
       . have n0:((W.natAbs:Nat):Int)≠0:=by omega
         generalize ((W.natAbs:Nat):Int)=aa at *;go_wp2_with fail;refine HA.mono ?_;rintro e w8 ⟨rfl,rfl⟩;go_wp2_with fail
         all_goals first
          | (go_ret;exact ⟨_,rfl,(λ h=> absurd h (by decide)),D⟩)
          | (refine HA.mono ?_
             rintro e w9 ⟨rfl,rfl⟩
             go_wp2 <;> first
              | (go_ret;exact ⟨_,rfl,(λ h=> absurd h (by decide)),D⟩)
              | (go_roundw <;> first | exact ⟨j+1,_,by omega,by go_num,rfl,snoc_all (P:=CoOk) HG G ⟨_,_,ac,by omega,by omega⟩,Hz⟩ | (simp [intOf];omega)))
    . obtain rfl:n=j:=by omega
      have HD:=hid (all_mem (all_done (P:=CoOk) HG HN));go_wp2;go_ret;exact ⟨_,rfl,(λ _=> HD),F⟩
theorem tSmall_calls (d:Nat) (c:Int) (ps:List (List Value)) (a:Option Addr) (n k:Nat) (w:World) (hp:PtsAt d w ps (qs a n k)) (hn:ps.length=n):Calls Tryz.prog 155 #[.agg #[qi c,qs a n k]] w (BoolP (∀p∈ps,CoOk p) w):=by
 have D:=hid (tBound_calls d c ps a n k (w.alloc (.cells #[qi c,qs a n k] 189)) (PtsAt.mono hp (zi.alloc lr _)) hn);have o:Hid (Below w.heap.size w (w.alloc (.cells #[qi c,qs a n k] 189))):=zi.alloc lr _;clear hp hn;go_enter Tryz.func155,Tryz.ntmps155;go_wp2_with fail;refine D.mono ?_;rintro e G ⟨x,rfl,q,A⟩;have C:=hid q;have F:=hid (o.trans (A.mono o.size));clear q A;go_wp2;go_ret;exact ⟨_,rfl,(λ h=> C.out (of_decide_eq_true h)),F⟩
def LimP (c:Int) (a:Option Addr) (n k:Nat) (ps:List (List Value)) (w:World) (e:Ending) (w':World):Prop:=((e=.returned (.tuple #[.agg #[qi c,qs a n k],qi 0])/\∀p∈ps,CoOk p)\/e=.returned (.tuple #[.agg q0d,qi 3]))/\Below w.heap.size w w'
theorem tLim_calls (d:Nat) (c:Int) (ps:List (List Value)) (a:Option Addr) (n k:Nat) (w:World) (hp:PtsAt d w ps (qs a n k)) (hn:ps.length=n):Calls Tryz.prog 152 #[.agg #[qi c,qs a n k]] w (LimP c a n k ps w):=by
 have L:=hid λ w' h=> tSmall_calls d c ps a n k w' (PtsAt.mono hp h) hn;have G:Hid (Below w.heap.size w ((w.alloc (.cells #[qi c,qs a n k] 189)).alloc (.cells q0d 189))):=(zi.alloc lr _).alloc (by simp) _;have C:=hid ((VarIs.new w #[qi c,qs a n k] 189).alloc (.cells q0d 189));have A:=hid (VarIs.new1 w (.cells #[qi c,qs a n k] 189) q0d 189);clear hp hn;go_enter Tryz.func152,Tryz.ntmps152;go_wp2_with fail;refine (L.out _ G).mono ?_;rintro e O ⟨q,rfl,J,F⟩;have M:=hid J;have H:=hid (G.trans (F.mono G.size));replace C:=hid (C.below F C.lt);replace A:=hid (A.below F A.lt);clear J F G;cases q with
 | false=>
  go_wp2_with (refine wpList_store_row rfl _ _ _ rfl _ rfl rfl A.out rfl (by kernel_rfl) rfl ?_);intro K I D;have o:=hid (H.trans (D.below H.size λ k hk=> by show ¬ k=_;omega));clear D;go_wp2;refine bodyPost_ret (v:=.tuple #[.agg q0d,qi 3]) ?_ rfl ?_
  . exact results_cell_tmp rfl _ _ rfl I Tryz.underlying189 rfl (by kernel_rfl)
  . exact ⟨.inr rfl,o⟩
 | true=>
  have c0:=C.a0;have c1:=C.a1;go_wp2_with (refine wpList_store_row rfl _ _ _ rfl _ rfl rfl A.out rfl (by kernel_rfl) rfl ?_);intro K I D;have o:=hid (H.trans (D.below H.size λ k hk=> by show ¬ k=_;omega));clear D;go_wp2;refine bodyPost_ret (v:=.tuple #[.agg #[qi c,qs a n k],qi 0]) ?_ rfl ?_
  . exact results_cell_tmp rfl _ _ rfl I Tryz.underlying189 rfl (by kernel_rfl)
  . exact ⟨.inl ⟨rfl,M.out (by simp)⟩,o⟩
end
section
open Go.Sort
def TermP (d N:Nat) (X:Nat->Prop) (M:Prop) (w:World) (e:Ending) (w':World):Prop:=∃(c f:Int) (a:Option Addr) (n k:Nat) (ps:List (List Value)),e=.returned (.tuple #[.agg #[qi c,qs a n k],qi f])/\ps.length=n/\n<=N/\(M->n=0)/\Ind X w' (λ w=> PtsAt d w ps (qs a n k))/\(f=0->∀p∈ps,CoNz p/\CoOk p)/\Below w.heap.size w w'
def negP:List Value->List Value
 | .int .i64 c::l=> .int .i64 (-c)::l
 | l=> l
def NegL (ps1 ps2:List (List Value)):Prop:=(∀p∈ps1,∃(c:Int) (l:List Value),p=qi c::l)/\ps2=ps1.map negP
theorem neg_len {ps1 ps2:List (List Value)} (h:NegL ps1 ps2):ps2.length=ps1.length:=by rw [h.2,length_map]
theorem neg_canc {ps1 ps2:List (List Value)} (h:NegL ps1 ps2) (j:Nat) (hj:j < ps2.length):Canc (ps1.drop j) ps2[j]:=by
 obtain ⟨h1,rfl⟩:=h;have o:j < ps1.length:=by simpa using hj
 obtain ⟨c,l,e⟩:=h1 _ (getElem_mem o);refine ⟨c,l,ps1.drop (j+1),?_,?_⟩
 . rw [<-e,drop_eq_getElem_cons o]
 . rw [List.getElem_map,e]
   rfl
theorem VarIs.new3 (w:World) (o o' o'':Obj) (c:Array Value) (t:TypeId):VarIs ((((w.alloc o).alloc o').alloc o'').alloc (.cells c t)) (w.heap.size+3) c:=by
 have:=VarIs.new (((w.alloc o).alloc o').alloc o'') c t;simpa using this
theorem tAdd_calls (d:Nat) (X:Nat->Prop) (z1:Int) (ps1:List (List Value)) (a1:Option Addr) (n1 k1:Nat) (z2:Int) (ps2:List (List Value)) (a2:Option Addr) (n2 k2:Nat) (w:World) (hX:∀j,X j->j < w.heap.size) (hl1:Ind X w λ w=> PtsAt d w ps1 (qs a1 n1 k1)) (hn1:ps1.length=n1) (hl2:Ind X w λ w=> PtsAt d w ps2 (qs a2 n2 k2)) (hn2:ps2.length=n2) (hn9:n1+n2<=100000000) (hz1:∀x∈ps1,CoNz x) (hz2:∀x∈ps2,CoNz x):
 Calls Tryz.prog 157 #[.agg #[qi z1,qs a1 n1 k1],.agg #[qi z2,qs a2 n2 k2]] w (TermP d (n1+n2) X (NegL ps1 ps2) w):=by
 have HX:=hid hX;have aJ:=hid hl1;have ar:=hid hn1;have au:=hid hl2;have aq:=hid hn2;have aC:=hid hz1;have aB:=hid hz2;have V1:=hid (((VarIs.new1 w (.cells #[qi z1,qs a1 n1 k1] 189) #[qi z2,qs a2 n2 k2] 189).alloc (.cells q0d 189)).alloc (.cells q0d 189));have V2:=hid ((VarIs.new2 w (.cells #[qi z1,qs a1 n1 k1] 189) (.cells #[qi z2,qs a2 n2 k2] 189) q0d 189).alloc (.cells q0d 189));have A:Hid (Below w.heap.size w ((((w.alloc (.cells #[qi z1,qs a1 n1 k1] 189)).alloc (.cells #[qi z2,qs a2 n2 k2] 189)).alloc (.cells q0d 189)).alloc (.cells q0d 189))):=(((zi.alloc lr _).alloc (by simp) _).alloc (by simp <;> omega) _).alloc (by simp <;> omega) _;clear hX hl1 hn1 hl2 hn2 hz1 hz2;go_enter Tryz.func157,Tryz.ntmps157;go_wp2_with (refine wpList_store_row rfl _ _ _ rfl _ rfl rfl (VarIs.new3 _ _ _ _ _ _) rfl (by kernel_rfl) rfl ?_);intro w4 J A4;generalize wrap64 (z1+z2)=zs at *;replace V1:=hid (V1.agr A4 (by show ¬ _=_;omega));replace V2:=hid (V2.agr A4 (by show ¬ _=_;omega));replace A:=hid (A.trans (A4.below A.size λ k hk=> by show ¬ k=_;omega));clear A4;go_wp2;go_loopw [7] (λ z wr=> ∃(j:Nat) (U:Option Addr) (F M:Nat) (out:List (List Value)),j<=n2/\z=qi j/\Hid (out.length=F)/\Hid (F<=n1+j)/\Hid (∀x∈out,CoNz x)/\Hid (NegL ps1 ps2->out=ps1.drop j)/\Hid (Ind (λ j=> X j\/(w.heap.size<=j/\j < w.heap.size+4)) wr λ w=> PtsAt d w out (qs U F M))/\Hid (VarIs wr (w.heap.size+3) #[qi zs,qs U F M])/\Hid (Agr (λ j=> j=(w.heap.size+3)) w4 wr)) (λ z _=> n2 - (intOf z).toNat)
 case atStart=>
  refine ⟨0,a1,n1,k1,ps1,zero_le _,rfl,ar,lr,aC,(λ _=> rfl),?_,J,Agr.refl _ _⟩;exact aJ.mono A λ j hj h=> by
   rcases h with h | h
   . exact h
   . omega
 case round=>
  clear J;obtain ⟨j,U,F,M,out,hj,rfl,D,W,an,aa,HO,J,HA⟩:=hrel
  rename World=> C
  have o:=hid (A.trans (HA.below A.size λ k hk=> by show ¬ k=_;omega));have az:=hid (V1.agr HA (by omega));have c1:=az.a1;by_cases hlt:j < n2
  . have H:j < ps2.length:=by rw [aq.out];exact hlt
    obtain ⟨b,s,cj,ej,rj,yj,o1,m1,q1,aP,rfl,q,d0,d1,d2,d3,d4,G,aw,ax,hl⟩:=PtsAt.cell au.here j H;have O:=pts_ind au j H;rw [G] at O;have aE:=hid O;have ap:Hid (NegL ps1 ps2->Canc (ps1.drop j) ps2[j]):=λ h=> neg_canc h j H;rw [G] at ap;obtain ⟨c9,l9,h9,af⟩:=aB.out _ (getElem_mem H);rw [G] at h9;cases h9;have d0:=(o.cell (p:=⟨b,s+j * 5,none⟩) q).trans d0;have d1:=(o.cell (p:=⟨b,s+j * 5+1,none⟩) q).trans d1;have d2:=(o.cell (p:=⟨b,s+j * 5+2,none⟩) q).trans d2;have d3:=(o.cell (p:=⟨b,s+j * 5+3,none⟩) q).trans d3;have d4:=(o.cell (p:=⟨b,s+j * 5+4,none⟩) q).trans d4;have ao:=hid af;have aX:(0:Int)<=(j:Int):=by omega
    have jj:(j:Int) < (n2:Int):=by omega
    clear q G hl ax aw O af;have x1:=J.a1;go_upto_region 5 with (fail)
    refine wp_region_segs [([0,1,2,3,4,5,6],7)] [8] [9] (by kernel_rfl) (by kernel_rfl) ?_;simp only [q2c,wpSegs];have aW:=cell_regrown (w:=C.drew) c1;have aQ:=cell_regrown (w:=C.drew) x1;have aV:=cell_regrown (w:=C.drew) d0;have aU:=cell_regrown (w:=C.drew) d1;have aT:=cell_regrown (w:=C.drew) d2;have aS:=cell_regrown (w:=C.drew) d3;have aR:=cell_regrown (w:=C.drew) d4;clear c1 x1 d0 d1 d2 d3 d4;have L:Hid (Below (C).heap.size (C) (C).drew):=zi.drew
    repeat (first | go_big_quiet_step (fail) | quiet_step (fail))
    refine wpQuiet_nil ?_;refine ⟨rfl,λ wy hby=> ?_⟩;go_simp;simp only [uponV];have Hy:=hid (L.trans (hby.mono L.size));have aD:Hid (∀j,(X j\/(w.heap.size<=j/\j < w.heap.size+4))->j < wy.heap.size):=λ j h=> by
     have:=Hy.size;have:=J.lt;rcases h with h | h
     . have:=HX.out j h
       omega
     . omega
    refine (tIns_calls d (λ j=> X j\/(w.heap.size<=j/\j < w.heap.size+4)) out U F M cj ej rj yj o1 m1 q1 wy aD (HO.mono Hy λ _ _ h=> h) D (by have:=W.out;omega) (aE.mono (o.trans (Hy.mono o.size)) λ k hk h=> by
     rcases h with h | h
     . exact h
     . omega) an ao).mono ?_
    rintro e w6 ⟨a6,n6,k6,av,rfl,ai,ag,aj,ad,ak,I⟩;refine ⟨_,rfl,I,?_⟩;have aI:=hid ai;have aH:=hid ag;have ab:=hid aj;have aA:=hid ad;have aM:=hid ak;replace L:=hid (Hy.trans (I.mono Hy.size));clear I hby Hy ai ag aj ad ak;go_simp
    repeat (first | go_big_quiet_step (fail) | quiet_step (fail))
    refine wpQuiet_nil ?_;intro wz T;replace ab:=hid (ab.mono T λ _ _ h=> h);replace L:=hid (L.trans (T.mono L.size));clear T;have al:=hid (J.below L J.lt);obtain ⟨q1,q2,q3⟩:=al.out;have ac:=q2 1;simp only [q2a] at ac;have q4:wz.frozen? ⟨w.heap.size+1+1+1,1,none⟩=false:=q3 1;clear q2 q3;go_wp2;clear q1 ac q4;have ay:Hid (VarIs (wz.setCell ⟨w.heap.size+3,1,none⟩ (qs a6 n6 k6)) (w.heap.size+3) #[qi zs,qs a6 n6 k6]):=al.set 1 (by simp) (qs a6 n6 k6);have aN:=hid ((HA.trans (Agr.all L) λ _ _ h=> h).trans (agr_setCell wz ⟨w.heap.size+3,1,none⟩ (qs a6 n6 k6)) λ _ _ h=> h);have aK:=hid (ab.agr (Z:=(λ j=> X j\/(w.heap.size<=j/\j < w.heap.size+4))) (agr_setCell wz ⟨w.heap.size+3,1,none⟩ (qs a6 n6 k6)) (λ j _ h=> by have h:j=(w.heap.size+3):=h;exact .inr ⟨by omega,by omega⟩) (λ _ _ h=> h));go_roundw
    case rel=> exact ⟨j+1,a6,n6,k6,av,by omega,by go_num,aI,(by show _<=_;have:=aH.out;have:=W.out;have:=D.out;omega),aA,(λ h=> by rw [aM.out (by have:=ap.out h;rw [<-aa.out h] at this;exact this),aa.out h,List.tail_drop]),aK,ay,aN⟩
    case measure=> simp [intOf];omega
  . obtain rfl:n2=j:=by omega
    have x0:=J.a0;have x1:=J.a1;go_wp2_with fail;refine (tLim_calls d zs out U F M C HO.here D).mono ?_;rintro e w7 ⟨ah,I⟩;have H7:=hid I;have am:=hid ((V2.agr HA (by omega)).below I (lt_of_lt_of_le V2.lt HA.size));have K:=hid (o.trans (I.mono o.size));have aG:=hid (HO.mono I λ _ _ h=> h);clear I x0 x1 c1;rcases ah with ⟨rfl,ae⟩ | rfl
    . have aF:=hid ae
      clear ae;go_wp2_with (refine wpList_store_row rfl _ _ _ rfl _ rfl rfl am.out rfl (by kernel_rfl) rfl ?_);intro wE VE AE;have V:=hid (K.trans (AE.below K.size λ k hk=> by show ¬ k=_;omega));have aL:=hid (aG.agr (Z:=X) AE (λ j _ h=> by have h:j=w.heap.size+2:=h;exact .inr ⟨by omega,by omega⟩) (λ _ _ h=> .inl h));clear AE;go_wp2;refine bodyPost_ret (v:=.tuple #[.agg #[qi zs,qs U F M],qi 0]) ?_ rfl ?_
      . exact results_cell_tmp rfl _ _ rfl VE Tryz.underlying189 rfl (by kernel_rfl)
      . exact ⟨zs,0,U,F,M,out,rfl,D,W,(λ h=> by have:=aa.out h;have h1:=D.out;rw [this,List.length_drop] at h1;have:=ar.out;have:=neg_len h;have:=aq.out;omega),aL,(λ _ p hp=> ⟨an.out p hp,aF.out p hp⟩),V⟩
    . go_wp2_with (refine wpList_store_row rfl _ _ _ rfl _ rfl rfl am.out rfl (by kernel_rfl) rfl ?_)
      intro wE VE AE;have V:=hid (K.trans (AE.below K.size λ k hk=> by show ¬ k=_;omega));clear AE;go_wp2;refine bodyPost_ret (v:=.tuple #[.agg q0d,qi 3]) ?_ rfl ?_
      . exact results_cell_tmp rfl _ _ rfl VE Tryz.underlying189 rfl (by kernel_rfl)
      . exact ⟨0,3,none,0,0,[],rfl,rfl,zero_le _,(λ _=> rfl),Ind.triv λ _=> .inl ⟨rfl,none,rfl⟩,(λ h=> absurd h (by decide)),V⟩
end
section
open Go.Sort
theorem tTimes2_calls (a b:Int) (w:World):Calls Tryz.prog 156 #[qi a,qi b] w λ e w'=> ∃x:Int,e=.returned (qi x)/\(b= -1->a≠0-> -1048576<=a->a<=1048576->x= -a)/\w=w':=by
 by_cases h:b= -1/\a≠0/\ -1048576<=a/\a<=1048576
 . obtain ⟨rfl,I,h1,D⟩:=h
   have K:(a==0)=false:=by simp [I]
   have A:wrap64 (a * -1)= -a:=by have:=IntWalk.wrap64_in (-a) (by omega);rw [show a * -1= -a by omega];exact this
   go_enter Tryz.func156,Tryz.ntmps156;go_wp2_with fail;refine (tWith_calls a _ _ w).mono ?_;rintro e G ⟨q,rfl,o,rfl⟩;obtain rfl:q=true:=o.2 ⟨by omega,by omega⟩;clear o;go_wp2_with fail;refine (tWith_calls (-1) _ _ w).mono ?_;rintro e G ⟨q,rfl,o,rfl⟩;obtain rfl:q=true:=o.2 ⟨by omega,by omega⟩;clear o;have J:=hid (tAbs_calls a w (by omega));have F:=hid (tAbs_calls (-1) w (by omega));have H:¬ (1152921504606846976:Int) < ((a.natAbs:Nat):Int):=by omega
   have C:Hid (Calls Tryz.prog 161 #[qi (-1)] w λ e w'=> e=.returned (qi 1)/\w=w'):=F;generalize ((a.natAbs:Nat):Int)=aa at *;clear F;go_wp2_with fail;refine J.mono ?_;rintro e M ⟨rfl,rfl⟩;go_wp2_with fail;refine C.mono ?_;rintro e L ⟨rfl,rfl⟩;go_wp2;go_ret;exact ⟨_,rfl,(λ _ _ _ _=> by first | exact A | simp | rfl),rfl⟩
 . exact (tTimes_calls a b w).mono λ e w'=> by rintro ⟨x,h1,D⟩;exact ⟨x,h1,λ e1 A e3 e4=> absurd ⟨e1,A,e3,e4⟩ h,D⟩
theorem neg_no {ps:List (List Value)} {s cj:Int} {j:Nat} {l:List Value} (hx:s= -1->cj≠0-> -1048576<=cj->cj<=1048576->(0:Int)= -cj) (h1:s= -1) (h2:∀p∈ps,CoNz p/\CoOk p) (hj:j < ps.length) (he:ps[j]=qi cj::l):False:=by
 obtain ⟨⟨c,r,e,C⟩,F,D,o,A,q⟩:=h2 _ (getElem_mem hj);rw [he] at e o;cases e;cases o;have:=hx h1 C A q;omega
theorem neg_step {ps out:List (List Value)} {s cj x:Int} {j:Nat} {l:List Value} (ho:out=(ps.take j).map negP) (hx:s= -1->cj≠0-> -1048576<=cj->cj<=1048576->x= -cj) (h1:s= -1) (h2:∀p∈ps,CoNz p/\CoOk p) (hj:j < ps.length) (he:ps[j]=qi cj::l):out++[qi x::l]=(ps.take (j+1)).map negP:=by
 obtain ⟨⟨c,r,e,C⟩,F,D,o,A,q⟩:=h2 _ (getElem_mem hj);rw [he] at e o;cases e;cases o;rw [hx h1 C A q,ho,<-take_append_getElem hj,map_append,he];rfl
def ScaP (d:Nat) (X:Nat->Prop) (s:Int) (ps:List (List Value)) (w:World) (e:Ending) (w':World):Prop:=∃(c f:Int) (a:Option Addr) (n k:Nat) (ps':List (List Value)),e=.returned (.tuple #[.agg #[qi c,qs a n k],qi f])/\ps'.length=n/\n<=ps.length/\(s= -1->(∀p∈ps,CoNz p/\CoOk p)->f=0->ps'=ps.map negP)/\Ind X w' (λ w=> PtsAt d w ps' (qs a n k))/\(f=0->∀p∈ps',CoNz p/\CoOk p)/\Below w.heap.size w w'
theorem tScale_calls (d:Nat) (X:Nat->Prop) (z1:Int) (ps:List (List Value)) (a1:Option Addr) (n1 k1:Nat) (s:Int) (w:World) (hX:∀j,X j->j < w.heap.size) (hl:Ind X w λ w=> PtsAt d w ps (qs a1 n1 k1)) (hn:ps.length=n1) (hn9:n1<=100000000):
 Calls Tryz.prog 153 #[.agg #[qi z1,qs a1 n1 k1],qi s] w (ScaP d X s ps w):=by
 have HX:=hid hX;have HL:=hid hl;have HN:=hid hn;have V0:=hid (((VarIs.new w #[qi z1,qs a1 n1 k1] 189).alloc (.cells q0d 189)).alloc (.cells q0d 189));have V1:=hid ((VarIs.new1 w (.cells #[qi z1,qs a1 n1 k1] 189) q0d 189).alloc (.cells q0d 189));have C:Hid (Below w.heap.size w (((w.alloc (.cells #[qi z1,qs a1 n1 k1] 189)).alloc (.cells q0d 189)).alloc (.cells q0d 189))):=((zi.alloc lr _).alloc (by simp) _).alloc (by simp <;> omega) _;obtain ⟨i0,ii,au,ar,aq⟩:=info_parts Tryz.info200';clear hX hl hn;go_enter Tryz.func153,Tryz.ntmps153;go_wp2_with fail;refine (tTimes2_calls z1 s _).mono ?_;rintro e w3 ⟨zs,rfl,-,rfl⟩;go_wp2_with (refine wpList_store_row rfl _ _ _ rfl _ rfl rfl (VarIs.new2 _ _ _ _ _) rfl (by kernel_rfl) rfl ?_);intro w4 O A4;replace V0:=hid (V0.agr A4 (by show ¬ _=_;omega));replace V1:=hid (V1.agr A4 (by show ¬ _=_;omega));replace C:=hid (C.trans (A4.below C.size λ k hk=> by show ¬ k=_;omega));have A:Hid (w.heap.size+2 < w4.heap.size):=O.lt;clear A4;go_wp2;go_loopw [7] (λ z wr=> ∃(j:Nat) (u:Value) (out:List (List Value)),j<=n1/\z=qi j/\Hid (out.length<=j)/\Hid (∀x∈out,CoNz x)/\Hid (s= -1->(∀p∈ps,CoNz p/\CoOk p)->out=(ps.take j).map negP)/\Hid (Bl 200 5 (PtE (TmE d)) w4.heap.size (λ j=> X j\/(w.heap.size<=j/\j < w.heap.size+3)) wr out u)/\Hid (VarIs wr (w.heap.size+2) #[qi zs,u])/\Hid (Agr (λ j=> j=(w.heap.size+2)) w4 wr)) (λ z _=> n1 - (intOf z).toNat)
 case atStart=> exact ⟨0,_,[],zero_le _,rfl,lr,(λ x h=> by cases h),(λ _ _=> rfl),Bl.nil _ _ _ _ _ _,O,Agr.refl _ _⟩
 case round=>
  clear O;obtain ⟨j,u,out,hj,rfl,K,ac,ao,HB,O,HA⟩:=hrel
  rename World=> D
  have o:=hid (C.trans (HA.below C.size λ k hk=> by show ¬ k=_;omega));have az:=hid (V0.agr HA (by omega));have c1:=az.a1;by_cases hlt:j < n1
  . have I:j < ps.length:=by rw [HN.out];exact hlt
    obtain ⟨b,t,cj,ej,rj,yj,o1,m1,q1,aH,rfl,q,d0,d1,d2,d3,d4,T,av,aw,hl⟩:=PtsAt.cell HL.here j I;have U:=pts_ind HL j I;rw [T] at U;have aA:=hid U;have an:=hid T;have d0:=(o.cell (p:=⟨b,t+j * 5,none⟩) q).trans d0;have d1:=(o.cell (p:=⟨b,t+j * 5+1,none⟩) q).trans d1;have d2:=(o.cell (p:=⟨b,t+j * 5+2,none⟩) q).trans d2;have d3:=(o.cell (p:=⟨b,t+j * 5+3,none⟩) q).trans d3;have d4:=(o.cell (p:=⟨b,t+j * 5+4,none⟩) q).trans d4;have aI:(0:Int)<=(j:Int):=by omega
    have jj:(j:Int) < (n1:Int):=by omega
    clear q T hl aw av U;go_wp2_with (refine wpList_store_row rfl _ _ _ rfl _ rfl rfl (VarIs.new _ _ _) rfl (by kernel_rfl) rfl ?_);intro w5 V5 A5;clear d0 d1 d2 d3 d4 c1;have al:Hid (Below D.heap.size D w5):=(zi.alloc lr _).trans (A5.below (by simp) (λ k hk=> by show ¬ k=_;omega));clear A5;have h0:=V5.a0;have ax:=V5.free 0;go_wp2_with fail;refine (tTimes2_calls cj s _).mono ?_;rintro e w6 ⟨x,rfl,hx,rfl⟩;have am:=hid hx;clear hx;go_upto_region 7 with (fail)
    have V6:Hid (VarIs (w5.setCell ⟨D.heap.size,0,none⟩ (qi x)) D.heap.size #[qi x,qi ej,qi rj,qi yj,qs o1 m1 q1]):=V5.set 0 (by simp) (qi x);have Hr:Hid (Below D.heap.size D (w5.setCell ⟨D.heap.size,0,none⟩ (qi x))):=al.setCell (p:=⟨D.heap.size,0,none⟩) lr (qi x);generalize World.setCell w5 ⟨D.heap.size,0,none⟩ (qi x)=w6 at *;clear h0 ax V5 al;have ae:=hid (HA.trans (Agr.all Hr) λ _ _ h=> h);have L:=hid (HB.below Hr);have W:=hid (O.below Hr O.lt);have h0:=V6.a0;by_cases hx0:x=0
    . subst hx0
      go_wp2;go_roundw
      case rel=> exact ⟨j+1,_,out,by omega,by go_num,(by show _<=_;have:=K.out;omega),ac,(λ h1 M=> absurd (neg_no am h1 M I an) id),L,W,ae⟩
      case measure=> simp [intOf];omega
    . have zx:(x==0)=false:=by simp [hx0]
      clear h0;have h0:=V6.a0;have h1:=V6.a1;have M:=V6.a2;have h3:=V6.a3;have h4:=V6.a4;have y1:=W.a1;go_wp2_with (at_builtin;go_loud (refine wpList_push (E:=PtE (TmE d)) rfl _ _ 187 rfl i0 _ 56 Tryz.underlying187 ii au ar aq rfl (by decide) (by decide) rfl L.out [qi x,qi ej,qi rj,qi yj,qs o1 m1 q1] [_,_,_,_,_] 200 rfl rfl one_pt ?hE (by have:=K.out;omega) ae.size (λ j h=> by have:=A.out;rcases h with h | h <;> first | (have:=HX.out j h;omega) | omega) ?_))
      case hE=>
       refine (aA.imp λ w h=> pt_co x h).mono (o.trans (Hr.mono o.size)) λ j hj h=> ?_;rcases h with (h | h) | h
       . exact h
       . omega
       . have:=(L.ge j h).1
         have:=A.out;omega
      intro v' w' ad V _ _;obtain ⟨H,F,G,rfl⟩:∃a n c,v'=qs a n c:=by obtain ⟨a,c,h⟩:=ad.shape;exact ⟨a,_,c,h⟩
      have aj:=hid (W.below V (by have:=A.out;omega));have aG:=hid (ae.trans (Agr.of V) (λ i hi h=> absurd h (by omega)));clear V L y1 h0 h1 M h3 h4;obtain ⟨ap,q2,q3⟩:=aj.out;have af:=q2 1;simp only [q2a] at af;have q4:w'.frozen? ⟨w.heap.size+1+1,1,none⟩=false:=q3 1;clear q2 q3;go_wp2;clear ap af q4;have aE:=hid (ad.other (Z:=(λ j=> X j\/(w.heap.size<=j/\j < w.heap.size+3))) (agr_setCell w' ⟨w.heap.size+2,1,none⟩ (qs H F G)) (λ k _ h=> by have h:k=w.heap.size+2:=h;exact .inr ⟨by omega,by omega⟩) (λ k hk h=> by have h1:=(ad.ge k hk).1;have:k=w.heap.size+2:=h;have:=A.out;omega) (λ _ _ h=> h));have ay:Hid (VarIs (w'.setCell ⟨w.heap.size+2,1,none⟩ (qs H F G)) (w.heap.size+2) #[qi zs,qs H F G]):=aj.set 1 (by simp) (qs H F G);have aF:=hid (aG.trans (agr_setCell w' ⟨w.heap.size+2,1,none⟩ (qs H F G)) (λ _ _ h=> h));go_roundw
      case rel=> exact ⟨j+1,_,_,by omega,by go_num,(by show _<=_;have:=K.out;rw [length_append,List.length_singleton];omega),nz_snoc ac ⟨_,_,rfl,hx0⟩,(λ h1 M=> neg_step (ao.out h1 M) am h1 M I an),aE,ay,aF⟩
      case measure=> simp [intOf];omega
  . obtain rfl:n1=j:=by omega
    obtain ⟨H,F,G,ag,rfl⟩:∃a n c,n=out.length/\u=qs a n c:=by obtain ⟨a,c,h⟩:=HB.shape;exact ⟨a,_,c,rfl,h⟩
    have ab:=hid ag;clear ag;have x0:=O.a0;have x1:=O.a1;have aJ:=K.out;have HO:=hid ((HB.done (by omega)).sub (Y:=(λ j=> X j\/(w.heap.size<=j/\j < w.heap.size+3))) λ j _ hj=> ⟨hj,λ e=> by
     have:=(HB.ge j e).1;have:=A.out;rcases hj with h | h
     . have:=HX.out j h
       omega
     . omega⟩)
    go_wp2_with fail;refine (tLim_calls d zs out H F G D HO.here ab.symm).mono ?_;rintro e w7 ⟨ai,hb⟩;have H7:=hid hb;have ak:=hid ((V1.agr HA (by omega)).below hb (lt_of_lt_of_le V1.lt HA.size));have J:=hid (o.trans (hb.mono o.size));have aC:=hid (HO.mono hb λ _ _ h=> h);clear hb x0 x1 c1 HO;rcases ai with ⟨rfl,ah⟩ | rfl
    . have aB:=hid ah
      clear ah;go_wp2_with (refine wpList_store_row rfl _ _ _ rfl _ rfl rfl ak.out rfl (by kernel_rfl) rfl ?_);intro wE VE AE;have aa:=hid (J.trans (AE.below J.size λ k hk=> by show ¬ k=_;omega));have aD:=hid (aC.agr (Z:=X) AE (λ j _ h=> by have h:j=w.heap.size+1:=h;exact .inr ⟨by omega,by omega⟩) (λ _ _ h=> .inl h));clear AE;go_wp2;refine bodyPost_ret (v:=.tuple #[.agg #[qi zs,qs H F G],qi 0]) ?_ rfl ?_
      . exact results_cell_tmp rfl _ _ rfl VE Tryz.underlying189 rfl (by kernel_rfl)
      . exact ⟨zs,0,H,F,G,out,rfl,ab.symm,(by have:=ab.out;have:=HN.out;omega),(λ h1 M _=> by have:=ao.out h1 M;rw [<-HN.out,take_length] at this;exact this),aD,(λ _ p hp=> ⟨ac.out p hp,aB.out p hp⟩),aa⟩
    . go_wp2_with (refine wpList_store_row rfl _ _ _ rfl _ rfl rfl ak.out rfl (by kernel_rfl) rfl ?_)
      intro wE VE AE;have aa:=hid (J.trans (AE.below J.size λ k hk=> by show ¬ k=_;omega));clear AE;go_wp2;refine bodyPost_ret (v:=.tuple #[.agg q0d,qi 3]) ?_ rfl ?_
      . exact results_cell_tmp rfl _ _ rfl VE Tryz.underlying189 rfl (by kernel_rfl)
      . exact ⟨0,3,none,0,0,[],rfl,rfl,zero_le _,(λ _ _ h=> absurd h (by decide)),Ind.triv λ _=> .inl ⟨rfl,none,rfl⟩,(λ h=> absurd h (by decide)),aa⟩
end
section
open Go.Sort
theorem one_ls {α:Type} {sz:Nat} {E:World->α->List Value->Prop} {w:World} {x:α} {g:Nat} {cs:List Value} (h:VarIs w g cs.toArray) (hl:cs.length=sz) (hE:E w x cs):LsAt sz E w [x] (qs (some ⟨g,0,none⟩) 1 1):=by
 refine .inr ⟨g,0,1,1,rfl,rfl,h.lt,by omega,λ i hi=> ?_⟩;obtain rfl:i=0:=by simpa using hi
 refine ⟨cs,hl,λ j hj=> ?_,hE⟩;have:=h.cell j;simpa using this
def DivP (d:Nat) (X:Nat->Prop) (y z:Int) (a:Option Addr) (n k:Nat) (w:World) (e:Ending) (w':World):Prop:=(y=1/\e=.returned (.tuple #[.agg #[qi z,qs a n k],qi 0])/\Below w.heap.size w w')\/TermP (d+1) 1 X False w e w'
theorem tDiv_calls (d:Nat) (X:Nat->Prop) (z:Int) (ps:List (List Value)) (a:Option Addr) (n k:Nat) (y:Int) (w:World) (hX:∀j,X j->j < w.heap.size) (hl:Ind X w λ w=> PtsAt d w ps (qs a n k)) (hn:ps.length=n):
 Calls Tryz.prog 159 #[.agg #[qi z,qs a n k],qi y] w (DivP d X y z a n k w):=by
 have HX:=hid hX;have HL:=hid hl;have HN:=hid hn;have U:=hid (VarIs.new1 w (.cells #[qi z,qs a n k] 189) q0d 189);have A:Hid (Below w.heap.size w ((w.alloc (.cells #[qi z,qs a n k] 189)).alloc (.cells q0d 189))):=(zi.alloc lr _).alloc (by simp) _;clear hX hl hn;go_enter Tryz.func159,Tryz.ntmps159;go_wp2_with fail;refine (tWith_calls y _ _ _).mono ?_;rintro e w1 ⟨q,rfl,hq,rfl⟩;have HQ:=hid hq;clear hq;cases q with
 | false=>
  go_wp2_with (refine wpList_store_row rfl _ _ _ rfl _ rfl rfl U.out rfl (by kernel_rfl) rfl ?_);intro O D C;have o:=hid (A.trans (C.below A.size λ k hk=> by show ¬ k=_;omega));clear C;go_wp2;refine bodyPost_ret (v:=.tuple #[.agg q0d,qi 1]) ?_ rfl ?_
  . exact results_cell_tmp rfl _ _ rfl D Tryz.underlying189 rfl (by kernel_rfl)
  . exact .inr ⟨0,1,none,0,0,[],rfl,rfl,zero_le _,(λ h=> h.elim),Ind.triv λ _=> .inl ⟨rfl,none,rfl⟩,(λ h=> absurd h (by decide)),o⟩
 | true=>
  have hy:=HQ.1 (by simp);clear HQ;by_cases hy1:y=1
  . subst hy1
    go_wp2_with (refine wpList_store_row rfl _ _ _ rfl _ rfl rfl U.out rfl (by kernel_rfl) rfl ?_);intro O D C;have o:=hid (A.trans (C.below A.size λ k hk=> by show ¬ k=_;omega));clear C;go_wp2;refine bodyPost_ret (v:=.tuple #[.agg #[qi z,qs a n k],qi 0]) ?_ rfl ?_
    . exact results_cell_tmp rfl _ _ rfl D Tryz.underlying189 rfl (by kernel_rfl)
    . exact .inl ⟨rfl,rfl,o⟩
  . have zy:(y==1)=false:=by simp [hy1]
    by_cases hn0:n=0
    . subst hn0
      go_wp2_with fail;refine (tFloor_calls z y (by omega) _).mono ?_;rintro e w2 ⟨x,rfl,rfl⟩;go_wp2_with (refine wpList_store_row rfl _ _ _ rfl _ rfl rfl U.out rfl (by kernel_rfl) rfl ?_);intro O D C;have o:=hid (A.trans (C.below A.size λ k hk=> by show ¬ k=_;omega));clear C;go_wp2;refine bodyPost_ret (v:=.tuple #[.agg #[qi x,q0],qi 0]) ?_ rfl ?_
      . exact results_cell_tmp rfl _ _ rfl D Tryz.underlying189 rfl (by kernel_rfl)
      . exact .inr ⟨x,0,none,0,0,[],rfl,rfl,zero_le _,(λ h=> h.elim),Ind.triv λ _=> .inl ⟨rfl,none,rfl⟩,(λ _ p hp=> by cases hp),o⟩
    . have zn:((n:Int)==0)=false:=by simp;omega
      have I:=hid ((VarIs.new ((w.alloc (.cells #[qi z,qs a n k] 189)).alloc (.cells q0d 189)) #[qi z,qs a n k] 189).alloc (.cells #[qi 1,qi 2,qi 0,qi y,qs (some ⟨w.heap.size+2,0,none⟩) 1 1] 200));have H:=hid (VarIs.new1 ((w.alloc (.cells #[qi z,qs a n k] 189)).alloc (.cells q0d 189)) (.cells #[qi z,qs a n k] 189) #[qi 1,qi 2,qi 0,qi y,qs (some ⟨w.heap.size+2,0,none⟩) 1 1] 200);have es:((w.alloc (.cells #[qi z,qs a n k] 189)).alloc (.cells q0d 189)).heap.size=w.heap.size+2:=by simp
      rw [es] at I H;have G:Hid (Below w.heap.size w ((((w.alloc (.cells #[qi z,qs a n k] 189)).alloc (.cells q0d 189)).alloc (.cells #[qi z,qs a n k] 189)).alloc (.cells #[qi 1,qi 2,qi 0,qi y,qs (some ⟨w.heap.size+2,0,none⟩) 1 1] 200))):=(A.alloc A.size _).alloc (by have:=A.size;simp;omega) _;have HI:Hid (Ind (λ j=> X j\/j=w.heap.size+1) ((((w.alloc (.cells #[qi z,qs a n k] 189)).alloc (.cells q0d 189)).alloc (.cells #[qi z,qs a n k] 189)).alloc (.cells #[qi 1,qi 2,qi 0,qi y,qs (some ⟨w.heap.size+2,0,none⟩) 1 1] 200)) λ w'=> PtsAt (d+1) w' [[qi 1,qi 2,qi 0,qi y,qs (some ⟨w.heap.size+2,0,none⟩) 1 1]] (qs (some ⟨w.heap.size+3,0,none⟩) 1 1)):=λ w' ha=> by
       have W:¬ (X (w.heap.size+2)\/w.heap.size+2=w.heap.size+1):=λ h=> by
        rcases h with h | h
        . have:=HX.out _ h
          omega
        . omega
       have V:¬ (X (w.heap.size+3)\/w.heap.size+3=w.heap.size+1):=λ h=> by
        rcases h with h | h
        . have:=HX.out _ h
          omega
        . omega
       have hl:=(HL.mono G (Y:=λ j=> X j\/j=w.heap.size+1) λ j hj h=> by
        rcases h with h | h
        . exact h
        . omega) w' ha
       exact one_ls (H.agr ha V) rfl ⟨rfl,1,2,0,y,_,1,1,[[qi z,qs a n k]],rfl,rfl,λ _=> ⟨by omega,by omega⟩,one_ls (I.agr ha W) rfl ⟨rfl,z,a,n,k,ps,rfl,HN,hl⟩⟩
      have M:=hid ((U.alloc (.cells #[qi z,qs a n k] 189)).alloc (.cells #[qi 1,qi 2,qi 0,qi y,qs (some ⟨w.heap.size+2,0,none⟩) 1 1] 200));clear es I H;go_wp2_with fail;refine (tLim_calls (d+1) 0 [[qi 1,qi 2,qi 0,qi y,qs (some ⟨w.heap.size+2,0,none⟩) 1 1]] (some ⟨w.heap.size+3,0,none⟩) 1 1 _ HI.here rfl).mono ?_;rintro e w7 ⟨K,T⟩;have F:=hid (G.trans (T.mono G.size));have L:=hid (M.below T M.lt);have ac:=hid (HI.mono T λ _ _ h=> h);clear T HI G;rcases K with ⟨rfl,J⟩ | rfl
      . have aa:=hid J
        clear J;go_wp2_with (refine wpList_store_row rfl _ _ _ rfl _ rfl rfl L.out rfl (by kernel_rfl) rfl ?_);intro O D C;have o:=hid (F.trans (C.below F.size λ k hk=> by show ¬ k=_;omega));have ab:=hid (ac.agr (Z:=X) C (λ j _ h=> .inr h) (λ _ _ h=> .inl h));clear C;go_wp2;refine bodyPost_ret (v:=.tuple #[.agg #[qi 0,qs (some ⟨w.heap.size+3,0,none⟩) 1 1],qi 0]) ?_ rfl ?_
        . exact results_cell_tmp rfl _ _ rfl D Tryz.underlying189 rfl (by kernel_rfl)
        . exact .inr ⟨0,0,_,1,1,_,rfl,rfl,lr,(λ h=> h.elim),ab,(λ _ p hp=> ⟨(by rw [mem_singleton.1 hp];exact ⟨1,_,rfl,by decide⟩),aa.out p hp⟩),o⟩
      . go_wp2_with (refine wpList_store_row rfl _ _ _ rfl _ rfl rfl L.out rfl (by kernel_rfl) rfl ?_)
        intro O D C;have o:=hid (F.trans (C.below F.size λ k hk=> by show ¬ k=_;omega));clear C;go_wp2;refine bodyPost_ret (v:=.tuple #[.agg q0d,qi 3]) ?_ rfl ?_
        . exact results_cell_tmp rfl _ _ rfl D Tryz.underlying189 rfl (by kernel_rfl)
        . exact .inr ⟨0,3,none,0,0,[],rfl,rfl,zero_le _,(λ h=> h.elim),Ind.triv λ _=> .inl ⟨rfl,none,rfl⟩,(λ h=> absurd h (by decide)),o⟩
end
end
end Go.Proofs.YtcomoomndgbckaaGreat
