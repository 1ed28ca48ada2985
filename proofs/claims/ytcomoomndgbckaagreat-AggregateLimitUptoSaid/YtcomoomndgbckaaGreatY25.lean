/- Part 25 of the proof. -/
import Derived.Test.YtcomoomndgbckaaGreatY24
set_option maxHeartbeats 16000000
set_option maxRecDepth 100000
open Go Go.RowKit
open Go.Lib (hid)
open List (getElem_mem getElem_cons_zero getElem_cons_succ length_append mem_cons mem_singleton mem_append map_append length_cons not_mem_nil sizeOf_lt_of_mem)
open Nat (zero_le lt_of_lt_of_le add_zero zero_mul one_mul)
namespace Go.Proofs.YtcomoomndgbckaaGreat
noncomputable section
section
open Go.Sort
structure TmD where
 c:Int
 a:Option Addr
 n:Nat
 k:Nat
 ps:List (List Value)
def TdE (D:Nat) (w:World) (t:TmD) (cs:List Value):Prop:=cs=[qi t.c,qs t.a t.n t.k]/\PtsAt D w t.ps (qs t.a t.n t.k)
def TdOk (t:TmD):Prop:=t.ps.length=t.n/\∀p∈t.ps,CoNz p/\CoOk p
theorem td_ok {ts:List TmD} {c:Int} {a:Option Addr} {n k:Nat} {ps:List (List Value)} (h:∀t∈ts,TdOk t) (hl:ps.length=n) (hz:∀p∈ps,CoNz p/\CoOk p):∀t∈ts++[(⟨c,a,n,k,ps⟩:TmD)],TdOk t:=λ t ht=> by
 rcases mem_append.1 ht with ht | ht
 . exact h t ht
 . rw [mem_singleton.1 ht];exact ⟨hl,hz⟩
theorem td_sum {ts:List TmD} {c:Int} {a:Option Addr} {n k:Nat} {ps:List (List Value)} {x y b:Nat} (h:(ts.map TmD.n).sum<=x) (hy:y=x+b) (hn:n<=b):((ts++[(⟨c,a,n,k,ps⟩:TmD)]).map TmD.n).sum<=y:=by
 rw [map_append,List.sum_append];simp;omega
theorem td_get {D:Nat} {X:Nat->Prop} {w:World} {ts:List TmD} {a:Option Addr} {n c:Nat} (h:Ind X w λ w=> LsAt 2 (TdE D) w ts (qs a n c)) (i:Nat) (hi:i < ts.length):∃b o,a=some ⟨b,o,none⟩/\w.cell? ⟨b,o+i * 2,none⟩=some (qi ts[i].c)/\w.cell? ⟨b,o+i * 2+1,none⟩=some (qs ts[i].a ts[i].n ts[i].k)/\Ind X w λ w=> PtsAt D w ts[i].ps (qs ts[i].a ts[i].n ts[i].k):=by
 obtain ⟨b,o,cs,h1,G,F,q,rfl,C⟩:=h.here.get i hi;refine ⟨b,o,h1,by simpa using q 0 (by omega),by simpa using q 1 (by omega),λ w' ha=> ?_⟩;obtain ⟨b,o,cs,-,-,-,-,-,A⟩:=(h w' ha).get i hi;exact A
theorem len_bulk:∀l:List Ex,l.length<=Ex.bulkL l
 | []=> zero_le _
 | x::l=> by have:=len_bulk l;have:=bulk_pos x;simp only [length_cons,Ex.bulkL];omega
theorem one_tm {c:Int} {a:Option Addr} {n k:Nat}:∀u∈[qi c,qs a n k],u.oneCell'=true:=by
 intro u o;simp only [mem_cons,not_mem_nil,or_false] at o;rcases o with rfl | rfl <;> rfl
theorem Tryz.info189':(Tryz.prog.info? 189).map (λ i=> (i.zero,i.size,i.bytes))=some (some (.agg q0d),2,32):=by kernel_rfl
theorem tOf_calls (m:Nat):∀E:Ex,SizeOf.sizeOf E<=m->ExS E->E.bulk<=1100000->∀(X:Nat->Prop) (a:Option Addr) (n c:Nat) (w:World),(∀j,X j->j < w.heap.size)->ArgsAt w E.args (qs a n c)->
 Calls Tryz.prog 146 #[.agg #[qi E.op,qt E.table,qt E.name,qi E.index,qi E.v.kind,qi E.v.int,qt E.v.text,qs a n c]] w (TermP E.bulk E.bulk X False w):=by
 induction m with
 | zero=> intro E h;cases E;simp at h
 | succ m ih=>
  intro E hm br bs X a n c w hX hs;obtain ⟨D,hD⟩:=gx (Ex.bulkL E.args)
  have ae:=hid hD;have af:Hid (D<=E.bulk):=by subst hD;cases E;simp only [Ex.bulk,Ex.args];show _<=_;omega
  have bK:Hid (1<=E.bulk):=bulk_pos E;have aZ:Hid (D+1<=E.bulk):=by subst hD;cases E;simp only [Ex.bulk,Ex.args];show _<=_;omega
  have aY:=hid bs;have bV:Hid (∀F∈E.args,SizeOf.sizeOf F<=m):=by intro F hF;obtain ⟨op,tb,nm,ix,v,args⟩:=E;have h1:=sizeOf_lt_of_mem (show F∈args from hF);simp at hm;omega
  have bJ:Hid (∀F∈E.args,ExS F):=by
   cases br with
   | mk op tb nm ix v args h1 h2 h3 h4=> exact h4
  have bA:∀F∈E.args,F.v.text.size<=2000000:=λ F hF=> by
   cases bJ.out F hF with
   | mk op tb nm ix v args h1 h2 h3 hs=> exact h3
  obtain ⟨_,_,_,he,hn,aE⟩:=hs.shape;cases he;have HN:=hid hn.symm;have bW:Hid (n<=1100000):=by have:=len_bulk E.args;have:=HN.out;have:=ae.out;have:=af.out;show _<=_;omega
  have cf:n<=2000000000000:=aE;have HS:=hid hs;have HX:=hid hX;have bT:=hid ih;have aS:=hid λ w' h=> tLen_calls D E a n c w' h bA;obtain ⟨op,bi⟩:=gx E.op
  obtain ⟨tb,bg⟩:=gx E.table
  obtain ⟨nm,bj⟩:=gx E.name
  obtain ⟨ix,bo⟩:=gx E.index
  obtain ⟨vk,be⟩:=gx E.v.kind
  obtain ⟨vi,bf⟩:=gx E.v.int
  obtain ⟨vt,bd⟩:=gx E.v.text
  rw [bi,bg,bj,bo,be,bf,bd] at aS ⊢;have V0:=hid ((VarIs.new w #[qi op,qt tb,qt nm,qi ix,qi vk,qi vi,qt vt,qs a n c] 37).alloc (.cells q0d 189));have V1:=hid (VarIs.new1 w (.cells #[qi op,qt tb,qt nm,qi ix,qi vk,qi vi,qt vt,qs a n c] 37) q0d 189);have au:Hid (Below w.heap.size w ((w.alloc (.cells #[qi op,qt tb,qt nm,qi ix,qi vk,qi vi,qt vt,qs a n c] 37)).alloc (.cells q0d 189))):=(zi.alloc lr _).alloc (by simp) _;obtain ⟨i0,ii,bP,bO,bN⟩:=info_parts Tryz.info189';clear hs bi bg bj bo be bf bd hn hX ih bA hm br bs hD aE;go_enter Tryz.func146,Tryz.ntmps146;go_wp2_with fail;refine (aS.out _ (HS.mono au)).mono ?_;rintro e w3 ⟨c3,a3,n3,k3,ax,q3,rfl,bn,bl,bq,bc,J⟩;have aU:=hid bn;have bF:=hid bl;have bx:=hid bc;have bI:=hid (bq (λ j=> X j\/j=w.heap.size+1) λ j h=> by
   have:=au.size;have:=V1.lt;rcases h with h | h
   . have:=HX.out j h
     omega
   . omega)
  have aO:=hid (au.trans (J.mono au.size));have aM:=hid (V0.below J V0.lt);have aL:=hid (V1.below J V1.lt);clear bn bl bq bc J aS;go_wp2_with (refine wpList_store_row rfl _ _ _ rfl _ rfl rfl (VarIs.new _ _ _) rfl (by kernel_rfl) rfl ?_);intro w4 aJ A4;have aw:=hid (((zi.alloc lr _).trans (A4.below (by simp) (λ k hk=> by show ¬ k=_;omega)):Below w3.heap.size w3 w4));have ar:=hid (aO.trans (aw.mono aO.size));have bu:=hid (aM.below aw aM.lt);have V:=hid (aL.below aw aL.lt);have aX:=hid (bI.mono aw λ _ _ h=> h);have az:Hid (∀j,X j->j < w4.heap.size):=λ j h=> lt_of_lt_of_le (HX.out j h) ar.size;clear A4 aw bI aO aM aL V0 V1 au;cases q3 with
  | true=>
   have y0:=aJ.a0;have y1:=aJ.a1;go_wp2_with fail;refine (tLim_calls D c3 ax a3 n3 k3 w4 (aX.here) aU).mono ?_;rintro e w7 ⟨aj,J⟩;have L:=hid (ar.trans (J.mono ar.size));have ap:=hid (V.below J V.lt);have aW:=hid ((aX).mono J λ _ _ h=> h);clear J;rcases aj with ⟨rfl,ah⟩ | rfl
   . have aQ:=hid ah
     clear ah;go_wp2_with (refine wpList_store_row rfl _ _ _ rfl _ rfl rfl ap.out rfl (by kernel_rfl) rfl ?_);intro W I G;have A:=hid (L.trans (G.below L.size λ k hk=> by show ¬ k=_;omega));have M:=hid (aW.agr (Z:=X) G (λ j _ h=> .inr h) (λ _ _ h=> .inl h));clear G;go_wp2;refine bodyPost_ret (v:=.tuple #[.agg #[qi c3,qs a3 n3 k3],qi 0]) ?_ rfl ?_
     . exact results_cell_tmp rfl _ _ rfl I Tryz.underlying189 rfl (by kernel_rfl)
     . exact ⟨_,0,_,_,_,ax,rfl,aU,(by have:=bF.out;have:=bK.out;omega),(λ h=> h.elim),(M.imp λ w h=> PtsAt.le h af),(λ _ p hp=> ⟨(bx.out p hp).1,aQ.out p hp⟩),A⟩
   . go_wp2_with (refine wpList_store_row rfl _ _ _ rfl _ rfl rfl ap.out rfl (by kernel_rfl) rfl ?_)
     intro W I G;have A:=hid (L.trans (G.below L.size λ k hk=> by show ¬ k=_;omega));clear G;go_wp2;refine bodyPost_ret (v:=.tuple #[.agg q0d,qi 3]) ?_ rfl ?_
     . exact results_cell_tmp rfl _ _ rfl I Tryz.underlying189 rfl (by kernel_rfl)
     . exact ⟨0,3,none,0,0,[],rfl,rfl,zero_le _,(λ h=> h.elim),Ind.triv λ _=> .inl ⟨rfl,none,rfl⟩,(λ h=> absurd h (by decide)),A⟩
  | false=>
   clear aJ aX aU bF bx;go_wp2;go_loopw [6,7] (λ z6 z7 wr=> ∃(j:Nat) (ts:List TmD),j<=n/\z7=qi j/\Hid (ts.length=j)/\Hid ((ts.map TmD.n).sum<=Ex.bulkL (E.args.take j))/\Hid (∀t∈ts,TdOk t)/\Hid (Bl 189 2 (TdE D) w4.heap.size (λ j=> X j\/j=w.heap.size+1) wr ts z6)/\Hid (Below w4.heap.size w4 wr)) (λ _ z _=> n - (intOf z).toNat)
   case atStart=> exact ⟨0,[],zero_le _,rfl,rfl,zero_le _,(λ t h=> by cases h),Bl.nil _ _ _ _ _ _,zi⟩
   case round=>
    obtain ⟨j,ts,hj,rfl,ac,aA,aB,HB,H4⟩:=hrel
    rename World=> O
    have C:=hid (ar.trans (H4.mono ar.size));have K:=hid (bu.below H4 bu.lt);have H:=hid (V.below H4 V.lt);have c7:=K.a7;by_cases hlt:j < n
    . have al:j < E.args.length:=by rw [HN.out];exact hlt
      obtain ⟨b,o,rfl⟩:=ArgsAt.addr HS al;obtain ⟨s',aH,e0,e1,e2,e3,e4,e5,e6,e7⟩:=ArgsAt.cell (HS.mono C) j al;obtain ⟨sa,sn,sc,rfl,-,-⟩:=aH.shape;have b4:=hid (bulkL_take E.args j al);have U:=getElem_mem al;have bZ:=hid (bT.out E.args[j] (bV.out _ U) (bJ.out _ U) (by have:=bulk_mem U;have:=ae.out;have:=af.out;have:=aY.out;omega) (λ k=> k < O.heap.size) sa sn sc O (λ _ h=> h) aH);have b1:Hid (E.args[j].bulk<=D):=ae.out ▸ bulk_mem U;generalize E.args[j]=F at *;have ce:(0:Int)<=(j:Int):=by omega
      have jj:(j:Int) < (n:Int):=by omega
      clear aH U al;go_wp2_with fail;refine bZ.mono ?_;rintro e w5 ⟨c5,f5,a5,n5,k5,bM,rfl,bm,bk,-,bp,bb,J⟩;have bY:=hid bm;have bX:=hid bk;have bH:=hid bp;have bU:=hid bb;have aN:=hid J;clear bm bk bp bb J e0 e1 e2 e3 e4 e5 e6 e7 c7;go_wp2_with (refine wpList_store_row rfl _ _ _ rfl _ rfl rfl (VarIs.new _ _ _) rfl (by kernel_rfl) rfl ?_);intro w6 VB A6;have ba:=hid (((zi.alloc lr _).trans (A6.below (by simp) (λ k hk=> by show ¬ k=_;omega)):Below w5.heap.size w5 w6));have Hr:=hid (aN.trans (ba.mono aN.size));have bv:=hid (C.trans (Hr.mono C.size));have bQ:=hid (H.below Hr H.lt);have ad:=hid (bH.mono ba λ _ _ h=> h);clear A6 aN ba bH;by_cases hf:f5=0
      . subst hf
        have y0:=VB.a0;have y1:=VB.a1;have b7:=hid (HB.below Hr);have bL:=hid (H4.trans (Hr.mono H4.size));go_wp2_with (at_builtin;go_loud (refine wpList_push (E:=TdE D) rfl _ _ 198 rfl i0 _ 32 Tryz.underlying198 ii bP bO bN rfl (by decide) (by decide) rfl b7.out ⟨c5,a5,n5,k5,bM⟩ [_,_] 189 rfl rfl one_tm ?hE (by have:=ac.out;have:=bW.out;omega) bL.size (λ j h=> by rcases h with h | h <;> first | (have:=az.out j h;omega) | (have:=V.lt;omega)) ?_))
        case hE=>
         refine ((ad.imp λ w h=> PtsAt.le h b1).sub λ k hk h=> ?_).imp λ w h=> ⟨rfl,h⟩
         have h4:=H4.size;rcases h with (h | h) | h
         . have:=az.out k h
           show k < _;omega
         . have:=V.lt
           show k < _;omega
         . exact (HB.ge k h).2
        intro v' w' b6 bt _ _;have Hf:=hid (bL.trans bt);clear bt y0 y1;go_wp2;go_roundw
        case rel=> exact ⟨j+1,_,by omega,by go_num,(by show _=_;rw [length_append,ac.out];rfl),td_sum aA b4 bX,td_ok aB bY (bU.out (by first | rfl | trivial)),b6,Hf⟩
        case measure=> simp [intOf];omega
      . have zf:(f5==0)=false:=by simp [hf]
        go_wp2_with (refine wpList_store_row rfl _ _ _ rfl _ rfl rfl bQ.out rfl (by kernel_rfl) rfl ?_);intro W I G;have A:=hid (bv.trans (G.below bv.size λ k hk=> by show ¬ k=_;omega));clear G;go_wp2;refine bodyPost_ret (v:=.tuple #[.agg q0d,qi f5]) ?_ rfl ?_
        . exact results_cell_tmp rfl _ _ rfl I Tryz.underlying189 rfl (by kernel_rfl)
        . exact ⟨0,f5,none,0,0,[],rfl,rfl,zero_le _,(λ h=> h.elim),Ind.triv λ _=> .inl ⟨rfl,none,rfl⟩,(λ h=> absurd h hf),A⟩
    . obtain rfl:n=j:=by omega
      have bz:Hid (∀j,(X j\/j=w.heap.size+1)->j < O.heap.size):=λ j h=> by
       have:=C.size;have:=H.lt;rcases h with h | h
       . have:=HX.out j h
         omega
       . omega
      have bh:=HB.shape;rw [ac.out] at bh;obtain ⟨va,vc,rfl⟩:=bh;by_cases h1:op=1
      . subst h1
        have z0:=K.a0;have z4:=K.a4;have z5:=K.a5;by_cases hn0:n=0
        . subst hn0
          by_cases hk1:vk=1
          . subst hk1
            go_wp2_with fail;refine (tLim_calls D vi [] none 0 0 _ (.inl ⟨rfl,none,rfl⟩) rfl).mono ?_;rintro e w7 ⟨aj,J⟩;have L:=hid (C.trans (J.mono C.size));have ap:=hid (H.below J H.lt);have aW:=hid (((Ind.triv λ _=> .inl ⟨rfl,none,rfl⟩:Ind (λ j=> X j\/j=w.heap.size+1) _ λ w=> PtsAt D w [] (q0))).mono J λ _ _ h=> h);clear J;rcases aj with ⟨rfl,ah⟩ | rfl
            . have aQ:=hid ah
              clear ah;go_wp2_with (refine wpList_store_row rfl _ _ _ rfl _ rfl rfl ap.out rfl (by kernel_rfl) rfl ?_);intro W I G;have A:=hid (L.trans (G.below L.size λ k hk=> by show ¬ k=_;omega));have M:=hid (aW.agr (Z:=X) G (λ j _ h=> .inr h) (λ _ _ h=> .inl h));clear G;go_wp2;refine bodyPost_ret (v:=.tuple #[.agg #[qi vi,q0],qi 0]) ?_ rfl ?_
              . exact results_cell_tmp rfl _ _ rfl I Tryz.underlying189 rfl (by kernel_rfl)
              . exact ⟨_,0,_,_,_,[],rfl,rfl,(zero_le _),(λ h=> h.elim),(M.imp λ w h=> PtsAt.le h af),(λ _ p hp=> ⟨(by cases hp),aQ.out p hp⟩),A⟩
            . go_wp2_with (refine wpList_store_row rfl _ _ _ rfl _ rfl rfl ap.out rfl (by kernel_rfl) rfl ?_)
              intro W I G;have A:=hid (L.trans (G.below L.size λ k hk=> by show ¬ k=_;omega));clear G;go_wp2;refine bodyPost_ret (v:=.tuple #[.agg q0d,qi 3]) ?_ rfl ?_
              . exact results_cell_tmp rfl _ _ rfl I Tryz.underlying189 rfl (by kernel_rfl)
              . exact ⟨0,3,none,0,0,[],rfl,rfl,zero_le _,(λ h=> h.elim),Ind.triv λ _=> .inl ⟨rfl,none,rfl⟩,(λ h=> absurd h (by decide)),A⟩
          . have zk:(vk==1)=false:=by simp [hk1]
            go_wp2_with (refine wpList_store_row rfl _ _ _ rfl _ rfl rfl H.out rfl (by kernel_rfl) rfl ?_);intro W I G;have A:=hid (C.trans (G.below C.size λ k hk=> by show ¬ k=_;omega));clear G;go_wp2;refine bodyPost_ret (v:=.tuple #[.agg q0d,qi 6]) ?_ rfl ?_
            . exact results_cell_tmp rfl _ _ rfl I Tryz.underlying189 rfl (by kernel_rfl)
            . exact ⟨0,6,none,0,0,[],rfl,rfl,zero_le _,(λ h=> h.elim),Ind.triv λ _=> .inl ⟨rfl,none,rfl⟩,(λ h=> absurd h (by decide)),A⟩
        . have zn:((n:Int)==0)=false:=by simp;omega
          go_wp2_with (refine wpList_store_row rfl _ _ _ rfl _ rfl rfl H.out rfl (by kernel_rfl) rfl ?_);intro W I G;have A:=hid (C.trans (G.below C.size λ k hk=> by show ¬ k=_;omega));clear G;go_wp2;refine bodyPost_ret (v:=.tuple #[.agg q0d,qi 6]) ?_ rfl ?_
          . exact results_cell_tmp rfl _ _ rfl I Tryz.underlying189 rfl (by kernel_rfl)
          . exact ⟨0,6,none,0,0,[],rfl,rfl,zero_le _,(λ h=> h.elim),Ind.triv λ _=> .inl ⟨rfl,none,rfl⟩,(λ h=> absurd h (by decide)),A⟩
      by_cases h2:op=2
      . subst h2
        have z0:=K.a0;have z3:=K.a3;by_cases hn0:n=0
        . subst hn0
          by_cases hk1:ix < 0
          . go_wp2_with (refine wpList_store_row rfl _ _ _ rfl _ rfl rfl H.out rfl (by kernel_rfl) rfl ?_)
            intro W I G;have A:=hid (C.trans (G.below C.size λ k hk=> by show ¬ k=_;omega));clear G;go_wp2;refine bodyPost_ret (v:=.tuple #[.agg q0d,qi 6]) ?_ rfl ?_
            . exact results_cell_tmp rfl _ _ rfl I Tryz.underlying189 rfl (by kernel_rfl)
            . exact ⟨0,6,none,0,0,[],rfl,rfl,zero_le _,(λ h=> h.elim),Ind.triv λ _=> .inl ⟨rfl,none,rfl⟩,(λ h=> absurd h (by decide)),A⟩
          . have bR:=hid (H.alloc (.cells #[qi 1,qi 0,qi ix,qi 0,q0] 200))
            have bw:=hid (C.alloc C.size (.cells #[qi 1,qi 0,qi ix,qi 0,q0] 200));have HV:=hid (VarIs.new O #[qi 1,qi 0,qi ix,qi 0,q0] 200);have bS:Hid (w.heap.size+1 < O.heap.size):=H.lt;go_wp2_with (refine wpList_store_row rfl _ _ _ rfl _ rfl rfl bR.out rfl (by kernel_rfl) rfl ?_);intro W I G;have A:=hid (bw.trans (G.below bw.size λ k hk=> by show ¬ k=_;omega));have M:Hid (Ind X W λ w=> PtsAt E.bulk w [[qi 1,qi 0,qi ix,qi 0,q0]] (qs (some ⟨O.heap.size,0,none⟩) 1 1)):=λ w' ha=> by have hs:=bS.out;have h1:=(HV.agr G (by show ¬ _=_;omega)).agr ha (λ h=> by have:=HX.out _ h;omega);exact one_ls h1 rfl ⟨rfl,1,0,ix,0,none,0,0,[],rfl,rfl,λ h=> absurd h (by decide),.inl ⟨rfl,none,rfl⟩⟩
            clear G;go_wp2;refine bodyPost_ret (v:=.tuple #[.agg #[qi 0,qs (some ⟨O.heap.size,0,none⟩) 1 1],qi 0]) ?_ rfl ?_
            . exact results_cell_tmp rfl _ _ rfl I Tryz.underlying189 rfl (by kernel_rfl)
            . exact ⟨0,0,_,1,1,[[qi 1,qi 0,qi ix,qi 0,q0]],rfl,rfl,bK,(λ h=> h.elim),M,(λ _ p hp=> by rw [mem_singleton.1 hp];exact ⟨⟨1,_,rfl,by decide⟩,1,_,rfl,by decide,by decide⟩),A⟩
        . have zn:((n:Int)==0)=false:=by simp;omega
          go_wp2_with (refine wpList_store_row rfl _ _ _ rfl _ rfl rfl H.out rfl (by kernel_rfl) rfl ?_);intro W I G;have A:=hid (C.trans (G.below C.size λ k hk=> by show ¬ k=_;omega));clear G;go_wp2;refine bodyPost_ret (v:=.tuple #[.agg q0d,qi 6]) ?_ rfl ?_
          . exact results_cell_tmp rfl _ _ rfl I Tryz.underlying189 rfl (by kernel_rfl)
          . exact ⟨0,6,none,0,0,[],rfl,rfl,zero_le _,(λ h=> h.elim),Ind.triv λ _=> .inl ⟨rfl,none,rfl⟩,(λ h=> absurd h (by decide)),A⟩
      have z1:(op==1)=false:=by simp [h1]
      have z2:(op==2)=false:=by simp [h2]
      by_cases h3:op=3
      . subst h3
        have g0:=K.a0;by_cases hn1:n=1
        . subst hn1
          have aD:=hid ((HB.done (by have:=ac.out;omega)).sub (Y:=(λ j=> X j\/j=w.heap.size+1)) λ k hk h=> ⟨h,λ e=> by
           have:=(HB.ge k e).1;rcases h with h | h
           . have:=az.out k h
             omega
           . have:=V.lt
             omega⟩)
          obtain ⟨t,rfl⟩:∃t,ts=[t]:=List.length_eq_one_iff.1 ac;obtain ⟨b2,o2,rfl,y0,y1,hI⟩:=td_get aD 0 (Nat.zero_lt_one);obtain ⟨ab,aa⟩:=aB.out t (by simp);simp only [getElem_cons_zero,zero_mul,add_zero] at y0 y1 hI;obtain ⟨c2,a2,n2,k2,aG⟩:=t;simp only [] at y0 y1 hI ab aa;have bB:=hid aA;have aV:=hid hI;have aC:=hid ab;have bD:=hid aa;have T:n2<=Ex.bulkL E.args:=by have h1:=aA.out;have h2:=bulkL_le E.args 1;simp at h1;omega
          have av:=hid T;clear hI ab aa T bB;go_wp2_with fail;refine (tScale_calls D (λ j=> X j\/j=w.heap.size+1) c2 aG a2 n2 k2 _ O bz aV aC (by have:=av.out;have:=ae.out;have:=aY.out;have:=af.out;omega)).mono ?_;rintro e w6 ⟨c6,f6,a6,n6,k6,aF,rfl,ak,ai,-,am,ag,J⟩;have aT:=hid ak;have aR:=hid ai;have ad:=hid am;have aP:=hid ag;have aq:=hid (C.trans (J.mono C.size));have aK:=hid (H.below J H.lt);clear ak ai am ag J y0 y1;go_wp2_with (refine wpList_store_row rfl _ _ _ rfl _ rfl rfl aK.out rfl (by kernel_rfl) rfl ?_);intro W I G;have A:=hid (aq.trans (G.below aq.size λ k hk=> by show ¬ k=_;omega));have M:=hid (ad.agr (Z:=X) G (λ j _ h=> .inr h) (λ _ _ h=> .inl h));clear G;go_wp2;refine bodyPost_ret (v:=.tuple #[.agg #[qi c6,qs a6 n6 k6],qi f6]) ?_ rfl ?_
          . exact results_cell_tmp rfl _ _ rfl I Tryz.underlying189 rfl (by kernel_rfl)
          . exact ⟨c6,f6,a6,n6,k6,aF,rfl,aT,(by have:=aR.out;have:=aC.out;have:=av.out;have:=ae.out;have:=aZ.out;omega),(λ h=> h.elim),(M.imp λ w h=> PtsAt.le h af),aP,A⟩
        . have zn:((n:Int)==1)=false:=by simp;omega
          go_wp2_with (refine wpList_store_row rfl _ _ _ rfl _ rfl rfl H.out rfl (by kernel_rfl) rfl ?_);intro W I G;have A:=hid (C.trans (G.below C.size λ k hk=> by show ¬ k=_;omega));clear G;go_wp2;refine bodyPost_ret (v:=.tuple #[.agg q0d,qi 6]) ?_ rfl ?_
          . exact results_cell_tmp rfl _ _ rfl I Tryz.underlying189 rfl (by kernel_rfl)
          . exact ⟨0,6,none,0,0,[],rfl,rfl,zero_le _,(λ h=> h.elim),Ind.triv λ _=> .inl ⟨rfl,none,rfl⟩,(λ h=> absurd h (by decide)),A⟩
      have z3:(op==3)=false:=by simp [h3]
      have g0:=K.a0;go_upto_if 92 with (fail)
      go_cut [92] from 93 to 97 (λ z wx=> ∃q:Bool,z=.bool q/\O=wx)
      case first=>
       by_cases h4:op=4
       . subst h4
         go_wp2;go_meet;exact ⟨_,rfl,rfl⟩
       have z4:(op==4)=false:=by simp [h4]
       by_cases h5:op=5
       . subst h5
         go_wp2;go_meet;exact ⟨_,rfl,rfl⟩
       have z5:(op==5)=false:=by simp [h5]
       by_cases h6:op=6
       . subst h6
         go_wp2;go_meet;exact ⟨_,rfl,rfl⟩
       have z6:(op==6)=false:=by simp [h6]
       by_cases h7:op=7
       . subst h7
         go_wp2;go_meet;exact ⟨_,rfl,rfl⟩
       have z7:(op==7)=false:=by simp [h7]
       by_cases h8:op=8
       . subst h8
         go_wp2;go_meet;exact ⟨_,rfl,rfl⟩
       have z8:(op==8)=false:=by simp [h8]
       go_wp2;go_meet;exact ⟨_,rfl,rfl⟩
      obtain ⟨q,rfl,rfl⟩:=hcut;clear g0;cases q with
      | true=>
       by_cases hn2:n=2
       . subst hn2
         have aD:=hid ((HB.done (by have:=ac.out;omega)).sub (Y:=(λ j=> X j\/j=w.heap.size+1)) λ k hk h=> ⟨h,λ e=> by
          have:=(HB.ge k e).1;rcases h with h | h
          . have:=az.out k h
            omega
          . have:=V.lt
            omega⟩)
         obtain ⟨t,t',rfl⟩:∃t t',ts=[t,t']:=by
          match ts,ac.out with
          | [t,t'],_=> exact ⟨t,t',rfl⟩
         obtain ⟨b2,o2,rfl,y0,y1,hI⟩:=td_get aD 0 (by simp);obtain ⟨b3,o3,e3,y2,y3,ay⟩:=td_get aD 1 (by simp);cases e3;obtain ⟨ab,aa⟩:=aB.out t (by simp);obtain ⟨ao,an⟩:=aB.out t' (by simp);simp only [getElem_cons_zero,getElem_cons_succ,zero_mul,one_mul,add_zero] at y0 y1 y2 y3 hI ay;obtain ⟨c2,a2,n2,k2,aG⟩:=t;obtain ⟨c3,a3,n3,k3,ax⟩:=t';simp only [] at y0 y1 y2 y3 hI ab aa ay ao an;have aV:=hid hI;have aC:=hid ab;have bD:=hid aa;have bG:=hid ay;have bE:=hid ao;have bC:=hid an;have T:n2+n3<=Ex.bulkL E.args:=by have h1:=aA.out;have h2:=bulkL_le E.args 2;simp at h1;omega
         have av:=hid T;clear hI ab aa ay ao an T;have z0:=K.a0;go_upto_region 30 with (fail)
         refine wp_region_segs [([0,1,2,3,4,5,6,7],8)] [9,10] [11,12] (by kernel_rfl) (by kernel_rfl) ?_;simp only [q2c,wpSegs];have b8:=cell_regrown (w:=O.drew) z0;have cd:=cell_regrown (w:=O.drew) y0;have cb:=cell_regrown (w:=O.drew) y1;have ca:=cell_regrown (w:=O.drew) y2;have b9:=cell_regrown (w:=O.drew) y3;clear z0 y0 y1 y2 y3;have Hr:Hid (Below (O).heap.size (O) (O).drew):=zi.drew
         repeat (first | go_big_quiet_step (fail) | quiet_step (fail))
         refine wpQuiet_nil ?_;refine ⟨rfl,λ wy hby=> ?_⟩;go_simp;simp only [uponV];have Hy:=hid (Hr.trans (hby.mono Hr.size));refine (tBin_calls D (λ j=> X j\/j=w.heap.size+1) op c2 aG a2 n2 k2 c3 ax a3 n3 k3 wy (λ j h=> lt_of_lt_of_le (bz.out j h) Hy.size) (aV.mono Hy λ _ _ h=> h) aC (bG.mono Hy λ _ _ h=> h) bE (by have:=av.out;have:=ae.out;have:=aY.out;have:=af.out;omega) bD bC).mono ?_;rintro e w6 ⟨c6,f6,a6,n6,k6,aF,rfl,ak,ai,-,am,ag,J⟩;refine ⟨_,rfl,J,?_⟩;have aT:=hid ak;have aR:=hid ai;have ad:=hid am;have aP:=hid ag;replace Hr:=hid (Hy.trans (J.mono Hy.size));clear ak ai am ag J hby Hy;go_simp
         repeat (first | go_big_quiet_step (fail) | quiet_step (fail))
         refine wpQuiet_nil ?_;intro wz aI;replace ad:=hid (ad.mono aI λ _ _ h=> h);replace Hr:=hid (Hr.trans (aI.mono Hr.size));clear aI;have aq:=hid (C.trans (Hr.mono C.size));have aK:=hid (H.below Hr H.lt);go_wp2_with (refine wpList_store_row rfl _ _ _ rfl _ rfl rfl aK.out rfl (by kernel_rfl) rfl ?_);intro W I G;have A:=hid (aq.trans (G.below aq.size λ k hk=> by show ¬ k=_;omega));have M:=hid (ad.agr (Z:=X) G (λ j _ h=> .inr h) (λ _ _ h=> .inl h));clear G;go_wp2;refine bodyPost_ret (v:=.tuple #[.agg #[qi c6,qs a6 n6 k6],qi f6]) ?_ rfl ?_
         . exact results_cell_tmp rfl _ _ rfl I Tryz.underlying189 rfl (by kernel_rfl)
         . exact ⟨c6,f6,a6,n6,k6,aF,rfl,aT,(by have:=aR.out;have:=av.out;have:=ae.out;have:=aZ.out;omega),(λ h=> h.elim),(M.imp λ w h=> PtsAt.le h aZ),aP,A⟩
       . have zn:((n:Int)==2)=false:=by simp;omega
         go_wp2_with (refine wpList_store_row rfl _ _ _ rfl _ rfl rfl H.out rfl (by kernel_rfl) rfl ?_);intro W I G;have A:=hid (C.trans (G.below C.size λ k hk=> by show ¬ k=_;omega));clear G;go_wp2;refine bodyPost_ret (v:=.tuple #[.agg q0d,qi 6]) ?_ rfl ?_
         . exact results_cell_tmp rfl _ _ rfl I Tryz.underlying189 rfl (by kernel_rfl)
         . exact ⟨0,6,none,0,0,[],rfl,rfl,zero_le _,(λ h=> h.elim),Ind.triv λ _=> .inl ⟨rfl,none,rfl⟩,(λ h=> absurd h (by decide)),A⟩
      | false=>
       go_wp2_with (refine wpList_store_row rfl _ _ _ rfl _ rfl rfl H.out rfl (by kernel_rfl) rfl ?_);intro W I G;have A:=hid (C.trans (G.below C.size λ k hk=> by show ¬ k=_;omega));clear G;go_wp2;refine bodyPost_ret (v:=.tuple #[.agg q0d,qi 6]) ?_ rfl ?_
       . exact results_cell_tmp rfl _ _ rfl I Tryz.underlying189 rfl (by kernel_rfl)
       . exact ⟨0,6,none,0,0,[],rfl,rfl,zero_le _,(λ h=> h.elim),Ind.triv λ _=> .inl ⟨rfl,none,rfl⟩,(λ h=> absurd h (by decide)),A⟩
end
section
open Go.Sort
def ET (L:List Int) (t:Int) (E:Ex):Prop:=(t=0->∀t',VT L t' E)/\(t=1->VT L 1 E)/\(t=2->VT L 2 E)/\(t=3\/∃t',VT L t' E)
theorem ET.fit {L:List Int} {t:Int} {E:Ex} (h:ET L t E) (hf:(t==0 || t==1)=true):VT L 1 E:=by
 simp only [Bool.or_eq_true,beq_iff_eq] at hf;rcases hf with hf | hf
 . exact h.1 hf 1
 . exact h.2.1 hf
theorem ET.fit2 {L:List Int} {t:Int} {E:Ex} (h:ET L t E) (hf:(t==0 || t==2)=true):VT L 2 E:=by
 simp only [Bool.or_eq_true,beq_iff_eq] at hf;rcases hf with hf | hf
 . exact h.1 hf 2
 . exact h.2.2.1 hf
theorem ET.int {L:List Int} {E:Ex} (h:VT L 1 E):ET L 1 E:=⟨λ h=> absurd h (by decide),λ _=> h,λ h=> absurd h (by decide),.inr ⟨1,h⟩⟩
def RuleP (L:List Int) (E:Ex) (w:World) (e:Ending) (w':World):Prop:=∃t f:Int,e=.returned (.tuple #[qi t,qi f])/\(f=0->ET L t E)/\Below w.heap.size w w'
theorem cRule_3 (L:List Int) (tb nm:ByteArray) (ix:Int) (v:Vl) (A:Ex) (t1:Int) (hA:ET L t1 A) (hx:ExS (.mk 3 tb nm ix v [A])) (hk:Ex.bulk (.mk 3 tb nm ix v [A])<=1100000) (sa ta:Option Addr) (sc tc:Nat) (w:World) (hs:ArgsAt w [A] (qs sa 1 sc)) (ht:NosAt w [t1] (qs ta 1 tc)):
 Calls Tryz.prog 120 #[.agg #[qi 3,qt tb,qt nm,qi ix,qi v.kind,qi v.int,qt v.text,qs sa 1 sc],qs ta 1 tc] w (RuleP L (.mk 3 tb nm ix v [A]) w):=by
 obtain ⟨W,V,rfl⟩:∃b o,ta=some ⟨b,o,none⟩:=by obtain ⟨b,o,cs,h,-⟩:=ht.get 0 (by simp);exact ⟨b,o,h⟩
 obtain ⟨_,_,ab,e0,I,-,H,rfl⟩:=ht.get 0 (by simp);cases e0;have U:w.cell? ⟨W,V,none⟩=some (qi t1):=by simpa using H 0 (by omega)
 have HA:=hid hA;have HS:=hid hs;have O:=hid λ w' h=> cNull_calls _ (.mk 3 tb nm ix v [A]) lr sa 1 sc w' h;have M:=hid λ w' h=> tOf_calls _ (.mk 3 tb nm ix v [A]) lr hx hk (λ _=> False) sa 1 sc w' (λ _ h=> h.elim) h;simp only [Ex.op,Ex.table,Ex.name,Ex.index,Ex.v,Ex.args] at O M;have V0:=hid (VarIs.new w #[qi 3,qt tb,qt nm,qi ix,qi v.kind,qi v.int,qt v.text,qs sa 1 sc] 37);have K:Hid (Below w.heap.size w (w.alloc (.cells #[qi 3,qt tb,qt nm,qi ix,qi v.kind,qi v.int,qt v.text,qs sa 1 sc] 37))):=zi.alloc lr _;have U:=(K.cell (p:=⟨W,V,none⟩) I).trans U;clear hs ht hA hx hk H I;go_enter Tryz.func120,Tryz.ntmps120;go_wp2_with fail;refine (cFits_calls t1 1 _).mono ?_;rintro e w1 ⟨rfl,rfl⟩;cases h1:(t1==0 || t1==1)
 . go_wp2
   go_ret2;exact ⟨0,6,rfl,(λ h=> absurd h (by decide)),K⟩
 . go_wp2_with fail
   refine (cFits_calls 0 1 _).mono ?_;rintro e w1 ⟨rfl,rfl⟩;go_wp2_with fail;refine (O.out _ (HS.mono K)).mono ?_;rintro e w2 ⟨q,rfl,-,G⟩;have D:=hid (K.trans (G.mono K.size));have F:=hid (V0.below G V0.lt);clear G;cases q with
   | true=>
    go_wp2;go_ret2;exact ⟨1,0,rfl,(λ _=> ET.int (.neg tb nm ix v A (HA.fit h1))),D⟩
   | false=>
    have c0:=F.a0;have c1:=F.a1;have c2:=F.a2;have c3:=F.a3;have c4:=F.a4;have c5:=F.a5;have c6:=F.a6;have c7:=F.a7;go_wp2_with fail;refine (M.out _ (HS.mono D)).mono ?_;rintro e w3 ⟨z3,T,a3,n3,k3,aa,rfl,-,-,-,-,-,G⟩;have C:=hid (D.trans (G.mono D.size));clear G c0 c1 c2 c3 c4 c5 c6 c7;go_wp2_with (refine wpList_store_row rfl _ _ _ rfl _ rfl rfl (VarIs.new _ _ _) rfl (by kernel_rfl) rfl ?_);intro w4 V4 A4;have J:Hid (Below w.heap.size w w4):=(C.alloc C.size _).trans (A4.below (by have:=C.size;simp <;> omega) (λ k hk=> by have:=C.size;show ¬ k=_;omega));clear A4 V4;by_cases hf:T=0
    . subst hf
      go_wp2;go_ret2;exact ⟨1,0,rfl,(λ _=> ET.int (.neg tb nm ix v A (HA.fit h1))),J⟩
    . have zf:(T==0)=false:=by simp [hf]
      go_wp2;go_ret2;exact ⟨0,T,rfl,(λ h=> absurd h hf),J⟩
theorem cRule_4 (L:List Int) (op:Int) (hop:op=4\/op=5) (tb nm:ByteArray) (ix:Int) (v:Vl) (A B:Ex) (t1 t2:Int) (hA:ET L t1 A) (hB:ET L t2 B) (hx:ExS (.mk op tb nm ix v [A,B])) (hk:Ex.bulk (.mk op tb nm ix v [A,B])<=1100000) (sa ta:Option Addr) (sc tc:Nat) (w:World) (hs:ArgsAt w [A,B] (qs sa 2 sc)) (ht:NosAt w [t1,t2] (qs ta 2 tc)):
 Calls Tryz.prog 120 #[.agg #[qi op,qt tb,qt nm,qi ix,qi v.kind,qi v.int,qt v.text,qs sa 2 sc],qs ta 2 tc] w (RuleP L (.mk op tb nm ix v [A,B]) w):=by
 obtain ⟨V,U,rfl⟩:∃b o,ta=some ⟨b,o,none⟩:=by obtain ⟨b,o,cs,h,-⟩:=ht.get 0 (by simp);exact ⟨b,o,h⟩
 obtain ⟨_,_,ac,e0,G,-,K,rfl⟩:=ht.get 0 (by simp);cases e0;have x0:w.cell? ⟨V,U,none⟩=some (qi t1):=by simpa using K 0 (by omega)
 obtain ⟨_,_,ab,e1,-,-,J,rfl⟩:=ht.get 1 (by simp);cases e1;have x1:w.cell? ⟨V,U+1,none⟩=some (qi t2):=by simpa using J 0 (by omega)
 have HA:=hid hA;have HB:=hid hB;have HS:=hid hs;have T:=hid λ w' h=> cNull_calls _ (.mk op tb nm ix v [A,B]) lr sa 2 sc w' h;have O:=hid λ w' h=> tOf_calls _ (.mk op tb nm ix v [A,B]) lr hx hk (λ _=> False) sa 2 sc w' (λ _ h=> h.elim) h;simp only [Ex.op,Ex.table,Ex.name,Ex.index,Ex.v,Ex.args] at T O;have V0:=hid (VarIs.new w #[qi op,qt tb,qt nm,qi ix,qi v.kind,qi v.int,qt v.text,qs sa 2 sc] 37);have H:Hid (Below w.heap.size w (w.alloc (.cells #[qi op,qt tb,qt nm,qi ix,qi v.kind,qi v.int,qt v.text,qs sa 2 sc] 37))):=zi.alloc lr _;have x0:=(H.cell (p:=⟨V,U,none⟩) G).trans x0;have x1:=(H.cell (p:=⟨V,U+1,none⟩) G).trans x1;clear hs ht hA hB J hx hk K G;rcases hop with rfl | rfl
 all_goals
  go_enter Tryz.func120,Tryz.ntmps120;go_wp2_with fail;refine (cFits_calls t1 1 _).mono ?_;rintro e w1 ⟨rfl,rfl⟩;cases h1:(t1==0 || t1==1)
  . go_wp2
    go_ret2;exact ⟨0,6,rfl,(λ h=> absurd h (by decide)),H⟩
  . go_wp2_with fail
    refine (cFits_calls t2 1 _).mono ?_;rintro e w1 ⟨rfl,rfl⟩;cases h2:(t2==0 || t2==1)
    . go_wp2
      go_ret2;exact ⟨0,6,rfl,(λ h=> absurd h (by decide)),H⟩
    . go_wp2_with fail
      refine (T.out _ (HS.mono H)).mono ?_;rintro e w2 ⟨q,rfl,-,I⟩;have D:=hid (H.trans (I.mono H.size));have F:=hid (V0.below I V0.lt);clear I;cases q with
      | true=>
       go_wp2;go_ret2;exact ⟨1,0,rfl,(λ _=> ET.int (.bin _ (by decide) tb nm ix v A B (HA.fit h1) (HB.fit h2))),D⟩
      | false=>
       have c0:=F.a0;have c1:=F.a1;have c2:=F.a2;have c3:=F.a3;have c4:=F.a4;have c5:=F.a5;have c6:=F.a6;have c7:=F.a7;go_wp2_with fail;refine (O.out _ (HS.mono D)).mono ?_;rintro e w3 ⟨z3,W,a3,n3,k3,aa,rfl,-,-,-,-,-,I⟩;have C:=hid (D.trans (I.mono D.size));clear I c0 c1 c2 c3 c4 c5 c6 c7;go_wp2_with (refine wpList_store_row rfl _ _ _ rfl _ rfl rfl (VarIs.new _ _ _) rfl (by kernel_rfl) rfl ?_);intro w4 V4 A4;have M:Hid (Below w.heap.size w w4):=(C.alloc C.size _).trans (A4.below (by have:=C.size;simp <;> omega) (λ k hk=> by have:=C.size;show ¬ k=_;omega));clear A4 V4;by_cases hf:W=0
       . subst hf
         go_wp2;go_ret2;exact ⟨1,0,rfl,(λ _=> ET.int (.bin _ (by decide) tb nm ix v A B (HA.fit h1) (HB.fit h2))),M⟩
       . have zf:(W==0)=false:=by simp [hf]
         go_wp2;go_ret2;exact ⟨0,W,rfl,(λ h=> absurd h hf),M⟩
theorem cRule_6 (L:List Int) (tb nm:ByteArray) (ix:Int) (v:Vl) (A B:Ex) (t1 t2:Int) (hA:ET L t1 A) (hB:ET L t2 B) (hx:ExS (.mk 6 tb nm ix v [A,B])) (hk:Ex.bulk (.mk 6 tb nm ix v [A,B])<=1100000) (sa ta:Option Addr) (sc tc:Nat) (w:World) (hs:ArgsAt w [A,B] (qs sa 2 sc)) (ht:NosAt w [t1,t2] (qs ta 2 tc)):
 Calls Tryz.prog 120 #[.agg #[qi 6,qt tb,qt nm,qi ix,qi v.kind,qi v.int,qt v.text,qs sa 2 sc],qs ta 2 tc] w (RuleP L (.mk 6 tb nm ix v [A,B]) w):=by
 obtain ⟨bt,ot,rfl⟩:∃b o,ta=some ⟨b,o,none⟩:=by obtain ⟨b,o,cs,h,-⟩:=ht.get 0 (by simp);exact ⟨b,o,h⟩
 obtain ⟨_,_,am,e0,W,-,V,rfl⟩:=ht.get 0 (by simp);cases e0;have x0:w.cell? ⟨bt,ot,none⟩=some (qi t1):=by simpa using V 0 (by omega)
 obtain ⟨_,_,al,e1,-,-,U,rfl⟩:=ht.get 1 (by simp);cases e1;have x1:w.cell? ⟨bt,ot+1,none⟩=some (qi t2):=by simpa using U 0 (by omega)
 have HA:=hid hA;have HB:=hid hB;have HS:=hid hs;have ab:=hid λ w' h=> cNull_calls _ (.mk 6 tb nm ix v [A,B]) lr sa 2 sc w' h;have aa:=hid λ w' h=> tOf_calls _ (.mk 6 tb nm ix v [A,B]) lr hx hk (λ _=> False) sa 2 sc w' (λ _ h=> h.elim) h;simp only [Ex.op,Ex.table,Ex.name,Ex.index,Ex.v,Ex.args] at ab aa;have C:=hid (VarIs.new w #[qi 6,qt tb,qt nm,qi ix,qi v.kind,qi v.int,qt v.text,qs sa 2 sc] 37);have F:Hid (Below w.heap.size w (w.alloc (.cells #[qi 6,qt tb,qt nm,qi ix,qi v.kind,qi v.int,qt v.text,qs sa 2 sc] 37))):=zi.alloc lr _;have x0:=(F.cell (p:=⟨bt,ot,none⟩) W).trans x0;have x1:=(F.cell (p:=⟨bt,ot+1,none⟩) W).trans x1;clear hs ht hA hB U hx hk V W;go_enter Tryz.func120,Tryz.ntmps120;go_wp2_with fail;refine (cFits_calls t1 1 _).mono ?_;rintro e w1 ⟨rfl,rfl⟩;cases h1:(t1==0 || t1==1)
 . go_wp2
   go_ret2;exact ⟨0,6,rfl,(λ h=> absurd h (by decide)),F⟩
 . go_wp2_with fail
   refine (cFits_calls t2 1 _).mono ?_;rintro e w1 ⟨rfl,rfl⟩;cases h2:(t2==0 || t2==1)
   . go_wp2
     go_ret2;exact ⟨0,6,rfl,(λ h=> absurd h (by decide)),F⟩
   . obtain ⟨sb,so,rfl⟩:=ArgsAt.addr HS (k:=0) (by simp)
     obtain ⟨s0,T,d0,d1,d2,d3,d4,d5,d6,d7⟩:=ArgsAt.cell (HS.mono F) 0 (by simp);obtain ⟨aj,af,ah,rfl,-,-⟩:=T.shape;simp only [getElem_cons_zero,zero_mul,add_zero] at d0 d1 d2 d3 d4 d5 d6 d7 T;have ad:=hid (rcolumns_calls _ A lr aj af ah _ T);go_wp2_with fail;refine ad.mono ?_;rintro e w2 ⟨rfl,D⟩;have M:=hid (F.trans (D.mono F.size));have J:=hid (C.below D C.lt);clear D ad T F C d0 d1 d2 d3 d4 d5 d6 d7;have F:=M;have C:=J;clear M J;cases V:Ex.cols A
     . have g0:=C.a0
       have g1:=C.a1;have g2:=C.a2;have g3:=C.a3;have g4:=C.a4;have g5:=C.a5;have g6:=C.a6;have g7:=C.a7;go_wp2_with fail;refine (ab.out _ (HS.mono F)).mono ?_;rintro e w2 ⟨q,rfl,-,D⟩;have H:=hid (F.trans (D.mono F.size));have I:=hid (C.below D C.lt);clear D;cases q with
       | true=>
        go_wp2;go_ret2;exact ⟨1,0,rfl,(λ _=> ET.int (.bin _ (by decide) tb nm ix v A B (HA.fit h1) (HB.fit h2))),H⟩
       | false=>
        have c0:=I.a0;have c1:=I.a1;have c2:=I.a2;have c3:=I.a3;have c4:=I.a4;have c5:=I.a5;have c6:=I.a6;have c7:=I.a7;go_wp2_with fail;refine (aa.out _ (HS.mono H)).mono ?_;rintro e w3 ⟨z3,f3,a3,n3,k3,ak,rfl,-,-,-,-,-,D⟩;have G:=hid (H.trans (D.mono H.size));clear D c0 c1 c2 c3 c4 c5 c6 c7;go_wp2_with (refine wpList_store_row rfl _ _ _ rfl _ rfl rfl (VarIs.new _ _ _) rfl (by kernel_rfl) rfl ?_);intro w4 V4 A4;have K:Hid (Below w.heap.size w w4):=(G.alloc G.size _).trans (A4.below (by have:=G.size;simp <;> omega) (λ k hk=> by have:=G.size;show ¬ k=_;omega));clear A4 V4;by_cases hf:f3=0
        . subst hf
          go_wp2;go_ret2;exact ⟨1,0,rfl,(λ _=> ET.int (.bin _ (by decide) tb nm ix v A B (HA.fit h1) (HB.fit h2))),K⟩
        . have zf:(f3==0)=false:=by simp [hf]
          go_wp2;go_ret2;exact ⟨0,f3,rfl,(λ h=> absurd h hf),K⟩
     . have g7:=C.a7
       obtain ⟨s1,O,d0,d1,d2,d3,d4,d5,d6,d7⟩:=ArgsAt.cell (HS.mono F) 1 (by simp);obtain ⟨ai,ae,ag,rfl,-,-⟩:=O.shape;simp only [getElem_cons_zero,getElem_cons_succ,one_mul] at d0 d1 d2 d3 d4 d5 d6 d7 O;have ac:=hid (rcolumns_calls _ B lr ai ae ag _ O);go_wp2_with fail;refine ac.mono ?_;rintro e w2 ⟨rfl,D⟩;have M:=hid (F.trans (D.mono F.size));have J:=hid (C.below D C.lt);clear D ac O F C d0 d1 d2 d3 d4 d5 d6 d7;have F:=M;have C:=J;clear M J;cases U:Ex.cols B
       . have g0:=C.a0
         have g1:=C.a1;have g2:=C.a2;have g3:=C.a3;have g4:=C.a4;have g5:=C.a5;have g6:=C.a6;have g7:=C.a7;go_wp2_with fail;refine (ab.out _ (HS.mono F)).mono ?_;rintro e w2 ⟨q,rfl,-,D⟩;have H:=hid (F.trans (D.mono F.size));have I:=hid (C.below D C.lt);clear D;cases q with
         | true=>
          go_wp2;go_ret2;exact ⟨1,0,rfl,(λ _=> ET.int (.bin _ (by decide) tb nm ix v A B (HA.fit h1) (HB.fit h2))),H⟩
         | false=>
          have c0:=I.a0;have c1:=I.a1;have c2:=I.a2;have c3:=I.a3;have c4:=I.a4;have c5:=I.a5;have c6:=I.a6;have c7:=I.a7;go_wp2_with fail;refine (aa.out _ (HS.mono H)).mono ?_;rintro e w3 ⟨z3,f3,a3,n3,k3,ak,rfl,-,-,-,-,-,D⟩;have G:=hid (H.trans (D.mono H.size));clear D c0 c1 c2 c3 c4 c5 c6 c7;go_wp2_with (refine wpList_store_row rfl _ _ _ rfl _ rfl rfl (VarIs.new _ _ _) rfl (by kernel_rfl) rfl ?_);intro w4 V4 A4;have K:Hid (Below w.heap.size w w4):=(G.alloc G.size _).trans (A4.below (by have:=G.size;simp <;> omega) (λ k hk=> by have:=G.size;show ¬ k=_;omega));clear A4 V4;by_cases hf:f3=0
          . subst hf
            go_wp2;go_ret2;exact ⟨1,0,rfl,(λ _=> ET.int (.bin _ (by decide) tb nm ix v A B (HA.fit h1) (HB.fit h2))),K⟩
          . have zf:(f3==0)=false:=by simp [hf]
            go_wp2;go_ret2;exact ⟨0,f3,rfl,(λ h=> absurd h hf),K⟩
       . go_wp2
         go_ret2;exact ⟨0,7,rfl,(λ h=> absurd h (by decide)),F⟩
theorem cRule_7 (L:List Int) (op:Int) (hop:op=7\/op=8) (tb nm:ByteArray) (ix:Int) (v:Vl) (A B:Ex) (t1 t2:Int) (hA:ET L t1 A) (hB:ET L t2 B) (hx:ExS (.mk op tb nm ix v [A,B])) (hk:Ex.bulk (.mk op tb nm ix v [A,B])<=1100000) (sa ta:Option Addr) (sc tc:Nat) (w:World) (hs:ArgsAt w [A,B] (qs sa 2 sc)) (ht:NosAt w [t1,t2] (qs ta 2 tc)):
 Calls Tryz.prog 120 #[.agg #[qi op,qt tb,qt nm,qi ix,qi v.kind,qi v.int,qt v.text,qs sa 2 sc],qs ta 2 tc] w (RuleP L (.mk op tb nm ix v [A,B]) w):=by
 obtain ⟨bt,ot,rfl⟩:∃b o,ta=some ⟨b,o,none⟩:=by obtain ⟨b,o,cs,h,-⟩:=ht.get 0 (by simp);exact ⟨b,o,h⟩
 obtain ⟨_,_,ai,e0,M,-,T,rfl⟩:=ht.get 0 (by simp);cases e0;have x0:w.cell? ⟨bt,ot,none⟩=some (qi t1):=by simpa using T 0 (by omega)
 obtain ⟨_,_,ah,e1,-,-,O,rfl⟩:=ht.get 1 (by simp);cases e1;have x1:w.cell? ⟨bt,ot+1,none⟩=some (qi t2):=by simpa using O 0 (by omega)
 have HA:=hid hA;have HB:=hid hB;have HS:=hid hs;have ab:=hid λ w' h=> cNull_calls _ (.mk op tb nm ix v [A,B]) lr sa 2 sc w' h;have aa:=hid λ w' h=> tOf_calls _ (.mk op tb nm ix v [A,B]) lr hx hk (λ _=> False) sa 2 sc w' (λ _ h=> h.elim) h;simp only [Ex.op,Ex.table,Ex.name,Ex.index,Ex.v,Ex.args] at ab aa;have D:=hid (VarIs.new w #[qi op,qt tb,qt nm,qi ix,qi v.kind,qi v.int,qt v.text,qs sa 2 sc] 37);have F:Hid (Below w.heap.size w (w.alloc (.cells #[qi op,qt tb,qt nm,qi ix,qi v.kind,qi v.int,qt v.text,qs sa 2 sc] 37))):=zi.alloc lr _;have x0:=(F.cell (p:=⟨bt,ot,none⟩) M).trans x0;have x1:=(F.cell (p:=⟨bt,ot+1,none⟩) M).trans x1;clear hs ht hA hB O hx hk T M;rcases hop with rfl | rfl
 all_goals
  go_enter Tryz.func120,Tryz.ntmps120;go_wp2_with fail;refine (cFits_calls t1 1 _).mono ?_;rintro e w1 ⟨rfl,rfl⟩;cases h1:(t1==0 || t1==1)
  . go_wp2
    go_ret2;exact ⟨0,6,rfl,(λ h=> absurd h (by decide)),F⟩
  . go_wp2_with fail
    refine (cFits_calls t2 1 _).mono ?_;rintro e w1 ⟨rfl,rfl⟩;cases h2:(t2==0 || t2==1)
    . go_wp2
      go_ret2;exact ⟨0,6,rfl,(λ h=> absurd h (by decide)),F⟩
    . obtain ⟨sb,so,rfl⟩:=ArgsAt.addr HS (k:=0) (by simp)
      obtain ⟨s1,H,d0,d1,d2,d3,d4,d5,d6,d7⟩:=ArgsAt.cell (HS.mono F) 1 (by simp);obtain ⟨af,ad,ae,rfl,-,-⟩:=H.shape;simp only [getElem_cons_zero,getElem_cons_succ,one_mul] at d0 d1 d2 d3 d4 d5 d6 d7 H;have ac:=hid (cDiv_calls B L 1 (HB.fit h2) af ad ae _ H);go_wp2_with fail;refine ac.mono ?_;rintro e w2 ⟨q,rfl,hq,G⟩;have HQ:=hid hq;have W:=hid (F.trans (G.mono F.size));have U:=hid (D.below G D.lt);clear G hq ac H F D d0 d1 d2 d3 d4 d5 d6 d7;have F:=W;have D:=U;clear W U;cases q with
      | false=>
       go_wp2;go_ret2;exact ⟨0,7,rfl,(λ h=> absurd h (by decide)),F⟩
      | true=>
       have C:=hid (HQ.out (by simp));have g0:=D.a0;have g1:=D.a1;have g2:=D.a2;have g3:=D.a3;have g4:=D.a4;have g5:=D.a5;have g6:=D.a6;have g7:=D.a7;go_wp2_with fail;refine (ab.out _ (HS.mono F)).mono ?_;rintro e w2 ⟨q,rfl,-,G⟩;have J:=hid (F.trans (G.mono F.size));have K:=hid (D.below G D.lt);clear G;cases q with
       | true=>
        go_wp2;go_ret2;exact ⟨1,0,rfl,(λ _=> ET.int (.div _ (by decide) tb nm ix v A B _ (HA.fit h1) (HB.fit h2) C.1 C.2.choose_spec.1 C.2.choose_spec.2.1 C.2.choose_spec.2.2.1 C.2.choose_spec.2.2.2)),J⟩
       | false=>
        have c0:=K.a0;have c1:=K.a1;have c2:=K.a2;have c3:=K.a3;have c4:=K.a4;have c5:=K.a5;have c6:=K.a6;have c7:=K.a7;go_wp2_with fail;refine (aa.out _ (HS.mono J)).mono ?_;rintro e w3 ⟨z3,f3,a3,n3,k3,ag,rfl,-,-,-,-,-,G⟩;have I:=hid (J.trans (G.mono J.size));clear G c0 c1 c2 c3 c4 c5 c6 c7;go_wp2_with (refine wpList_store_row rfl _ _ _ rfl _ rfl rfl (VarIs.new _ _ _) rfl (by kernel_rfl) rfl ?_);intro w4 V4 A4;have V:Hid (Below w.heap.size w w4):=(I.alloc I.size _).trans (A4.below (by have:=I.size;simp <;> omega) (λ k hk=> by have:=I.size;show ¬ k=_;omega));clear A4 V4;by_cases hf:f3=0
        . subst hf
          go_wp2;go_ret2;exact ⟨1,0,rfl,(λ _=> ET.int (.div _ (by decide) tb nm ix v A B _ (HA.fit h1) (HB.fit h2) C.1 C.2.choose_spec.1 C.2.choose_spec.2.1 C.2.choose_spec.2.2.1 C.2.choose_spec.2.2.2)),V⟩
        . have zf:(f3==0)=false:=by simp [hf]
          go_wp2;go_ret2;exact ⟨0,f3,rfl,(λ h=> absurd h hf),V⟩
theorem cRule_9 (L:List Int) (tb nm:ByteArray) (ix:Int) (v:Vl) (A:Ex) (t1:Int) (hA:ET L t1 A) (hx:ExS (.mk 9 tb nm ix v [A])) (hk:Ex.bulk (.mk 9 tb nm ix v [A])<=1100000) (sa ta:Option Addr) (sc tc:Nat) (w:World) (hs:ArgsAt w [A] (qs sa 1 sc)) (ht:NosAt w [t1] (qs ta 1 tc)):
 Calls Tryz.prog 120 #[.agg #[qi 9,qt tb,qt nm,qi ix,qi v.kind,qi v.int,qt v.text,qs sa 1 sc],qs ta 1 tc] w (RuleP L (.mk 9 tb nm ix v [A]) w):=by
 obtain ⟨J,I,rfl⟩:∃b o,ta=some ⟨b,o,none⟩:=by obtain ⟨b,o,cs,h,-⟩:=ht.get 0 (by simp);exact ⟨b,o,h⟩
 obtain ⟨_,_,M,K,C,-,q,rfl⟩:=ht.get 0 (by simp);cases K;have H:w.cell? ⟨J,I,none⟩=some (qi t1):=by simpa using q 0 (by omega)
 have O:=hid hA;have V:=hid hs;have G:=hid λ w' h=> cNull_calls _ (.mk 9 tb nm ix v [A]) lr sa 1 sc w' h;have F:=hid λ w' h=> tOf_calls _ (.mk 9 tb nm ix v [A]) lr hx hk (λ _=> False) sa 1 sc w' (λ _ h=> h.elim) h;simp only [Ex.op,Ex.table,Ex.name,Ex.index,Ex.v,Ex.args] at G F;have U:=hid (VarIs.new w #[qi 9,qt tb,qt nm,qi ix,qi v.kind,qi v.int,qt v.text,qs sa 1 sc] 37);have D:Hid (Below w.heap.size w (w.alloc (.cells #[qi 9,qt tb,qt nm,qi ix,qi v.kind,qi v.int,qt v.text,qs sa 1 sc] 37))):=zi.alloc lr _;have H:=(D.cell (p:=⟨J,I,none⟩) C).trans H;clear hs ht hA hx hk q C;go_enter Tryz.func120,Tryz.ntmps120;go_wp2_with fail;refine (cFits_calls t1 2 _).mono ?_;rintro e T ⟨rfl,rfl⟩;cases h1:(t1==0 || t1==2)
 . go_wp2
   go_ret2;exact ⟨0,6,rfl,(λ h=> absurd h (by decide)),D⟩
 . go_wp2
   go_ret2;exact ⟨1,0,rfl,(λ _=> ET.int (.len tb nm ix v A (O.fit2 h1))),D⟩
end
end
end Go.Proofs.YtcomoomndgbckaaGreat
