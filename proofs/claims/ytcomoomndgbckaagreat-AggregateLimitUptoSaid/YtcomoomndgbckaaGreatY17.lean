/- Part 17 of the proof. -/
import Derived.Test.YtcomoomndgbckaaGreatY14
set_option maxHeartbeats 16000000
set_option maxRecDepth 100000
open Go Go.RowKit
open Go.Lib (hid)
open List (getElem?_cons_zero getElem?_cons_succ nil_append cons_append)
open Nat (zero_le le_succ lt_succ_self)
namespace Go.Proofs.YtcomoomndgbckaaGreat
noncomputable section
theorem bSmall_calls (l:List Stt) (la:Option Addr) (lc:Nat) (w:World) (hl:LsAt 22 SttE w l (qs la l.length lc)):Calls Tryz.prog 71 #[qs la l.length lc] w (BoolP True w):=by
 have HL:=hid hl;have h1:l.length<=2000000000000:=by obtain ⟨_,_,e,h⟩:=hl.shape;exact h
 obtain ⟨n,hn⟩:=gx l.length
 have HN:=hid hn;rw [hn] at HL h1 ⊢;clear hl hn;go_enter Tryz.func71,Tryz.ntmps71;go_wp2;go_loopw [3] (λ z wr=> ∃k:Nat,k<=n/\z=qi k/\Hid (Below w.heap.size w wr)) (λ z _=> n - (intOf z).toNat)
 case atStart=> exact ⟨0,zero_le _,rfl,zi⟩
 case round=>
  obtain ⟨k,hk,rfl,A⟩:=hrel
  rename World=> K
  by_cases hlt:k < n
  . have D:k < l.length:=by rw [HN.out];exact hlt
    have F:=HL.mono SttE.mono A;rw [<-HN.out] at F;obtain ⟨b,o,cs,h1,aa,h3,h4,v,rfl,h5⟩:=F.get k D;subst h1;have e1:=h4 1 (by omega);have e2:=h4 2 (by omega);have e3:=h4 3 (by omega);have e4:=h4 4 (by omega);have e5:=h4 5 (by omega);rw [HN.out] at F;generalize l[k]=y at *;simp only [Stt.cells,Ex.cells,cons_append,nil_append,getElem?_cons_zero,getElem?_cons_succ] at e1 e2 e3 e4 e5;obtain ⟨a1,W,k1,a2,V,k2,a3,U,k3,a4,T,k4,a5,n5,k5,a6,n6,k6,a7,n7,k7,a8,n8,k8,a9,n9,k9,a10,ap,ar,a11,ao,aq,rfl,h1,m1,h2,m2,ad,m3,ac,m4,-,-,-,-,-,-,-,-,-,-,-,-,-,-⟩:=h5.shapes;simp only at e1 e2 e3 e4 e5;have HD:=hid h5.create;simp only at HD;have ai:=hid h1;have ah:=hid h2;have ag:=hid ad;have af:=hid ac;clear F D h3 h4 h5 h1 h2 ad ac;have Hu:=hid (VarIs.new K #[qs a1 W k1,qs a2 V k2,qs a3 U k3,qs a4 T k4] 29);have M:=hid ((Below.refl K.heap.size K).alloc lr (.cells #[qs a1 W k1,qs a2 V k2,qs a3 U k3,qs a4 T k4] 29));go_upto_region 5 with (fail)
    go_cut [50] from 20 to 50 (λ z wy=> ∃q:Bool,z=.bool q/\(K.alloc (.cells #[qs a1 W k1,qs a2 V k2,qs a3 U k3,qs a4 T k4] 29))=wy)
    case first=>
     clear Hu M HD ai ah ag af
     as_aux_lemma=>
      go_wp2 <;> (go_meet;exact ⟨_,rfl,rfl⟩)
    obtain ⟨q,rfl,rfl⟩:=hcut;cases q with
    | true=>
     go_wp2;go_ret;exact ⟨false,rfl,(λ h=> (by cases h)),(A.trans (M.mono A.size))⟩
    | false=>
     clear e1 e2 e3 e4 e5;have G:=hid (Below.refl (K.heap.size+1) (K.alloc (.cells #[qs a1 W k1,qs a2 V k2,qs a3 U k3,qs a4 T k4] 29)));go_wp2;go_loopw [5] (λ z wy=> ∃i:Nat,i<=W/\z=qi i/\Hid (Below (K.heap.size+1) (K.alloc (.cells #[qs a1 W k1,qs a2 V k2,qs a3 U k3,qs a4 T k4] 29)) wy)) (λ z _=> W - (intOf z).toNat)
     case atStart=> exact ⟨0,zero_le _,rfl,G⟩
     case round=>
      clear G;obtain ⟨i,hi,rfl,G⟩:=hrel;have C:=hid (M.trans (G.mono (le_succ _)));obtain ⟨O,L,-⟩:=Hu.below G (lt_succ_self _);have g0:=L 0;simp only [q2a] at g0;clear L;by_cases hil:i < W
      . have D:i < y.create.cols.length:=by rw [ai.out];exact hil
        have F:=HD.cols.mono ClE.mono C;obtain ⟨b,o,rfl,aa,d0,-,-,-,-,-⟩:=ClAt.cell F i D;generalize y.create.cols[i]=z at *;clear F D;by_cases h60:60 < z.name.size
        . go_wp2
          go_ret;exact ⟨false,rfl,(λ h=> (by cases h)),(A.trans (C.mono A.size))⟩
        . go_wp2
          go_roundw
          case rel=> exact ⟨i+1,by omega,by go_num,G⟩
          case measure=> simp [intOf];omega
      . obtain rfl:W=i:=by omega
        go_wp2;clear g0 O;go_loopw [6] (λ z wy=> ∃i:Nat,i<=V/\z=qi i/\Hid (Below (K.heap.size+1) (K.alloc (.cells #[qs a1 W k1,qs a2 V k2,qs a3 U k3,qs a4 T k4] 29)) wy)) (λ z _=> V - (intOf z).toNat)
        case atStart=> exact ⟨0,zero_le _,rfl,G⟩
        case round=>
         clear G;obtain ⟨i,hi,rfl,G⟩:=hrel;have C:=hid (M.trans (G.mono (le_succ _)));obtain ⟨O,L,-⟩:=Hu.below G (lt_succ_self _);have g1:=L 1;simp only [q2a] at g1;clear L;by_cases hil:i < V
         . have D:i < y.create.keys.length:=by rw [ah.out];exact hil
           have F:=HD.keys.mono (LlE.mono NmE.mono) C;obtain ⟨b,o,a12,aj,rfl,aa,d0,hx⟩:=LlAt.cell F i D;generalize y.create.keys[i]=z at *;have HC:=hid (bFew_calls 0 z a12 aj _ hx);clear F D hx;go_wp2_with fail;refine (HC).mono ?_;rintro e w3 ⟨q,rfl,-,I⟩;have J:=hid (G.trans (I.mono (by have:=G.size;simp at this;omega)));have H:=hid (C.trans (I.mono C.size));clear I d0 g1 O;cases q with
           | false=>
            go_wp2;go_ret;exact ⟨false,rfl,(λ h=> (by cases h)),(A.trans (H.mono A.size))⟩
           | true=>
            go_wp2;go_roundw
            case rel=> exact ⟨i+1,by omega,by go_num,J⟩
            case measure=> simp [intOf];omega
         . obtain rfl:V=i:=by omega
           go_wp2;clear g1 O;go_loopw [7] (λ z wy=> ∃i:Nat,i<=U/\z=qi i/\Hid (Below (K.heap.size+1) (K.alloc (.cells #[qs a1 W k1,qs a2 V k2,qs a3 U k3,qs a4 T k4] 29)) wy)) (λ z _=> U - (intOf z).toNat)
           case atStart=> exact ⟨0,zero_le _,rfl,G⟩
           case round=>
            clear G;obtain ⟨i,hi,rfl,G⟩:=hrel;have C:=hid (M.trans (G.mono (le_succ _)));obtain ⟨O,L,-⟩:=Hu.below G (lt_succ_self _);have g2:=L 2;simp only [q2a] at g2;clear L;by_cases hil:i < U
            . have D:i < y.create.fks.length:=by rw [ag.out];exact hil
              have F:=HD.fks.mono RfE.mono C;obtain ⟨b,o,a5,k5,a6,k6,rfl,aa,d0,d1,d2,hx,hy⟩:=RfAt.cell F i D;generalize y.create.fks[i]=z at *;obtain ⟨zc,zt,zg⟩:=z;simp only at d0 d1 d2 hx hy;have an:=hid hy;have HC:=hid (bFew_calls 0 zc a5 k5 _ hx);clear F D hx hy;by_cases h60:60 < zt.size
              . go_wp2
                go_ret;exact ⟨false,rfl,(λ h=> (by cases h)),(A.trans (C.mono A.size))⟩
              . go_wp2_with fail
                refine (HC).mono ?_;rintro e w3 ⟨q,rfl,-,I⟩;have J:=hid (G.trans (I.mono (by have:=G.size;simp at this;omega)));have H:=hid (C.trans (I.mono C.size));replace d2:=(I.cell (p:=⟨b,o+i * 3+2,none⟩) aa).trans d2;have am:=hid (an.mono NmE.mono I);clear I d0 d1 g2 O;cases q with
                | false=>
                 go_wp2;go_ret;exact ⟨false,rfl,(λ h=> (by cases h)),(A.trans (H.mono A.size))⟩
                | true=>
                 obtain ⟨O,L,-⟩:=Hu.below J (lt_succ_self _);have g2:=L 2;simp only [q2a] at g2;clear L;go_wp2_with fail;refine (bFew_calls 0 zg a6 k6 _ am).mono ?_;rintro e w4 ⟨q,rfl,-,I⟩;have ak:=hid (J.trans (I.mono (by have:=J.size;simp at this;omega)));have ae:=hid (H.trans (I.mono H.size));clear I d2 g2 O;cases q with
                 | false=>
                  go_wp2;go_ret;exact ⟨false,rfl,(λ h=> (by cases h)),(A.trans (ae.mono A.size))⟩
                 | true=>
                  go_wp2;go_roundw
                  case rel=> exact ⟨i+1,by omega,by go_num,ak⟩
                  case measure=> simp [intOf];omega
            . obtain rfl:U=i:=by omega
              go_wp2;clear g2 O;go_loopw [8] (λ z wy=> ∃i:Nat,i<=T/\z=qi i/\Hid (Below (K.heap.size+1) (K.alloc (.cells #[qs a1 W k1,qs a2 V k2,qs a3 U k3,qs a4 T k4] 29)) wy)) (λ z _=> T - (intOf z).toNat)
              case atStart=> exact ⟨0,zero_le _,rfl,G⟩
              case round=>
               clear G;obtain ⟨i,hi,rfl,G⟩:=hrel;have C:=hid (M.trans (G.mono (le_succ _)));obtain ⟨O,L,-⟩:=Hu.below G (lt_succ_self _);have g3:=L 3;simp only [q2a] at g3;clear L;by_cases hil:i < T
               . have D:i < y.create.checks.length:=by rw [af.out];exact hil
                 obtain ⟨b,o,rfl⟩:=HD.checks.addr D;obtain ⟨s',ab,d0,d1,d2,d3,d4,d5,d6,d7⟩:=(HD.checks.mono C).cell i D;obtain ⟨sa,sn,sc,rfl,-,-⟩:=ab.shape;generalize y.create.checks[i]=E' at *;have HC:=hid (bFine_calls _ E' lr 4 sa sn sc _ ab);clear ab D;go_wp2_with fail;refine (HC).mono ?_;rintro e w3 ⟨q,rfl,-,I⟩;have J:=hid (G.trans (I.mono (by have:=G.size;simp at this;omega)));have H:=hid (C.trans (I.mono C.size));clear I d0 d1 d2 d3 d4 d5 d6 d7 g3 O;cases q with
                 | false=>
                  go_wp2;go_ret;exact ⟨false,rfl,(λ h=> (by cases h)),(A.trans (H.mono A.size))⟩
                 | true=>
                  go_wp2;go_roundw
                  case rel=> exact ⟨i+1,by omega,by go_num,J⟩
                  case measure=> simp [intOf];omega
               . obtain rfl:T=i:=by omega
                 have al:=hid (A.trans (C.mono A.size));go_wp2;clear g3 O;go_roundw
                 case rel=> exact ⟨k+1,by omega,by go_num,al⟩
                 case measure=> simp [intOf];omega
  . obtain rfl:n=k:=by omega
    go_wp2;go_ret;exact ⟨_,rfl,(λ _=> trivial),A⟩
end
end Go.Proofs.YtcomoomndgbckaaGreat
