/- Part 27 of the proof. -/
import Derived.Test.YtcomoomndgbckaaGreatY25
set_option maxHeartbeats 16000000
set_option maxRecDepth 100000
open Go Go.RowKit
open Go.Lib (hid)
open List (getElem_cons_zero getElem_cons_succ)
open Nat (add_zero zero_mul one_mul)
namespace Go.Proofs.YtcomoomndgbckaaGreat
noncomputable section
section
open Go.Sort
theorem cRule_10 (L:List Int) (op:Int) (hop:op=10\/op=11) (tb nm:ByteArray) (ix:Int) (v:Vl) (A B:Ex) (t1 t2:Int) (hA:ET L t1 A) (hB:ET L t2 B) (hx:ExS (.mk op tb nm ix v [A,B])) (hk:Ex.bulk (.mk op tb nm ix v [A,B])<=1100000) (sa ta:Option Addr) (sc tc:Nat) (w:World) (hs:ArgsAt w [A,B] (qs sa 2 sc)) (ht:NosAt w [t1,t2] (qs ta 2 tc)):
 Calls Tryz.prog 120 #[.agg #[qi op,qt tb,qt nm,qi ix,qi v.kind,qi v.int,qt v.text,qs sa 2 sc],qs ta 2 tc] w (RuleP L (.mk op tb nm ix v [A,B]) w):=by
 obtain ⟨I,H,rfl⟩:∃b o,ta=some ⟨b,o,none⟩:=by obtain ⟨b,o,cs,h,-⟩:=ht.get 0 (by simp);exact ⟨b,o,h⟩
 obtain ⟨_,_,W,U,C,-,G,rfl⟩:=ht.get 0 (by simp);cases U;have O:w.cell? ⟨I,H,none⟩=some (qi t1):=by simpa using G 0 (by omega)
 obtain ⟨_,_,V,T,-,-,F,rfl⟩:=ht.get 1 (by simp);cases T;have M:w.cell? ⟨I,H+1,none⟩=some (qi t2):=by simpa using F 0 (by omega)
 have HA:=hid hA;have HB:=hid hB;have HS:=hid hs;have K:=hid λ w' h=> cNull_calls _ (.mk op tb nm ix v [A,B]) lr sa 2 sc w' h;have J:=hid λ w' h=> tOf_calls _ (.mk op tb nm ix v [A,B]) lr hx hk (λ _=> False) sa 2 sc w' (λ _ h=> h.elim) h;simp only [Ex.op,Ex.table,Ex.name,Ex.index,Ex.v,Ex.args] at K J;have V0:=hid (VarIs.new w #[qi op,qt tb,qt nm,qi ix,qi v.kind,qi v.int,qt v.text,qs sa 2 sc] 37);have q:Hid (Below w.heap.size w (w.alloc (.cells #[qi op,qt tb,qt nm,qi ix,qi v.kind,qi v.int,qt v.text,qs sa 2 sc] 37))):=zi.alloc lr _;have O:=(q.cell (p:=⟨I,H,none⟩) C).trans O;have M:=(q.cell (p:=⟨I,H+1,none⟩) C).trans M;clear hs ht hA hB F hx hk G C;rcases hop with rfl | rfl
 all_goals
  go_enter Tryz.func120,Tryz.ntmps120;go_wp2_with fail;refine (cFits_calls t1 1 _).mono ?_;rintro e D ⟨rfl,rfl⟩;cases h1:(t1==0 || t1==1)
  . go_wp2_with fail
    refine (cFits_calls t1 2 _).mono ?_;rintro e D ⟨rfl,rfl⟩;cases h3:(t1==0 || t1==2)
    . go_wp2
      go_ret2;exact ⟨0,6,rfl,(λ h=> absurd h (by decide)),q⟩
    . go_wp2_with fail
      refine (cFits_calls t2 2 _).mono ?_;rintro e D ⟨rfl,rfl⟩;cases h4:(t2==0 || t2==2)
      . go_wp2
        go_ret2;exact ⟨0,6,rfl,(λ h=> absurd h (by decide)),q⟩
      . go_wp2
        go_ret2;exact ⟨3,0,rfl,(λ _=> ⟨λ h=> absurd h (by decide),λ h=> absurd h (by decide),λ h=> absurd h (by decide),.inl rfl⟩),q⟩
  . go_wp2_with fail
    refine (cFits_calls t2 1 _).mono ?_;rintro e D ⟨rfl,rfl⟩;cases h2:(t2==0 || t2==1)
    . go_wp2_with fail
      refine (cFits_calls t1 2 _).mono ?_;rintro e D ⟨rfl,rfl⟩;cases h3:(t1==0 || t1==2)
      . go_wp2
        go_ret2;exact ⟨0,6,rfl,(λ h=> absurd h (by decide)),q⟩
      . go_wp2_with fail
        refine (cFits_calls t2 2 _).mono ?_;rintro e D ⟨rfl,rfl⟩;cases h4:(t2==0 || t2==2)
        . go_wp2
          go_ret2;exact ⟨0,6,rfl,(λ h=> absurd h (by decide)),q⟩
        . go_wp2
          go_ret2;exact ⟨3,0,rfl,(λ _=> ⟨λ h=> absurd h (by decide),λ h=> absurd h (by decide),λ h=> absurd h (by decide),.inl rfl⟩),q⟩
    . go_wp2
      go_ret2;exact ⟨3,0,rfl,(λ _=> ⟨λ h=> absurd h (by decide),λ h=> absurd h (by decide),λ h=> absurd h (by decide),.inl rfl⟩),q⟩
theorem cRule_12 (L:List Int) (op:Int) (hop:op=12\/op=13\/op=14\/op=15) (tb nm:ByteArray) (ix:Int) (v:Vl) (A B:Ex) (t1 t2:Int) (hA:ET L t1 A) (hB:ET L t2 B) (hx:ExS (.mk op tb nm ix v [A,B])) (hk:Ex.bulk (.mk op tb nm ix v [A,B])<=1100000) (sa ta:Option Addr) (sc tc:Nat) (w:World) (hs:ArgsAt w [A,B] (qs sa 2 sc)) (ht:NosAt w [t1,t2] (qs ta 2 tc)):
 Calls Tryz.prog 120 #[.agg #[qi op,qt tb,qt nm,qi ix,qi v.kind,qi v.int,qt v.text,qs sa 2 sc],qs ta 2 tc] w (RuleP L (.mk op tb nm ix v [A,B]) w):=by
 obtain ⟨bt,ot,rfl⟩:∃b o,ta=some ⟨b,o,none⟩:=by obtain ⟨b,o,cs,h,-⟩:=ht.get 0 (by simp);exact ⟨b,o,h⟩
 obtain ⟨_,_,aj,e0,M,-,W,rfl⟩:=ht.get 0 (by simp);cases e0;have x0:w.cell? ⟨bt,ot,none⟩=some (qi t1):=by simpa using W 0 (by omega)
 obtain ⟨_,_,ai,e1,-,-,V,rfl⟩:=ht.get 1 (by simp);cases e1;have x1:w.cell? ⟨bt,ot+1,none⟩=some (qi t2):=by simpa using V 0 (by omega)
 have HA:=hid hA;have HB:=hid hB;have HS:=hid hs;have ab:=hid λ w' h=> cNull_calls _ (.mk op tb nm ix v [A,B]) lr sa 2 sc w' h;have aa:=hid λ w' h=> tOf_calls _ (.mk op tb nm ix v [A,B]) lr hx hk (λ _=> False) sa 2 sc w' (λ _ h=> h.elim) h;simp only [Ex.op,Ex.table,Ex.name,Ex.index,Ex.v,Ex.args] at ab aa;have V0:=hid (VarIs.new w #[qi op,qt tb,qt nm,qi ix,qi v.kind,qi v.int,qt v.text,qs sa 2 sc] 37);have q:Hid (Below w.heap.size w (w.alloc (.cells #[qi op,qt tb,qt nm,qi ix,qi v.kind,qi v.int,qt v.text,qs sa 2 sc] 37))):=zi.alloc lr _;have x0:=(q.cell (p:=⟨bt,ot,none⟩) M).trans x0;have x1:=(q.cell (p:=⟨bt,ot+1,none⟩) M).trans x1;clear hs ht hA hB V hx hk W M;rcases hop with rfl | rfl | rfl | rfl
 all_goals
  go_enter Tryz.func120,Tryz.ntmps120;obtain ⟨sb,so,rfl⟩:=ArgsAt.addr HS (k:=0) (by simp);obtain ⟨s0,K,d0,d1,d2,d3,d4,d5,d6,d7⟩:=ArgsAt.cell (HS.mono q) 0 (by simp);obtain ⟨ah,ad,af,rfl,-,-⟩:=K.shape;simp only [getElem_cons_zero,zero_mul,add_zero] at d0 d1 d2 d3 d4 d5 d6 d7 K;obtain ⟨s1,J,e0,e1,e2,e3,e4,e5,e6,e7⟩:=ArgsAt.cell (HS.mono q) 1 (by simp);obtain ⟨ag,ac,ae,rfl,-,-⟩:=J.shape;simp only [getElem_cons_zero,getElem_cons_succ,one_mul] at e0 e1 e2 e3 e4 e5 e6 e7 J;obtain ⟨I,U⟩:=gx A.op
  obtain ⟨H,T⟩:=gx B.op
  rw [U] at d0;rw [T] at e0;clear d1 d2 d3 d4 d5 d6 d7 e1 e2 e3 e4 e5 e6 e7 K J U T;go_wp2_with fail;refine (cFits_calls t1 1 _).mono ?_;rintro e O ⟨rfl,rfl⟩;cases h1:(t1==0 || t1==1)
  . go_wp2_with fail
    refine (cFits_calls t1 2 _).mono ?_;rintro e O ⟨rfl,rfl⟩;cases h3:(t1==0 || t1==2)
    . go_wp2
      go_ret2;exact ⟨0,6,rfl,(λ h=> absurd h (by decide)),q⟩
    . go_wp2_with fail
      refine (cFits_calls t2 2 _).mono ?_;rintro e O ⟨rfl,rfl⟩;cases h4:(t2==0 || t2==2)
      . go_wp2
        go_ret2;exact ⟨0,6,rfl,(λ h=> absurd h (by decide)),q⟩
      . by_cases g1:t1=2
        . have G:(t1==2)=true:=by simp [g1]
          by_cases g2:t2=2
          . have F:(t2==2)=true:=by simp [g2]
            by_cases g3:I=2
            . have D:(I==2)=true:=by simp [g3]
              by_cases g4:H=2
              . have C:(H==2)=true:=by simp [g4]
                go_wp2;go_ret2;exact ⟨0,7,rfl,(λ h=> absurd h (by decide)),q⟩
              . have C:(H==2)=false:=by simp [g4]
                go_wp2;go_ret2;exact ⟨3,0,rfl,(λ _=> ⟨λ h=> absurd h (by decide),λ h=> absurd h (by decide),λ h=> absurd h (by decide),.inl rfl⟩),q⟩
            . have D:(I==2)=false:=by simp [g3]
              go_wp2;go_ret2;exact ⟨3,0,rfl,(λ _=> ⟨λ h=> absurd h (by decide),λ h=> absurd h (by decide),λ h=> absurd h (by decide),.inl rfl⟩),q⟩
          . have F:(t2==2)=false:=by simp [g2]
            go_wp2;go_ret2;exact ⟨3,0,rfl,(λ _=> ⟨λ h=> absurd h (by decide),λ h=> absurd h (by decide),λ h=> absurd h (by decide),.inl rfl⟩),q⟩
        . have G:(t1==2)=false:=by simp [g1]
          go_wp2;go_ret2;exact ⟨3,0,rfl,(λ _=> ⟨λ h=> absurd h (by decide),λ h=> absurd h (by decide),λ h=> absurd h (by decide),.inl rfl⟩),q⟩
  . go_wp2_with fail
    refine (cFits_calls t2 1 _).mono ?_;rintro e O ⟨rfl,rfl⟩;cases h2:(t2==0 || t2==1)
    . go_wp2_with fail
      refine (cFits_calls t1 2 _).mono ?_;rintro e O ⟨rfl,rfl⟩;cases h3:(t1==0 || t1==2)
      . go_wp2
        go_ret2;exact ⟨0,6,rfl,(λ h=> absurd h (by decide)),q⟩
      . go_wp2_with fail
        refine (cFits_calls t2 2 _).mono ?_;rintro e O ⟨rfl,rfl⟩;cases h4:(t2==0 || t2==2)
        . go_wp2
          go_ret2;exact ⟨0,6,rfl,(λ h=> absurd h (by decide)),q⟩
        . by_cases g1:t1=2
          . have G:(t1==2)=true:=by simp [g1]
            by_cases g2:t2=2
            . have F:(t2==2)=true:=by simp [g2]
              by_cases g3:I=2
              . have D:(I==2)=true:=by simp [g3]
                by_cases g4:H=2
                . have C:(H==2)=true:=by simp [g4]
                  go_wp2;go_ret2;exact ⟨0,7,rfl,(λ h=> absurd h (by decide)),q⟩
                . have C:(H==2)=false:=by simp [g4]
                  go_wp2;go_ret2;exact ⟨3,0,rfl,(λ _=> ⟨λ h=> absurd h (by decide),λ h=> absurd h (by decide),λ h=> absurd h (by decide),.inl rfl⟩),q⟩
              . have D:(I==2)=false:=by simp [g3]
                go_wp2;go_ret2;exact ⟨3,0,rfl,(λ _=> ⟨λ h=> absurd h (by decide),λ h=> absurd h (by decide),λ h=> absurd h (by decide),.inl rfl⟩),q⟩
            . have F:(t2==2)=false:=by simp [g2]
              go_wp2;go_ret2;exact ⟨3,0,rfl,(λ _=> ⟨λ h=> absurd h (by decide),λ h=> absurd h (by decide),λ h=> absurd h (by decide),.inl rfl⟩),q⟩
          . have G:(t1==2)=false:=by simp [g1]
            go_wp2;go_ret2;exact ⟨3,0,rfl,(λ _=> ⟨λ h=> absurd h (by decide),λ h=> absurd h (by decide),λ h=> absurd h (by decide),.inl rfl⟩),q⟩
    . by_cases g1:t1=2
      . have G:(t1==2)=true:=by simp [g1]
        by_cases g2:t2=2
        . have F:(t2==2)=true:=by simp [g2]
          by_cases g3:I=2
          . have D:(I==2)=true:=by simp [g3]
            by_cases g4:H=2
            . have C:(H==2)=true:=by simp [g4]
              go_wp2;go_ret2;exact ⟨0,7,rfl,(λ h=> absurd h (by decide)),q⟩
            . have C:(H==2)=false:=by simp [g4]
              go_wp2;go_ret2;exact ⟨3,0,rfl,(λ _=> ⟨λ h=> absurd h (by decide),λ h=> absurd h (by decide),λ h=> absurd h (by decide),.inl rfl⟩),q⟩
          . have D:(I==2)=false:=by simp [g3]
            go_wp2;go_ret2;exact ⟨3,0,rfl,(λ _=> ⟨λ h=> absurd h (by decide),λ h=> absurd h (by decide),λ h=> absurd h (by decide),.inl rfl⟩),q⟩
        . have F:(t2==2)=false:=by simp [g2]
          go_wp2;go_ret2;exact ⟨3,0,rfl,(λ _=> ⟨λ h=> absurd h (by decide),λ h=> absurd h (by decide),λ h=> absurd h (by decide),.inl rfl⟩),q⟩
      . have G:(t1==2)=false:=by simp [g1]
        go_wp2;go_ret2;exact ⟨3,0,rfl,(λ _=> ⟨λ h=> absurd h (by decide),λ h=> absurd h (by decide),λ h=> absurd h (by decide),.inl rfl⟩),q⟩
end
end
end Go.Proofs.YtcomoomndgbckaaGreat
