/- Part 2 of the proof. -/
import Derived.Test.YtcomoomndgbckaaGreatY00
set_option maxHeartbeats 16000000
set_option maxRecDepth 100000
open Go Go.RowKit
open Go.Lib (hid)
open List (getElem_mem length_append nil_append map_cons append_assoc length_take mem_cons map_nil cons_append mem_append take_succ_eq_append_getElem mem_of_getElem? getElem?_eq_getElem drop_eq_getElem_cons take_of_length_le length_nil mem_iff_getElem length_eq_zero_iff drop_of_length_le not_mem_nil getElem?_append_right getD_eq_getElem?_getD all_eq_true)
open Nat (le_refl zero_le le_trans lt_of_lt_of_le add_zero zero_add zero_mul one_mul min_eq_left)
noncomputable section
namespace Go.Proofs.YtcomoomndgbckaaGreat
open Go.RowKit
theorem cmpR_step {R S:Rw} {k:Nat} (h1:k < R.length) (h2:k < S.length):cmpR (R.drop k) (S.drop k)=if cmpV R[k] S[k]=0 then cmpR (R.drop (k+1)) (S.drop (k+1)) else cmpV R[k] S[k]:=by
 rw [drop_eq_getElem_cons h1,drop_eq_getElem_cons h2,cmpR]
theorem cmpR_long {R S:Rw} {k:Nat} (h1:k < R.length) (h2:S.length<=k):cmpR (R.drop k) (S.drop k)=1:=by
 rw [drop_eq_getElem_cons h1,drop_of_length_le h2,cmpR]
theorem cmpR_short {R S:Rw} {k:Nat} (h1:R.length<=k) (h2:k < S.length):cmpR (R.drop k) (S.drop k)= -1:=by
 rw [drop_eq_getElem_cons h2,drop_of_length_le h1,cmpR]
theorem cmpR_both {R S:Rw} {k:Nat} (h1:R.length<=k) (h2:S.length<=k):cmpR (R.drop k) (S.drop k)=0:=by
 rw [drop_of_length_le h1,drop_of_length_le h2,cmpR]
theorem compareFunc_calls (R S:Rw) (r s:Value) (w:World) (hr:ValsAt w R r) (hs:ValsAt w S s):Calls Tryz.prog 63 #[r,s,.func (.func 40) #[] #[]] w λ e w'=> e=.returned (qi (cmpR R S))/\Below w.heap.size w w':=by
 obtain ⟨a,n,c,rfl,hn,hm⟩:=hr.shape;obtain ⟨a',T,c',rfl,I,U⟩:=hs.shape;unfold maxLen at hm U;have W:=hid hr;have V:=hid hs;have Hn:=hid hn;have G:=hid I;clear hr hs hn I;go_enter Tryz.func63,Tryz.ntmps63;go_wp2;go_loopw [13] (λ i wr=> ∃k:Nat,k<=n/\k<=T/\i=qi k/\Hid (cmpR R S=cmpR (R.drop k) (S.drop k))/\Hid (Below w.heap.size w wr)) (λ i _=> n - (intOf i).toNat)
 case atStart=> exact ⟨0,zero_le _,zero_le _,rfl,rfl,zi⟩
 case round=>
  obtain ⟨k,hk,ab,rfl,L,D⟩:=hrel;by_cases hlt:k < n
  . have C:k < R.length:=by have:=Hn.out;omega
    obtain ⟨b,o,rfl⟩:=W.has k hlt;obtain ⟨c0,c1,c2⟩:=(W.mono D).cell k C;have ad:=(W.mono D).lt C;by_cases hlt':k < T
    . have F:k < S.length:=by have:=G.out;omega
      obtain ⟨b',O,rfl⟩:=V.has k hlt';obtain ⟨d0,d1,d2⟩:=(V.mono D).cell k F;have aa:=(V.mono D).lt F;have K:=hid (cmpR_step C F);have HC:=hid (λ w'=> cmpV_calls R[k] S[k] w');have H:Hid (∀o O,Below w.heap.size w ((wr.alloc o).alloc O)):=λ o O=> (D.alloc D.size o).alloc (by have:=D.size;simp;omega) O;have V1:Hid (∀c,VarIs (wr.alloc (.cells c 35)) wr.heap.size c):=λ c=> VarIs.new wr c 35;generalize R[k]=x at *;generalize S[k]=y at *;clear C F;go_wp2_with fail;refine (HC.out _).mono ?_;rintro e w1 ⟨rfl,J⟩;have M:=hid ((H.out _ _).trans (J.mono (H.out _ _).size));clear J c0 c1 c2 d0 d1 d2;by_cases h0:cmpV x y=0
      . have b0:(cmpV x y !=0)=false:=by simp [h0]
        have A:Hid (cmpR R S=cmpR (R.drop (k+1)) (S.drop (k+1))):=by show _=_;rw [L.out,K.out,if_pos h0]
        clear h0;go_wp2;go_roundw
        case rel=> exact ⟨k+1,by omega,by omega,by go_num,A,M⟩
        case measure=> simp [intOf];omega
      . have b0:(cmpV x y !=0)=true:=by simp [h0]
        have A:Hid (cmpR R S=cmpV x y):=by show _=_;rw [L.out,K.out,if_neg h0]
        clear h0;go_wp2;go_ret;exact ⟨by rw [A.out];rfl,M⟩
    . have q:Hid (cmpR R S=1):=by show _=_;rw [L.out,cmpR_long C (by have:=G.out;omega)]
      have ac:T<=k:=by omega
      have H:Hid (∀o,Below w.heap.size w (wr.alloc o)):=λ o=> D.alloc D.size o;generalize R[k]=x at *;clear C hlt';go_wp2;go_ret;exact ⟨by rw [q.out];rfl,H.out _⟩
  . obtain rfl:k=n:=by omega
    by_cases hlt':k < T
    . have q:Hid (cmpR R S= -1):=by show _=_;rw [L.out,cmpR_short (by have:=Hn.out;omega) (by have:=G.out;omega)]
      go_wp2;go_ret;exact ⟨by rw [q.out];rfl,D⟩
    . have q:Hid (cmpR R S=0):=by show _=_;rw [L.out,cmpR_both (by have:=Hn.out;omega) (by have:=G.out;omega)]
      go_wp2;go_ret;exact ⟨by rw [q.out];rfl,D⟩
theorem compareRows_calls (R S:Rw) (r s:Value) (w:World) (hr:ValsAt w R r) (hs:ValsAt w S s):Calls Tryz.prog 34 #[r,s] w λ e w'=> e=.returned (qi (cmpR R S))/\Below w.heap.size w w':=by
 have H:=hid (compareFunc_calls R S r s w hr hs);clear hr hs;go_enter Tryz.func34,Tryz.ntmps34;go_wp2_with fail;refine H.mono ?_;rintro e A ⟨rfl,o⟩;have q:=hid o;clear o;go_wp2;go_ret;exact ⟨rfl,q⟩
end Go.Proofs.YtcomoomndgbckaaGreat
end
noncomputable section
namespace Go.Proofs.YtcomoomndgbckaaGreat
open Go.RowKit
theorem ints_calls (a b:Int) (w:World):Calls Tryz.prog 65 #[qi a,qi b] w λ e w'=> e=.returned (qi (cmpS a b))/\w=w':=by
 unfold cmpS;go_enter Tryz.func65,Tryz.ntmps65;go_wp2
 all_goals go_ret
 all_goals exact ⟨by simp [*],rfl⟩
theorem cmpB_step {a b:List UInt8} {k:Nat} (h1:k < a.length) (h2:k < b.length):Lib.compareBytes (a.drop k) (b.drop k)=if a[k]=b[k] then Lib.compareBytes (a.drop (k+1)) (b.drop (k+1)) else cmpS a[k].toNat b[k].toNat:=by
 rw [drop_eq_getElem_cons h1,drop_eq_getElem_cons h2,Lib.compareBytes];unfold cmpS;by_cases h:a[k]=b[k]
 . have:¬ b[k] < b[k]:=UInt8.lt_irrefl _
   simp [h,this]
 . have o:a[k].toNat≠b[k].toNat:=λ e=> h (UInt8.toNat_inj.1 e)
   simp only [UInt8.lt_iff_toNat_lt,h,if_false];by_cases h3:a[k].toNat < b[k].toNat
   . have:(a[k].toNat:Int) < b[k].toNat:=by omega
     simp [h3,this]
   . have C:b[k].toNat < a[k].toNat:=by omega
     have A:¬ (a[k].toNat:Int) < b[k].toNat:=by omega
     have q:(b[k].toNat:Int) < a[k].toNat:=by omega
     simp [h3,C,A,q]
theorem cmpB_end {a b:List UInt8} {k:Nat} (h:a.length<=k\/b.length<=k) (h1:k<=a.length) (h2:k<=b.length):Lib.compareBytes (a.drop k) (b.drop k)=cmpS a.length b.length:=by
 unfold cmpS;by_cases h3:a.length<=k
 . rw [drop_of_length_le h3]
   by_cases o:b.length<=k
   . rw [drop_of_length_le o]
     have e:a.length=b.length:=by omega
     simp [Lib.compareBytes,e]
   . rw [drop_eq_getElem_cons (by omega),Lib.compareBytes]
     have:(a.length:Int) < b.length:=by omega
     simp [this]
 . have o:b.length<=k:=by omega
   rw [drop_of_length_le o,drop_eq_getElem_cons (by omega),Lib.compareBytes];have A:¬ (a.length:Int) < b.length:=by omega
   have q:(b.length:Int) < a.length:=by omega
   simp [A,q]
theorem texts_calls (a b:ByteArray) (w:World) (ha:a.size<=maxLen):Calls Tryz.prog 97 #[qt a,qt b] w λ e w'=> e=.returned (qi (Lib.compareBytes (bytes a) (bytes b)))/\Below w.heap.size w w':=by
 unfold maxLen at ha;have J:Hid ((bytes a).length=a.size):=by show _=_;simp [bytes]
 have I:Hid ((bytes b).length=b.size):=by show _=_;simp [bytes]
 go_enter Tryz.func97,Tryz.ntmps97;go_wp2;go_loopw [5] (λ i wr=> ∃k:Nat,k<=a.size/\k<=b.size/\i=qi k/\Hid (Lib.compareBytes (bytes a) (bytes b)=Lib.compareBytes ((bytes a).drop k) ((bytes b).drop k))/\Hid (Below w.heap.size w wr)) (λ i _=> a.size - (intOf i).toNat)
 case atStart=> exact ⟨0,zero_le _,zero_le _,rfl,rfl,zi⟩
 case round=>
  obtain ⟨k,hk,aa,rfl,T,K⟩:=hrel;by_cases hlt:k < a.size/\k < b.size
  . obtain ⟨h1,o⟩:=hlt
    have D:=hid (cmpB_step (a:=bytes a) (b:=bytes b) (k:=k) (by rw [J.out];exact h1) (by rw [I.out];exact o));have ea:(bytes a)[k]'(by rw [J.out];exact h1)=(a[k]'h1):=rfl;have eb:(bytes b)[k]'(by rw [I.out];exact o)=(b[k]'o):=rfl;rw [ea,eb] at D;have W:((a[k]'h1).toNat:Int) < 256:=by have:=UInt8.toNat_lt (a[k]'h1);omega
    have V:((b[k]'o).toNat:Int) < 256:=by have:=UInt8.toNat_lt (b[k]'o);omega
    have i1:(0:Int)<=k:=by omega
    have i2:(k:Int) < a.size:=by omega
    have i3:(k:Int) < b.size:=by omega
    have G:IntKind.i64.wrap ((a[k]'h1).toNat:Int)=(a[k]'h1).toNat:=IntWalk.i64_in _ (by omega);have F:IntKind.i64.wrap ((b[k]'o).toNat:Int)=(b[k]'o).toNat:=IntWalk.i64_in _ (by omega);clear ea eb;go_upto_region 4 with (fail)
    go_cut [24] (λ x wx=> x=.bool (((a[k]'h1).toNat:Int) !=(b[k]'o).toNat)/\Hid (Below w.heap.size w wx))
    case first=>
     go_region_held3 (λ w'=> Below wr.heap.size wr w') (first | assumption | exact Below.drew zi) (fail)
     all_goals
      rename_i H
      have A:=hid (K.trans (H.mono K.size));clear H;go_wp2_with fail;go_meet;exact ⟨rfl,A⟩
    obtain ⟨rfl,A⟩:=hcut;by_cases he:(a[k]'h1)=(b[k]'o)
    . have L:(((a[k]'h1).toNat:Int) !=(b[k]'o).toNat)=false:=by simp [he]
      have q:Hid (Lib.compareBytes (bytes a) (bytes b)=Lib.compareBytes ((bytes a).drop (k+1)) ((bytes b).drop (k+1))):=by show _=_;rw [T.out,D.out,if_pos he]
      clear he G F W V;go_wp2;go_roundw
      case rel=> exact ⟨k+1,by omega,by omega,by go_num,q,A⟩
      case measure=> simp [intOf];omega
    . have L:(((a[k]'h1).toNat:Int) !=(b[k]'o).toNat)=true:=by
       have:(a[k]'h1).toNat≠(b[k]'o).toNat:=λ e=> he (UInt8.toNat_inj.1 e);simp;omega
      have q:Hid (Lib.compareBytes (bytes a) (bytes b)=cmpS (a[k]'h1).toNat (b[k]'o).toNat):=by show _=_;rw [T.out,D.out,if_neg he]
      have O:=hid G;have M:=hid F;clear he G F W V;go_upto_region 5 with (fail)
      have G:=O.out;have F:=M.out;go_region_held3 (λ w'=> Below wc.heap.size wc w') (first | assumption | exact Below.drew zi)
       (first | (go_at_call 65;refine (ints_calls _ _ _).mono ?_;rintro e w' ⟨rfl,rfl⟩))
      all_goals
       rename_i H
       have U:=hid (A.trans (H.mono A.size));clear H G F;go_wp2;go_ret;exact ⟨by rw [q.out];rfl,U⟩
  . have C:Hid (Lib.compareBytes (bytes a) (bytes b)=cmpS a.size b.size):=by
     show _=_;rw [T.out,cmpB_end (by rw [J.out,I.out];omega) (by rw [J.out];omega) (by rw [I.out];omega),J.out,I.out]
    by_cases h1:k < a.size
    . have o:b.size<=k:=by omega
      clear hlt;go_wp2_with (first | (go_at_call 65;refine (ints_calls _ _ _).mono ?_;rintro e w' ⟨rfl,rfl⟩));go_ret;exact ⟨by rw [C.out];rfl,K⟩
    . have o:a.size<=k:=by omega
      clear hlt;go_wp2_with (first | (go_at_call 65;refine (ints_calls _ _ _).mono ?_;rintro e w' ⟨rfl,rfl⟩));go_ret;exact ⟨by rw [C.out];rfl,K⟩
theorem rcmp_calls (a b:Vl) (w:World) (ha:a.text.size<=maxLen):Calls Tryz.prog 64 #[.agg #[qi a.kind,qi a.int,qt a.text],.agg #[qi b.kind,qi b.int,qt b.text]] w λ e w'=> e=.returned (qi (cmpV a b))/\Below w.heap.size w w':=by
 have q:Hid (∀o o',Below w.heap.size w ((w.alloc o).alloc o')):=λ o o'=> (zi.alloc lr o).alloc (by simp) o';have F:Hid (cmpV a b=orS (cmpS a.kind b.kind) (orS (cmpS a.int b.int) (Lib.compareBytes (bytes a.text) (bytes b.text)))):=rfl;by_cases h1:a.kind=b.kind
 . have J:(a.kind !=b.kind)=false:=by simp [h1]
   have A:cmpS a.kind b.kind=0:=cmpS_zero.2 h1;by_cases h2:a.int=b.int
   . have b2:(a.int !=b.int)=false:=by simp [h2]
     have D:Hid (cmpV a b=Lib.compareBytes (bytes a.text) (bytes b.text)):=by show _=_;rw [F.out,A,cmpS_zero.2 h2];rfl
     clear h1 h2 A;go_enter Tryz.func64,Tryz.ntmps64;go_wp2_with fail;refine (texts_calls _ _ _ ha).mono ?_;rintro e H ⟨rfl,C⟩;have G:=hid ((q.out _ _).trans (C.mono (q.out _ _).size));clear C;go_wp2;go_ret;exact ⟨by rw [D.out];rfl,G⟩
   . have b2:(a.int !=b.int)=true:=by simp [h2]
     have I:¬ cmpS a.int b.int=0:=λ h=> h2 (cmpS_zero.1 h);have D:Hid (cmpV a b=cmpS a.int b.int):=by show _=_;rw [F.out,A];unfold orS;rw [if_pos rfl,if_neg I]
     clear h1 h2 A I;go_enter Tryz.func64,Tryz.ntmps64;go_wp2_with fail;refine (ints_calls _ _ _).mono ?_;rintro e H ⟨rfl,rfl⟩;go_wp2;go_ret;exact ⟨by rw [D.out];rfl,q.out _ _⟩
 . have J:(a.kind !=b.kind)=true:=by simp [h1]
   have A:¬ cmpS a.kind b.kind=0:=λ h=> h1 (cmpS_zero.1 h);have D:Hid (cmpV a b=cmpS a.kind b.kind):=by show _=_;rw [F.out];unfold orS;rw [if_neg A]
   clear h1 A;go_enter Tryz.func64,Tryz.ntmps64;go_wp2_with fail;refine (ints_calls _ _ _).mono ?_;rintro e H ⟨rfl,rfl⟩;go_wp2;go_ret;exact ⟨by rw [D.out];rfl,q.out _ _⟩
theorem cmpR_end {R S:Rw} {k:Nat} (h:R.length<=k\/S.length<=k) (h1:k<=R.length) (h2:k<=S.length):cmpR (R.drop k) (S.drop k)=cmpS R.length S.length:=by
 unfold cmpS;by_cases h3:R.length<=k
 . by_cases h4:S.length<=k
   . rw [cmpR_both h3 h4]
     have e:R.length=S.length:=by omega
     simp [e]
   . rw [cmpR_short h3 (by omega)]
     have:(R.length:Int) < S.length:=by omega
     simp [this]
 . rw [cmpR_long (by omega) (by omega)]
   have q:¬ (R.length:Int) < S.length:=by omega
   have o:(S.length:Int) < R.length:=by omega
   simp [q,o]
theorem rrows_calls (R S:Rw) (r s:Value) (w:World) (hr:ValsAt w R r) (hs:ValsAt w S s):Calls Tryz.prog 37 #[r,s] w λ e w'=> e=.returned (qi (cmpR R S))/\Below w.heap.size w w':=by
 obtain ⟨a,n,c,rfl,V,hm⟩:=hr.shape;obtain ⟨a',H,c',rfl,I,M⟩:=hs.shape;unfold maxLen at hm M;have L:=hid hr;have T:=hid hs;have Hn:=hid V;have K:=hid I;clear hr hs V I;go_enter Tryz.func37,Tryz.ntmps37;go_wp2;go_loopw [5] (λ i wr=> ∃k:Nat,k<=n/\k<=H/\i=qi k/\Hid (cmpR R S=cmpR (R.drop k) (S.drop k))/\Hid (Below w.heap.size w wr)) (λ i _=> n - (intOf i).toNat)
 case atStart=> exact ⟨0,zero_le _,zero_le _,rfl,rfl,zi⟩
 case round=>
  obtain ⟨k,hk,aa,rfl,U,G⟩:=hrel;by_cases hlt:k < n/\k < H
  . obtain ⟨h1,O⟩:=hlt
    have A:k < R.length:=by have:=Hn.out;omega
    have C:k < S.length:=by have:=K.out;omega
    obtain ⟨b,o,rfl⟩:=L.has k h1;obtain ⟨c0,c1,c2⟩:=(L.mono G).cell k A;have ab:=(L.mono G).lt A;obtain ⟨b',o',rfl⟩:=T.has k O;obtain ⟨d0,d1,d2⟩:=(T.mono G).cell k C;have W:=(T.mono G).lt C;have J:=hid (cmpR_step A C);have HC:=hid (λ w'=> rcmp_calls R[k] S[k] w' (L.txt _ (getElem_mem A)));generalize R[k]=x at *;generalize S[k]=y at *;clear A C;have i1:(0:Int)<=k:=by omega
    have i2:(k:Int) < n:=by omega
    have i3:(k:Int) < H:=by omega
    go_upto_region 4 with (fail)
    go_cut [6] (λ z wx=> z=qi (cmpV x y)/\Hid (Below w.heap.size w wx))
    case first=>
     go_region_held3 (λ w'=> Below wr.heap.size wr w'/\∀b o,b < wr.heap.size->w'.cell? ⟨b,o,none⟩=wr.cell? ⟨b,o,none⟩)
      (first | assumption | exact S_of (Below.drew zi) | exact S_step (by assumption) (by assumption))
      (first | (go_at_call 64;(with_reducible refine (HC.out _).mono ?_);rintro e w1 ⟨rfl,ac⟩))
     all_goals
      rename_i hH
      have D:=hid (G.trans (hH.1.mono G.size));clear hH;go_wp2_with fail;go_meet;exact ⟨rfl,D⟩
    obtain ⟨rfl,D⟩:=hcut;clear c0 c1 c2 d0 d1 d2 i1 i2 i3;by_cases h0:cmpV x y=0
    . have b0:(cmpV x y !=0)=false:=by simp [h0]
      have q:Hid (cmpR R S=cmpR (R.drop (k+1)) (S.drop (k+1))):=by show _=_;rw [U.out,J.out,if_pos h0]
      clear h0;go_wp2;go_roundw
      case rel=> exact ⟨k+1,by omega,by omega,by go_num,q,D⟩
      case measure=> simp [intOf];omega
    . have b0:(cmpV x y !=0)=true:=by simp [h0]
      have q:Hid (cmpR R S=cmpV x y):=by show _=_;rw [U.out,J.out,if_neg h0]
      clear h0;go_wp2;go_ret;exact ⟨by rw [q.out];rfl,D⟩
  . have F:Hid (cmpR R S=cmpS n H):=by
     show _=_;have e1:=Hn.out;have e2:=K.out;rw [U.out,cmpR_end (by omega) (by omega) (by omega),e1,e2]
    by_cases h1:k < n
    . have O:H<=k:=by omega
      clear hlt;go_wp2_with (first | (go_at_call 65;refine (ints_calls _ _ _).mono ?_;rintro e w' ⟨rfl,rfl⟩));go_ret;exact ⟨by rw [F.out];rfl,G⟩
    . have O:n<=k:=by omega
      clear hlt;go_wp2_with (first | (go_at_call 65;refine (ints_calls _ _ _).mono ?_;rintro e w' ⟨rfl,rfl⟩));go_ret;exact ⟨by rw [F.out];rfl,G⟩
theorem rsame_calls (R S:Rw) (r s:Value) (w:World) (hr:ValsAt w R r) (hs:ValsAt w S s):Calls Tryz.prog 19 #[r,s] w λ e w'=> e=.returned (.bool (decide (R=S)))/\Below w.heap.size w w':=by
 have H:=hid (rrows_calls R S r s w hr hs);have A:Hid (decide (R=S)=(cmpR R S==0)):=by show _=_;rw [Bool.eq_iff_iff];simp [cmpR_zero]
 clear hr hs;go_enter Tryz.func19,Tryz.ntmps19;go_wp2_with fail;refine H.mono ?_;rintro e C ⟨rfl,o⟩;have q:=hid o;clear o;go_wp2;go_ret;exact ⟨by rw [A.out];rfl,q⟩
end Go.Proofs.YtcomoomndgbckaaGreat
end
namespace Go.Proofs.YtcomoomndgbckaaGreat
noncomputable section
structure RotS (T P X Y S:List Cel) (m:Nat):Prop where
 eq:T=P++Y++X++S
 at':P.length+X.length=m
 px:0 < X.length
 py:0 < Y.length
theorem rotate_calls (w0:World) (B g n cp:Nat) (P X Y S:List Cel) (F:Value) (w:World) (p m b:Nat) (hp:P.length=p) (hm:P.length+X.length=m) (hb:P.length+X.length+Y.length=b) (hX:0 < X.length) (hY:0 < Y.length)
 (hA:Arr w0 B g n cp (P++X++Y++S) w) (hmx:n<=maxLen):
 Calls Tryz.prog 123 #[qs (some ⟨g,0,none⟩) n cp,qi p,qi m,qi b,F] w λ e w'=> e=.returned (.tuple #[])/\Arr w0 B g n cp (P++Y++X++S) w':=by
 have K:=hA.len;have HM:=hid hmx;unfold maxLen at hmx;simp only [length_append] at K;have b1:b<=n:=by omega
 have b2:p<=m:=by omega
 have b3:m<=b:=by omega
 have HL:=hid (show m - p=X.length/\b - m=Y.length by omega);have HR:Hid (RotS (P++Y++X++S) P X Y S m):=⟨rfl,hm,hX,hY⟩
 have HA:=hid hA;clear hA K hp hm hb hX hY;go_enter Tryz.func123,Tryz.ntmps123;go_wp2;go_loopg [10,11] (m - p+(b - m)) (λ gk z10 z11 wr=> ∃(G X' I D:List Cel) (i j:Nat),z10=qi i/\z11=qi j/\gk=i+j/\0 < i/\0 < j/\i<=m/\m+j<=n/\Hid (i=X'.length/\j=I.length/\RotS (P++Y++X++S) G X' I D m)/\Hid (Arr w0 B g n cp (G++X'++I++D) wr))
 case atStart=>
  refine ⟨P,X,Y,S,m - p,b - m,by go_num,by go_num,rfl,?_,?_,by omega,by omega,hid ⟨HL.1,HL.2,HR⟩,HA⟩
  . rw [HL.1];exact HR.px
  . rw [HL.2];exact HR.py
 case round=>
  obtain ⟨G,X',I,D,i,j,rfl,rfl,O,hi,hj,ac,ab,o,T⟩:=hrel;clear HA HR HL;by_cases hne:i=j
  . subst hne
    have J:=hid (swapRange_calls w0 B g n cp G X' [] I D F wr (m - i) m i (by have:=o.out;have:=this.2.2.at';omega) (by have:=o.out;have:=this.2.2.at';simp;omega) (by have:=o.out;omega) (by have:=o.out;omega) (by have:=T.out;simpa using this) HM);have aj:((i:Int) !=i)=false:=by simp
    have L:((m - i:Nat):Int)=(m:Int) - i:=by omega
    rw [L] at J;clear L;have af:(i:Int)<=m:=by omega
    have ae:(m:Int)<=9223372036854775807:=by omega
    clear O;go_wp2_with fail;(with_reducible refine J.out.mono ?_);rintro e w1 ⟨rfl,q⟩;have H1:=hid q;clear q;go_wp2;go_end0;refine ⟨rfl,?_⟩;have:=H1.out;rw [o.2.2.eq];simpa using this
  . have ai:((i:Int) !=j)=true:=by simp;omega
    have af:(i:Int)<=m:=by omega
    have ae:(m:Int)<=9223372036854775807:=by omega
    have ah:(m:Int)+j<=9223372036854775807:=by omega
    have aa:=hid O;clear O;by_cases hgt:j < i
    . obtain ⟨X1,W,A,C,M⟩:=split2 X' j (by have:=o.out;omega)
      have J:=hid (swapRange_calls w0 B g n cp G X1 W I D F wr (m - i) m j (by have:=o.out;have:=this.2.2.at';omega) (by have:=o.out;have:=this.2.2.at';have:=congrArg List.length A;simp at this;omega) C (by have:=o.out;omega) (by have:=T.out;rw [A] at this;simpa using this) HM);have L:((m - i:Nat):Int)=(m:Int) - i:=by omega
      rw [L] at J;have HN:Hid (i - j=W.length/\j=X1.length/\RotS (P++Y++X++S) (G++I) W X1 D m):=by
       obtain ⟨a1,a2,a3⟩:=o.out;refine ⟨by omega,C.symm,⟨?_,?_,by omega,by omega⟩⟩
       . rw [a3.eq,A];simp
       . have:=a3.at';rw [length_append];omega
      clear L A C M;have ad:(j:Int) < i:=by omega
      go_wp2_with fail;(with_reducible refine J.out.mono ?_);rintro e w1 ⟨rfl,q⟩;have H1:=hid (show Arr w0 B g n cp ((G++I)++W++X1++D) w1 by simpa using q);clear q J;go_wp2;go_roundg (i - j+j)
      case rel=> exact ⟨G++I,W,X1,D,i - j,j,by go_num,rfl,rfl,by omega,hj,by omega,ab,HN,H1⟩
      case measure=> have:=aa.out;omega
    . obtain ⟨V,U,H,C,M⟩:=split2 I (j - i) (by have:=o.out;omega)
      have J:=hid (swapRange_calls w0 B g n cp G X' V U D F wr (m - i) (m+j - i) i (by have:=o.out;have:=this.2.2.at';omega) (by have:=o.out;have:=this.2.2.at';omega) (by have:=o.out;omega) (by have:=o.out;omega) (by have:=T.out;rw [H] at this;simpa using this) HM);have L:((m - i:Nat):Int)=(m:Int) - i:=by omega
      have e2:((m+j - i:Nat):Int)=(m:Int)+j - i:=by omega
      rw [L,e2] at J;have HN:Hid (i=U.length/\j - i=V.length/\RotS (P++Y++X++S) G U V (X'++D) m):=by
       obtain ⟨a1,a2,a3⟩:=o.out;refine ⟨by omega,C.symm,⟨?_,?_,by omega,by omega⟩⟩
       . rw [a3.eq,H];simp
       . have:=a3.at';omega
      clear L e2 H C M;have ad:¬ (j:Int) < i:=by omega
      have ag:(i:Int)<=j:=by omega
      go_wp2_with fail;(with_reducible refine J.out.mono ?_);rintro e w1 ⟨rfl,q⟩;have H1:=hid (show Arr w0 B g n cp (G++U++V++(X'++D)) w1 by simpa using q);clear q J;go_wp2;go_roundg (i+(j - i))
      case rel=> exact ⟨G,U,V,X'++D,i,j - i,rfl,by go_num,rfl,hi,by omega,ac,by omega,HN,H1⟩
      case measure=> have:=aa.out;omega
structure SrC (c:Rw->Rw->Int) (X Y:List Cel) (k i j:Nat):Prop where
 lo:i=0\/Y.length<=k - i\/∃x y,1<=i/\X[i - 1]? =some x/\Y[k - i]? =some y/\¬ cc c y x < 0
 hi:X.length<=j\/k<=j\/∃x y,X[j]? =some x/\Y[k - (j+1)]? =some y/\j+1<=k/\cc c y x < 0
theorem asc_last {c:Cel->Cel->Int} {l:List Cel} (h:AscC c l) {i j:Nat} {x y:Cel} (hx:l[i]? =some x) (hy:l[j]? =some y) (hij:i<=j) (hc:Ord3 c):c x y<=0:=by
 obtain ⟨h1,rfl⟩:=List.getElem?_eq_some_iff.1 hx;obtain ⟨o,rfl⟩:=List.getElem?_eq_some_iff.1 hy;by_cases e:i=j
 . subst e;rw [hc.self];exact Int.le_refl _
 . exact (List.pairwise_iff_getElem.1 h) i j h1 o (by omega)
theorem SrC.done {c:Rw->Rw->Int} (hc:Ord3 (cc c)) {X Y:List Cel} {k s:Nat} (h:SrC c X Y k s s) (hX:AscC (cc c) X) (hY:AscC (cc c) Y):
 (∀x∈X.drop s,∀y∈Y.take (k - s),cc c y x < 0)/\(∀x∈X.take s,∀y∈Y.drop (k - s),cc c x y<=0):=by
 constructor
 . intro x F y D
   obtain ⟨i,hi⟩:=List.mem_iff_getElem?.1 F;obtain ⟨j,o⟩:=List.mem_iff_getElem?.1 D;rw [List.getElem?_drop] at hi;rw [List.getElem?_take] at o;split at o
   . have h1:=(List.getElem?_eq_some_iff.1 hi).1
     rcases h.hi with C | C | ⟨I,H,A,q,C,G⟩
     . omega
     . omega
     . exact hc.lt_le (hc.le_lt (asc_last hY o q (by omega) hc) G) (asc_last hX A hi (by omega) hc)
   . cases o
 . intro x F y D
   obtain ⟨i,hi⟩:=List.mem_iff_getElem?.1 F;obtain ⟨j,o⟩:=List.mem_iff_getElem?.1 D;rw [List.getElem?_drop] at o;rw [List.getElem?_take] at hi;split at hi
   . have h1:=(List.getElem?_eq_some_iff.1 o).1
     rcases h.lo with C | C | ⟨I,H,C,A,q,G⟩
     . omega
     . omega
     . exact hc.trans _ _ _ (asc_last hX hi A (by omega) hc) (hc.trans _ _ _ (hc.le G) (asc_last hY q o (by omega) hc))
   . cases hi
theorem merge_join {c:Rw->Rw->Int} (hc:Ord3 (cc c)) {u1 u2 v1 v2 W1 W2:List Cel} (hX:AscC (cc c) (u1++u2)) (hY:AscC (cc c) (v1++v2)) (h1:∀x∈u2,∀y∈v1,cc c y x < 0) (h2:∀x∈u1,∀y∈v2,cc c x y<=0)
 (a1:AscC (cc c) W1) (a2:AscC (cc c) W2) (e1:StEq (cc c) (u1++v1) W1) (e2:StEq (cc c) (u2++v2) W2):AscC (cc c) (W1++W2)/\StEq (cc c) ((u1++u2)++(v1++v2)) (W1++W2):=by
 refine ⟨a1.app a2 λ x hx y hy=> ?_,?_⟩
 . have q:=e1.mem hc hx
   have o:=e2.mem hc hy;rcases mem_append.1 q with q | q <;> rcases mem_append.1 o with o | o
   . exact hX.cross x q y o
   . exact h2 x q y o
   . have:=h1 y o x q;omega
   . exact hY.cross x q y o
 . have D:StEq (cc c) (u2++v1) (v1++u2):=StEq.swap hc h1
   have C:=((StEq.refl (c:=cc c) u1).app D).app (StEq.refl (c:=cc c) v2);have A:=C.trans (show StEq (cc c) _ (W1++W2) from by rw [show u1++(v1++u2)++v2=(u1++v1)++(u2++v2) by simp];exact e1.app e2)
   rwa [show u1++(u2++v1)++v2=(u1++u2)++(v1++v2) by simp] at A
end
end Go.Proofs.YtcomoomndgbckaaGreat
noncomputable section
namespace Go.Proofs.YtcomoomndgbckaaGreat
open Go.RowKit
variable {P:Program}
theorem grown_setRow (w:World) (g:Nat) (cs:Array Value):w.grownBy (w.setRow g cs) (some g):=
 ⟨rfl,rfl,rfl,by simp [World.setRow],λ k _ hk=> setRow_other w g k cs (λ e=> hk (by rw [e]))⟩
end Go.Proofs.YtcomoomndgbckaaGreat
end
noncomputable section
namespace Go.Proofs.YtcomoomndgbckaaGreat
open Go.RowKit
variable {P:Program}
theorem run_append_block (w:World) (base:Nat) (t ty e:TypeId) (i:TypeInfo) (z:Value) (size bytes:Nat) (ht:P.underlying t=some (.slice e)) (hi:P.info? e=some i) (hz:i.zero=some z)
 (hsize:i.size=size) (hby:i.bytes=bytes) (hzs:z.cells.size=size) (hsz:0 < size)
 (v:Value) (n:Nat) (xs:List Value) (hown:w.ownsRow base e size v n xs)
 (a:Addr) (m c:Nat) (news:List Value) (hl:news.length=m * size) (hnews:∀j u,news[j]? =some u->w.cell? (a.add j)=some u) (h1:∀u∈news,u.oneCell'=true)
 (hm:0 < m) (h63:n+m<=maxLen) (hbytes:(n+m) * bytes<=140737488355328) (hbase:base<=w.heap.size):
 ∃C w',(Builtin.append_ #[t,t] ty #[v,.slice (some a) m c]).run P w=.ok C w'/\w'.ownsRow base e size C (n+m) (xs++news)/\w.grownBy w' v.ownBlock/\
  (∀k,C.ownBlock=some k->v.ownBlock=some k\/w.heap.size<=k):=by
 obtain ⟨C,w',o,U,T,_⟩:=run_append_own (P:=P) w base t ty e i z size bytes ht hi hz hsize hby hzs hsz v n xs hown a m c news hl hnews h1 h63 hbytes hbase;refine ⟨C,w',o,U,T,?_⟩;subst hsize;subst hby;have J:n+m<=9223372036854775807:=by unfold maxLen at h63;omega
 intro k H;rcases hown.2 with ⟨rfl,rfl⟩ | ⟨g,cap,F,rfl,O,L,K,M,I,G⟩
 . have q:=run_append_nil (P:=P) w t ty e i z ht hi hz a m c news hl hnews hm (by omega) (by simp only [zero_add] at hbytes;omega)
   rw [q] at o;injection o with o _;subst o;simp only [Value.ownBlock,Option.some.injEq] at H;exact .inr (by omega)
 . by_cases hroom:n+m<=cap
   . have D:n * i.size+news.length<=F.size:=by rw [hl,I,<-Nat.add_mul];exact Nat.mul_le_mul_right _ hroom
     have q:=run_append_room (P:=P) w t ty e i ht hi g n cap F L a m c news hl hnews h1 hroom D;rw [q] at o;injection o with o _;subst o;exact .inl H
   . have A:∀j u,xs[j]? =some u->w.cell? ((⟨g,0,none⟩:Addr).add j)=some u:=hown.cells (g:=g) rfl
     have q:=run_append_grow (P:=P) w t ty e i z ht hi hz ⟨g,0,none⟩ n cap xs hown.1 A a m c news hl hnews (by omega) (by omega) (growslice_fits (by omega) hbytes);rw [q] at o;injection o with o _;subst o;simp only [Value.ownBlock,Option.some.injEq] at H;exact .inr (by omega)
theorem wpList_append_block (w:World) {ops:Array Oper} {rest:List Oper} {o:Oper} {a:Act} {Q:Exit->Act->World->Prop} (hgd:o.guard=none) (s x:Operand) (t:TypeId)
 (ho:o.op=.call { callee:=.builtin .append,args:=#[s,x],argTypes:=#[t,t] })
 (base:Nat) (e:TypeId) (i:TypeInfo) (z:Value) (size bytes:Nat) (ht:P.underlying t=some (.slice e)) (hi:P.info? e=some i) (hz:i.zero=some z)
 (hsize:i.size=size) (hby:i.bytes=bytes) (hzs:z.cells.size=size) (hsz:0 < size)
 (v:Value) (n:Nat) (xs:List Value) (hs:a.eval s=v) (hown:w.ownsRow base e size v n xs)
 (ad:Addr) (m c:Nat) (news:List Value) (hx:a.eval x=.slice (some ad) m c) (hl:news.length=m * size) (hnews:∀j u,news[j]? =some u->w.cell? (ad.add j)=some u) (h1:∀u∈news,u.oneCell'=true)
 (hm:0 < m) (h63:n+m<=maxLen) (hbytes:(n+m) * bytes<=140737488355328) (hbase:base<=w.heap.size)
 (h:∀q w',w'.ownsRow base e size q (n+m) (xs++news)->w.grownBy w' v.ownBlock->Hid (∀k,q.ownBlock=some k->v.ownBlock=some k\/w.heap.size<=k)->wpList P ops Q rest (a.put o.dst q) w'):wpList P ops Q (o::rest) a w:=by
 refine wpList_plain hgd λ K hK=> ?_;obtain ⟨q,w',A,F,D,C⟩:=run_append_block (P:=P) w base t o.type e i z size bytes ht hi hz hsize hby hzs hsz v n xs hown ad m c news hl hnews h1 hm h63 hbytes hbase;unfold Oper.wp execOp;simp only [ho,resolve,invoke,builtin,Sem.run_bind,Sem.run_pure,Result.andThen_ok,List.map_toArray,map_cons,map_nil,hs,hx,A];exact hK _ _ (h q w' F D C)
end Go.Proofs.YtcomoomndgbckaaGreat
end
namespace Go.Proofs.YtcomoomndgbckaaGreat
noncomputable section
section
structure Agr (X:Nat->Prop) (w w':World):Prop where
 os:w'.os=w.os
 tape:w'.tape=w.tape
 output:w'.output=w.output
 size:w.heap.size<=w'.heap.size
 block:∀k,k < w.heap.size->¬ X k->w'.heap[k]? =w.heap[k]?
def Ind (X:Nat->Prop) (w:World) (P:World->Prop):Prop:=∀w',Agr X w w'->P w'
theorem Agr.refl (X:Nat->Prop) (w:World):Agr X w w:=⟨rfl,rfl,rfl,lr,λ _ _ _=> rfl⟩
theorem Agr.trans {X Y:Nat->Prop} {a b c:World} (h:Agr X a b) (k:Agr Y b c) (hY:∀i,i < a.heap.size->Y i->X i):Agr X a c:=
 ⟨k.os.trans h.os,k.tape.trans h.tape,k.output.trans h.output,le_trans h.size k.size,λ i hi hx=> (k.block i (lt_of_lt_of_le hi h.size) λ hy=> hx (hY i hi hy)).trans (h.block i hi hx)⟩
theorem Agr.of {w w':World} {B:Nat} (hb:Below B w w'):Agr (λ k=> B<=k) w w':=⟨hb.os,hb.tape,hb.output,hb.size,λ k _ hk=> hb.block k (by omega)⟩
theorem Agr.all {X:Nat->Prop} {w w':World} (hb:Below w.heap.size w w'):Agr X w w':=⟨hb.os,hb.tape,hb.output,hb.size,λ k hk _=> hb.block k hk⟩
theorem Agr.below {X:Nat->Prop} {w w':World} {B:Nat} (h:Agr X w w') (hB:B<=w.heap.size) (hX:∀k,k < B->¬ X k):Below B w w':=⟨h.os,h.tape,h.output,h.size,λ k hk=> h.block k (lt_of_lt_of_le hk hB) (hX k hk)⟩
theorem Ind.here {X:Nat->Prop} {w:World} {P:World->Prop} (h:Ind X w P):P w:=h _ (Agr.refl _ _)
theorem Ind.imp {X:Nat->Prop} {w:World} {P Q:World->Prop} (h:Ind X w P) (hq:∀w,P w->Q w):Ind X w Q:=λ w' ha=> hq _ (h w' ha)
theorem Ind.sub {X Y:Nat->Prop} {w:World} {P:World->Prop} (h:Ind X w P) (hY:∀k,k < w.heap.size->Y k->X k):Ind Y w P:=λ w' ha=> h w' ⟨ha.os,ha.tape,ha.output,ha.size,λ k hk hx=> ha.block k hk λ hy=> hx (hY k hk hy)⟩
theorem Ind.agr {X Y Z:Nat->Prop} {w w':World} {P:World->Prop} (h:Ind X w P) (ha:Agr Y w w') (hY:∀k,k < w.heap.size->Y k->X k) (hZ:∀k,k < w.heap.size->Z k->X k):Ind Z w' P:=λ w'' hb=> h w'' <|
 ⟨hb.os.trans ha.os,hb.tape.trans ha.tape,hb.output.trans ha.output,le_trans ha.size hb.size,λ k hk hx=> (hb.block k (lt_of_lt_of_le hk ha.size) λ hz=> hx (hZ k hk hz)).trans (ha.block k hk λ hy=> hx (hY k hk hy))⟩
theorem Ind.mono {X Y:Nat->Prop} {w w':World} {P:World->Prop} (h:Ind X w P) (hb:Below w.heap.size w w') (hY:∀k,k < w.heap.size->Y k->X k):Ind Y w' P:=h.agr (Y:=λ k=> w.heap.size<=k) (Agr.of hb) (λ k h1 h2=> absurd h2 (by omega)) hY
theorem Ind.of {w w1:World} {P:World->Prop} (h:∀w',Below w.heap.size w w'->P w') (hb:Below w.heap.size w w1):Ind (λ k=> w.heap.size<=k) w1 P:=λ w' ha=> h w' (hb.trans (ha.below hb.size λ k h1 h2=> by omega))
theorem Ind.triv {X:Nat->Prop} {w:World} {P:World->Prop} (h:∀w,P w):Ind X w P:=λ _ _=> h _
def Bl {α:Type} (t:TypeId) (sz:Nat) (E:World->α->List Value->Prop) (B:Nat) (X:Nat->Prop) (w:World) (xs:List α) (v:Value):Prop:=
 ∃cs,w.ownsRow B t sz v xs.length cs/\∀i (h:i < xs.length),Ind (λ k=> X k\/v.ownBlock=some k) w λ w=> E w xs[i] ((cs.drop (i * sz)).take sz)
section
variable {α:Type} {t:TypeId} {sz:Nat} {E:World->α->List Value->Prop} {B:Nat} {X:Nat->Prop} {w w':World} {xs:List α} {v v':Value}
theorem Bl.nil (t:TypeId) (sz:Nat) (E:World->α->List Value->Prop) (B:Nat) (X:Nat->Prop) (w:World):Bl t sz E B X w [] (q0):=⟨[],World.ownsRow_nil _ _ _ _,λ i h=> absurd h (by simp)⟩
theorem Bl.shape (h:Bl t sz E B X w xs v):∃a c,v=qs a xs.length c:=by
 obtain ⟨cs,⟨-,o⟩,-⟩:=h;rcases o with ⟨rfl,h0⟩ | ⟨g,cap,q,rfl,-⟩
 . exact ⟨none,0,by rw [h0]⟩
 . exact ⟨_,cap,rfl⟩
theorem Bl.ge (h:Bl t sz E B X w xs v):∀k,v.ownBlock=some k->B<=k/\k < w.heap.size:=by
 obtain ⟨cs,h1,-⟩:=h;exact h1.lt
theorem Bl.below (h:Bl t sz E B X w xs v) (hb:Below w.heap.size w w'):Bl t sz E B X w' xs v:=by
 obtain ⟨cs,h1,o⟩:=h;exact ⟨cs,own_below h1 hb,λ i hi=> (o i hi).mono hb λ _ _ h=> h⟩
theorem Bl.other {Y:Nat->Prop} (h:Bl t sz E B X w xs v) (ha:Agr Y w w') (hY:∀k,k < w.heap.size->Y k->X k) (hv:∀k,v.ownBlock=some k->¬ Y k) {Z:Nat->Prop} (hZ:∀k,k < w.heap.size->Z k->X k):Bl t sz E B Z w' xs v:=by
 obtain ⟨cs,h1,D⟩:=h;refine ⟨cs,⟨h1.1,?_⟩,λ i hi=> (D i hi).agr ha (λ k q o=> .inl (hY k q o)) λ k q o=> o.elim (λ h=> .inl (hZ k q h)) .inr⟩;rcases h1.2 with h | ⟨g,cap,A,rfl,q,o,C⟩
 . exact .inl h
 . exact .inr ⟨g,cap,A,rfl,q,(ha.block g (Array.getElem?_eq_some_iff.1 o).1 (hv g rfl)).trans o,C⟩
theorem Bl.done (h:Bl t sz E B X w xs v) (hn:xs.length<=2000000000000):Ind (λ k=> X k/\v.ownBlock≠some k) w λ w=> LsAt sz E w xs v:=by
 obtain ⟨cs,h1,G⟩:=h;intro w' o;rcases h1.2 with ⟨rfl,h0⟩ | ⟨g,cap,A,rfl,K,C,J,I,H,F⟩
 . exact .inl ⟨length_eq_zero_iff.1 h0,none,rfl⟩
 . have q:=(o.block g (Array.getElem?_eq_some_iff.1 C).1 (λ h=> h.2 rfl)).trans C
   refine .inr ⟨g,0,_,cap,rfl,rfl,(Array.getElem?_eq_some_iff.1 q).1,hn,λ i hi=> ⟨(cs.drop (i * sz)).take sz,?_,λ j hj=> ?_,?_⟩⟩
   . have:(i+1) * sz<=xs.length * sz:=Nat.mul_le_mul_right _ hi
     rw [length_take,List.length_drop,h1.1];rw [Nat.add_mul] at this;omega
   . have D:=cell_of_row w' g (i * sz+j) A t (0,0) q
     have:(i+1) * sz<=xs.length * sz:=Nat.mul_le_mul_right _ hi;rw [Nat.add_mul] at this;rw [zero_add,D,List.getElem?_take,if_pos hj,List.getElem?_drop,<-F,List.getElem?_take,if_pos (by omega)];simp
   . exact (G i hi) w' ⟨o.os,o.tape,o.output,o.size,λ k hk hx=> o.block k hk λ h=> hx (.inl h.1)⟩
theorem Bl.at (h:Bl t sz E B X w xs v) (hn:xs.length<=2000000000000):LsAt sz E w xs v:=(h.done hn).here
theorem Bl.app (h:Bl t sz E B X w xs v) {cs ys':List Value} {ys:List α} (hc:w.ownsRow B t sz v xs.length cs) (ho:w'.ownsRow B t sz v' (xs.length+ys.length) (cs++ys')) (hg:w.grownBy w' v.ownBlock) (hk:∀k,v'.ownBlock=some k->v.ownBlock=some k\/w.heap.size<=k)
 (hE:∀i (h:i < ys.length),Ind (λ k=> X k\/v.ownBlock=some k) w λ w=> E w ys[i] ((ys'.drop (i * sz)).take sz)) (_hX:∀k,X k->k < w.heap.size):Bl t sz E B X w' (xs++ys) v':=by
 obtain ⟨q,h1,L⟩:=h;obtain rfl:q=cs:=by
  rcases h1.2 with ⟨rfl,h0⟩ | ⟨g,cap,O,rfl,-,A,-,-,-,I⟩
  . rw [length_eq_zero_iff.1 (h1.1.trans (by rw [h0,zero_mul])),length_eq_zero_iff.1 (hc.1.trans (by rw [h0,zero_mul]))]
  . rcases hc.2 with ⟨h,-⟩ | ⟨M,G,F,e,-,o,-,-,-,C⟩
    . cases h
    . obtain ⟨e,-,-⟩:=Value.slice.inj e
      obtain rfl:g=M:=by injection e with e;injection e
      rw [A] at o;injection o with o;injection o with o _;subst o;rw [<-I,<-C]
 have H:Agr (λ k=> v.ownBlock=some k) w w':=⟨hg.os,hg.tape,hg.output,hg.size,λ k hk hx=> hg.block k hk λ h=> hx h.symm⟩
 have key:∀P:World->Prop,Ind (λ k=> X k\/v.ownBlock=some k) w P->Ind (λ k=> X k\/v'.ownBlock=some k) w' P:=λ P hP=>
  hP.agr H (λ _ _ h=> .inr h) λ k h3 A=> A.elim .inl λ h=> (hk k h).elim .inr λ h=> absurd h (by omega)
 refine ⟨q++ys',by rw [length_append];exact ho,λ i hi=> ?_⟩;by_cases h3:i < xs.length
 . have A:=key _ (L i h3)
   have:(i+1) * sz<=xs.length * sz:=Nat.mul_le_mul_right _ h3;rw [Nat.add_mul] at this;have D:((q++ys').drop (i * sz)).take sz=(q.drop (i * sz)).take sz:=by rw [List.drop_append_of_le_length (by rw [h1.1];omega),List.take_append_of_le_length (by rw [List.length_drop,h1.1];omega)]
   rw [D,List.getElem_append_left h3];exact A
 . have K:i - xs.length < ys.length:=by simp at hi;omega
   have A:=key _ (hE _ K);have D:((q++ys').drop (i * sz)).take sz=(ys'.drop ((i - xs.length) * sz)).take sz:=by
    have J:i * sz=q.length+(i - xs.length) * sz:=by rw [h1.1,<-Nat.add_mul];congr 1;omega
    rw [J,List.drop_append,List.drop_eq_nil_of_le (by omega),nil_append,Nat.add_sub_cancel_left]
   rw [D,List.getElem_append_right (by omega)];exact A
theorem Bl.grown (h:Bl t sz E B X w xs v) (hg:w.grownBy w' v.ownBlock) (hB:B<=w.heap.size):Below B w w':=zi.grown hg hB λ k hk=> (h.ge k hk).1
theorem wpList_push {P:Program} {ops:Array Oper} {rest:List Oper} {o:Oper} {a:Act} {Q:Exit->Act->World->Prop} (hgd:o.guard=none) (s x:Operand) (ts:TypeId)
 (ho:o.op=.call { callee:=.builtin .append,args:=#[s,x],argTypes:=#[ts,ts] })
 (i:TypeInfo) (z:Value) (bytes:Nat) (ht:P.underlying ts=some (.slice t)) (hi:P.info? t=some i) (hz:i.zero=some z)
 (hsize:i.size=sz) (hby:i.bytes=bytes) (hzs:z.cells.size=sz) (hsz:0 < sz) (hbs:bytes<=50000)
 (hs:a.eval s=v) (h1:Bl t sz E B X w xs v) (y:α) (news:List Value) (et:TypeId) (hx:a.eval x=.slice (some ⟨w.heap.size,0,none⟩) 1 1) (hl:news.length=sz) (hone:∀u∈news,u.oneCell'=true)
 (hE:Ind (λ k=> X k\/v.ownBlock=some k) w λ w=> E w y news) (hlen:xs.length<=1000000000) (hB:B<=w.heap.size) (hX:∀k,X k->k < B)
 (h:∀A w',Hid (Bl t sz E B X w' (xs++[y]) A)->Hid (Below B w w')->Hid (w.grownBy w' v.ownBlock)->Hid (∀k,A.ownBlock=some k->v.ownBlock=some k\/w.heap.size<=k)->wpList P ops Q rest (a.put o.dst A) w'):
 wpList P ops Q (o::rest) a (w.alloc (.cells news.toArray et)):=by
 have G:Below w.heap.size w (w.alloc (.cells news.toArray et)):=zi.alloc lr _;have H:=h1.below G;obtain ⟨cs,J,-⟩:=H;refine wpList_append_block _ hgd s x ts ho B t i z sz bytes ht hi hz hsize hby hzs hsz v _ cs hs J ⟨w.heap.size,0,none⟩ 1 1 news hx (by omega) (λ j u hj=> ?_) hone (by decide) (by unfold maxLen;omega) ?_ (by simp;omega) ?_
 . rw [Addr.add_lit,zero_add,cell_of_row _ w.heap.size j _ et (0,0) (heap_alloc_new w _)]
   simpa using hj
 . have:=Nat.mul_le_mul (show xs.length+1<=1000000001 by omega) hbs
   omega
 intro A w' F q I;have L:=h1.below G;have D:w.grownBy w' v.ownBlock:=⟨q.os,q.tape,q.output,le_trans (by simp) q.size,λ k C hne=> (q.block k (by simp;omega) hne).trans (Below.heap_alloc _ _ _ C)⟩
 refine h A w' (L.app (ys:=[y]) J F q I (λ i hi=> ?_) (λ k C=> by have:=hX k C;simp;omega)) (h1.grown D hB) D ?_
 . obtain rfl:i=0:=by simpa using hi
   have K:=hE.mono G (Y:=λ k=> X k\/v.ownBlock=some k) λ _ _ h=> h;rw [zero_mul,List.drop_zero,take_of_length_le (by omega)];exact K
 . intro k C
   refine (I.out k C).imp id λ h=> ?_;simp at h;omega
end
end
section
def ExE (w:World) (e:Ex) (cs:List Value):Prop:=∃s,cs=e.cells s/\ArgsAt w e.args s
theorem ExE.mono:EMono ExE:=λ _ _ _ _ ⟨s,h1,h2⟩ hb=> ⟨s,h1,h2.mono hb⟩
theorem ls_of_args {w:World} {es:List Ex} {s:Value} (h:ArgsAt w es s):LsAt 8 ExE w es s:=by
 cases h with
 | mt=> exact .inl ⟨rfl,_,rfl⟩
 | lie _ b o n cap ss hn hlt hm hc hs=>
  refine .inr ⟨b,o,n,cap,rfl,hn,hlt,hm,λ i hi=> ⟨es[i].cells (ss i),rfl,λ j hj=> hc i hi j hj,ss i,rfl,hs i hi⟩⟩
theorem args_of_ls {w:World} {es:List Ex} {s:Value} (h:LsAt 8 ExE w es s):ArgsAt w es s:=by
 rcases h with ⟨rfl,a,rfl⟩ | ⟨b,o,n,c,rfl,H,G,F,D⟩
 . exact .mt
 . have q:∀i,∃s,∀(h:i < es.length),(∀j,j < 8->w.cell? ⟨b,o+i * 8+j,none⟩=(es[i].cells s)[j]?)/\ArgsAt w es[i].args s:=by
    intro i;by_cases hi:i < es.length
    . obtain ⟨cs,-,C,s,rfl,A⟩:=D i hi
      exact ⟨s,λ _=> ⟨C,A⟩⟩
    . exact ⟨undef,λ h=> absurd h hi⟩
   obtain ⟨ss,q⟩:=Classical.axiomOfChoice q;exact .lie es b o n c ss H G F (λ i h j hj=> (q i h).1 j hj) λ i h=> (q i h).2
theorem cells_one (e:Ex) {s:Value} (hs:s.oneCell'=true):∀u∈e.cells s,u.oneCell'=true:=by
 intro u o;simp only [Ex.cells,mem_cons,not_mem_nil,or_false] at o;rcases o with rfl | rfl | rfl | rfl | rfl | rfl | rfl | rfl <;> first | rfl | exact hs
theorem ExE.one (w:World) (e:Ex) (cs:List Value) (h:ExE w e cs):∀u∈cs,u.oneCell'=true:=by
 obtain ⟨s,rfl,h⟩:=h;obtain ⟨a,n,c,rfl,-,-⟩:=h.shape;exact cells_one e rfl
def flatF (f:Nat->List Value):Nat->List Value
 | 0=> []
 | n+1=> flatF f n++f n
theorem flatF_length {f:Nat->List Value} {sz:Nat}:∀{n:Nat},(∀i,i < n->(f i).length=sz)->(flatF f n).length=n * sz
 | 0,_=> by simp [flatF]
 | n+1,h=> by rw [flatF,length_append,flatF_length λ i hi=> h i (by omega),h n (by omega),Nat.add_mul,one_mul]
theorem flatF_slice {f:Nat->List Value} {sz:Nat}:∀{n:Nat},(∀i,i < n->(f i).length=sz)->∀i,i < n->((flatF f n).drop (i * sz)).take sz=f i
 | 0,_,i,hi=> by omega
 | n+1,h,i,hi=> by
  have hl:=flatF_length (f:=f) (n:=n) λ i hi=> h i (by omega);rw [flatF];by_cases e:i=n
  . subst e
    rw [List.drop_append,List.drop_eq_nil_of_le (by omega),nil_append,hl,Nat.sub_self,List.drop_zero,take_of_length_le (by rw [h i (by omega)];exact lr)]
  . have o:(i+1) * sz<=n * sz:=Nat.mul_le_mul_right _ (by omega)
    rw [Nat.add_mul] at o;rw [List.drop_append_of_le_length (by omega),List.take_append_of_le_length (by rw [List.length_drop];omega)];exact flatF_slice (λ i hi=> h i (by omega)) i (by omega)
theorem flatF_get {f:Nat->List Value} {sz:Nat} {n:Nat} (h:∀i,i < n->(f i).length=sz) (k:Nat) (hk:k < n * sz) (hsz:0 < sz):(flatF f n)[k]? =(f (k / sz))[k % sz]? :=by
 have hi:k / sz < n:=Nat.div_lt_of_lt_mul (by rw [Nat.mul_comm];exact hk);rw [<-flatF_slice h (k / sz) hi,List.getElem?_take,if_pos (Nat.mod_lt _ hsz),List.getElem?_drop];congr 1;have:=Nat.div_add_mod k sz;rw [Nat.mul_comm] at this;exact this.symm
section
variable {α:Type} {t:TypeId} {sz:Nat} {E:World->α->List Value->Prop} {B:Nat} {X:Nat->Prop} {w:World} {xs:List α} {v:Value} {P:Program} {ops:Array Oper} {rest:List Oper} {o:Oper} {a:Act} {Q:Exit->Act->World->Prop}
theorem wpList_pushL0 (hgd:o.guard=none) (s x:Operand) (ts:TypeId)
 (ho:o.op=.call { callee:=.builtin .append,args:=#[s,x],argTypes:=#[ts,ts] })
 (i:TypeInfo) (z:Value) (bytes:Nat) (ht:P.underlying ts=some (.slice t)) (hi:P.info? t=some i) (hz:i.zero=some z)
 (hsize:i.size=sz) (hby:i.bytes=bytes) (hzs:z.cells.size=sz) (hsz:0 < sz) (hbs:bytes<=50000)
 (hs:a.eval s=v) (h1:Bl t sz E B X w xs v) {ys:List α} {src:Value} (hx:a.eval x=src) (w0:World) (h0:LsAt sz E w0 ys src) (hE:∀y cs,E w0 y cs->Ind (λ k=> X k\/v.ownBlock=some k) w λ w=> E w y cs) (hb0:Below w0.heap.size w0 w) (hone:∀w x cs,E w x cs->∀u∈cs,u.oneCell'=true)
 (hlen:xs.length+ys.length<=1000000000) (hB:B<=w.heap.size) (hX2:∀k,X k->k < w.heap.size)
 (h:∀A w',Hid (Bl t sz E B X w' (xs++ys) A)->Hid (Below B w w')->Hid (w.grownBy w' v.ownBlock)->Hid (∀k,A.ownBlock=some k->v.ownBlock=some k\/w.heap.size<=k)->wpList P ops Q rest (a.put o.dst A) w'):
 wpList P ops Q (o::rest) a w:=by
 obtain ⟨cs,F,-⟩:=id h1;have fin:∀A w',(∃news,(Builtin.append_ #[ts,ts] o.type #[v,src]).run P w=.ok A w'/\w'.ownsRow B t sz A (xs.length+ys.length) (cs++news)/\w.grownBy w' v.ownBlock/\(∀k,A.ownBlock=some k->v.ownBlock=some k\/w.heap.size<=k)/\∀i (h:i < ys.length),E w0 ys[i] ((news.drop (i * sz)).take sz))->wpList P ops Q (o::rest) a w:=by rintro A w' ⟨news,C,V,U,h5,h6⟩;refine wpList_plain hgd λ K hK=> ?_;unfold Oper.wp execOp;simp only [ho,resolve,invoke,builtin,Sem.run_bind,Sem.run_pure,Result.andThen_ok,List.map_toArray,map_cons,map_nil,hs,hx,C];refine hK _ _ (h A w' (h1.app (ys:=ys) F V U h5 (λ i hi=> ?_) hX2) (h1.grown U hB) U h5);exact hE _ _ (h6 i hi)
 have q:(xs.length+ys.length) * bytes<=140737488355328:=by have:=Nat.mul_le_mul hlen hbs;omega
 have J:xs.length+ys.length<=maxLen:=by unfold maxLen;omega
 rcases h0 with ⟨rfl,b,rfl⟩ | ⟨b,o2,n,c,rfl,rfl,U,h5,h6⟩
 . have D:∀i (h:i < ([]:List α).length),E w0 ([]:List α)[i] ((([]:List Value).drop (i * sz)).take sz):=λ i h=> absurd h (by simp)
   cases b with
   | none=> exact fin v w ⟨[],run_append_owned_none (P:=P) (w:=w) B ts o.type t i sz ht hi v _ cs F,by simpa using F,⟨rfl,rfl,rfl,lr,λ _ _ _=> rfl⟩,λ k hk=> .inl hk,D⟩
   | some ad=>
    obtain ⟨A,w',C,V,U,h5⟩:=run_append_own (P:=P) w B ts o.type t i z sz bytes ht hi hz hsize hby hzs hsz v _ cs F ad 0 0 [] (by simp) (by simp) (by simp) (by simpa using J) (by simpa using q) hB;refine fin A w' ⟨[],C,V,U,λ k hk=> ?_,D⟩;subst hsize;rcases F.2 with ⟨rfl,h0⟩ | ⟨gv,cap,W,rfl,ab,hg,I,aa,M,G⟩
    . have:=h5.2 ⟨rfl,rfl⟩
      subst this;cases hk
    . have H:=run_append_room (P:=P) w ts o.type t i ht hi gv xs.length cap W hg ad 0 0 [] (by simp) (by simp) (by simp) (by omega) (by simp only [length_nil,add_zero];rw [M];exact Nat.mul_le_mul_right _ I)
      rw [H] at C;injection C with C _;subst C;exact .inl hk
 . by_cases hy:ys.length=0
   . obtain rfl:=length_eq_zero_iff.1 hy
     obtain ⟨A,w',C,V,T,O⟩:=run_append_own (P:=P) w B ts o.type t i z sz bytes ht hi hz hsize hby hzs hsz v _ cs F ⟨b,o2,none⟩ 0 c [] (by simp) (by simp) (by simp) (by simpa using J) (by simpa using q) hB;refine fin A w' ⟨[],C,V,T,λ k hk=> ?_,λ i h=> absurd h (by simp)⟩;subst hsize;rcases F.2 with ⟨rfl,h0⟩ | ⟨gv,cap,W,rfl,ab,hg,I,aa,M,G⟩
     . have:=O.2 ⟨rfl,rfl⟩
       subst this;cases hk
     . have H:=run_append_room (P:=P) w ts o.type t i ht hi gv xs.length cap W hg ⟨b,o2,none⟩ 0 c [] (by simp) (by simp) (by simp) (by omega) (by simp only [length_nil,add_zero];rw [M];exact Nat.mul_le_mul_right _ I)
       rw [H] at C;injection C with C _;subst C;exact .inl hk
   . have h7:∀i,∃cs:List Value,∀(h:i < ys.length),cs.length=sz/\(∀j,j < sz->w0.cell? ⟨b,o2+i * sz+j,none⟩=cs[j]?)/\E w0 ys[i] cs:=by
      intro i;by_cases hi:i < ys.length
      . obtain ⟨cs,h8⟩:=h6 i hi
        exact ⟨cs,λ _=> h8⟩
      . exact ⟨[],λ h=> absurd h hi⟩
     obtain ⟨f,h7⟩:=Classical.axiomOfChoice h7;have hf:∀i,i < ys.length->(f i).length=sz:=λ i hi=> (h7 i hi).1;have hl:=flatF_length hf;obtain ⟨A,w',C,V,T,O⟩:=run_append_block (P:=P) w B ts o.type t i z sz bytes ht hi hz hsize hby hzs hsz v _ cs F ⟨b,o2,none⟩ ys.length c (flatF f ys.length) hl (λ j u hu=> by
      have hj:j < ys.length * sz:=by have:=(List.getElem?_eq_some_iff.1 hu).1;omega
      rw [flatF_get hf j hj hsz] at hu;have L:j / sz < ys.length:=Nat.div_lt_of_lt_mul (by rw [Nat.mul_comm];exact hj);have h8:=(h7 _ L).2.1 (j % sz) (Nat.mod_lt _ hsz);rw [hu,Nat.add_assoc,show j / sz * sz+j % sz=j by rw [Nat.mul_comm];exact Nat.div_add_mod j sz] at h8;rw [Addr.add_mid,hb0.cell (p:=⟨b,o2+j,none⟩) U];exact h8) (λ u hu=> by
      obtain ⟨j,hj,rfl⟩:=mem_iff_getElem.1 hu;have h9:=getElem?_eq_getElem hj;rw [flatF_get hf j (by omega) hsz] at h9;have L:j / sz < ys.length:=Nat.div_lt_of_lt_mul (by rw [Nat.mul_comm];omega);exact hone _ _ _ (h7 _ L).2.2 _ (mem_of_getElem? h9)) (by omega) J q hB
     exact fin A w' ⟨_,C,V,T,O,λ i hi=> by rw [flatF_slice hf i hi];exact (h7 i hi).2.2⟩
theorem wpList_pushL (hgd:o.guard=none) (s x:Operand) (ts:TypeId)
 (ho:o.op=.call { callee:=.builtin .append,args:=#[s,x],argTypes:=#[ts,ts] })
 (i:TypeInfo) (z:Value) (bytes:Nat) (ht:P.underlying ts=some (.slice t)) (hi:P.info? t=some i) (hz:i.zero=some z)
 (hsize:i.size=sz) (hby:i.bytes=bytes) (hzs:z.cells.size=sz) (hsz:0 < sz) (hbs:bytes<=50000)
 (hs:a.eval s=v) (h1:Bl t sz E B X w xs v) {ys:List α} {src:Value} (hx:a.eval x=src) (w0:World) (h0:LsAt sz E w0 ys src) (hm:EMono E) (hb0:Below w0.heap.size w0 w) (hone:∀w x cs,E w x cs->∀u∈cs,u.oneCell'=true)
 (hlen:xs.length+ys.length<=1000000000) (hB0:w0.heap.size<=B) (hB:B<=w.heap.size) (hX:∀k,X k->w0.heap.size<=k) (hX2:∀k,X k->k < w.heap.size)
 (h:∀v' w',Hid (Bl t sz E B X w' (xs++ys) v')->Hid (Below B w w')->Hid (w.grownBy w' v.ownBlock)->Hid (∀k,v'.ownBlock=some k->v.ownBlock=some k\/w.heap.size<=k)->wpList P ops Q rest (a.put o.dst v') w'):
 wpList P ops Q (o::rest) a w:=by
 refine wpList_pushL0 hgd s x ts ho i z bytes ht hi hz hsize hby hzs hsz hbs hs h1 hx w0 h0 (λ y cs hy=> ?_) hb0 hone hlen hB hX2 h;refine (Ind.of (λ w' hb=> hm _ _ _ _ hy hb) hb0).sub λ k _ q=> ?_;rcases q with q | q
 . exact hX k q
 . exact le_trans hB0 (h1.ge k q).1
end
end
end
end Go.Proofs.YtcomoomndgbckaaGreat
noncomputable section
namespace Go.Proofs.YtcomoomndgbckaaGreat
open Go.RowKit
section
variable {P:Program}
theorem splice_get {α:Type} (L:List α) (off:Nat) (cs:List α) (h:off+cs.length<=L.length) (j:Nat):(splice L off cs)[j]? =if j < off then L[j]? else if j < off+cs.length then cs[j - off]? else L[j]? :=by
 unfold splice;by_cases h1:j < off
 . rw [List.getElem?_append_left (by simp;omega),List.getElem?_take,if_pos h1,if_pos h1]
 . rw [getElem?_append_right (by simp;omega),if_neg h1]
   have e:(L.take off).length=off:=by simp;omega
   rw [e];by_cases h2:j < off+cs.length
   . rw [List.getElem?_append_left (by omega),if_pos h2]
   . rw [getElem?_append_right (by omega),if_neg h2,List.getElem?_drop]
     congr 1;omega
end
end Go.Proofs.YtcomoomndgbckaaGreat
end
noncomputable section
namespace Go.Proofs.YtcomoomndgbckaaGreat
open Go.RowKit
section
variable {P:Program}
theorem wpList_clear2 {w:World} {ops:Array Oper} {rest:List Oper} {o:Oper} {a:Act} {Q:Exit->Act->World->Prop} (hgd:o.guard=none) (s:Operand) (t:TypeId)
 (ho:o.op=.call { callee:=.builtin .clear,args:=#[s],argTypes:=#[t] }) (e:TypeId) (i:TypeInfo) (z:Value) (size:Nat) (ht:P.underlying t=some (.slice e)) (hi:P.info? e=some i) (hz:i.zero=some z) (hzs:z.cells.size=size)
 (g off n cap:Nat) (hs:a.eval s=.slice (some ⟨g,off,none⟩) n cap) (hn:0 < n) (cur:List Value) (hg:w.heap[g]? =some (.cells cur.toArray e (0,0))) (hfit:off+n * size<=cur.length) (h1:∀u∈(Builtin.zeroCells z.cells n).toList,u.oneCell'=true)
 (h:∀w',Hid (w'.heap[g]? =some (.cells (splice cur off (Builtin.zeroCells z.cells n).toList).toArray e (0,0)))->Hid (w.grownBy w' (some g))->wpList P ops Q rest (a.put o.dst (.tuple #[])) w'):wpList P ops Q (o::rest) a w:=by
 refine wpList_plain hgd λ K hK=> ?_;have C:(Builtin.zeroCells z.cells n).toList.length=n * size:=by rw [Array.length_toList,size_zeroCells,hzs]
 have q:=run_storeCells_at P g off e (Builtin.zeroCells z.cells n).toList 0 cur.toArray w hg (by rw [C];simpa using hfit) h1;obtain ⟨n,rfl⟩:∃m,n=m+1:=⟨n - 1,by omega⟩
 have A:∀D,(Builtin.clear_ #[t] D #[.slice (some ⟨g,off,none⟩) (n+1) cap]).run P w=.ok (.tuple #[]) (w.setRow g (cur.take off++(Builtin.zeroCells z.cells (n+1)).toList++cur.drop (off+(Builtin.zeroCells z.cells (n+1)).toList.length)).toArray):=by intro D;simp only [add_zero] at q;simp [Builtin.clear_,run_underlying ht,zeroValue,typeInfo,hi,hz,q]
 unfold Oper.wp;simp only [execOp,ho,resolve,invoke,builtin,Sem.run_bind,Sem.run_pure,Result.andThen_ok,List.map_toArray,map_cons,map_nil,hs,A];exact hK _ _ (h _ (show _=_ by simpa [splice] using setRow_heap w g _ _ e _ hg) (grown_setRow _ _ _))
end
end Go.Proofs.YtcomoomndgbckaaGreat
end
namespace Go.Proofs.YtcomoomndgbckaaGreat
noncomputable section
theorem wpOpIn_of {P:Program} {l n:Nat} {ops:Array Oper} {Q:Exit->Act->World->Prop} {i:Nat} {K:Act->World->Prop} {a:Act} {w:World} {o:Oper} (ho:ops[i]? =some o) (hnd:∀c,o.op≠.defer c)
 (hq:∀a w,¬ Q .outgrown a w) (h:wpOp P ops (NoPanic Q) i K a w):wpOpIn (Fence.wide.inRound l) n P ops Q i K a w:=by
 unfold wpOp at h;unfold wpOpIn;simp only [ho] at h ⊢;by_cases hw:Region.wanted o (yielded ops a.tmps)=true
 . rw [if_pos hw] at h ⊢
   rcases h with h | ⟨_,A,w',h⟩
   . refine ⟨λ _ _=> trivial,?_⟩
     rw [Oper.semAt_plain _ _ _ hnd];unfold Oper.wp at h;revert h;generalize (execOp a.eval o).run P w=r;intro h;cases r with
     | ok x w'=>
      cases x with
      | enter f args=>
       refine ⟨(λ hh=> by cases hh),CallsIn.inRound l (callsIn_wide.2 (Calls.mono h (λ e q he=> ?_)))⟩;cases e with
       | returned v=> exact he
       | panicked c=> exact (he:False).elim
       | outgrown=> exact he
      | row row args=>
       refine ⟨(λ hh=> by cases hh),λ c cs _=> ?_⟩;obtain ⟨v,q,r,s⟩:=h c cs;exact ⟨v,q,r,stepsIn_wide.2 s⟩
      | value v=> exact h
      | skip=> exact h
      | defer d=> exact h
      | _=> exact (h:False).elim
     | halt x w'=> cases x <;> exact (h:False).elim
   . exact (hq _ _ h).elim
 . rw [if_neg hw] at h ⊢
   exact ⟨λ _ _=> trivial,h⟩
theorem wpAnyIn_inv {F:Fence} {n:Nat} {P:Program} {ops:Array Oper} {Q:Exit->Act->World->Prop} {Inv:(Nat->Bool)->Act->World->Prop} (hf:forwardK ops=true)
 (hstep:∀(i:Nat) (o:Oper) (L:Nat->Bool) (a:Act) (w:World),ops[i]? =some o->L i=false->(∀e∈o.after,Region.binds .any e=true->L e.on=true)->Inv L a w->wpOpIn F n P ops Q i (λ a' w'=> Inv (λ j=> L j || decide (j=i)) a' w') a w)
 (hend:∀(L:Nat->Bool) (a:Act) (w:World),(∀i,i < ops.size->L i=true)->Inv L a w->Q .normal a w):
 ∀(fuel:Nat) (listed:Array Bool) (a:Act) (w:World),listed.size=ops.size->left listed<=fuel->Inv (λ j=> listed.getD j false) a w->wpAnyIn F n P .any ops Q fuel listed a w
 | 0,listed,a,w,hs,hl,hI=> by
  have H:Region.ready .any ops listed=[]:=by
   rw [List.eq_nil_iff_forall_not_mem];intro j I;obtain ⟨D,J,A,_⟩:=mem_ready.1 I;have q:j < listed.size:=by have:=(Array.getElem?_eq_some_iff.1 A).1;omega
   have:0 < listed.toList.count false:=List.count_pos_iff.2 (by
    have K:listed.toList[j]'(by simpa using q)=false:=by simpa [Array.getD,q] using D
    rw [<-K];exact getElem_mem _)
   unfold left at hl;omega
  exact wpAnyIn_done H (hend _ _ _ (readyK_nil hf hs H) hI) 0
 | fuel+1,listed,a,w,hs,hl,hI=> by
  refine ⟨λ H=> hend _ _ _ (readyK_nil hf hs H) hI,λ j I=> ?_⟩;obtain ⟨D,J,A,G⟩:=mem_ready.1 I;have q:j < listed.size:=by have:=(Array.getElem?_eq_some_iff.1 A).1;omega
  have C:listed.getD j false=false:=by simpa [Array.getD,q] using D
  refine wpOpIn_mono (λ a' w' h'=> wpAnyIn_inv hf hstep hend fuel (listed.setIfInBounds j true) a' w' (by simpa using hs) ?_ ?_) (hstep j J (λ j=> listed.getD j false) a w A C G hI)
  . have:=left_set q C
    omega
  . have:(λ k=> (listed.setIfInBounds j true).getD k false)=λ k=> listed.getD k false || decide (k=j):=by
     funext k;by_cases hk:k=j
     . subst hk
       simp [Array.getD,q]
     . rw [getD_set_ne false (λ h=> hk h.symm)]
       simp [hk]
    rw [this];exact h'
def noDeferB (ops:Array Oper):Bool:=ops.all λ o=> match o.op with | .defer _=> false | _=> true
theorem noDefer_of {ops:Array Oper} (h:noDeferB ops=true) {i:Nat} {o:Oper} (ho:ops[i]? =some o):∀c,o.op≠.defer c:=by
 intro c q;unfold noDeferB at h;obtain ⟨hi,rfl⟩:=Array.getElem?_eq_some_iff.1 ho;have:=Array.all_eq_true.1 h i hi;rw [q] at this;cases this
theorem wpIn_region_vals {P:Program} {l n:Nat} {id:Nat} {ops ops':Array Oper} {Q:Exit->Act->World->Prop} {a:Act} {w:World} (ks:List Nat) (vals:List (Nat×Nat×Value)) (E:(Nat->Bool)->(Nat->Value)->World->Prop) (he:ops=ops') (hm:P.follows .mixedOrders=true) (hf:forwardK ops'=true) (hnd:noDeferB ops'=true)
 (hq:∀a w,¬ Q .outgrown a w)
 (h0:E (λ _=> false) (λ d=> a.eval (.tmp d)) w.drew)
 (hstep:∀(i:Nat) (o:Oper) (L:Nat->Bool) (a1:Act) (w:World),ops'[i]? =some o->L i=false->(∀e∈o.after,Region.binds .any e=true->L e.on=true)->RInv ops' a ks vals E L a1 w->wpOp P ops' (NoPanic Q) i (λ a' w'=> RInv ops' a ks vals E (λ j=> L j || decide (j=i)) a' w') a1 w)
 (hend:∀(L:Nat->Bool) (a1:Act) (w:World),(∀i,i < ops'.size->L i=true)->RInv ops' a ks vals E L a1 w->Q .normal a1 w):(Code.region id ops true).wpIn (Fence.wide.inRound l) n P Q a w:=by
 subst he;refine wpIn_region_any hm (wpAnyIn_inv (Inv:=λ L a1 w1=> RInv ops a ks vals E L a1 w1) hf (λ i o L a1 w1 ho hL hdep hI=> wpOpIn_of ho (noDefer_of hnd ho) hq (hstep i o L a1 w1 ho hL hdep hI)) hend _ _ _ _ (by simp) ?_ ?_)
 . unfold left
   exact le_trans List.count_le_length (by simp)
 . have:(λ j=> (Array.replicate ops.size false).getD j false)=λ _=> false:=by
    funext j;simp [Array.getD]
   rw [this];exact ⟨FrameLike.refl _ _,λ _ _ h=> (nomatch h),λ _ _ _ h=> (nomatch h),h0⟩
theorem before_calls (os:List Od) (X Y:Rw) (sx sy so:Value) (m:Nat) (w:World) (hx:ValsAt w X sx) (hy:ValsAt w Y sy) (ho:OrdsAt w os so) (hlX:X.length=m) (hlY:Y.length=m) (hf:OrdsFit os m):
 Calls Tryz.prog 61 #[sx,sy,so] w λ e w'=> e=.returned (.bool (decide (ordC os X Y < 0)))/\Below w.heap.size w w':=by
 obtain ⟨ax,nx,cx,rfl,an,aq⟩:=hx.shape;obtain ⟨ay,ny,cy,rfl,am,ap⟩:=hy.shape;obtain ⟨ao,no,co,rfl,ab,ac⟩:=ho.shape;have HX:=hid hx;have HY:=hid hy;have HO:=hid ho;have L:=hid (show nx=m/\ny=m/\no=os.length/\X.length=m/\Y.length=m from ⟨by omega,by omega,ab,hlX,hlY⟩);have HF:=hid hf;unfold maxLen at aq ap ac;clear hx hy ho an am ab hlX hlY hf;have HD:=hid (λ w' (hb:Below w.heap.size w w')=> rrows_calls X Y _ _ w' (HX.mono hb) (HY.mono hb));go_enter Tryz.func61,Tryz.ntmps61;go_wp2;go_loopw [7] (λ z wr=> ∃k:Nat,k<=no/\z=qi k/\Hid (ordC os X Y=ordC (os.drop k) X Y)/\Hid (Below w.heap.size w wr)) (λ z _=> no - (intOf z).toNat)
 case atStart=> exact ⟨0,zero_le _,rfl,rfl,zi⟩
 case round=>
  obtain ⟨k,hk,rfl,V,H⟩:=hrel;by_cases hlt:k < no
  . have O:k < os.length:=by have:=L.out;omega
    obtain ⟨b,o,rfl,D,c0,c1⟩:=(HO.mono H).at k O;have ah:=HF.out os[k] (getElem_mem _);have A:=ordC_drop O X Y;obtain ⟨od,aa⟩:=gx (os[k])
    rw [aa] at ah A c0 c1;have af:od.k < m:=by unfold Od.k;omega
    have J:od.k < X.length:=by have:=L.out;omega
    have I:od.k < Y.length:=by have:=L.out;omega
    obtain ⟨bx,ox,rfl⟩:=HX.has od.k (by have:=L.out;omega);obtain ⟨bY,oy,rfl⟩:=HY.has od.k (by have:=L.out;omega);obtain ⟨x0,x1,x2⟩:=(HX.mono H).cell od.k J;obtain ⟨y0,y1,y2⟩:=(HY.mono H).cell od.k I;have ae:=(HX.mono H).lt J;have ad:=(HY.mono H).lt I;have aj:od.c X Y=if od.desc then - cmpV X[od.k] Y[od.k] else cmpV X[od.k] Y[od.k]:=by unfold Od.c;rw [getD_eq_getElem?_getD,getD_eq_getElem?_getD,getElem?_eq_getElem J,getElem?_eq_getElem I];rfl
    have G:=hid aj;have K:=hid A;have HC:=hid (λ w'=> rcmp_calls X[od.k] Y[od.k] w' (HX.txt _ (getElem_mem _)));have W:=cmpV_range X[od.k] Y[od.k];have F:=hid W;generalize X[od.k]=x at *;generalize Y[od.k]=y at *;generalize cmpV x y=r at *;obtain ⟨q,hq⟩:=gx od.k
    have M:od.item - 1=q:=by rw [<-hq];unfold Od.k;omega
    rw [hq] at x0 x1 x2 y0 y1 y2 af;obtain ⟨it,ag⟩:=gx od.item
    obtain ⟨U,ai⟩:=gx od.desc
    rw [ag] at c0 M;rw [ai] at c1 G;have ar:=hid M;have ak:Hid (nx=m/\ny=m):=hid ⟨L.1,L.2.1⟩;have i1:(0:Int)<=q:=by omega
    have i2:(q:Int) < nx:=by have:=ak.out;omega
    have i3:(q:Int) < ny:=by have:=ak.out;omega
    have i4:(0:Int)<=it - 1:=by omega
    have i5:it - 1<=9223372036854775807:=by omega
    clear aj A aa ah J I W M ag ai O af;have Hq:=hid hq;clear hq;go_upto_region 4 with (fail)
    go_cut [8] from 16 to 21 (λ z wx=> z=qi q/\wx=wr)
    case first=>
     go_wp2_with fail;go_meet;exact ⟨by rw [<-ar.out],rfl⟩
    obtain ⟨rfl,rfl⟩:=hcut;clear i4 i5;go_upto_region 5 with (fail)
    go_cut [9] from 22 to 30 (λ z wx=> z=qi r/\Hid (Below wc.heap.size wc wx))
    case first=>
     go_region_held3 (λ w'=> Below wc.heap.size wc w'/\∀b o,b < wc.heap.size->w'.cell? ⟨b,o,none⟩=wc.cell? ⟨b,o,none⟩)
      (first | assumption | exact S_of (Below.drew zi) | exact S_step (by assumption) (by assumption))
      (first | (go_at_call 64;(with_reducible refine (HC.out _).mono ?_);rintro e w1 ⟨rfl,T⟩))
     all_goals
      rename_i hH
      have C:=hid hH.1;clear hH;go_step;go_step;go_meet;exact ⟨rfl,C⟩
    obtain ⟨rfl,C⟩:=hcut;have al:=hid (H.trans (C.mono H.size));have aw:=(C.cell (p:=⟨b,o+k * 2+1,none⟩) D).trans c1;have av:=lt_of_lt_of_le D C.size;clear c0 c1 x0 x1 x2 y0 y1 y2 ae ad D C HC i1 i2 i3;by_cases hr:r=0
    . subst hr
      have HE:Hid (ordC os X Y=ordC (os.drop (k+1)) X Y):=hid (by rw [V.out,K.out,G.out];cases U <;> simp);clear V K G F;cases U
      all_goals
       go_wp2;go_roundw
       case rel=> exact ⟨k+1,by omega,by go_num,HE,al⟩
       case measure=> simp [intOf];omega
    . have h1:(r !=0)=true:=by simpa using hr
      have h2:(-r !=0)=true:=by simp;omega
      have h3: -9223372036854775808<= -r:=by have:=F.out;omega
      have h4: -r<=9223372036854775807:=by have:=F.out;omega
      have HE:Hid (ordC os X Y=if U then -r else r):=hid (by rw [V.out,K.out,G.out,if_neg];cases U <;> simp <;> omega);clear V K G F hr;cases U
      all_goals
       go_wp2;go_ret;exact ⟨by rw [HE.out];first | rfl | (simp),al⟩
  . obtain rfl:k=no:=by omega
    have HE:Hid (ordC os X Y=cmpR X Y):=hid (by rw [V.out,drop_of_length_le (by have:=L.out;omega)];rfl);have F:=hid (cmpR_range X Y);generalize cmpR X Y=r at *;clear V HO ac hlt hk;go_wp2_with fail;(with_reducible refine (HD.out _ H.out).mono ?_);rintro e w1 ⟨rfl,T⟩;have au:=hid (H.trans (T.mono H.size));clear T;go_wp2;go_ret;exact ⟨by rw [HE.out];rfl,au⟩
theorem RowsOwn.take {w:World} {B g n c k:Nat} {L:List Rw} (h:RowsOwn w B L (qs (some ⟨g,0,none⟩) n c)) (hk:k<=n):RowsOwn w B (L.take k) (qs (some ⟨g,0,none⟩) k c):=by
 obtain ⟨D,h1,J,C⟩:=h;obtain ⟨hl,⟨e,_⟩ | ⟨K,cap,q,e,I,G,F,H,A,ht⟩⟩:=h1
 . simp at e
 . simp only [Value.slice.injEq,Option.some.injEq,Addr.mk.injEq,and_true] at e
   obtain ⟨rfl,rfl,rfl⟩:=e;have o:(L.take k).length=k:=by rw [length_take,min_eq_left hk]
   refine ⟨D.take k,⟨by rw [length_take,hl,o];omega,.inr ⟨g,c,q,by rw [o],I,G,by rw [o];omega,H,A,?_⟩⟩,?_,λ x hx=> C x (List.mem_of_mem_take hx)⟩
   . rw [o,<-ht,List.take_take,min_eq_left (by omega),Nat.mul_one]
   . clear C hl ht o hk F A
     induction J generalizing k with
     | nil=> simp;exact .nil
     | cons a b ih=>
      cases k with
      | zero=> exact .nil
      | succ k=> exact .cons a ih
theorem RowsOwn.behind {w:World} {B g n c k:Nat} {L:List Rw} (h:RowsOwn w B L (qs (some ⟨g,0,none⟩) n c)):∃ys,RowVs w (L.drop k) ys/\(∀y∈ys,Far w B y)/\∀j u,ys[j]? =some u->w.cell? ⟨g,k+j,none⟩=some u:=by
 obtain ⟨A,h1,C,q⟩:=h;have o:L.length=n:=by
  rcases h1.2 with ⟨e,_⟩ | ⟨_,_,_,e,_⟩
  . simp at e
  . injection e with _ e2;exact e2.symm
 rw [o] at h1;refine ⟨A.drop k,?_,λ x hx=> q x (List.mem_of_mem_drop hx),λ j u hj=> ?_⟩
 . clear h1 q o
   induction C generalizing k with
   | nil=> simp;exact .nil
   | cons a b ih=>
    cases k with
    | zero=> exact .cons a b
    | succ k=> exact ih
 . rw [List.getElem?_drop] at hj
   have hl:=(List.getElem?_eq_some_iff.1 hj).1;have D:=h1.1;rw [h1.cellAt (k+j) (by omega),hj]
theorem step_rows {w:World} {ops:Array Oper} {o:Oper} {a:Act} {K:Act->World->Prop} {Q:Exit->Act->World->Prop} {E:Prop} (hgd:o.guard=none) (s x:Operand)
 (ho:o.op=.call { callee:=.builtin .append,args:=#[s,x],argTypes:=#[41,41] })
 (B:Nat) (L M:List Rw) (v:Value) (hs:a.eval s=v) (hown:RowsOwn w B L v) (ad:Addr) (c m:Nat) (ys:List Value) (q:a.eval x=qs (some ad) m c) (hm:m=M.length)
 (hc:∀j u,ys[j]? =some u->w.cell? (ad.add j)=some u) (hy:RowVs w M ys) (hf:∀y∈ys,Far w B y)
 (hlen:L.length+m<=1099511627776) (hB:B<=w.heap.size)
 (h:∀A w',RowsOwn w' B (L++M) A->Below B w w'->w.grownBy w' v.ownBlock->K (a.put o.dst A) w'):if Region.wanted o (yielded ops a.tmps)=true then Oper.wp Tryz.prog o a w K Q else E:=by
 have T:Region.wanted o (yielded ops a.tmps)=true:=by simp [Region.wanted,hgd]
 rw [if_pos T];obtain ⟨O,J,G,F,D⟩:=info_parts Tryz.info60';obtain ⟨I,h1,V,U⟩:=hown;subst hm;refine wp_append_own w s x 41 ho B 60 O (q0) 1 24 Tryz.underlying41 J G F D rfl (by decide) v _ I hs h1 ad _ c ys q (by rw [hy.length];omega) hc hy.one' (by unfold maxLen;omega) (by omega) hB ?_;intro A w' H C _;have a1:=V.grown U h1 C;have a2:=hy.grown hf h1 C;refine h A w' ⟨I++ys,by rw [length_append];exact H,a1.1.append a2.1,λ x q=> ?_⟩ (zi.grown C hB λ g hg'=> (h1.lt g hg').1) C;rcases mem_append.1 q with q | q
 . exact a1.2 x q
 . exact a2.2 x q
theorem insO_drop (os:List Od) (x:Rw):∀(l:List Rw) (k:Nat),(∀y∈l.take k,¬ ordC os x y < 0)->insO os x l=l.take k++insO os x (l.drop k)
 | l,0,_=> by simp
 | [],k+1,_=> by simp
 | y::l,k+1,h=> by
  have h1:=h y (by simp);have o:=insO_drop os x l k λ z hz=> h z (by simp [hz]);rw [List.take_succ_cons,List.drop_succ_cons,cons_append,<-o]
  conv=> lhs;unfold insO
  rw [if_neg h1]
theorem insO_at (os:List Od) (x:Rw) (l:List Rw) (k:Nat) (h:∀y∈l.take k,¬ ordC os x y < 0) (hk:∀y,l[k]? =some y->ordC os x y < 0):insO os x l=l.take k++[x]++l.drop k:=by
 rw [insO_drop os x l k h,append_assoc];congr 1;by_cases hl:k < l.length
 . rw [drop_eq_getElem_cons hl]
   unfold insO;rw [if_pos (hk _ (getElem?_eq_getElem hl))];rfl
 . rw [drop_of_length_le (by omega)];rfl
theorem sortL_length (os:List Od) (L:List Rw):(sortL os L).length=L.length:=(sortL_spec os L).2.length_eq
theorem sortL_snoc (os:List Od) (L:List Rw) (k:Nat) (hk:k < L.length):sortL os (L.take (k+1))=insO os L[k] (sortL os (L.take k)):=by
 unfold sortL;rw [take_succ_eq_append_getElem hk,List.foldl_append];rfl
theorem copied2_calls (L:List Rw) (s:Value) (w:World) (hs:RowsAt w L s) (hm:∀r∈L,r.length < 1099511627776) (hlen:L.length < 1099511627776):
 Calls Tryz.prog 15 #[s] w λ e w'=> ∃g k,e=.returned (.slice (some ⟨g,0,none⟩) k k)/\RowsOwn w' w.heap.size L (.slice (some ⟨g,0,none⟩) k k)/\Below w.heap.size w w':=by
 obtain ⟨a,n,c,rfl,hn,ar⟩:=hs.shape;obtain ⟨i0,ii,aq,ap,ao⟩:=info_parts Tryz.info60';obtain ⟨j0,jj,an,am,al⟩:=info_parts Tryz.info35';have HS:=hid hs;have Hm:=hid hm;have Hn:=hid hn;have aB:n < 1099511627776:=by omega
 obtain ⟨B,hB⟩:=gx w.heap.size
 have HB:=hid hB;clear hs hm hn ar hlen;rw [hB];go_enter Tryz.func15,Tryz.ntmps15;go_wp2_with (refine wpList_make_full _ rfl _ _ 41 rfl B 60 i0 (q0) 1 Tryz.underlying41 ii aq ap _ _ _ _ n rfl rfl rfl rfl ?k2 ?k3 ?k4 ?_)
 case k2=> rw [ao];omega
 case k3=> unfold maxLen;omega
 case k4=> rw [hB];exact lr
 intro w1 ac ae;have T:=rowsOwn_made (by rw [Nat.mul_one];exact ac);have af:Below B w w1:=zi.grown ae (by omega) (by simp);have J:Hid (RowsOwn w1 B (L.take 0++List.replicate (n - 0) []) (.slice (some ⟨B,0,none⟩) n n)/\Below B w w1):=hid ⟨by simpa using T,af⟩;obtain ⟨g,hg⟩:=gx B
 rw [show (Value.slice (some ⟨B,0,none⟩) n n)=.slice (some ⟨g,0,none⟩) n n by rw [hg]] at J ⊢;have Hg:=hid hg;clear T af ac ae hg hB;go_wp2;go_loopw [11] (λ z wr=> ∃k:Nat,k<=n/\z=.int .i64 k/\Hid (RowsOwn wr B (L.take k++List.replicate (n - k) []) (.slice (some ⟨g,0,none⟩) n n)/\Below B w wr)) (λ z _=> n - (intOf z).toNat)
 case atStart=> exact ⟨0,zero_le _,rfl,J⟩
 case round=>
  clear J;obtain ⟨k,hk,rfl,J⟩:=hrel;by_cases hlt:k < n
  . have K:k < L.length:=by have:=Hn.out;omega
    obtain ⟨b,o,rfl⟩:=HS.has k hlt;obtain ⟨ax,nx,cx,A,-⟩:=HS.row k K;have ag:Below w.heap.size w wr:=by rw [HB.out];exact J.2
    obtain ⟨hc,hx,aw⟩:=A.out _ ag;have HN:=hid (show (L.take k++List.replicate (n - k) []).set k L[k]=L.take (k+1)++List.replicate (n - (k+1)) [] by rw [List.set_append_right _ _ (by simp;omega),length_take,min_eq_left (by omega),Nat.sub_self,show n - k=n - (k+1)+1 by omega,List.replicate_succ,List.set_cons_zero,take_succ_eq_append_getElem K,append_assoc];rfl);have aC:(k:Int) < n:=by omega
    have aa:=hid (Hm.out _ (getElem_mem K));have ah:=hid hx.txt;have ab:nx=L[k].length:=by obtain ⟨_,_,_,e,h1,h2⟩:=hx.shape;injection e with e1 e2 e3;omega
    have I:=hid ab;have q:=World.ownsRow_lit (e:=35) (size:=3) wr #[] 0 lr (by simp) (by simp);have D:=(Below.refl wr.heap.size wr).alloc lr (.cells #[] 35);have F:Hid (∀v w2,RowO w2 wr.heap.size L[k] v->Below wr.heap.size wr w2->∃av V cv,v=.slice av V cv/\(∃x,w2.cell? ⟨g,k,none⟩=some x)/\g < w2.heap.size/\w2.frozen? ⟨g,k,none⟩=false/\Hid (RowsOwn (w2.setCell ⟨g,k,none⟩ (.slice av V cv)) B (L.take (k+1)++List.replicate (n - (k+1)) []) (.slice (some ⟨g,0,none⟩) n n)/\Below B w (w2.setCell ⟨g,k,none⟩ (.slice av V cv)))):=by
     refine hid λ v w2 hv hb2=> ?_;have H:=J.1.mono hb2;obtain ⟨x,c1,f1,W,-⟩:=H.cellAt k hlt;obtain ⟨av,V,cv,rfl,-,-⟩:=hv.vals.shape;have O:=H.set k hv.vals hv.far;rw [HN.out] at O;have au:B<=g:=by have:=Hg.out;omega
     have az:B<=wr.heap.size:=by have:=J.2.size;have:=HB.out;omega
     exact ⟨av,V,cv,rfl,⟨x,c1⟩,W,f1,hid ⟨O,(J.2.trans (hb2.mono az)).setCell au _⟩⟩
    clear ag ab;rcases vals_src hx with ⟨rfl,rfl,rfl,hR⟩ | ⟨ad,rfl,M⟩
    . obtain ⟨av,V,cv,ay,⟨x,c1⟩,W,f1,C⟩:=F.out (.slice (some ⟨wr.heap.size,0,none⟩) 0 0) (wr.alloc (.cells #[] 35)) ⟨by rw [hR];exact q,by rw [hR];simp⟩ D
      injection ay with e1 e2 e3;subst e1 e2 e3;clear hx F HN hR D I aa ah A;go_wp2_with (at_builtin;refine wpList_append_own_none rfl _ _ 60 rfl wr.heap.size 35 j0 3 Tryz.underlying60 jj _ 0 [] rfl q rfl ?_);go_roundw
      case rel=> exact ⟨k+1,by omega,by go_num,C⟩
      case measure=> simp [intOf];omega
    . have U:=one_flat L[k]
      have G:∀j u,(flat L[k])[j]? =some u->(wr.alloc (.cells #[] 35)).cell? (ad.add j)=some u:=by intro j u hu;have h1:=M j u hu;rw [World.cell?_alloc_lt _ _ _ (World.block_lt_of_cell? wr _ h1)];exact h1
      have ak:=hid G;have ai:=hid U;have aj:=hid D;clear hx M G U D;generalize L[k]=R at *;clear K A;go_wp2_with (at_builtin;go_loud (refine wpList_append_own _ rfl _ _ 60 rfl wr.heap.size 35 j0 (.agg q0c) 3 32 Tryz.underlying60 jj an am al rfl (by decide) _ 0 [] rfl q ad nx cx (flat R) rfl (by rw [length_flat];have:=I.out;omega) ak ai (by unfold maxLen;have:=aa.out;have:=I.out;omega) (by have:=aa.out;have:=I.out;omega) (by simp) ?_));intro v' w' o1 o2 o3;obtain ⟨av,V,cv,rfl,⟨x,c1⟩,W,f1,C⟩:=F.out v' w' ⟨by rw [<-I.out];exact o1,ah⟩ (aj.grown o2 (by simp) (λ j hj=> Nat.le_of_eq (by simpa [Value.ownBlock] using hj)));clear o1 o2 o3 F hc aw J HN;go_wp2;go_roundw
      case rel=> exact ⟨k+1,by omega,by go_num,C⟩
      case measure=> simp [intOf];omega
  . obtain rfl:k=n:=by omega
    have hL:L.take k++List.replicate (k - k) []=L:=by rw [Nat.sub_self,take_of_length_le (by have:=Hn.out;omega)];simp
    have C:=J.out;rw [hL] at C;have aA:=hid C;clear C J hL;go_wp2;go_ret;exact ⟨_,_,rfl,aA⟩
def AllEnd (L:List Rw) (w:World) (e:Ending) (w':World):Prop:=∃bx u,e=.returned (.func (.func 38) #[] #[.pointer (some ⟨bx,0,none⟩)])/\Boxed w' bx 41 u/\RowsOwn w' w.heap.size L u/\Below w.heap.size w w'
theorem values_calls (L:List Rw) (u:Value) (B:Nat) (w:World) (hu:RowsOwn w B L u) (_hB:B<=w.heap.size):
 Calls Tryz.prog 17 #[u] w λ e w'=> ∃bx,e=.returned (.func (.func 38) #[] #[.pointer (some ⟨bx,0,none⟩)])/\Boxed w' bx 41 u/\RowsOwn w' B L u/\Below w.heap.size w w':=by
 obtain ⟨a,n,c,rfl,-⟩:=hu.at.shape;have o:Below w.heap.size w (w.alloc (.cells #[qs a n c] 41)):=zi.alloc lr _;have H:=hid (show Boxed (w.alloc (.cells #[qs a n c] 41)) w.heap.size 41 (qs a n c)/\RowsOwn (w.alloc (.cells #[qs a n c] 41)) B L (qs a n c)/\Below w.heap.size w (w.alloc (.cells #[qs a n c] 41)) from ⟨Boxed.new _ _ _,hu.mono o,o⟩);clear hu o;go_enter Tryz.func17,Tryz.ntmps17;go_wp2;go_ret;exact ⟨_,rfl,H⟩
def All2End (L:List Rw) (w:World) (e:Ending) (w':World):Prop:=∃bx g k,e=.returned (.func (.func 38) #[] #[.pointer (some ⟨bx,0,none⟩)])/\Boxed w' bx 41 (qs (some ⟨g,0,none⟩) k k)/\RowsOwn w' w.heap.size L (qs (some ⟨g,0,none⟩) k k)/\Below w.heap.size w w'
theorem all2_calls (L:List Rw) (s:Value) (w:World) (hs:RowsAt w L s) (hm:∀r∈L,r.length < 1099511627776) (hlen:L.length < 1099511627776):
 Calls Tryz.prog 12 #[s] w (All2End L w):=by
 have K:=hid (copied2_calls L s w hs hm hlen);obtain ⟨a,n,c,rfl,-⟩:=hs.shape;clear hs hm hlen;go_enter Tryz.func12,Tryz.ntmps12;go_wp2_with fail;(with_reducible refine K.out.mono ?_);rintro e G ⟨g,k,rfl,D,o⟩;have J:=hid (values_calls L (qs (some ⟨g,0,none⟩) k k) _ G D o.size);have A:=hid o;clear D o;go_wp2_with fail;(with_reducible refine J.out.mono ?_);rintro e C ⟨H,rfl,h1,F,q⟩;have I:=hid (show Boxed C H 41 (qs (some ⟨g,0,none⟩) k k)/\RowsOwn C w.heap.size L (qs (some ⟨g,0,none⟩) k k)/\Below w.heap.size w C from ⟨h1,F,A.trans (q.mono A.size)⟩);clear h1 F q;go_wp2;go_ret;exact ⟨_,_,_,rfl,I⟩
theorem all_calls (L:List Rw) (s:Value) (w:World) (hs:RowsAt w L s) (hm:∀r∈L,r.length < 1099511627776) (hlen:L.length < 1099511627776):
 Calls Tryz.prog 12 #[s] w (AllEnd L w):=(all2_calls L s w hs hm hlen).mono λ _ _ ⟨bx,_g,_k,h⟩=> ⟨bx,_,h⟩
theorem number_calls (n:Int) (w:World):Calls Tryz.prog 21 #[qi n] w λ e w'=> e=.returned (.agg #[qi 1,qi n,qt ⟨#[]⟩])/\Below w.heap.size w w':=by
 go_enter Tryz.func21,Tryz.ntmps21;go_wp2;refine bodyPost_ret (v:=.agg #[qi 1,qi n,qt ⟨#[]⟩]) (by simp [results,Tryz.results21,go_sem]) rfl ?_;exact ⟨rfl,zi.alloc lr _⟩
end
end Go.Proofs.YtcomoomndgbckaaGreat
