/- Part 0 of the proof. -/
import Derived.Below
import Derived.Lib.Hide
import Derived.ChangeArms
import Derived.ChangeAt
import Derived.Deep.Slices
import Derived.Laws.World
import GoSem.ClaimJoined
import Derived.Test.YtcomoomndgbckaaGreatRows
import Derived.WalkKit
import Derived.ProofKit
import Derived.OpenShut
import Derived.Carry
import Derived.Deep.DeepHandedRow
import Derived.Lib.Bytealg
import Derived.WalkSpells
import Derived.Outline
import Derived.RowKit3
import Derived.OwnWalk
import Derived.Laws.OwnMore
import Derived.LoopTactic
import Derived.Deep.RegionHeld3
import Derived.IntWalk
import Derived.Deep.DeepCutAuto
import Derived.Laws.AppendOwn
import Derived.Laws.AppendOwnNone
import Derived.Lib.SliceRun
import Derived.StillTailTactics
import Derived.RegionTactic
import Derived.BigRegion
import Derived.ChangeAlike
import Derived.Deep.QuietTactic
import Derived.BigQuiet
import Derived.Laws.CopyOwn
import Derived.Laws.CopyRow
import Derived.Lib.AppendZerosOnto
import Derived.Lib.Overlaps
import Derived.Laws.BytesArg
import Derived.Deep.MidRow
import Derived.Lib.QuietBelow
import Derived.Deep.CutBlock
import Derived.Deep.RegionLaw
import Derived.RangeFuncFrom
import Derived.RangeFuncBox
import Derived.RangeFuncLeaves
import Derived.RangeFuncCalls
import Derived.OwnWalkIn
import Derived.OrdersIn
import Derived.LoopIn
import Derived.Laws.Rows
import Derived.Shelf.Abstract
set_option maxHeartbeats 16000000
set_option maxRecDepth 100000
open Go Go.RowKit
open Go.Lib (hid)
open List (getElem?_cons_zero getElem_mem getElem_cons_zero getElem_cons_succ length_append nil_append map_cons append_assoc length_take mem_cons map_nil mem_singleton cons_append mem_append take_succ_eq_append_getElem mem_of_getElem? getElem?_eq_getElem map_append drop_eq_getElem_cons take_of_length_le length_nil length_cons append_nil take_append_drop length_eq_zero_iff pairwise_cons drop_of_length_le getElem?_append_right getD_eq_getElem?_getD all_eq_true mem_cons_of_mem)
open Nat (le_refl zero_le lt_succ_self le_trans lt_of_lt_of_le add_zero zero_add zero_mul le_of_lt min_eq_left)
namespace Go.Proofs.YtcomoomndgbckaaGreat
noncomputable section
abbrev qi(n:Int):Value:=.int .i64 n
abbrev qs(a:Option Addr)(n c:Nat):Value:=.slice a n c
abbrev qt(s:ByteArray):Value:=.string s
theorem zi{B:Nat}{w:World}:Below B w w:=Below.refl _ _
theorem lr{n:Nat}:n<=n:=Nat.le_refl n
theorem gx{α:Sort _}(a:α):∃x,a=x:=⟨a,rfl⟩
abbrev q0:Value:=.slice none 0 0
abbrev q0a:Array Value:=#[.int .i64 0,.string ⟨#[]⟩,.slice none 0 0,.slice none 0 0,.slice none 0 0,.slice none 0 0,.slice none 0 0,.slice none 0 0,.slice none 0 0,.slice none 0 0,.int .i64 0,.string ⟨#[]⟩,.string ⟨#[]⟩,.int .i64 0,.int .i64 0,.int .i64 0,.string ⟨#[]⟩,.slice none 0 0,.slice none 0 0,.slice none 0 0,.int .i64 0,.string ⟨#[]⟩,.int .i64 0,.slice none 0 0,.slice none 0 0,.slice none 0 0]
abbrev q0b:Array Value:=#[.int .i64 0,.string ⟨#[]⟩,.slice none 0 0,.slice none 0 0,.slice none 0 0,.slice none 0 0,.slice none 0 0,.slice none 0 0,.slice none 0 0,.slice none 0 0,.int .i64 0,.string ⟨#[]⟩,.string ⟨#[]⟩,.int .i64 0,.int .i64 0,.int .i64 0,.string ⟨#[]⟩,.slice none 0 0,.slice none 0 0,.slice none 0 0,.int .i64 0,.string ⟨#[]⟩]
abbrev q0c:Array Value:=#[.int .i64 0,.int .i64 0,.string ⟨#[]⟩]
abbrev q0d:Array Value:=#[.int .i64 0,.slice none 0 0]
abbrev q0e:Array Value:=#[.int .i64 0,.string ⟨#[]⟩,.string ⟨#[]⟩,.int .i64 0,.int .i64 0,.int .i64 0,.string ⟨#[]⟩,.slice none 0 0,.int .i64 0,.int .i64 0]
abbrev q0f:Array Value:=#[.int .i64 0,.string ⟨#[]⟩,.string ⟨#[]⟩,.int .i64 0,.int .i64 0,.int .i64 0,.string ⟨#[]⟩,.slice none 0 0]
abbrev q0g:Array Value:=#[.string ⟨#[]⟩,.slice none 0 0,.slice none 0 0,.slice none 0 0,.slice none 0 0]
abbrev q1a(a0:Int)(a1:ByteArray)(a2:Option Addr)(b2 c2:Nat)(a3:Option Addr)(b3 c3:Nat)(a4:Option Addr)(b4 c4:Nat)(a5:Option Addr)(b5 c5:Nat)(a6:Option Addr)(b6 c6:Nat)(a7:Option Addr)(b7 c7:Nat)(a8:Option Addr)(b8 c8:Nat)(a9:Option Addr)(b9 c9:Nat)(a10:Int)(a11:ByteArray)(a12:ByteArray)(a13:Int)(a14:Int)(a15:Int)(a16:ByteArray)(a17:Option Addr)(b17 c17:Nat)(a18:Option Addr)(b18 c18:Nat)(a19:Option Addr)(b19 c19:Nat)(a20:Int)(a21:ByteArray):Array Value:=#[.int .i64 a0,.string a1,.slice a2 b2 c2,.slice a3 b3 c3,.slice a4 b4 c4,.slice a5 b5 c5,.slice a6 b6 c6,.slice a7 b7 c7,.slice a8 b8 c8,.slice a9 b9 c9,.int .i64 a10,.string a11,.string a12,.int .i64 a13,.int .i64 a14,.int .i64 a15,.string a16,.slice a17 b17 c17,.slice a18 b18 c18,.slice a19 b19 c19,.int .i64 a20,.string a21]
abbrev q1b(a0:Int)(a1:ByteArray)(a2:Option Addr)(b2 c2:Nat)(a3:Option Addr)(b3 c3:Nat)(a4:Option Addr)(b4 c4:Nat)(a5:Option Addr)(b5 c5:Nat)(a6:Option Addr)(b6 c6:Nat)(a7:Option Addr)(b7 c7:Nat)(a8:Option Addr)(b8 c8:Nat)(a9:Option Addr)(b9 c9:Nat)(a10:Int)(a11:ByteArray)(a12:ByteArray)(a13:Int)(a14:Int)(a15:Int)(a16:ByteArray)(a17:Option Addr)(b17 c17:Nat)(a18:Option Addr)(b18 c18:Nat)(a19:Option Addr)(b19 c19:Nat)(a20:Int)(a21:ByteArray)(a22:Int)(a23:Option Addr)(b23 c23:Nat)(a24:Option Addr)(b24 c24:Nat)(a25:Option Addr)(b25 c25:Nat):Array Value:=#[.int .i64 a0,.string a1,.slice a2 b2 c2,.slice a3 b3 c3,.slice a4 b4 c4,.slice a5 b5 c5,.slice a6 b6 c6,.slice a7 b7 c7,.slice a8 b8 c8,.slice a9 b9 c9,.int .i64 a10,.string a11,.string a12,.int .i64 a13,.int .i64 a14,.int .i64 a15,.string a16,.slice a17 b17 c17,.slice a18 b18 c18,.slice a19 b19 c19,.int .i64 a20,.string a21,.int .i64 a22,.slice a23 b23 c23,.slice a24 b24 c24,.slice a25 b25 c25]
theorem q2a{α:Type _}:(∀(xs:List α)(i:Nat),xs.toArray[i]? =xs[i]?)/\(∀(a:α)(l:List α),(a::l)[0]? =some a)/\(∀(a:α)(l:List α)(i:Nat),(a::l)[i+1]? =l[i]?):=⟨λ _ _=> by simp,λ _ _=> by simp,λ _ _ _=> by simp⟩
theorem q2b{α:Type _}:(∀(xs:List α)(i:Nat)(h:i < xs.toArray.size),xs.toArray[i]=xs[i]'(by simpa using h))/\(∀(a:α)(l:List α)(h:0 < (a::l).length),(a::l)[0]=a)/\(∀(a:α)(l:List α)(i:Nat)(h:i+1 < (a::l).length),(a::l)[i+1]=l[i]'(by simpa using h)):=⟨λ _ _ _=> by simp,λ _ _ _=> by simp,λ _ _ _ _=> by simp⟩
end
end Go.Proofs.YtcomoomndgbckaaGreat
noncomputable section
namespace Go.Proofs.YtcomoomndgbckaaGreat
open Go.ChangeShapes Go.ChangeAt
section
variable {H:Type} {enc:TypeId×Value->H} {P:Program} {w:World} {held:Bool}
theorem spotless {w:World} {a:Addr} {v:Value} (h:w.cell? a=some v):a.spot=none/\a.block < w.heap.size:=by
 refine ⟨?_,World.block_lt_of_cell? w a h⟩;unfold World.cell? at h;split at h
 . split at h
   . cases h
   . rename_i o;simpa using o
 . cases h
theorem cells_at {w:World} {b o i sz:Nat} {cs:List Value} (h:w.cells? 0 (Addr.add ⟨b,o,none⟩ (i * sz)) sz=some cs):cs.length=sz/\∀j,j < sz->w.cell? ⟨b,o+i * sz+j,none⟩=cs[j]? :=by
 obtain ⟨_,hl,q⟩:=World.cells?_some h;refine ⟨hl,λ j hj=> ?_⟩;have:=q j hj;rw [Deep.add_add] at this;rw [<-this];unfold Addr.add;by_cases h0:i * sz+j=0
 . rw [if_pos h0];simp [Nat.add_assoc,h0]
 . rw [if_neg h0];simp [Nat.add_assoc]
theorem slice_read {t e:TypeId} {fuel sz:Nat} {cs:List Value} {x:DataW H×List MemPlace} (ht:P.underlying t=some (.slice e)) (hsz:P.cellsOf e=sz) (h0:0 < sz) (h:DataW.trod enc P w 0 (λ _=> true) held fuel t cs=some x):
 (∃a,cs=[.slice a 0 0])\/
 ∃(b o len cap n:Nat) (D:List (DataW H)) (R:List (DataW H)),cs=[.slice (some ⟨b,o,none⟩) len cap]/\b < w.heap.size/\len<=cap/\cap<=maxLen/\fuel=n+1/\x.1=.slice D R/\D.length=len/\
  ∀i (hi:i < D.length),∃q pl,q.length=sz/\(∀j,j < sz->w.cell? ⟨b,o+i * sz+j,none⟩=q[j]?)/\DataW.trod enc P w 0 (λ _=> true) held n e q=some (D[i],pl):=by
 rcases DataW.trod_slice ht h with ⟨rfl,-⟩ | ⟨a,len,cap,A,rest,n,rfl,rfl,rfl,-,hl,hm,I,J,K,-⟩
 . exact .inl ⟨none,rfl⟩
 by_cases hc0:cap=0
 . subst hc0
   obtain rfl:len=0:=by omega
   exact .inl ⟨some a,rfl⟩
 right;have G:∃v,w.cell? a=some v:=by
  have F:∃q,w.cells? 0 (a.add (0 * P.cellsOf e)) (P.cellsOf e)=some q:=by
   by_cases hl0:len=0
   . subst hl0
     obtain ⟨hr,V⟩:=K rfl;have h1:=V 0 (by omega);rw [getElem?_eq_getElem (by omega)] at h1;obtain ⟨q,C,_⟩:=Option.bind_eq_some_iff.1 h1;exact ⟨q,by simpa using C⟩
   . have h1:=J 0 (by omega)
     rw [getElem?_eq_getElem (by omega)] at h1;obtain ⟨q,C,_⟩:=Option.bind_eq_some_iff.1 h1;exact ⟨q,C⟩
  obtain ⟨q,h1⟩:=F;obtain ⟨_,U,W⟩:=World.cells?_some h1;have C:=W 0 (by omega);rw [getElem?_eq_getElem (by omega)] at C;exact ⟨_,by simpa [Addr.add] using C⟩
 obtain ⟨v,T⟩:=G;obtain ⟨M,O⟩:=spotless T;obtain ⟨b,o,sp⟩:=a;simp only at M O;subst M;refine ⟨b,o,len,cap,n,A.map (·.1),rest.map (·.1),rfl,O,hl,hm,rfl,rfl,by simpa using I,λ i hi=> ?_⟩;have L:i < A.length:=by simpa using hi
 have h1:=J i (by omega);rw [getElem?_eq_getElem L] at h1;obtain ⟨q,C,h3⟩:=Option.bind_eq_some_iff.1 h1;rw [hsz] at C;obtain ⟨h4,h5⟩:=cells_at C;exact ⟨q,(A[i]).2,h4,h5,by rw [h3];simp⟩
end
end Go.Proofs.YtcomoomndgbckaaGreat
end
noncomputable section
namespace Go.Proofs.YtcomoomndgbckaaGreat
open Go.ChangeShapes Go.WideShapes Go.ChangeAt Go.RowKit Go.WideMaps Go.WideElems
section
variable {H:Type} {enc:TypeId×Value->H} {P:Program}
theorem trodAll_stays {W W':World} {sp':Nat->Bool} (hl:laidOutB P=true):∀{ts:List TypeId} {vs:List Value} {ds:List (DataW H)} {ps:List MemPlace},(∀t∈ts,P.readableRec t=true/\t < P.types.size)->
 DataW.TrodAll enc P W 0 (λ _=> true) true ts vs ds ps->(∀p∈ps,W.sameAt W' p)->(∀p∈ps,sp' p.block=true)->DataW.TrodAll enc P W' 0 sp' true ts vs ds ps
 | [],vs,ds,ps,_,h,_,_=> by cases vs <;> cases ds <;> simp_all [DataW.TrodAll]
 | t::ts,vs,ds,ps,hr,h,hsame,hs=> by
  cases vs with
  | nil=> cases ds <;> simp [DataW.TrodAll] at h
  | cons v vs=>
   cases ds with
   | nil=> simp [DataW.TrodAll] at h
   | cons d ds=>
    obtain ⟨p,q,h1,o,rfl⟩:=h;exact ⟨p,q,Trod_stays hl (hr t (by simp)).1 (hr t (by simp)).2 h1 (λ x hx=> hsame x (by simp [hx])) (λ x hx=> hs x (by simp [hx])),
     trodAll_stays hl (λ t' ht'=> hr t' (by simp [ht'])) o (λ x hx=> hsame x (by simp [hx])) (λ x hx=> hs x (by simp [hx])),rfl⟩
theorem post_true {f:Func} {s:ChangeSpec} {W W':World} {args:Array Value} {ds:List (DataW H)} {before:List MemPlace} (hl:laidOutB P=true) (hr:∀t∈f.params.toList,P.readableRec t=true/\t < P.types.size)
 (hres:f.resultTypes=#[4]) (h4:P.underlying 4=some .bool) (hv:s.vars=[]) (hfn:s.fn H (ds++[])={ results:=[.lit (.bool true)],args:=ds })
 (hW:DataW.Whole enc P f.params.toList s.vars false W args.toList ds [] before) (hb:Below W.heap.size W W'):s.post enc P f false true false false W args (.bool true) W':=by
 have C:∀p∈before,p.block < W.heap.size:=λ p hp=> hW.lt p hp;have A:∀p∈before,(λ b=> decide (b < W.heap.size)) p.block=true:=λ p hp=> by simpa using C p hp
 obtain ⟨p,q,F,D,o,_,_⟩:=id hW;rw [hv] at D;obtain ⟨_,rfl⟩:=trodVars_none D;rw [append_nil] at o;subst o;refine ⟨ds,[],_,[],_,[],hW,?_,?_,?_,World.keptBut_mono (λ x hx=> ⟨hx,.inr (.inl hx)⟩) (hb.frame (· ∈_)),λ h=> by cases h⟩
 . rw [hfn,hres]
   exact trodAll_mk1 (shut_bool h4 true)
 . rw [hfn]
   exact trodAll_stays hl hr F (λ x hx=> hb.same (C x hx)) A
 . rw [hfn,hv]
   exact (rfl:([]:List MemPlace)=[])
end
section
variable {H:Type}
theorem cell_of_one_slice {v:Value} {t e:TypeId} (W:World) (ht:Tryz.prog.underlying t=some (.slice e)) {base:Nat} (hok:Value.okWide Tryz.prog W .any base t v):v.cells.toList=[v]:=by
 unfold Value.okWide at hok;rw [ht] at hok;simp only at hok;cases v <;> simp [Value.cells]
 all_goals (unfold Cell.okWide at hok;rw [ht] at hok;simp at hok)
 all_goals (unfold Cell.ok at hok;rw [ht] at hok;simp at hok)
end
theorem own:ownKnob Tryz.prog.godebug=none:=by kernel_rfl
theorem laidOut:laidOutB Tryz.prog=true:=by kernel_rfl
end Go.Proofs.YtcomoomndgbckaaGreat
end
noncomputable section
namespace Go.Proofs.YtcomoomndgbckaaGreat
structure Vl where
 kind:Int
 int:Int
 text:ByteArray
 deriving DecidableEq
abbrev Rw:=List Vl
def cmpS (a b:Int):Int:=if a < b then -1 else if b < a then 1 else 0
def orS (a b:Int):Int:=if a=0 then b else a
def bytes (s:ByteArray):List UInt8:=s.data.toList
theorem bytes_inj {a b:ByteArray} (h:bytes a=bytes b):a=b:=by
 obtain ⟨⟨a⟩⟩:=a;obtain ⟨⟨b⟩⟩:=b;simpa [bytes] using h
def cmpV (a b:Vl):Int:=orS (cmpS a.kind b.kind) (orS (cmpS a.int b.int) (Lib.compareBytes (bytes a.text) (bytes b.text)))
def cmpR:Rw->Rw->Int
 | [],[]=> 0
 | [],_::_=> -1
 | _::_,[]=> 1
 | a::x,b::y=> if cmpV a b=0 then cmpR x y else cmpV a b
theorem cmpS_range (a b:Int):cmpS a b= -1\/cmpS a b=0\/cmpS a b=1:=by
 unfold cmpS;split
 . exact .inl rfl
 . split
   . exact .inr (.inr rfl)
   . exact .inr (.inl rfl)
theorem cmpS_swap (a b:Int):cmpS b a= - cmpS a b:=by
 unfold cmpS;by_cases h1:a < b
 . have:¬ b < a:=by omega
   simp [h1,this]
 . by_cases h2:b < a <;> simp [h1,h2]
theorem cmpS_zero {a b:Int}:cmpS a b=0↔a=b:=by
 unfold cmpS;by_cases h1:a < b
 . simp [h1];omega
 . by_cases h2:b < a
   . simp [h1,h2];omega
   . simp [h1,h2];omega
theorem cmpS_neg {a b:Int}:cmpS a b < 0↔a < b:=by
 unfold cmpS;by_cases h1:a < b
 . simp [h1]
 . by_cases h2:b < a <;> simp [h1,h2]
theorem cmpB_range:∀a b:List UInt8,Lib.compareBytes a b= -1\/Lib.compareBytes a b=0\/Lib.compareBytes a b=1
 | [],[]=> by simp [Lib.compareBytes]
 | [],_::_=> by simp [Lib.compareBytes]
 | _::_,[]=> by simp [Lib.compareBytes]
 | a::x,b::y=> by
  rw [Lib.compareBytes];split
  . exact .inl rfl
  . split
    . exact .inr (.inr rfl)
    . exact cmpB_range x y
theorem cmpB_zero:∀{a b:List UInt8},Lib.compareBytes a b=0↔a=b
 | [],[]=> by simp [Lib.compareBytes]
 | [],_::_=> by simp [Lib.compareBytes]
 | _::_,[]=> by simp [Lib.compareBytes]
 | a::x,b::y=> by
  rw [Lib.compareBytes];by_cases h:a < b
  . have o:¬ a=b:=λ e=> by subst e;exact UInt8.lt_irrefl _ h
    simp [h,o]
  . by_cases h2:b < a
    . have o:¬ a=b:=λ e=> by subst e;exact h h2
      simp [h,h2,o]
    . have he:a=b:=by
       rw [UInt8.lt_iff_toNat_lt] at h h2;exact UInt8.toNat_inj.1 (by omega)
      subst he;simp [cmpB_zero (a:=x) (b:=y)]
theorem cmpB_swap:∀a b:List UInt8,Lib.compareBytes b a= - Lib.compareBytes a b
 | [],[]=> by simp [Lib.compareBytes]
 | [],_::_=> by simp [Lib.compareBytes]
 | _::_,[]=> by simp [Lib.compareBytes]
 | a::x,b::y=> by
  rw [Lib.compareBytes,Lib.compareBytes,cmpB_swap x y];by_cases h:a < b
  . have:¬ b < a:=by rw [UInt8.lt_iff_toNat_lt] at *;omega
    simp [h,this]
  . by_cases h2:b < a <;> simp [h,h2]
theorem cmpB_trans:∀{a b c:List UInt8},Lib.compareBytes a b < 0->Lib.compareBytes b c < 0->Lib.compareBytes a c < 0
 | [],[],_,h,_=> by simp [Lib.compareBytes] at h
 | _::_,[],_,h,_=> by simp [Lib.compareBytes] at h
 | _,_::_,[],_,h=> by simp [Lib.compareBytes] at h
 | [],_::_,_::_,_,_=> by simp [Lib.compareBytes]
 | a::x,b::y,c::z,h1,h2=> by
  rw [Lib.compareBytes] at h1 h2 ⊢;by_cases hab:a < b
  . by_cases hbc:b < c
    . have:a < c:=by rw [UInt8.lt_iff_toNat_lt] at *;omega
      simp [this]
    . by_cases hcb:c < b
      . simp [hbc,hcb] at h2
      . have:a < c:=by rw [UInt8.lt_iff_toNat_lt] at *;omega
        simp [this]
  . by_cases hba:b < a
    . simp [hab,hba] at h1
    . simp only [hab,hba,if_false] at h1
      have e:a=b:=by rw [UInt8.lt_iff_toNat_lt] at hab hba;exact UInt8.toNat_inj.1 (by omega)
      subst e;by_cases hbc:a < c
      . simp [hbc]
      . by_cases hcb:c < a
        . simp [hbc,hcb] at h2
        . simp only [hbc,hcb,if_false] at h2 ⊢
          exact cmpB_trans h1 h2
theorem cmpV_range (a b:Vl):cmpV a b= -1\/cmpV a b=0\/cmpV a b=1:=by
 unfold cmpV orS;split
 . split
   . exact cmpB_range _ _
   . exact cmpS_range _ _
 . exact cmpS_range _ _
theorem cmpV_zero {a b:Vl}:cmpV a b=0↔a=b:=by
 obtain ⟨k,i,t⟩:=a;obtain ⟨q,o,D⟩:=b;unfold cmpV orS;by_cases h1:cmpS k q=0
 . by_cases h2:cmpS i o=0
   . simp only [h1,h2,if_true]
     rw [cmpB_zero];have C:=cmpS_zero.1 h1;have A:=cmpS_zero.1 h2;subst C A;constructor
     . intro h;rw [bytes_inj h]
     . intro h;cases h;rfl
   . simp only [h1,h2,if_true,if_false]
     have:¬ i=o:=λ h=> h2 (cmpS_zero.2 h);constructor
     . intro h;exact h.elim
     . intro h;cases h;exact this rfl
 . simp only [h1,if_false]
   constructor
   . intro h;exact absurd h (by simp)
   . intro h;cases h;exact h1 (cmpS_zero.2 rfl)
theorem cmpV_swap (a b:Vl):cmpV b a= - cmpV a b:=by
 unfold cmpV orS;rw [cmpS_swap a.kind b.kind,cmpS_swap a.int b.int,cmpB_swap (bytes a.text) (bytes b.text)];by_cases h1:cmpS a.kind b.kind=0
 . by_cases h2:cmpS a.int b.int=0 <;> simp [h1,h2]
 . have:¬ - cmpS a.kind b.kind=0:=by omega
   simp [h1]
theorem cmpV_trans {a b c:Vl} (h1:cmpV a b < 0) (h2:cmpV b c < 0):cmpV a c < 0:=by
 obtain ⟨k,i,t⟩:=a;obtain ⟨C,D,L⟩:=b;obtain ⟨o,q,F⟩:=c;unfold cmpV orS at *;simp only at *;by_cases p1:cmpS k C=0
 . have K:=cmpS_zero.1 p1
   subst K;by_cases p2:cmpS k o=0
   . have A:=cmpS_zero.1 p2
     subst A;simp only [p1,if_true] at *;by_cases q1:cmpS i D=0
     . have J:=cmpS_zero.1 q1
       subst J;by_cases q2:cmpS i q=0
       . simp only [q1,q2,if_true] at *
         exact cmpB_trans h1 h2
       . simp only [q2,if_false] at *
         exact h2
     . simp only [q1,if_false] at h1
       rw [cmpS_neg] at h1;by_cases q2:cmpS D q=0
       . have I:=cmpS_zero.1 q2
         subst I;simp only [q1,if_false];exact cmpS_neg.2 h1
       . simp only [q2,if_false] at h2
         rw [cmpS_neg] at h2;have G:¬ cmpS i q=0:=λ h=> by have:=cmpS_zero.1 h;omega
         simp only [G,if_false];exact cmpS_neg.2 (by omega)
   . simp only [p1,p2,if_true,if_false] at *
     exact h2
 . simp only [p1,if_false] at h1
   rw [cmpS_neg] at h1;by_cases p2:cmpS C o=0
   . have A:=cmpS_zero.1 p2
     subst A;simp only [p1,if_false];exact cmpS_neg.2 h1
   . simp only [p2,if_false] at h2
     rw [cmpS_neg] at h2;have H:¬ cmpS k o=0:=λ h=> by have:=cmpS_zero.1 h;omega
     simp only [H,if_false];exact cmpS_neg.2 (by omega)
theorem cmpR_range:∀a b:Rw,cmpR a b= -1\/cmpR a b=0\/cmpR a b=1
 | [],[]=> by simp [cmpR]
 | [],_::_=> by simp [cmpR]
 | _::_,[]=> by simp [cmpR]
 | a::x,b::y=> by
  rw [cmpR];split
  . exact cmpR_range x y
  . exact cmpV_range a b
theorem cmpR_zero:∀{a b:Rw},cmpR a b=0↔a=b
 | [],[]=> by simp [cmpR]
 | [],_::_=> by simp [cmpR]
 | _::_,[]=> by simp [cmpR]
 | a::x,b::y=> by
  rw [cmpR];split
  . rename_i h
    rw [cmpR_zero (a:=x) (b:=y)];have:=cmpV_zero.1 h;subst this;simp
  . rename_i h
    have o:¬ a=b:=λ e=> h (cmpV_zero.2 e);simp [h,o]
theorem cmpR_swap:∀a b:Rw,cmpR b a= - cmpR a b
 | [],[]=> by simp [cmpR]
 | [],_::_=> by simp [cmpR]
 | _::_,[]=> by simp [cmpR]
 | a::x,b::y=> by
  rw [cmpR,cmpR,cmpR_swap x y,cmpV_swap a b];by_cases h:cmpV a b=0
  . simp [h]
  . have:¬ - cmpV a b=0:=by omega
    simp [h]
theorem cmpR_trans:∀{a b c:Rw},cmpR a b < 0->cmpR b c < 0->cmpR a c < 0
 | [],[],_,h,_=> by simp [cmpR] at h
 | _::_,[],_,h,_=> by simp [cmpR] at h
 | _,_::_,[],_,h=> by simp [cmpR] at h
 | [],_::_,_::_,_,_=> by simp [cmpR]
 | a::x,b::y,c::z,h1,h2=> by
  rw [cmpR] at h1 h2 ⊢;by_cases p1:cmpV a b=0
  . have e:=cmpV_zero.1 p1
    subst e;by_cases p2:cmpV a c=0
    . simp only [p1,p2,if_true] at *
      exact cmpR_trans h1 h2
    . simp only [p2,if_false] at *
      exact h2
  . simp only [p1,if_false] at h1
    by_cases p2:cmpV b c=0
    . have e:=cmpV_zero.1 p2
      subst e;simp only [p1,if_false];exact h1
    . simp only [p2,if_false] at h2
      have o:=cmpV_trans h1 h2;have:¬ cmpV a c=0:=by omega
      simp only [this,if_false];exact o
def ltR (a b:Rw):Prop:=cmpR a b < 0
instance (a b:Rw):Decidable (ltR a b):=inferInstanceAs (Decidable (_ < _))
end Go.Proofs.YtcomoomndgbckaaGreat
end
noncomputable section
namespace Go.Proofs.YtcomoomndgbckaaGreat
open Go.RowKit
def Vl.cells (v:Vl):List Value:=[qi v.kind,qi v.int,qt v.text]
def Vl.val (v:Vl):Value:=.agg #[qi v.kind,qi v.int,qt v.text]
inductive ValsAt (w:World):Rw->Value->Prop where
 | mt {a:Option Addr}:ValsAt w [] (qs a 0 0)
 | lie (vs:Rw) (b o n cap:Nat) (hn:n=vs.length) (hlt:b < w.heap.size) (hm:n<=maxLen)
  (hc:∀i (h:i < vs.length),∀j (_:j < 3),w.cell? ⟨b,o+i * 3+j,none⟩=(vs[i].cells[j]?)) (ht:∀v∈vs,v.text.size<=maxLen):ValsAt w vs (qs (some ⟨b,o,none⟩) n cap)
theorem ValsAt.mono {w w':World} {vs:Rw} {s:Value} (h:ValsAt w vs s) (hb:Below w.heap.size w w'):ValsAt w' vs s:=by
 cases h with
 | mt=> exact .mt
 | lie _ b o n cap hn hlt hm hc ht=> exact .lie _ b o n cap hn (lt_of_lt_of_le hlt hb.size) hm (λ i h j hj=> (hb.cell hlt).trans (hc i h j hj)) ht
theorem ValsAt.txt {w:World} {vs:Rw} {s:Value} (h:ValsAt w vs s):∀v∈vs,v.text.size<=maxLen:=by
 cases h with
 | mt=> simp
 | lie _ b o n cap hn hlt hm hc ht=> exact ht
theorem ValsAt.shape {w:World} {vs:Rw} {s:Value} (h:ValsAt w vs s):∃a n c,s=qs a n c/\n=vs.length/\n<=maxLen:=by
 cases h with
 | mt=> exact ⟨_,_,_,rfl,rfl,by simp⟩
 | lie _ b o n cap hn hlt hm hc=> exact ⟨_,_,_,rfl,hn,hm⟩
theorem ValsAt.cell {w:World} {vs:Rw} {b o n cap:Nat} (h:ValsAt w vs (qs (some ⟨b,o,none⟩) n cap)) (i:Nat) (hi:i < vs.length):
 w.cell? ⟨b,o+i * 3,none⟩=some (qi vs[i].kind)/\w.cell? ⟨b,o+i * 3+1,none⟩=some (qi vs[i].int)/\w.cell? ⟨b,o+i * 3+2,none⟩=some (qt vs[i].text):=by
 cases h with
 | mt=> simp at hi
 | lie _ _ _ _ _ hn hlt hm hc=> exact ⟨hc i hi 0 (by omega),hc i hi 1 (by omega),hc i hi 2 (by omega)⟩
theorem ValsAt.has {w:World} {L:Rw} {a:Option Addr} {n c:Nat} (h:ValsAt w L (qs a n c)) (i:Nat) (hi:i < n):∃b o,a=some ⟨b,o,none⟩:=by
 cases h with
 | mt=> omega
 | lie _ b o=> exact ⟨b,o,rfl⟩
theorem ValsAt.lt {w:World} {L:Rw} {b o n c:Nat} (h:ValsAt w L (qs (some ⟨b,o,none⟩) n c)) {i:Nat} (hi:i < L.length):b < w.heap.size:=
 World.block_lt_of_cell? w _ (h.cell i hi).1
structure VarIs (w:World) (b:Nat) (c:Array Value):Prop where
 lt:b < w.heap.size
 cell:∀j,w.cell? ⟨b,j,none⟩=c[j]?
 free:∀j,w.frozen? ⟨b,j,none⟩=false
theorem VarIs.below {w w':World} {B b:Nat} {c:Array Value} (h:VarIs w b c) (hb:Below B w w') (hB:b < B):VarIs w' b c:=
 ⟨lt_of_lt_of_le h.lt hb.size,λ j=> (hb.cell (p:=⟨b,j,none⟩) hB).trans (h.cell j),λ j=> (hb.frozen (p:=⟨b,j,none⟩) hB).trans (h.free j)⟩
theorem VarIs.new (w:World) (c:Array Value) (t:TypeId):VarIs (w.alloc (.cells c t)) w.heap.size c:=
 ⟨by simp,λ j=> World.cell?_alloc_new w c t j,λ j=> World.frozen?_alloc_new w c t j⟩
theorem VarIs.alloc {w:World} {b:Nat} {c:Array Value} (h:VarIs w b c) (o:Obj):VarIs (w.alloc o) b c:=
 ⟨by simp;have:=h.lt;omega,λ j=> (World.cell?_alloc_lt _ _ _ h.lt).trans (h.cell j),λ j=> (World.frozen?_alloc_old _ _ _ (Nat.ne_of_lt h.lt)).trans (h.free j)⟩
theorem VarIs.drew {w:World} {b:Nat} {c:Array Value} (h:VarIs w b c):VarIs w.drew b c:=⟨h.lt,h.cell,h.free⟩
theorem VarIs.new1 (w:World) (o:Obj) (c:Array Value) (t:TypeId):VarIs ((w.alloc o).alloc (.cells c t)) (w.heap.size+1) c:=by
 have:=VarIs.new (w.alloc o) c t
 rwa [World.size_alloc] at this
theorem VarIs.setOther {w:World} {g g':Nat} {c:Array Value} (h:VarIs w g' c) (hne:g≠g') (i:Nat) (v:Value):VarIs (w.setCell ⟨g,i,none⟩ v) g' c:=by
 have o:=Below.heap_setCell w ⟨g,i,none⟩ v g' (λ e=> hne e.symm);exact ⟨by have:=h.lt;simpa using this,λ j=> (World.cell?_of_block (a:=⟨g',j,none⟩) o).trans (h.cell j),λ j=> (World.frozen?_of_block (a:=⟨g',j,none⟩) o).trans (h.free j)⟩
theorem VarIs.set {w:World} {g:Nat} {c:Array Value} (h:VarIs w g c) (i:Nat) (hi:i < c.size) (v:Value):VarIs (w.setCell ⟨g,i,none⟩ v) g (c.set i v):=by
 have h1:w.cell? ⟨g,i,none⟩=some c[i]:=by rw [h.cell i,Array.getElem?_eq_getElem hi]
 refine ⟨by have:=h.lt;simpa using this,λ j=> ?_,λ j=> ?_⟩
 . by_cases hj:i=j
   . subst hj
     rw [World.cell?_setCell_same _ _ _ h1];simp [hi]
   . rw [World.cell?_setCell_other _ _ _ _ (λ e=> hj (by injection e)),h.cell j,Array.getElem?_set_ne _ hj]
 . rw [World.frozen?_setCell]
   exact h.free j
theorem S_of {W w:World} (h:Below W.heap.size W w):Below W.heap.size W w/\∀b o,b < W.heap.size->w.cell? ⟨b,o,none⟩=W.cell? ⟨b,o,none⟩:=⟨h,λ b o hb=> h.cell (p:=⟨b,o,none⟩) hb⟩
theorem S_step {W w w':World} (h:Below W.heap.size W w/\∀b o,b < W.heap.size->w.cell? ⟨b,o,none⟩=W.cell? ⟨b,o,none⟩) (hb:Below w.heap.size w w'):Below W.heap.size W w'/\∀b o,b < W.heap.size->w'.cell? ⟨b,o,none⟩=W.cell? ⟨b,o,none⟩:=
 S_of (h.1.trans (hb.mono h.1.size))
theorem S_alloc {W w:World} (h:Below W.heap.size W w/\∀b o,b < W.heap.size->w.cell? ⟨b,o,none⟩=W.cell? ⟨b,o,none⟩) (o:Obj):Below W.heap.size W (w.alloc o)/\∀b o',b < W.heap.size->(w.alloc o).cell? ⟨b,o',none⟩=W.cell? ⟨b,o',none⟩:=
 S_of (h.1.alloc h.1.size o)
theorem own_below {w w':World} {base:Nat} {e:TypeId} {size:Nat} {v:Value} {n:Nat} {xs:List Value} (h:w.ownsRow base e size v n xs) (hb:Below w.heap.size w w'):w'.ownsRow base e size v n xs:=by
 refine ⟨h.1,?_⟩;rcases h.2 with D | ⟨g,cap,o,A,C,q,r⟩
 . exact .inl D
 . exact .inr ⟨g,cap,o,A,C,(hb.block g (Array.getElem?_eq_some_iff.1 q).1).trans q,r⟩
def flat (vs:Rw):List Value:=vs.flatMap Vl.cells
theorem flat_get (vs:Rw) (i:Nat) (hi:i < vs.length) (j:Nat) (hj:j < 3):(flat vs)[i * 3+j]? =vs[i].cells[j]? :=by
 induction vs generalizing i with
 | nil=> simp at hi
 | cons x l ih=>
  cases i with
  | zero=>
   simp only [flat,List.flatMap_cons,zero_mul,zero_add,getElem_cons_zero];rw [List.getElem?_append_left (by simpa [Vl.cells] using hj)]
  | succ i=>
   have:=ih i (by simpa using hi);simp only [flat,List.flatMap_cons,getElem_cons_succ] at this ⊢;rw [getElem?_append_right (by simp [Vl.cells];omega),<-this];congr 1;simp [Vl.cells];omega
theorem length_flat (l:Rw):(flat l).length=l.length * 3:=by
 induction l with
 | nil=> rfl
 | cons x l ih=> simp only [flat,List.flatMap_cons,length_append,length_cons] at ih ⊢;rw [ih];simp [Vl.cells];omega
theorem one_flat (l:Rw):∀u∈flat l,u.oneCell'=true:=by
 intro u q;simp only [flat,List.mem_flatMap] at q;obtain ⟨v,_,o⟩:=q;simp [Vl.cells] at o;rcases o with rfl | rfl | rfl <;> rfl
theorem vals_of_own {w:World} {B:Nat} {v:Value} {n:Nat} {vs:Rw} {t:TypeId} (h:w.ownsRow B t 3 v n (flat vs)) (hl:vs.length=n) (htx:∀v∈vs,v.text.size<=maxLen):ValsAt w vs v:=by
 obtain ⟨_,⟨rfl,rfl⟩ | ⟨g,cap,o,rfl,F,q,A,C,D,ht⟩⟩:=h
 . cases vs with
   | nil=> exact .mt
   | cons=> simp at hl
 . refine .lie vs g 0 n cap hl.symm (Array.getElem?_eq_some_iff.1 q).1 (le_trans A C) (λ i hi j hj=> ?_) htx
   rw [<-flat_get vs i hi j hj,<-ht,zero_add,cell_of_row w g (i * 3+j) o t (0,0) q,List.getElem?_take,if_pos (by omega)];simp
theorem VarIs.a0 {w:World} {g:Nat} {a:Value} {l:List Value} (h:VarIs w g (a::l).toArray):w.cell? ⟨g,0,none⟩=some a:=by simpa using h.cell 0
theorem VarIs.a1 {w:World} {g:Nat} {a b:Value} {l:List Value} (h:VarIs w g (a::b::l).toArray):w.cell? ⟨g,1,none⟩=some b:=by simpa using h.cell 1
theorem VarIs.a2 {w:World} {g:Nat} {a b c:Value} {l:List Value} (h:VarIs w g (a::b::c::l).toArray):w.cell? ⟨g,2,none⟩=some c:=by simpa using h.cell 2
theorem VarIs.a3 {w:World} {g:Nat} {a b c d:Value} {l:List Value} (h:VarIs w g (a::b::c::d::l).toArray):w.cell? ⟨g,3,none⟩=some d:=by simpa using h.cell 3
theorem VarIs.a4 {w:World} {g:Nat} {a b c d e:Value} {l:List Value} (h:VarIs w g (a::b::c::d::e::l).toArray):w.cell? ⟨g,4,none⟩=some e:=by simpa using h.cell 4
theorem VarIs.a5 {w:World} {g:Nat} {a b c d e f:Value} {l:List Value} (h:VarIs w g (a::b::c::d::e::f::l).toArray):w.cell? ⟨g,5,none⟩=some f:=by simpa using h.cell 5
theorem VarIs.a6 {w:World} {g:Nat} {a b c d e f i:Value} {l:List Value} (h:VarIs w g (a::b::c::d::e::f::i::l).toArray):w.cell? ⟨g,6,none⟩=some i:=by simpa using h.cell 6
theorem VarIs.a7 {w:World} {g:Nat} {a b c d e f i j:Value} {l:List Value} (h:VarIs w g (a::b::c::d::e::f::i::j::l).toArray):w.cell? ⟨g,7,none⟩=some j:=by simpa using h.cell 7
theorem VarIs.a8 {w:World} {g:Nat} {a b c d e f i j k:Value} {l:List Value} (h:VarIs w g (a::b::c::d::e::f::i::j::k::l).toArray):w.cell? ⟨g,8,none⟩=some k:=by simpa using h.cell 8
theorem VarIs.a9 {w:World} {g:Nat} {a b c d e f i j k m:Value} {l:List Value} (h:VarIs w g (a::b::c::d::e::f::i::j::k::m::l).toArray):w.cell? ⟨g,9,none⟩=some m:=by simpa using h.cell 9
theorem VarIs.a10 {w:World} {g:Nat} {a b c d e f i j k m n:Value} {l:List Value} (h:VarIs w g (a::b::c::d::e::f::i::j::k::m::n::l).toArray):w.cell? ⟨g,10,none⟩=some n:=by simpa using h.cell 10
theorem VarIs.a11 {w:World} {g:Nat} {a b c d e f i j k m n o:Value} {l:List Value} (h:VarIs w g (a::b::c::d::e::f::i::j::k::m::n::o::l).toArray):w.cell? ⟨g,11,none⟩=some o:=by simpa using h.cell 11
theorem VarIs.a12 {w:World} {g:Nat} {a b c d e f i j k m n o p:Value} {l:List Value} (h:VarIs w g (a::b::c::d::e::f::i::j::k::m::n::o::p::l).toArray):w.cell? ⟨g,12,none⟩=some p:=by simpa using h.cell 12
theorem VarIs.a13 {w:World} {g:Nat} {a b c d e f i j k m n o p q:Value} {l:List Value} (h:VarIs w g (a::b::c::d::e::f::i::j::k::m::n::o::p::q::l).toArray):w.cell? ⟨g,13,none⟩=some q:=by simpa using h.cell 13
theorem VarIs.a14 {w:World} {g:Nat} {a b c d e f i j k m n o p q r:Value} {l:List Value} (h:VarIs w g (a::b::c::d::e::f::i::j::k::m::n::o::p::q::r::l).toArray):w.cell? ⟨g,14,none⟩=some r:=by simpa using h.cell 14
theorem VarIs.a15 {w:World} {g:Nat} {a b c d e f i j k m n o p q r s:Value} {l:List Value} (h:VarIs w g (a::b::c::d::e::f::i::j::k::m::n::o::p::q::r::s::l).toArray):w.cell? ⟨g,15,none⟩=some s:=by simpa using h.cell 15
theorem VarIs.a16 {w:World} {g:Nat} {a b c d e f i j k m n o p q r s u:Value} {l:List Value} (h:VarIs w g (a::b::c::d::e::f::i::j::k::m::n::o::p::q::r::s::u::l).toArray):w.cell? ⟨g,16,none⟩=some u:=by simpa using h.cell 16
theorem VarIs.a17 {w:World} {g:Nat} {a b c d e f i j k m n o p q r s u v:Value} {l:List Value} (h:VarIs w g (a::b::c::d::e::f::i::j::k::m::n::o::p::q::r::s::u::v::l).toArray):w.cell? ⟨g,17,none⟩=some v:=by simpa using h.cell 17
theorem VarIs.a18 {w:World} {g:Nat} {a b c d e f i j k m n o p q r s u v y:Value} {l:List Value} (h:VarIs w g (a::b::c::d::e::f::i::j::k::m::n::o::p::q::r::s::u::v::y::l).toArray):w.cell? ⟨g,18,none⟩=some y:=by simpa using h.cell 18
theorem VarIs.a19 {w:World} {g:Nat} {a b c d e f i j k m n o p q r s u v y z:Value} {l:List Value} (h:VarIs w g (a::b::c::d::e::f::i::j::k::m::n::o::p::q::r::s::u::v::y::z::l).toArray):w.cell? ⟨g,19,none⟩=some z:=by simpa using h.cell 19
theorem VarIs.a21 {w:World} {g:Nat} {a b c d e f i j k m n o p q r s u v y z A B:Value} {l:List Value} (h:VarIs w g (a::b::c::d::e::f::i::j::k::m::n::o::p::q::r::s::u::v::y::z::A::B::l).toArray):w.cell? ⟨g,21,none⟩=some B:=by simpa using h.cell 21
theorem VarIs.a24 {w:World} {g:Nat} {a b c d e f i j k m n o p q r s u v y z A B C D E:Value} {l:List Value} (h:VarIs w g (a::b::c::d::e::f::i::j::k::m::n::o::p::q::r::s::u::v::y::z::A::B::C::D::E::l).toArray):w.cell? ⟨g,24,none⟩=some E:=by simpa using h.cell 24
end Go.Proofs.YtcomoomndgbckaaGreat
end
namespace Go.Proofs.YtcomoomndgbckaaGreat
noncomputable section
def Vl.null:Vl:=⟨0,0,⟨#[]⟩⟩
inductive Ex where
 | mk (op:Int) (table name:ByteArray) (index:Int) (v:Vl) (args:List Ex)
def Ex.op:Ex->Int | .mk o _ _ _ _ _=> o
def Ex.table:Ex->ByteArray | .mk _ t _ _ _ _=> t
def Ex.name:Ex->ByteArray | .mk _ _ n _ _ _=> n
def Ex.index:Ex->Int | .mk _ _ _ i _ _=> i
def Ex.v:Ex->Vl | .mk _ _ _ _ v _=> v
def Ex.args:Ex->List Ex | .mk _ _ _ _ _ a=> a
def Ex.cells (e:Ex) (s:Value):List Value:=[qi e.op,qt e.table,qt e.name,qi e.index,qi e.v.kind,qi e.v.int,qt e.v.text,s]
def Ex.val (e:Ex) (s:Value):Value:=.agg #[qi e.op,qt e.table,qt e.name,qi e.index,qi e.v.kind,qi e.v.int,qt e.v.text,s]
inductive ArgsAt (w:World):List Ex->Value->Prop where
 | mt {a:Option Addr}:ArgsAt w [] (qs a 0 0)
 | lie (es:List Ex) (b o n cap:Nat) (ss:Nat->Value) (hn:n=es.length) (hlt:b < w.heap.size) (hm:n<=2000000000000)
  (hc:∀i (h:i < es.length),∀j (_:j < 8),w.cell? ⟨b,o+i * 8+j,none⟩=((es[i].cells (ss i))[j]?))
  (hs:∀i (h:i < es.length),ArgsAt w es[i].args (ss i)):ArgsAt w es (qs (some ⟨b,o,none⟩) n cap)
theorem ArgsAt.mono {w w':World} {es:List Ex} {s:Value} (h:ArgsAt w es s) (hb:Below w.heap.size w w'):ArgsAt w' es s:=by
 induction h with
 | mt=> exact .mt
 | lie es b o n cap ss hn hlt hm hc _ ih=> exact .lie es b o n cap ss hn (lt_of_lt_of_le hlt hb.size) hm (λ i h j hj=> (hb.cell hlt).trans (hc i h j hj)) ih
theorem ArgsAt.shape {w:World} {es:List Ex} {s:Value} (h:ArgsAt w es s):∃a n c,s=qs a n c/\n=es.length/\n<=2000000000000:=by
 cases h with
 | mt=> exact ⟨_,_,_,rfl,rfl,by omega⟩
 | lie _ b o n cap ss hn hlt hm hc=> exact ⟨_,_,_,rfl,hn,hm⟩
def Ret (v:Value) (w:World) (e:Ending) (w':World):Prop:=e=.returned v/\Below w.heap.size w w'
def floorS (a b:Int):Int:=if a.tmod b < 0 then wrap64 (wrap64 (a.tdiv b) - 1) else wrap64 (a.tdiv b)
def computeS (op:Int):Rw->Option Int
 | []=> none
 | x::l=> if op=3 then some (wrap64 (-x.int)) else if op=9 then some x.text.size else
  match l with
  | []=> none
  | y::_=>
   if op=4 then some (wrap64 (x.int+y.int)) else if op=5 then some (wrap64 (x.int - y.int)) else if op=6 then some (wrap64 (x.int * y.int)) else
   if y.int<=0 then none else
   if op=7 then some (floorS x.int y.int) else some (wrap64 (x.int - wrap64 (y.int * floorS x.int y.int)))
mutual
def Ex.value (R:Rw):Ex->Option Vl
 | .mk op _ _ index v args=> if op=1 then some v else if op=2 then (if 0<=index then R[index.toNat]? else none) else
  (Ex.values R args).bind λ r=> match r with
   | none=> some Vl.null
   | some vs=> (computeS op vs).map λ n=> ⟨1,n,⟨#[]⟩⟩
def Ex.values (R:Rw):List Ex->Option (Option (Rw))
 | []=> some (some [])
 | e::es=> (Ex.value R e).bind λ v=> if v.kind=0 then some none else (Ex.values R es).map λ r=> r.map (v:: ·)
end
mutual
def Ex.cols:Ex->Bool
 | .mk op _ _ _ _ args=> op==2 || Ex.colsL args
def Ex.colsL:List Ex->Bool
 | []=> false
 | e::es=> Ex.cols e || Ex.colsL es
end
theorem colsL_append (a b:List Ex):Ex.colsL (a++b)=(Ex.colsL a || Ex.colsL b):=by
 induction a with
 | nil=> simp [Ex.colsL]
 | cons x l ih=> simp [Ex.colsL,ih,Bool.or_assoc]
theorem take_succ_ex (es:List Ex) (k:Nat) (hk:k < es.length):es.take (k+1)=es.take k++[es[k]]:=by
 rw [take_succ_eq_append_getElem hk]
theorem ArgsAt.cell {w:World} {es:List Ex} {b o n cap:Nat} (h:ArgsAt w es (qs (some ⟨b,o,none⟩) n cap)) (i:Nat) (hi:i < es.length):
 ∃s,ArgsAt w es[i].args s/\w.cell? ⟨b,o+i * 8,Option.none⟩=some (qi es[i].op)/\w.cell? ⟨b,o+i * 8+1,Option.none⟩=some (qt es[i].table)/\w.cell? ⟨b,o+i * 8+2,Option.none⟩=some (qt es[i].name)/\
  w.cell? ⟨b,o+i * 8+3,Option.none⟩=some (qi es[i].index)/\w.cell? ⟨b,o+i * 8+4,Option.none⟩=some (qi es[i].v.kind)/\w.cell? ⟨b,o+i * 8+5,Option.none⟩=some (qi es[i].v.int)/\
  w.cell? ⟨b,o+i * 8+6,Option.none⟩=some (qt es[i].v.text)/\w.cell? ⟨b,o+i * 8+7,Option.none⟩=some s:=by
 cases h with
 | mt=> simp at hi
 | lie _ _ _ _ _ ss hn hlt hm hc hs=> exact ⟨ss i,hs i hi,hc i hi 0 (by omega),hc i hi 1 (by omega),hc i hi 2 (by omega),hc i hi 3 (by omega),hc i hi 4 (by omega),hc i hi 5 (by omega),hc i hi 6 (by omega),hc i hi 7 (by omega)⟩
inductive ExS:Ex->Prop
 | mk (op:Int) (tb nm:ByteArray) (ix:Int) (v:Vl) (args:List Ex) (h1:tb.size<=2000000) (h2:nm.size<=2000000) (h3:v.text.size<=2000000) (hs:∀e∈args,ExS e):ExS (.mk op tb nm ix v args)
theorem ex_txt {R:Rw} {E:Ex} {v:Vl} (hE:ExS E) (hR:∀v∈R,v.text.size<=maxLen) (h:Ex.value R E=some v):v.text.size<=maxLen:=by
 cases hE with
 | mk op tb nm ix v0 args h1 h2 h3 hs=>
  simp only [Ex.value] at h;split at h
  . cases h;unfold maxLen;omega
  . split at h
    . split at h
      . exact hR _ (mem_of_getElem? h)
      . cases h
    . obtain ⟨r,o,h⟩:=Option.bind_eq_some_iff.1 h
      cases r with
      | none=> cases h;exact zero_le _
      | some vs=>
       obtain ⟨n,q,rfl⟩:=Option.map_eq_some_iff.1 h;exact zero_le _
end
end Go.Proofs.YtcomoomndgbckaaGreat
noncomputable section
namespace Go.Proofs.YtcomoomndgbckaaGreat
open Go.RowKit
theorem isnan_calls (a:Int) (w:World):Calls Tryz.prog 98 #[qi a] w λ e w'=> e=.returned (.bool false)/\w=w':=by
 go_enter Tryz.func98,Tryz.ntmps98;go_wp2
 all_goals go_ret
 all_goals exact ⟨by simp,rfl⟩
theorem isnan2_calls (a:Int) (w:World):Calls Tryz.prog 69 #[qi a] w λ e w'=> e=.returned (.bool false)/\w=w':=by
 go_enter Tryz.func69,Tryz.ntmps69;go_wp2
 all_goals go_ret
 all_goals exact ⟨by simp,rfl⟩
theorem compare_calls (a b:Int) (w:World):Calls Tryz.prog 67 #[qi a,qi b] w λ e w'=> e=.returned (qi (cmpS a b))/\w=w':=by
 unfold cmpS;go_enter Tryz.func67,Tryz.ntmps67;go_wp2_with (first | (go_at_call 98;refine (isnan_calls _ _).mono ?_;rintro e w' ⟨rfl,rfl⟩))
 all_goals go_ret
 all_goals exact ⟨by simp [*],rfl⟩
theorem compare2_calls (a b:Int) (w:World):Calls Tryz.prog 41 #[qi a,qi b] w λ e w'=> e=.returned (qi (cmpS a b))/\w=w':=by
 unfold cmpS;go_enter Tryz.func41,Tryz.ntmps41;go_wp2_with (first | (go_at_call 69;refine (isnan2_calls _ _).mono ?_;rintro e w' ⟨rfl,rfl⟩))
 all_goals go_ret
 all_goals exact ⟨by simp [*],rfl⟩
theorem run_cmpstring (a b:ByteArray) (w:World):(callFunc 124 #[qt a,qt b]).run Tryz.prog w=.ok (.value (qi (Lib.compareBytes a.data.toList b.data.toList))) w:=by
 rw [run_callFunc_extern Tryz.func124 (by kernel_rfl) (by kernel_rfl) (by kernel_rfl) (e:=Extern.BytealgCompare.compare) (by kernel_rfl),Lib.run_compareString];rfl
theorem scompare_calls (a b:ByteArray) (w:World):Calls Tryz.prog 68 #[qt a,qt b] w λ e w'=> e=.returned (qi (Lib.compareBytes (bytes a) (bytes b)))/\w=w':=by
 have o:=run_cmpstring a b;go_enter Tryz.func68,Tryz.ntmps68;go_wp2;go_ret;exact ⟨rfl,rfl⟩
theorem or_calls3 (a b c:Int) (g:Nat) (w:World) (h0:w.cell? ⟨g,0,none⟩=some (qi a)) (h1:w.cell? ⟨g,1,none⟩=some (qi b)) (h2:w.cell? ⟨g,2,none⟩=some (qi c)):
 Calls Tryz.prog 66 #[qs (some ⟨g,0,none⟩) 3 3] w λ e w'=> e=.returned (qi (orS a (orS b c)))/\w=w':=by
 unfold orS;by_cases ha:a=0
 . subst ha
   by_cases hb:b=0
   . subst hb
     by_cases hc:c=0
     . subst hc
       go_enter Tryz.func66,Tryz.ntmps66;go_wp2;refine wp_loop_rounds 4 ?_;rw [rounds_succ];go_wp2;rw [rounds_succ];go_wp2;rw [rounds_succ];go_wp2;rw [rounds_succ];go_wp2;go_ret;exact ⟨rfl,rfl⟩
     . have o:(c !=0)=true:=by simp [hc]
       go_enter Tryz.func66,Tryz.ntmps66;go_wp2;refine wp_loop_rounds 3 ?_;rw [rounds_succ];go_wp2;rw [rounds_succ];go_wp2;rw [rounds_succ];go_wp2;go_ret;exact ⟨rfl,rfl⟩
   . have q:(b !=0)=true:=by simp [hb]
     rw [if_neg hb];go_enter Tryz.func66,Tryz.ntmps66;go_wp2;refine wp_loop_rounds 2 ?_;rw [rounds_succ];go_wp2;rw [rounds_succ];go_wp2;go_ret;exact ⟨rfl,rfl⟩
 . have A:(a !=0)=true:=by simp [ha]
   rw [if_neg ha];go_enter Tryz.func66,Tryz.ntmps66;go_wp2;refine wp_loop_rounds 1 ?_;rw [rounds_succ];go_wp2;go_ret;exact ⟨rfl,rfl⟩
theorem cmpV_calls (a b:Vl) (w:World):Calls Tryz.prog 40 #[.agg #[qi a.kind,qi a.int,qt a.text],.agg #[qi b.kind,qi b.int,qt b.text]] w λ e w'=> e=.returned (qi (cmpV a b))/\Below w.heap.size w w':=by
 have C:Hid (∀o o',Below w.heap.size w ((w.alloc o).alloc o')):=λ o o'=> (zi.alloc lr o).alloc (by simp) o';have K:=(VarIs.new w #[qi a.kind,qi a.int,qt a.text] 35).alloc (.cells #[qi b.kind,qi b.int,qt b.text] 35);have J:=VarIs.new1 w (.cells #[qi a.kind,qi a.int,qt a.text] 35) #[qi b.kind,qi b.int,qt b.text] 35;have q:=C.out (.cells #[qi a.kind,qi a.int,qt a.text] 35) (.cells #[qi b.kind,qi b.int,qt b.text] 35);go_enter Tryz.func40,Tryz.ntmps40;go_wp2_with fail;generalize (w.alloc (.cells #[qi a.kind,qi a.int,qt a.text] 35)).alloc (.cells #[qi b.kind,qi b.int,qt b.text] 35)=W at *;have A:=hid q;clear q C;obtain ⟨I,G,-⟩:=K;obtain ⟨u1,u2,-⟩:=J;go_region_held3 (λ w'=> Below W.heap.size W w'/\∀b o,b < W.heap.size->w'.cell? ⟨b,o,none⟩=W.cell? ⟨b,o,none⟩)
  (first | assumption | exact S_of (Below.drew zi) | exact S_alloc (by assumption) _)
  (first
   | (go_at_call 41;(with_reducible refine (compare2_calls _ _ _).mono ?_);rintro e D ⟨rfl,rfl⟩)
   | (go_at_call 67;(with_reducible refine (compare_calls _ _ _).mono ?_);rintro e D ⟨rfl,rfl⟩)
   | (go_at_call 68;(with_reducible refine (scompare_calls _ _ _).mono ?_);rintro e D ⟨rfl,rfl⟩)
   | (go_at_call 66;refine (or_calls3 (cmpS a.kind b.kind) (cmpS a.int b.int) (Lib.compareBytes (bytes a.text) (bytes b.text)) _ _ (by go_simp) (by go_simp) (by go_simp)).mono ?_;rintro e D ⟨rfl,rfl⟩))
 rename_i F
 have H:=hid (A.trans (F.1.mono A.size));clear F I G u1 u2;go_wp2;go_ret;exact ⟨rfl,H⟩
end Go.Proofs.YtcomoomndgbckaaGreat
end
noncomputable section
namespace Go.Proofs.YtcomoomndgbckaaGreat
open Go.RowKit
inductive RowVs (w:World):List Rw->List Value->Prop
 | nil:RowVs w [] []
 | cons {r:Rw} {x:Value} {L:List Rw} {xs:List Value}:ValsAt w r x->RowVs w L xs->RowVs w (r::L) (x::xs)
theorem RowVs.mono {w w':World} {L:List Rw} {xs:List Value} (h:RowVs w L xs) (hb:Below w.heap.size w w'):RowVs w' L xs:=by
 induction h with
 | nil=> exact .nil
 | cons h1 _ ih=> exact .cons (h1.mono hb) ih
theorem RowVs.length {w:World} {L:List Rw} {xs:List Value} (h:RowVs w L xs):xs.length=L.length:=by
 induction h with
 | nil=> rfl
 | cons _ _ ih=> simp [ih]
theorem RowVs.append {w:World} {L M:List Rw} {xs ys:List Value} (h:RowVs w L xs) (h':RowVs w M ys):RowVs w (L++M) (xs++ys):=by
 induction h with
 | nil=> exact h'
 | cons h1 _ ih=> exact .cons h1 ih
theorem RowVs.one {w:World} {r:Rw} {x:Value} (h:ValsAt w r x):RowVs w [r] [x]:=.cons h .nil
theorem RowVs.get {w:World} {L:List Rw} {xs:List Value} (h:RowVs w L xs) (i:Nat) (hi:i < L.length):∃x,xs[i]? =some x/\ValsAt w L[i] x:=by
 induction h generalizing i with
 | nil=> simp at hi
 | cons h1 _ ih=>
  cases i with
  | zero=> exact ⟨_,rfl,h1⟩
  | succ i=> exact ih i (by simpa using hi)
theorem RowVs.one' {w:World} {L:List Rw} {xs:List Value} (h:RowVs w L xs):∀u∈xs,u.oneCell'=true:=by
 induction h with
 | nil=> simp
 | cons h1 _ ih=>
  intro u o;rcases mem_cons.1 o with rfl | o
  . obtain ⟨a,n,c,rfl,_⟩:=h1.shape
    rfl
  . exact ih u o
inductive RowsAt (w:World):List Rw->Value->Prop where
 | mt {a:Option Addr}:RowsAt w [] (qs a 0 0)
 | lie (L:List Rw) (xs:List Value) (b o n cap:Nat) (hn:n=L.length) (hlt:b < w.heap.size) (hm:n<=maxLen)
  (hc:∀i x,xs[i]? =some x->w.cell? ⟨b,o+i,none⟩=some x) (hx:RowVs w L xs):RowsAt w L (qs (some ⟨b,o,none⟩) n cap)
theorem RowsAt.mono {w w':World} {L:List Rw} {s:Value} (h:RowsAt w L s) (hb:Below w.heap.size w w'):RowsAt w' L s:=by
 cases h with
 | mt=> exact .mt
 | lie _ xs b o n cap hn hlt hm hc hx=> exact .lie _ xs b o n cap hn (lt_of_lt_of_le hlt hb.size) hm (λ i x hi=> (hb.cell hlt).trans (hc i x hi)) (hx.mono hb)
theorem RowsAt.shape {w:World} {L:List Rw} {s:Value} (h:RowsAt w L s):∃a n c,s=qs a n c/\n=L.length/\n<=maxLen:=by
 cases h with
 | mt=> exact ⟨_,_,_,rfl,rfl,by simp⟩
 | lie _ xs b o n cap hn hlt hm hc=> exact ⟨_,_,_,rfl,hn,hm⟩
theorem RowsAt.has {w:World} {L:List Rw} {a:Option Addr} {n c:Nat} (h:RowsAt w L (qs a n c)) (i:Nat) (hi:i < n):∃b o,a=some ⟨b,o,none⟩:=by
 cases h with
 | mt=> omega
 | lie _ xs b o=> exact ⟨b,o,rfl⟩
theorem RowsAt.cell {w:World} {L:List Rw} {b o n c:Nat} (h:RowsAt w L (qs (some ⟨b,o,none⟩) n c)) (i:Nat) (hi:i < L.length):
 ∃x,w.cell? ⟨b,o+i,none⟩=some x/\ValsAt w L[i] x:=by
 cases h with
 | mt=> simp at hi
 | lie _ xs _ _ _ _ hn hlt hm hc hx=>
  obtain ⟨x,h1,q⟩:=hx.get i hi;exact ⟨x,hc i x h1,q⟩
theorem RowsAt.lt {w:World} {L:List Rw} {b o n c:Nat} (h:RowsAt w L (qs (some ⟨b,o,none⟩) n c)) {i:Nat} (hi:i < L.length):b < w.heap.size:=by
 obtain ⟨x,q,_⟩:=h.cell i hi;exact World.block_lt_of_cell? w _ q
def Far (w:World) (B:Nat) (x:Value):Prop:=∀(ad:Addr) (n c:Nat),x=qs (some ad) n c->0 < n->ad.block < B\/∃cur fr,w.heap[ad.block]? =some (.cells cur 35 fr)
theorem Far.mono {w w':World} {B:Nat} {x:Value} {r:Rw} (h:Far w B x) (_hv:ValsAt w r x) (hb:Below w.heap.size w w'):Far w' B x:=by
 intro C n c q A;rcases h C n c q A with h | ⟨o,fr,h⟩
 . exact .inl h
 . exact .inr ⟨o,fr,(hb.block _ (Array.getElem?_eq_some_iff.1 h).1).trans h⟩
theorem Far.low {w:World} {x:Value} {r:Rw} {B:Nat} (h:ValsAt w r x) (hB:w.heap.size<=B) (w':World):Far w' B x:=by
 intro C n c q A;cases h with
 | mt=> injection q with h1 h2 h3;omega
 | lie _ b o n' cap hn' hlt=> injection q with h1 h2 h3;injection h1 with h1;subst h1;exact .inl (lt_of_lt_of_le hlt hB)
theorem ValsAt.grown {w w':World} {B:Nat} {r:Rw} {x v:Value} {n:Nat} {xs:List Value} (h:ValsAt w r x) (hf:Far w B x) (hv:w.ownsRow B 60 1 v n xs) (hg:w.grownBy w' v.ownBlock):ValsAt w' r x/\Far w' B x:=by
 have I:∀(A:Addr) (n c:Nat),x=qs (some A) n c->0 < n->some A.block≠v.ownBlock:=by
  intro A D c C G e;have h1:=hv.lt A.block e.symm;rcases hf A D c C G with q | ⟨H,fr,q⟩
  . omega
  . rcases hv.2 with ⟨rfl,_⟩ | ⟨g,cap,T,rfl,_,J,_⟩
    . simp [Value.ownBlock] at e
    . simp only [Value.ownBlock,Option.some.injEq] at e
      rw [e,J] at q;injection q with q;injection q with h3 h4;exact absurd h4 (by decide)
 cases h with
 | mt=>
  refine ⟨.mt,?_⟩;intro A D c C G;injection C with _ q;omega
 | lie _ b o D cap hn hlt hm hc ht=>
  by_cases h0:0 < D
  . have O:=I ⟨b,o,none⟩ D cap rfl h0
    refine ⟨.lie _ b o D cap hn (lt_of_lt_of_le hlt hg.size) hm (λ i hi j hj=> ?_) ht,?_⟩
    . exact (World.cell?_of_block (a:=⟨b,o+i * 3+j,none⟩) (hg.block b hlt O)).trans (hc i hi j hj)
    . intro A M c2 C F
      rcases hf A M c2 C F with q | ⟨H,fr,q⟩
      . exact .inl q
      . injection C with hx1
        injection hx1 with hx1;subst hx1;exact .inr ⟨H,fr,(hg.block b hlt O).trans q⟩
  . have L:r=[]:=by
     cases r with
     | nil=> rfl
     | cons=> simp at hn;omega
    have K:D=0:=by omega
    subst L K;refine ⟨.lie _ b o 0 cap rfl (lt_of_lt_of_le hlt hg.size) hm (λ i hi=> by simp at hi) ht,?_⟩;intro A M c2 C F;injection C with _ q;omega
theorem RowVs.grown {w w':World} {B:Nat} {L:List Rw} {ys:List Value} {v:Value} {n:Nat} {xs:List Value} (h:RowVs w L ys) (hf:∀x∈ys,Far w B x) (hv:w.ownsRow B 60 1 v n xs) (hg:w.grownBy w' v.ownBlock):RowVs w' L ys/\∀x∈ys,Far w' B x:=by
 induction h with
 | nil=> exact ⟨.nil,by simp⟩
 | cons h1 _ ih=>
  have A:=ih λ x o=> hf x (mem_cons_of_mem _ o);have q:=h1.grown (hf _ (by simp)) hv hg;refine ⟨.cons q.1 A.1,λ x o=> ?_⟩;rcases mem_cons.1 o with rfl | o
  . exact q.2
  . exact A.2 x o
theorem RowVs.far {w w':World} {B:Nat} {L:List Rw} {ys:List Value} (h:RowVs w L ys) (hf:∀x∈ys,Far w B x) (hb:Below w.heap.size w w'):∀x∈ys,Far w' B x:=by
 induction h with
 | nil=> simp
 | cons h1 _ ih=>
  intro x o;rcases mem_cons.1 o with rfl | o
  . exact (hf _ (by simp)).mono h1 hb
  . exact ih (λ x o=> hf x (mem_cons_of_mem _ o)) x o
theorem RowsAt.row {w:World} {L:List Rw} {b o n c:Nat} (h:RowsAt w L (qs (some ⟨b,o,none⟩) n c)) (k:Nat) (hk:k < L.length):
 ∃C q A,Hid (∀w',Below w.heap.size w w'->w'.cell? ⟨b,o+k,none⟩=some (qs C q A)/\ValsAt w' L[k] (qs C q A)/\b < w'.heap.size)/\Hid (∀w',Far w' w.heap.size (qs C q A)):=by
 obtain ⟨x,F,D⟩:=h.cell k hk;obtain ⟨C,q,A,rfl,_,_⟩:=D.shape;exact ⟨C,q,A,λ w' hb=> ⟨(hb.cell (p:=⟨b,o+k,none⟩) (h.lt hk)).trans F,D.mono hb,lt_of_lt_of_le (h.lt hk) hb.size⟩,λ w'=> Far.low D lr w'⟩
def RowsOwn (w:World) (B:Nat) (L:List Rw) (s:Value):Prop:=∃xs,w.ownsRow B 60 1 s L.length xs/\RowVs w L xs/\∀x∈xs,Far w B x
theorem RowsOwn.mono {w w':World} {B:Nat} {L:List Rw} {s:Value} (h:RowsOwn w B L s) (hb:Below w.heap.size w w'):RowsOwn w' B L s:=by
 obtain ⟨q,h1,o,A⟩:=h;exact ⟨q,own_below h1 hb,o.mono hb,o.far A hb⟩
theorem RowsAt.alloc {w:World} {r:List Rw} {s:Value} (h:RowsAt w r s) (o:Obj):RowsAt (w.alloc o) r s:=h.mono (zi.alloc lr o)
theorem RowsOwn.at {w:World} {B:Nat} {L:List Rw} {s:Value} (h:RowsOwn w B L s):RowsAt w L s:=by
 obtain ⟨C,⟨_,⟨rfl,h0⟩ | ⟨g,cap,o,rfl,H,A,D,F,G,ht⟩⟩,q,_⟩:=h
 . cases L with
   | nil=> exact .mt
   | cons=> simp at h0
 . refine .lie L C g 0 _ cap rfl (Array.getElem?_eq_some_iff.1 A).1 (le_trans D F) (λ i x hi=> ?_) q
   have hl:i < L.length:=by have:=(List.getElem?_eq_some_iff.1 hi).1;rw [q.length] at this;exact this
   have h0:=cell_of_row w g (i * 1) o 60 (0,0) A;simp only [Nat.mul_one] at h0;rw [zero_add,h0];rw [<-ht,List.getElem?_take,if_pos (by omega)] at hi;simpa using hi
theorem RowsOwn.nil (w:World) (B:Nat):RowsOwn w B [] (q0):=⟨[],World.ownsRow_nil _ _ _ _,.nil,by simp⟩
theorem RowsOwn.shape {w:World} {B:Nat} {L:List Rw} {s:Value} (h:RowsOwn w B L s):∃a c,s=qs a L.length c:=by
 obtain ⟨a,n,c,rfl,rfl,_⟩:=h.at.shape;exact ⟨a,c,rfl⟩
theorem Tryz.info60':(Tryz.prog.info? 60).map (λ i=> (i.zero,i.size,i.bytes))=some (some (q0),1,24):=by kernel_rfl
theorem wpList_rows {w:World} {ops:Array Oper} {rest:List Oper} {o:Oper} {a:Act} {Q:Exit->Act->World->Prop} (hgd:o.guard=none) (s x:Operand)
 (ho:o.op=.call { callee:=.builtin .append,args:=#[s,x],argTypes:=#[41,41] })
 (B:Nat) (L M:List Rw) (v:Value) (hs:a.eval s=v) (hown:RowsOwn w B L v) (ad:Addr) (c m:Nat) (ys:List Value) (q:a.eval x=qs (some ad) m c) (hm:m=M.length)
 (hc:∀j u,ys[j]? =some u->w.cell? (ad.add j)=some u) (hy:RowVs w M ys) (hf:∀y∈ys,Far w B y)
 (hlen:L.length+m<=1099511627776) (hB:B<=w.heap.size)
 (h:∀A w',RowsOwn w' B (L++M) A->Below B w w'->w.grownBy w' v.ownBlock->wpList Tryz.prog ops Q rest (a.put o.dst A) w'):wpList Tryz.prog ops Q (o::rest) a w:=by
 obtain ⟨K,J,G,F,D⟩:=info_parts Tryz.info60';obtain ⟨I,h1,T,O⟩:=hown;subst hm;refine wpList_append_own w hgd s x 41 ho B 60 K (q0) 1 24 Tryz.underlying41 J G F D rfl (by decide) v _ I hs h1 ad _ c ys q (by rw [hy.length];omega) hc hy.one' (by unfold maxLen;omega) (by omega) hB ?_;intro A w' H C _;have a1:=T.grown O h1 C;have a2:=hy.grown hf h1 C;refine h A w' ⟨I++ys,by rw [length_append];exact H,a1.1.append a2.1,λ x q=> ?_⟩ (zi.grown C hB λ g hg'=> (h1.lt g hg').1) C;rcases mem_append.1 q with q | q
 . exact a1.2 x q
 . exact a2.2 x q
theorem wpList_row {w:World} {ops:Array Oper} {rest:List Oper} {o:Oper} {a:Act} {Q:Exit->Act->World->Prop} (hgd:o.guard=none) (s x:Operand)
 (ho:o.op=.call { callee:=.builtin .append,args:=#[s,x],argTypes:=#[41,41] })
 (B:Nat) (L:List Rw) (R:Rw) (v:Value) (hs:a.eval s=v) (hown:RowsOwn w B L v) (g:Nat) (c:Nat) (y:Value) (hx:a.eval x=qs (some ⟨g,0,none⟩) 1 c)
 (hc:w.cell? ⟨g,0,none⟩=some y) (hy:ValsAt w R y) (hf:Far w B y)
 (hlen:L.length+1<=1099511627776) (hB:B<=w.heap.size)
 (h:∀v' w',RowsOwn w' B (L++[R]) v'->Below B w w'->w.grownBy w' v.ownBlock->wpList Tryz.prog ops Q rest (a.put o.dst v') w'):wpList Tryz.prog ops Q (o::rest) a w:=by
 refine wpList_rows hgd s x ho B L [R] v hs hown ⟨g,0,none⟩ c 1 [y] hx rfl (λ j u hj=> ?_) (.one hy) (by simpa using hf) hlen hB h
 match j,hj with
 | 0,hj=> simp at hj;subst hj;simpa [Addr.add] using hc
end Go.Proofs.YtcomoomndgbckaaGreat
end
noncomputable section
namespace Go.Proofs.YtcomoomndgbckaaGreat
open Go.RowKit
def RowO (w:World) (B:Nat) (r:Rw) (x:Value):Prop:=w.ownsRow B 35 3 x r.length (flat r)/\∀v∈r,v.text.size<=maxLen
theorem RowO.vals {w:World} {B:Nat} {r:Rw} {x:Value} (h:RowO w B r x):ValsAt w r x:=vals_of_own h.1 rfl h.2
theorem RowO.far {w:World} {B C:Nat} {r:Rw} {x:Value} (h:RowO w B r x):Far w C x:=by
 intro H n c o D;obtain ⟨⟨_,⟨h1,G⟩ | ⟨g,cap,q,rfl,F,A,_⟩⟩,_⟩:=h
 . rw [h1] at o
   injection o with o;cases o
 . injection o with o
   injection o with o;subst o;exact .inr ⟨q,_,A⟩
end Go.Proofs.YtcomoomndgbckaaGreat
end
noncomputable section
namespace Go.Proofs.YtcomoomndgbckaaGreat
open Go.RowKit
theorem Tryz.info35':(Tryz.prog.info? 35).map (λ i=> (i.zero,i.size,i.bytes))=some (some (.agg q0c),3,32):=by kernel_rfl
theorem ValsAt.flat {w:World} {R:Rw} {b o n c:Nat} (h:ValsAt w R (qs (some ⟨b,o,none⟩) n c)):∀j u,(Go.Proofs.YtcomoomndgbckaaGreat.flat R)[j]? =some u->w.cell? ((⟨b,o,none⟩:Addr).add j)=some u:=by
 intro j u q;have A:=(List.getElem?_eq_some_iff.1 q).1;rw [length_flat] at A;have hi:j / 3 < R.length:=by omega
 have e:(⟨b,o,none⟩:Addr).add j=⟨b,o+j,none⟩:=by unfold Addr.add;split <;> simp_all
 rw [e];cases h with
 | mt=> simp at hi
 | lie _ b o n cap hn hlt hm hc=>
  have:=hc (j / 3) hi (j % 3) (Nat.mod_lt _ (by omega));rw [show o+j=o+j / 3 * 3+j % 3 by omega,this,<-flat_get R (j / 3) hi (j % 3) (Nat.mod_lt _ (by omega)),show j / 3 * 3+j % 3=j by omega];exact q
theorem vals_src {w:World} {R:Rw} {a:Option Addr} {n c:Nat} (h:ValsAt w R (qs a n c)):(a=none/\n=0/\c=0/\R=[])\/∃ad,a=some ad/\∀j u,(Go.Proofs.YtcomoomndgbckaaGreat.flat R)[j]? =some u->w.cell? (ad.add j)=some u:=by
 cases a with
 | none=>
  cases h with
  | mt=> exact .inl ⟨rfl,rfl,rfl,rfl⟩
 | some ad=>
  refine .inr ⟨ad,rfl,?_⟩;cases h with
  | mt=> intro j u q;simp [Go.Proofs.YtcomoomndgbckaaGreat.flat] at q
  | lie _ b o n cap hn hlt hm hc ht=> exact ValsAt.flat (.lie _ b o n n hn hlt hm hc ht)
theorem clone_calls (R:Rw) (r:Value) (w:World) (hr:ValsAt w R r) (hlen:R.length < 1099511627776):
 Calls Tryz.prog 26 #[r] w λ e w'=> ∃v,e=.returned v/\RowO w' w.heap.size R v/\Below w.heap.size w w':=by
 obtain ⟨a,n,c,rfl,O,hm⟩:=hr.shape;have U:=hid hr.txt;obtain ⟨i0,W,M,L,K⟩:=info_parts Tryz.info35';rcases vals_src hr with ⟨rfl,rfl,rfl,rfl⟩ | ⟨T,rfl,F⟩
 . have C:=λ w'=> Lib.run_eql_slice_nil (P:=Tryz.prog) w' 60 35 none 0 0 0 0 Tryz.underlying60
   simp only [Option.isNone_none] at C;clear hr O hm hlen;go_enter Tryz.func26,Tryz.ntmps26;go_wp2;go_ret;exact ⟨_,rfl,⟨World.ownsRow_nil _ _ _ _,by simp⟩,zi⟩
 . have J:=hid O
   have q:=World.ownsRow_lit (e:=35) (size:=3) w #[] 0 lr (by simp) (by simp);have H:=one_flat R;have o:∀j u,(flat R)[j]? =some u->(w.alloc (.cells #[] 35)).cell? (T.add j)=some u:=by intro j u hu;have h1:=F j u hu;rw [World.cell?_alloc_lt _ _ _ (World.block_lt_of_cell? w _ h1)];exact h1
   have I:=hid o;have G:=hid hlen;have C:=λ w'=> Lib.run_eql_slice_nil (P:=Tryz.prog) w' 60 35 (some T) n c 0 0 Tryz.underlying60;simp only [Option.isNone_some] at C;clear hr O hm F o hlen;go_enter Tryz.func26,Tryz.ntmps26;go_wp2_with (at_builtin;go_loud (refine wpList_append_own _ rfl _ _ 60 rfl w.heap.size 35 i0 (.agg q0c) 3 32 Tryz.underlying60 W M L K rfl (by decide) _ 0 [] rfl q T n c (flat R) rfl ?c0 ?c1 ?c2 ?c3 ?c4 ?c5 ?_))
   case c0=> rw [length_flat];have:=J.out;omega
   case c1=> exact I
   case c2=> exact H
   case c3=> unfold maxLen;have:=J.out;have:=G.out;omega
   case c4=> have:=J.out;have:=G.out;omega
   intro V w' A D _;have H1:Hid (w'.ownsRow w.heap.size 35 3 V R.length (flat R)):=by
    show World.ownsRow _ _ _ _ _ _ _;have e:R.length=0+n:=by have:=J.out;omega
    rw [e];simpa using A
   have H2:Hid (Below w.heap.size w w'):=(zi.alloc lr _).grown D (by simp) (λ k hk=> (q.lt k hk).1);clear A D;go_wp2;go_ret;exact ⟨_,rfl,⟨H1,U⟩,H2⟩
end Go.Proofs.YtcomoomndgbckaaGreat
end
namespace Go.Proofs.YtcomoomndgbckaaGreat
noncomputable section
def LsAt {α:Type} (sz:Nat) (E:World->α->List Value->Prop) (w:World) (xs:List α) (s:Value):Prop:=
 (xs=[]/\∃a,s=qs a 0 0)\/∃b o n c,s=qs (some ⟨b,o,none⟩) n c/\n=xs.length/\b < w.heap.size/\n<=2000000000000/\∀i (h:i < xs.length),∃cs:List Value,cs.length=sz/\(∀j,j < sz->w.cell? ⟨b,o+i * sz+j,none⟩=cs[j]?)/\E w xs[i] cs
def EMono {α:Type} (E:World->α->List Value->Prop):Prop:=∀(w w':World) (x:α) (cs:List Value),E w x cs->Below w.heap.size w w'->E w' x cs
theorem LsAt.mono {α:Type} {sz:Nat} {E:World->α->List Value->Prop} {w w':World} {xs:List α} {s:Value} (hE:EMono E) (h:LsAt sz E w xs s) (hb:Below w.heap.size w w'):LsAt sz E w' xs s:=by
 rcases h with h | ⟨b,o,n,c,h1,H,q,G,F⟩
 . exact .inl h
 . refine .inr ⟨b,o,n,c,h1,H,lt_of_lt_of_le q hb.size,G,λ i hi=> ?_⟩
   obtain ⟨cs,D,C,A⟩:=F i hi;exact ⟨cs,D,λ j hj=> (hb.cell q).trans (C j hj),hE _ _ _ _ A hb⟩
theorem LsAt.shape {α:Type} {sz:Nat} {E:World->α->List Value->Prop} {w:World} {xs:List α} {s:Value} (h:LsAt sz E w xs s):∃a c,s=qs a xs.length c/\xs.length<=2000000000000:=by
 rcases h with ⟨rfl,a,rfl⟩ | ⟨b,o,n,c,rfl,rfl,-,q,-⟩
 . exact ⟨a,0,rfl,by simp⟩
 . exact ⟨_,c,rfl,q⟩
theorem LsAt.get {α:Type} {sz:Nat} {E:World->α->List Value->Prop} {w:World} {xs:List α} {a:Option Addr} {n c:Nat} (h:LsAt sz E w xs (qs a n c)) (i:Nat) (hi:i < xs.length):
 ∃b o cs,a=some ⟨b,o,none⟩/\b < w.heap.size/\cs.length=sz/\(∀j,j < sz->w.cell? ⟨b,o+i * sz+j,none⟩=cs[j]?)/\E w xs[i] cs:=by
 rcases h with ⟨rfl,-⟩ | ⟨b,o,G,H,h1,rfl,F,-,D⟩
 . simp at hi
 . obtain ⟨rfl,-,-⟩:=Value.slice.inj h1
   obtain ⟨cs,C,A,q⟩:=D i hi;exact ⟨b,o,cs,rfl,F,C,A,q⟩
def NmE (_:World) (x:ByteArray) (cs:List Value):Prop:=cs=[qt x]
def NoE (_:World) (x:Int) (cs:List Value):Prop:=cs=[qi x]
abbrev NmsAt:=LsAt 1 NmE
abbrev NosAt:=LsAt 1 NoE
def LlE {α:Type} (sz:Nat) (E:World->α->List Value->Prop) (w:World) (x:List α) (cs:List Value):Prop:=∃s,cs=[s]/\LsAt sz E w x s
structure Cl where
 name:ByteArray
 type:Int
 low:Int
 high:Int
 max:Int
 nn:Bool
def ClE (_:World) (x:Cl) (cs:List Value):Prop:=cs=[qt x.name,qi x.type,qi x.low,qi x.high,qi x.max,.bool x.nn]
structure Fk where
 cols:List Int
 table:Int
 key:Int
def FkE (w:World) (x:Fk) (cs:List Value):Prop:=∃s,cs=[s,qi x.table,qi x.key]/\NosAt w x.cols s
structure Tb where
 name:ByteArray
 cols:List Cl
 keys:List (List Int)
 fks:List Fk
 checks:List Ex
structure TbAt (w:World) (t:Tb) (s1 s2 s3 s4:Value):Prop where
 cols:LsAt 6 ClE w t.cols s1
 keys:LsAt 1 (LlE 1 NoE) w t.keys s2
 fks:LsAt 3 FkE w t.fks s3
 checks:ArgsAt w t.checks s4
def TbE (w:World) (t:Tb) (cs:List Value):Prop:=∃s1 s2 s3 s4,cs=[qt t.name,s1,s2,s3,s4]/\TbAt w t s1 s2 s3 s4
abbrev SchAt:=LsAt 5 TbE
theorem NmE.mono:EMono NmE:=λ _ _ _ _ h _=> h
theorem NoE.mono:EMono NoE:=λ _ _ _ _ h _=> h
theorem ClE.mono:EMono ClE:=λ _ _ _ _ h _=> h
theorem LlE.mono {α:Type} {sz:Nat} {E:World->α->List Value->Prop} (hE:EMono E):EMono (LlE sz E):=λ _ _ _ _ ⟨s,h1,h2⟩ hb=> ⟨s,h1,h2.mono hE hb⟩
theorem FkE.mono:EMono FkE:=λ _ _ _ _ ⟨s,h1,h2⟩ hb=> ⟨s,h1,h2.mono NoE.mono hb⟩
theorem TbAt.mono {w w':World} {t:Tb} {s1 s2 s3 s4:Value} (h:TbAt w t s1 s2 s3 s4) (hb:Below w.heap.size w w'):TbAt w' t s1 s2 s3 s4:=⟨h.cols.mono ClE.mono hb,h.keys.mono (LlE.mono NoE.mono) hb,h.fks.mono FkE.mono hb,h.checks.mono hb⟩
theorem TbE.mono:EMono TbE:=λ _ _ _ _ ⟨s1,s2,s3,s4,h1,h2⟩ hb=> ⟨s1,s2,s3,s4,h1,h2.mono hb⟩
structure Rf where
 cols:List ByteArray
 table:ByteArray
 target:List ByteArray
def RfE (w:World) (x:Rf) (cs:List Value):Prop:=∃s1 s2,cs=[s1,qt x.table,s2]/\NmsAt w x.cols s1/\NmsAt w x.target s2
theorem RfE.mono:EMono RfE:=λ _ _ _ _ ⟨s1,s2,h1,h2,h3⟩ hb=> ⟨s1,s2,h1,h2.mono NmE.mono hb,h3.mono NmE.mono hb⟩
structure Df where
 cols:List Cl
 keys:List (List ByteArray)
 fks:List Rf
 checks:List Ex
structure DfAt (w:World) (d:Df) (s1 s2 s3 s4:Value):Prop where
 cols:LsAt 6 ClE w d.cols s1
 keys:LsAt 1 (LlE 1 NmE) w d.keys s2
 fks:LsAt 3 RfE w d.fks s3
 checks:ArgsAt w d.checks s4
theorem DfAt.mono {w w':World} {t:Df} {s1 s2 s3 s4:Value} (h:DfAt w t s1 s2 s3 s4) (hb:Below w.heap.size w w'):DfAt w' t s1 s2 s3 s4:=⟨h.cols.mono ClE.mono hb,h.keys.mono (LlE.mono NmE.mono) hb,h.fks.mono RfE.mono hb,h.checks.mono hb⟩
theorem NmsAt.cell {w:World} {xs:List ByteArray} {a:Option Addr} {n c:Nat} (h:NmsAt w xs (qs a n c)) (i:Nat) (hi:i < xs.length):∃b o,a=some ⟨b,o,none⟩/\b < w.heap.size/\w.cell? ⟨b,o+i,none⟩=some (qt xs[i]):=by
 obtain ⟨b,o,cs,h1,A,C,q,rfl⟩:=h.get i hi;exact ⟨b,o,h1,A,by simpa using q 0 (by omega)⟩
theorem NosAt.cell {w:World} {xs:List Int} {a:Option Addr} {n c:Nat} (h:NosAt w xs (qs a n c)) (i:Nat) (hi:i < xs.length):∃b o,a=some ⟨b,o,none⟩/\b < w.heap.size/\w.cell? ⟨b,o+i,none⟩=some (qi xs[i]):=by
 obtain ⟨b,o,cs,h1,A,C,q,rfl⟩:=h.get i hi;exact ⟨b,o,h1,A,by simpa using q 0 (by omega)⟩
theorem LlAt.cell {α:Type} {sz:Nat} {E:World->α->List Value->Prop} {w:World} {xs:List (List α)} {a:Option Addr} {n c:Nat} (h:LsAt 1 (LlE sz E) w xs (qs a n c)) (i:Nat) (hi:i < xs.length):∃b o a1 c1,a=some ⟨b,o,none⟩/\b < w.heap.size/\w.cell? ⟨b,o+i,none⟩=some (qs a1 xs[i].length c1)/\LsAt sz E w xs[i] (qs a1 xs[i].length c1):=by
 obtain ⟨b,o,cs,h1,C,D,A,s,rfl,q⟩:=h.get i hi;obtain ⟨a1,c1,rfl,-⟩:=q.shape;exact ⟨b,o,a1,c1,h1,C,by simpa using A 0 (by omega),q⟩
theorem ClAt.cell {w:World} {xs:List Cl} {a:Option Addr} {n c:Nat} (h:LsAt 6 ClE w xs (qs a n c)) (i:Nat) (hi:i < xs.length):∃b o,a=some ⟨b,o,none⟩/\b < w.heap.size/\w.cell? ⟨b,o+i * 6,none⟩=some (qt xs[i].name)/\w.cell? ⟨b,o+i * 6+1,none⟩=some (qi xs[i].type)/\w.cell? ⟨b,o+i * 6+2,none⟩=some (qi xs[i].low)/\w.cell? ⟨b,o+i * 6+3,none⟩=some (qi xs[i].high)/\w.cell? ⟨b,o+i * 6+4,none⟩=some (qi xs[i].max)/\w.cell? ⟨b,o+i * 6+5,none⟩=some (.bool xs[i].nn):=by
 obtain ⟨b,o,cs,h1,A,C,q,rfl⟩:=h.get i hi;exact ⟨b,o,h1,A,by simpa using q 0 (by omega),by simpa using q 1 (by omega),by simpa using q 2 (by omega),by simpa using q 3 (by omega),by simpa using q 4 (by omega),by simpa using q 5 (by omega)⟩
theorem FkAt.cell {w:World} {xs:List Fk} {a:Option Addr} {n c:Nat} (h:LsAt 3 FkE w xs (qs a n c)) (i:Nat) (hi:i < xs.length):∃b o a1 c1,a=some ⟨b,o,none⟩/\b < w.heap.size/\w.cell? ⟨b,o+i * 3,none⟩=some (qs a1 xs[i].cols.length c1)/\w.cell? ⟨b,o+i * 3+1,none⟩=some (qi xs[i].table)/\w.cell? ⟨b,o+i * 3+2,none⟩=some (qi xs[i].key)/\NosAt w xs[i].cols (qs a1 xs[i].cols.length c1):=by
 obtain ⟨b,o,cs,h1,C,D,q,s,rfl,A⟩:=h.get i hi;obtain ⟨a1,c1,rfl,-⟩:=A.shape;exact ⟨b,o,a1,c1,h1,C,by simpa using q 0 (by omega),by simpa using q 1 (by omega),by simpa using q 2 (by omega),A⟩
theorem SchAt.cell {w:World} {xs:List Tb} {a:Option Addr} {n c:Nat} (h:SchAt w xs (qs a n c)) (i:Nat) (hi:i < xs.length):∃b o a1 c1 a2 c2 a3 c3 a4 c4,a=some ⟨b,o,none⟩/\b < w.heap.size/\w.cell? ⟨b,o+i * 5,none⟩=some (qt xs[i].name)/\w.cell? ⟨b,o+i * 5+1,none⟩=some (qs a1 xs[i].cols.length c1)/\w.cell? ⟨b,o+i * 5+2,none⟩=some (qs a2 xs[i].keys.length c2)/\w.cell? ⟨b,o+i * 5+3,none⟩=some (qs a3 xs[i].fks.length c3)/\w.cell? ⟨b,o+i * 5+4,none⟩=some (qs a4 xs[i].checks.length c4)/\TbAt w xs[i] (qs a1 xs[i].cols.length c1) (qs a2 xs[i].keys.length c2) (qs a3 xs[i].fks.length c3) (qs a4 xs[i].checks.length c4):=by
 obtain ⟨b,o,cs,h1,F,L,q,J,I,H,G,rfl,A⟩:=h.get i hi;have D:=A;obtain ⟨C,k2,k3,k4⟩:=A;obtain ⟨a1,c1,rfl,-⟩:=C.shape;obtain ⟨a2,c2,rfl,-⟩:=k2.shape;obtain ⟨a3,c3,rfl,-⟩:=k3.shape;obtain ⟨a4,K,c4,rfl,rfl,-⟩:=k4.shape;exact ⟨b,o,a1,c1,a2,c2,a3,c3,a4,c4,h1,F,by simpa using q 0 (by omega),by simpa using q 1 (by omega),by simpa using q 2 (by omega),by simpa using q 3 (by omega),by simpa using q 4 (by omega),D⟩
end
end Go.Proofs.YtcomoomndgbckaaGreat
noncomputable section
namespace Go.Proofs.YtcomoomndgbckaaGreat
section
variable {α:Type}
structure Ord3 (c:α->α->Int):Prop where
 anti:∀x y,c x y < 0↔0 < c y x
 trans:∀x y z,c x y<=0->c y z<=0->c x z<=0
variable {c:α->α->Int}
theorem Ord3.self (h:Ord3 c) (x:α):c x x=0:=by have:=h.anti x x;omega
theorem Ord3.le (h:Ord3 c) {x y:α} (hn:¬ c x y < 0):c y x<=0:=by have:=h.anti x y;omega
theorem Ord3.lt_le (h:Ord3 c) {x y z:α} (h1:c x y < 0) (h2:c y z<=0):c x z < 0:=by
 have C:=h.trans x y z (by omega) h2;refine Int.not_le.1 λ h4=> ?_;have A:c x z=0:=by omega
 have a1:=h.anti x z;have a2:=h.anti z x;have o:c z x<=0:=by omega
 have q:=h.trans y z x h2 o;have:=h.anti x y;omega
theorem Ord3.le_lt (h:Ord3 c) {x y z:α} (h1:c x y<=0) (h2:c y z < 0):c x z < 0:=by
 have C:=h.trans x y z h1 (by omega);refine Int.not_le.1 λ h4=> ?_;have A:c x z=0:=by omega
 have a1:=h.anti x z;have a2:=h.anti z x;have o:c z x<=0:=by omega
 have q:=h.trans z x y o h1;have:=h.anti y z;omega
theorem Ord3.eq_cases (h:Ord3 c) {x y z:α} (h1:c x z=0) (h2:c y z=0):c y x=0:=by
 have a1:=h.anti x z;have a2:=h.anti z x;have a3:=h.anti y z;have a4:=h.anti z y;have q:=h.trans y z x (by omega) (by omega);have o:=h.trans x z y (by omega) (by omega);have a5:=h.anti y x;have a6:=h.anti x y;omega
def AscC (c:α->α->Int) (l:List α):Prop:=l.Pairwise λ x y=> c x y<=0
def StEq (c:α->α->Int) (l m:List α):Prop:=∀z,l.filter (λ x=> c x z==0)=m.filter (λ x=> c x z==0)
theorem StEq.refl (l:List α):StEq c l l:=λ _=> rfl
theorem StEq.symm {l m:List α} (h:StEq c l m):StEq c m l:=λ z=> (h z).symm
theorem StEq.trans {l m n:List α} (h:StEq c l m) (h':StEq c m n):StEq c l n:=λ z=> (h z).trans (h' z)
theorem StEq.app {l m l' m':List α} (h:StEq c l m) (h':StEq c l' m'):StEq c (l++l') (m++m'):=λ z=> by rw [List.filter_append,List.filter_append,h z,h' z]
theorem StEq.swap (hc:Ord3 c) {u v:List α} (h:∀x∈u,∀y∈v,c y x < 0):StEq c (u++v) (v++u):=λ z=> by
 rw [List.filter_append,List.filter_append];rcases hu:u.filter (λ x=> c x z==0) with _ | ⟨x,l⟩
 . simp
 rcases hv:v.filter (λ x=> c x z==0) with _ | ⟨y,m⟩
 . simp
 have q:x∈u.filter (λ x=> c x z==0):=by rw [hu];simp
 have o:y∈v.filter (λ x=> c x z==0):=by rw [hv];simp
 simp only [List.mem_filter,beq_iff_eq] at q o;have h1:=h x q.1 y o.1;have A:=hc.eq_cases q.2 o.2;omega
theorem StEq.mem (hc:Ord3 c) {l m:List α} (h:StEq c l m) {x:α} (hx:x∈m):x∈l:=by
 have h1:x∈m.filter (λ y=> c y x==0):=by simp [hx,hc.self x]
 rw [<-h x] at h1;exact (List.mem_filter.1 h1).1
open Classical in
theorem StEq.perm (hc:Ord3 c) {l m:List α} (h:StEq c l m):l.Perm m:=by
 rw [List.perm_iff_count];intro x;have e:∀l:List α,(l.filter (λ y=> c y x==0)).count x=l.count x:=λ l=> List.count_filter (by simp [hc.self x]);rw [<-e l,<-e m,h x]
theorem AscC.app {l m:List α} (h:AscC c l) (h':AscC c m) (hb:∀x∈l,∀y∈m,c x y<=0):AscC c (l++m):=List.pairwise_append.2 ⟨h,h',hb⟩
theorem AscC.left {l m:List α} (h:AscC c (l++m)):AscC c l:=(List.pairwise_append.1 h).1
theorem AscC.right {l m:List α} (h:AscC c (l++m)):AscC c m:=(List.pairwise_append.1 h).2.1
theorem AscC.cross {l m:List α} (h:AscC c (l++m)):∀x∈l,∀y∈m,c x y<=0:=(List.pairwise_append.1 h).2.2
theorem split2 (d:List α) (a:Nat) (h:a<=d.length):∃P S,d=P++S/\P.length=a/\S.length=d.length - a:=
 ⟨d.take a,d.drop a,(take_append_drop a d).symm,by rw [length_take,min_eq_left h],List.length_drop⟩
theorem mid_get {P u S:List α} {i:Nat} (h:i < u.length):(P++u++S)[P.length+i]? =some u[i]:=by
 rw [append_assoc,getElem?_append_right (by omega),Nat.add_sub_cancel_left,List.getElem?_append_left h,getElem?_eq_getElem h]
def swp (d:List α) (i j:Nat):List α:=match d[i]?,d[j]? with
 | some x,some y=> (d.set i y).set j x
 | _,_=> d
theorem swp_at {P Q S:List α} {x y:α}:swp (P++x::Q++y::S) P.length (P.length+1+Q.length)=P++y::Q++x::S:=by
 have h1:(P++x::Q++y::S)[P.length]? =some x:=by simp
 have o:(P++x::Q++y::S)[P.length+1+Q.length]? =some y:=by rw [getElem?_append_right (by simp;omega)];simp [show P.length+1+Q.length - (P.length+(Q.length+1))=0 by omega]
 unfold swp;rw [h1,o];show (List.set _ _ _).set _ _=_;rw [show (P++x::Q++y::S).set P.length y=P++y::Q++y::S by simp];rw [List.set_append_right _ _ (by simp;omega)];simp [show P.length+1+Q.length - (P.length+(Q.length+1))=0 by omega]
theorem swp_comm (d:List α) (i j:Nat):swp d j i=swp d i j:=by
 unfold swp;rcases hi:d[i]? with _ | x <;> rcases hj:d[j]? with _ | y <;> (try rfl)
 show (d.set j x).set i y=(d.set i y).set j x;by_cases h:i=j
 . subst h
   rw [hi] at hj;obtain rfl:=Option.some.inj hj;rfl
 . exact List.set_comm _ _ (λ e=> h e.symm)
end
end Go.Proofs.YtcomoomndgbckaaGreat
end
namespace Go.Proofs.YtcomoomndgbckaaGreat
noncomputable section
structure Cel where
 r:Rw
 a:Option Addr
 n:Nat
 c:Nat
def Cel.v (x:Cel):Value:=qs x.a x.n x.c
structure Arr (w0:World) (B g n cp:Nat) (d:List Cel) (w:World):Prop where
 own:w.ownsRow B 60 1 (qs (some ⟨g,0,none⟩) n cp) n (d.map Cel.v)
 gr:w0.grownBy w (some g)
theorem Arr.len {w0 w:World} {B g n cp:Nat} {d:List Cel} (h:Arr w0 B g n cp d w):d.length=n:=by
 have:=h.own.1;simpa using this
theorem Arr.lt {w0 w:World} {B g n cp:Nat} {d:List Cel} (h:Arr w0 B g n cp d w):g < w.heap.size:=(h.own.lt g rfl).2
theorem Arr.cell {w0 w:World} {B g n cp:Nat} {d:List Cel} (h:Arr w0 B g n cp d w) {j:Nat} {x:Cel} (hj:d[j]? =some x):w.cell? ⟨g,j,none⟩=some (qs x.a x.n x.c):=by
 have hl:=(List.getElem?_eq_some_iff.1 hj).1;have:=h.len;rw [h.own.cellAt j (by omega),List.getElem?_map,hj];rfl
theorem Arr.free {w0 w:World} {B g n cp:Nat} {d:List Cel} (h:Arr w0 B g n cp d w) (j:Nat):w.frozen? ⟨g,j,none⟩=false:=h.own.frozenAt j
theorem grownBy_set1 {w0 w:World} {g:Nat} (h:w0.grownBy w (some g)) (j:Nat) (v:Value):w0.grownBy (w.setCell ⟨g,j,none⟩ v) (some g):=
 ⟨h.os,h.tape,h.output,by simpa using h.size,λ k hk hne=> (Below.heap_setCell w ⟨g,j,none⟩ v k (λ e=> hne (by rw [e]))).trans (h.block k hk hne)⟩
theorem Arr.set {w0 w:World} {B g n cp:Nat} {d:List Cel} (h:Arr w0 B g n cp d w) (j:Nat) (x:Cel):Arr w0 B g n cp (d.set j x) (w.setCell ⟨g,j,none⟩ (qs x.a x.n x.c)):=
 ⟨by have:=(h.own.stored j x.v).1;rwa [<-List.map_set] at this,grownBy_set1 h.gr _ _⟩
theorem grownBy_bel {w0 w w':World} {row:Option Nat} (h:w0.grownBy w row) (hb:Below w.heap.size w w'):w0.grownBy w' row:=
 ⟨hb.os.trans h.os,hb.tape.trans h.tape,hb.output.trans h.output,le_trans h.size hb.size,λ k hk hne=> (hb.block k (lt_of_lt_of_le hk h.size)).trans (h.block k hk hne)⟩
theorem Arr.below {w0 w w':World} {B g n cp:Nat} {d:List Cel} (h:Arr w0 B g n cp d w) (hb:Below w.heap.size w w'):Arr w0 B g n cp d w':=
 ⟨own_below h.own hb,grownBy_bel h.gr hb⟩
theorem Arr.drew {w0 w:World} {B g n cp:Nat} {d:List Cel} (h:Arr w0 B g n cp d w):Arr w0 B g n cp d w.drew:=h.below (Below.drew zi)
theorem Arr.swap {w0 w:World} {B g n cp:Nat} {d:List Cel} (h:Arr w0 B g n cp d w) {i j:Nat} {x y:Cel} (hx:d[i]? =some x) (hy:d[j]? =some y):
 Arr w0 B g n cp (swp d i j) ((w.setCell ⟨g,i,none⟩ (qs y.a y.n y.c)).setCell ⟨g,j,none⟩ (qs x.a x.n x.c)):=by
 have o:=(h.set i y).set j x;unfold swp;rw [hx,hy];exact o
theorem swapRange_calls (w0:World) (B g n cp:Nat) (P X Q Y S:List Cel) (F:Value) (w:World) (p q l:Nat) (hp:P.length=p) (hq:P.length+X.length+Q.length=q) (hl:X.length=l) (hXY:X.length=Y.length) (o:Arr w0 B g n cp (P++X++Q++Y++S) w) (hm:n<=maxLen):
 Calls Tryz.prog 147 #[qs (some ⟨g,0,none⟩) n cp,qi p,qi q,qi l,F] w λ e w'=> e=.returned (.tuple #[])/\Arr w0 B g n cp (P++Y++Q++X++S) w':=by
 have D:=o.len;unfold maxLen at hm;simp only [length_append] at D;have h1:q+l<=n:=by omega
 have h2:p+l<=q:=by omega
 have G:=hid (show P.length=p/\P.length+X.length+Q.length=q/\X.length=l/\Y.length=l by omega);have HA:=hid o;clear o D hp hq hl hXY;go_enter Tryz.func147,Tryz.ntmps147;go_wp2;go_loopw [10] (λ i wr=> ∃k:Nat,k<=l/\i=qi k/\Hid (Arr w0 B g n cp (P++(Y.take k++X.drop k)++Q++(X.take k++Y.drop k)++S) wr)) (λ i _=> l - (intOf i).toNat)
 case atStart=> exact ⟨0,zero_le _,rfl,hid (by have:=HA.out;simpa using this)⟩
 case round=>
  obtain ⟨k,hk,rfl,H⟩:=hrel;by_cases hlt:k < l
  . obtain ⟨h3,h4,h5,h6⟩:=G.out
    have hX:k < X.length:=by omega
    have L:k < Y.length:=by omega
    have U:X.drop k=X[k]::X.drop (k+1):=drop_eq_getElem_cons hX;have T:Y.drop k=Y[k]::Y.drop (k+1):=drop_eq_getElem_cons L;have O:X.take (k+1)=X.take k++[X[k]]:=by rw [take_succ_eq_append_getElem hX]
    have M:Y.take (k+1)=Y.take k++[Y[k]]:=by rw [take_succ_eq_append_getElem L]
    have K:=swp_at (P:=P++Y.take k) (Q:=X.drop (k+1)++Q++X.take k) (S:=Y.drop (k+1)++S) (x:=X[k]) (y:=Y[k]);rw [show (P++Y.take k).length=p+k by simp;omega,show p+k+1+(X.drop (k+1)++Q++X.take k).length=q+k by simp;omega] at K;have o:=H.out;rw [U,T] at o;rw [show P++(Y.take k++X[k]::X.drop (k+1))++Q++(X.take k++Y[k]::Y.drop (k+1))++S=P++Y.take k++X[k]::(X.drop (k+1)++Q++X.take k)++Y[k]::(Y.drop (k+1)++S) by simp only [append_assoc,cons_append]] at o;have J:(P++Y.take k++X[k]::(X.drop (k+1)++Q++X.take k)++Y[k]::(Y.drop (k+1)++S))[p+k]? =some X[k]:=by rw [append_assoc,getElem?_append_right (by simp;omega)];simp [show p+k - (P.length+min k Y.length)=0 by omega]
    have I:(P++Y.take k++X[k]::(X.drop (k+1)++Q++X.take k)++Y[k]::(Y.drop (k+1)++S))[q+k]? =some Y[k]:=by rw [getElem?_append_right (by simp;omega)];simp only [length_append,length_cons,length_take,List.length_drop];rw [show q+k - (P.length+min k Y.length+(X.length - (k+1)+Q.length+min k X.length+1))=0 by omega];rfl
    have C:=o.drew.swap J I;have A:=o.drew.swap I J;rw [swp_comm] at A;rw [K] at C A;have V:P++(Y.take (k+1)++X.drop (k+1))++Q++(X.take (k+1)++Y.drop (k+1))++S=P++Y.take k++Y[k]::(X.drop (k+1)++Q++X.take k)++X[k]::(Y.drop (k+1)++S):=by rw [O,M];simp only [append_assoc,cons_append,nil_append]
    rw [<-V] at C A;have H2:=hid C;have H3:=hid A;have cx:=o.cell J;have cy:=o.cell I;have fx:=o.free (p+k);have fy:=o.free (q+k);have hg:=o.lt;clear o C A V J I K O M U T h3 h4 h5 h6;generalize X[k]=x at *;generalize Y[k]=y at *;clear hX L H;go_wp2;go_region;go_wp2;go_roundw
    case rel=> exact ⟨k+1,by omega,by go_num,by first | exact H2 | exact H3⟩
    case measure=> simp [intOf];omega
  . obtain rfl:k=l:=by omega
    have W:¬ k < k:=Nat.lt_irrefl _;go_wp2;go_end0;refine ⟨rfl,?_⟩;have:=H.out
    rwa [take_of_length_le (by rw [G.2.2.2];exact lr),drop_of_length_le (by rw [G.2.2.1];exact lr),take_of_length_le (by rw [G.2.2.1];exact lr),drop_of_length_le (by rw [G.2.2.2];exact lr),append_nil,append_nil] at this
def cc (c:Rw->Rw->Int) (x y:Cel):Int:=c x.r y.r
structure CmpOk (K:FuncId) (cap:Array Value) (c:Rw->Rw->Int) (d0:List Cel) (w0:World) (g:Nat):Prop where
 enter:∀args w,(callFunc K args).run Tryz.prog w=.ok (.enter K args) w
 call:∀x∈d0,∀y∈d0,∀w',w0.grownBy w' (some g)->Calls Tryz.prog K (#[qs x.a x.n x.c,qs y.a y.n y.c]++cap) w' λ e w''=> e=.returned (qi (c x.r y.r))/\Below w'.heap.size w' w''
 ord:Ord3 (cc c)
structure SrA (c:Rw->Rw->Int) (x:Cel) (Y:List Cel) (i j:Nat):Prop where
 lo:∀y∈Y.take i,cc c y x < 0
 hi:∀y∈Y.drop j,¬ cc c y x < 0
theorem SrA.up {c:Rw->Rw->Int} (hc:Ord3 (cc c)) {x:Cel} {Y:List Cel} {i j h:Nat} (s:SrA c x Y i j) (ha:AscC (cc c) Y) (hh:h < Y.length) (hl:cc c Y[h] x < 0):SrA c x Y (h+1) j:=by
 refine ⟨λ y o=> ?_,s.hi⟩;rw [take_succ_eq_append_getElem hh] at o;rcases mem_append.1 o with o | o
 . have:AscC (cc c) (Y.take h++Y[h]::Y.drop (h+1)):=by rwa [<-drop_eq_getElem_cons hh,take_append_drop]
   exact hc.le_lt (this.cross y o Y[h] (List.mem_cons_self ..)) hl
 . rw [mem_singleton.1 o];exact hl
theorem SrA.dn {c:Rw->Rw->Int} (hc:Ord3 (cc c)) {x:Cel} {Y:List Cel} {i j h:Nat} (s:SrA c x Y i j) (ha:AscC (cc c) Y) (hh:h < Y.length) (hl:¬ cc c Y[h] x < 0):SrA c x Y i h:=by
 refine ⟨s.lo,λ y o h2=> hl ?_⟩;rw [drop_eq_getElem_cons hh] at o;rcases mem_cons.1 o with rfl | o
 . exact h2
 . have:AscC (cc c) (Y.take h++(Y[h]::Y.drop (h+1))):=by rwa [<-drop_eq_getElem_cons hh,take_append_drop]
   exact hc.le_lt ((pairwise_cons.1 this.right).1 y o) h2
theorem SrA.done {c:Rw->Rw->Int} (hc:Ord3 (cc c)) {x:Cel} {Y:List Cel} {i:Nat} (s:SrA c x Y i i) (o:AscC (cc c) Y):AscC (cc c) (Y.take i++[x]++Y.drop i)/\StEq (cc c) ([x]++Y) (Y.take i++[x]++Y.drop i):=by
 have h:AscC (cc c) (Y.take i++Y.drop i):=by rwa [take_append_drop]
 refine ⟨(h.left.app (List.pairwise_singleton _ _) λ a o b hb=> ?_).app h.right λ a o b hb=> ?_,?_⟩
 . rw [mem_singleton.1 hb];have:=s.lo a o;omega
 . rcases mem_append.1 o with o | o
   . exact h.cross a o b hb
   . rw [mem_singleton.1 o];exact hc.le (s.hi b hb)
 . have h1:StEq (cc c) ([x]++Y.take i) (Y.take i++[x]):=StEq.swap hc λ a o b hb=> by rw [mem_singleton.1 o];exact s.lo b hb
   have:=h1.app (StEq.refl (c:=cc c) (Y.drop i))
   rwa [append_assoc,take_append_drop] at this
theorem symA_calls (K:FuncId) (cap:Array Value) (c:Rw->Rw->Int) (d0:List Cel) (w0:World) (B g n cp:Nat) (P Y S:List Cel) (x:Cel) (w:World) (a m b:Nat) (hp:P.length=a) (hm:a+1=m) (hb:m+Y.length=b)
 (hC:CmpOk K cap c d0 w0 g) (hmem:∀y∈x::Y,y∈d0) (hY:AscC (cc c) Y) (A:Arr w0 B g n cp (P++[x]++Y++S) w) (hmx:n<=1099511627776):
 Calls Tryz.prog 96 #[qs (some ⟨g,0,none⟩) n cp,qi a,qi m,qi b,.func (.func K) #[] cap] w λ e w'=> e=.returned (.tuple #[])/\∃Z,AscC (cc c) Z/\StEq (cc c) ([x]++Y) Z/\Arr w0 B g n cp (P++Z++S) w':=by
 have O:=A.len;simp only [length_append,length_cons,length_nil] at O;have b1:b<=n:=by omega
 have b2:m<=b:=by omega
 have b3:a < m:=by omega
 have ht:((m:Int) - a==1)=true:=by simp;omega
 have V:=hid (show P.length=a/\a+1=m/\m+Y.length=b from ⟨hp,hm,hb⟩);have HA:=hid A;have HC:=hid hC;have HY:=hid hY;have F:=hid hmem;have eg:=hC.enter;clear A O hp hm hb hC hmem hY;go_enter Tryz.func96,Tryz.ntmps96;go_wp2;go_loopw [10,11] (λ z10 z11 wr=> ∃i j:Nat,m<=i/\i<=j/\j<=b/\z10=qi i/\z11=qi j/\Hid (SrA c x Y (i - m) (j - m))/\Hid (Arr w0 B g n cp (P++[x]++Y++S) wr)) (λ z10 z11 _=> (intOf z11).toNat - (intOf z10).toNat)
 case atStart=> exact ⟨m,b,lr,b2,lr,rfl,rfl,⟨by simp,by rw [drop_of_length_le (by have:=V.out;omega)];simp⟩,HA⟩
 case round=>
  obtain ⟨i,j,ai,al,ak,rfl,rfl,Hs,H⟩:=hrel;by_cases hlt:i < j
  . obtain ⟨h,hh⟩:∃h:Nat,h=(i+j) / 2:=⟨_,rfl⟩
    have am:i<=h:=by omega
    have ar:h < j:=by omega
    have hk:h - m < Y.length:=by have:=V.out;omega
    have T:(P++[x]++Y++S)[h]? =some Y[h - m]:=by
     have e:(P++[x]).length=m:=by have:=V.out;simp;omega
     have:=mid_get (P:=P++[x]) (u:=Y) (S:=S) hk
     rwa [e,show m+(h - m)=h by omega] at this
    have ad:(P++[x]++Y++S)[a]? =some x:=by have:=mid_get (P:=P) (u:=[x]) (S:=Y++S) (i:=0) (by simp);have e:=V.1;rw [add_zero,e] at this;rw [append_assoc];exact this
    have cy:=H.cell T;have cx:=H.cell ad;have hg:=H.lt;have aa:=λ hl=> Hs.up HC.ord HY hk (j:=j - m) hl;have ae:=λ hl=> Hs.dn HC.ord HY hk (i:=i - m) hl;have HU:=hid (show (cc c Y[h - m] x < 0->SrA c x Y (h+1 - m) (j - m))/\(¬ cc c Y[h - m] x < 0->SrA c x Y (i - m) (h - m)) from ⟨λ hl=> by have:=aa hl;rwa [show h - m+1=h+1 - m by omega] at this,ae⟩);have HK:=hid (λ w' (hb:Below wr.heap.size wr w')=> HC.call Y[h - m] (F.out _ (mem_cons_of_mem _ (getElem_mem _))) x (F.out _ (List.mem_cons_self ..)) w' (grownBy_bel H.gr hb));clear aa ae T ad;unfold cc at HU;generalize Y[h - m]=y at *;generalize c y.r x.r=r at *;clear hk;have Hh:=hid hh;have i1:(0:Int)<=h:=by omega
    have i2:(h:Int) < n:=by omega
    have i3:(0:Int)<=a:=by omega
    have i4:(a:Int) < n:=by omega
    clear hh;go_upto_region 4 with (fail)
    go_cut [12] (λ z wx=> z=qi h/\wx=wr)
    case first=>
     go_wp2_with fail;go_meet;exact ⟨by have:=Hh.out;congr 1;omega,rfl⟩
    obtain ⟨rfl,rfl⟩:=hcut;go_upto_region 5 with (fail)
    go_cut [50] (λ z wx=> ∃q:Bool,z=.bool q/\Hid (q=decide (r < 0))/\Hid (Below wc.heap.size wc wx))
    case first=>
     go_region_held3 (λ w'=> Below wc.heap.size wc w'/\∀b o,b < wc.heap.size->w'.cell? ⟨b,o,none⟩=wc.cell? ⟨b,o,none⟩)
      (first | assumption | exact S_of (Below.drew zi) | exact S_step (by assumption) (by assumption))
      (first | ((with_reducible refine (HK.out _ (by first | assumption | exact And.left (by assumption))).mono ?_);rintro e w1 ⟨rfl,au⟩))
     all_goals
      rename_i hH
      have Hb:=hid hH.1;clear hH;go_step;go_step;go_meet;exact ⟨_,rfl,rfl,Hb⟩
    obtain ⟨q,rfl,Hq,Hb⟩:=hcut;have I:=hid (H.below Hb);clear cy cx hg HK H Hb;cases q
    . have hr:¬ r < 0:=by simpa using Hq.out
      have U:=hid (HU.2 hr);clear HU Hq hr Hs;go_wp2;go_roundw
      case rel=> exact ⟨i,h,ai,am,by omega,rfl,rfl,U,I⟩
      case measure=> simp [intOf];omega
    . have hr:r < 0:=by simpa using Hq.out
      have U:=hid (HU.1 hr);clear HU Hq hr Hs;go_wp2;go_roundw
      case rel=> exact ⟨h+1,j,by omega,by omega,ak,by go_num,rfl,U,I⟩
      case measure=> simp [intOf];omega
  . obtain rfl:i=j:=by omega
    obtain ⟨ac,ab⟩:=Hs.done HC.ord HY;have HZ:=hid ac;have HE:=hid ab;have G:=hid (show (Y.take (i - m)).length=i - m by rw [length_take,min_eq_left];have:=V.out;omega);have I:Hid (Arr w0 B g n cp (P++[x]++Y.take (i - m)++(Y.drop (i - m)++S)) wr):=by have:=H.out;rw [<-take_append_drop (i - m) Y] at this;exact hid (by simpa only [append_assoc] using this)
    have an:=hid V.1;generalize Y.take (i - m)=Y1 at *;generalize Y.drop (i - m)=Y2 at *;clear ac ab Hs H HA HC F HY hlt al;go_wp2;go_loopw [13] (λ z wr=> ∃k t:Nat,k=a+t/\t<=i - m/\z=qi k/\Hid (Arr w0 B g n cp (P++Y1.take t++[x]++Y1.drop t++(Y2++S)) wr)) (λ z _=> i - (intOf z).toNat)
    case atStart=> exact ⟨a,0,by omega,zero_le _,rfl,hid (by simpa using I.out)⟩
    case round=>
     clear I;obtain ⟨k,t,L,ao,rfl,H⟩:=hrel;have af:a+(i - m)+1=i:=by have:=V.out;omega
     have aq:(0:Int)<=i - 1:=by omega
     by_cases hlt:t < i - m
     . obtain ⟨y,hy⟩:∃y,Y1[t]? =some y:=⟨_,getElem?_eq_getElem (by rw [G.out];exact hlt)⟩
       have C:t < Y1.length:=by rw [G.out];exact hlt
       have e0:Y1.drop t=y::Y1.drop (t+1):=by rw [drop_eq_getElem_cons C];rw [getElem?_eq_getElem C] at hy;rw [Option.some.inj hy]
       have e1:Y1.take (t+1)=Y1.take t++[y]:=by rw [take_succ_eq_append_getElem C];rw [getElem?_eq_getElem C] at hy;rw [Option.some.inj hy]
       have ag:P++Y1.take t++[x]++Y1.drop t++(Y2++S)=(P++Y1.take t)++x::[]++y::(Y1.drop (t+1)++(Y2++S)):=by rw [e0];simp only [append_assoc,cons_append,nil_append]
       have A:=H.out;rw [ag] at A;have W:(P++Y1.take t).length=k:=by rw [length_append,length_take,G.out,an.out,min_eq_left (by omega)];omega
       have hs:=swp_at (P:=P++Y1.take t) (Q:=[]) (S:=Y1.drop (t+1)++(Y2++S)) (x:=x) (y:=y);rw [W,length_nil,add_zero] at hs;have hx:((P++Y1.take t)++x::[]++y::(Y1.drop (t+1)++(Y2++S)))[k]? =some x:=by rw [append_assoc,getElem?_append_right (by rw [W];exact lr),W];simp
       have J:((P++Y1.take t)++x::[]++y::(Y1.drop (t+1)++(Y2++S)))[k+1]? =some y:=by rw [append_assoc,getElem?_append_right (by rw [W];omega),W];simp
       have M:=A.drew.swap hx J;have D:=A.drew.swap J hx;rw [swp_comm] at D;rw [hs] at M D;have e2:P++Y1.take (t+1)++[x]++Y1.drop (t+1)++(Y2++S)=(P++Y1.take t)++y::[]++x::(Y1.drop (t+1)++(Y2++S)):=by rw [e1];simp only [append_assoc,cons_append,nil_append]
       rw [<-e2] at M D;have H2:=hid M;have H3:=hid D;have cx:=A.cell hx;have cy:=A.cell J;have fx:=A.free k;have fy:=A.free (k+1);have hg:=A.lt;have aj:(k:Int) < i - 1:=by omega
       have ap:(k:Int)+1 < n:=by omega
       clear A M D e2 e1 e0 ag hx J hs W hy C H;clear af;have ah:=hid L;clear L;go_wp2;go_region;go_wp2;go_roundw
       case rel=> exact ⟨k+1,t+1,by have:=ah.out;omega,by omega,by go_num,by first | exact H2 | exact H3⟩
       case measure=> simp [intOf];omega
     . obtain rfl:t=i - m:=by omega
       have aj:¬ (k:Int) < i - 1:=by omega
       have ah:=hid L;clear L af;go_wp2;refine bodyPost_ret (v:=.tuple #[]) (results_none rfl _ _ _) rfl ?_;refine ⟨rfl,_,HZ,HE,?_⟩;have:=H.out;rw [take_of_length_le (by rw [G.out];exact lr),drop_of_length_le (by rw [G.out];exact lr)] at this;simpa only [append_assoc,append_nil,nil_append] using this
section
open Go.Sort
abbrev Cls (w:World):World->Prop:=λ w'=> ∃p:Regrown,w'=grow (redrawn w p.d) p.os
theorem cls_of {w w':World} (h:Below w.heap.size w w'):Cls w w':=regrown_of_below h
theorem Cls.below {w w':World} (h:Cls w w'):Below w.heap.size w w':=by
 obtain ⟨⟨d,os⟩,rfl⟩:=h;exact below_regrown w d os
theorem Cls.trans {a b c:World} (h:Cls a b) (k:Cls b c):Cls a c:=cls_of (h.below.trans (k.below.mono h.below.size))
def noEnter (o:Oper):Bool:=match o.op with
 | .move _ | .assign _ | .pick .. | .load .. | .binOp .. | .unOp .. | .convert .. | .slice .. | .fieldAddr .. | .field .. | .indexAddr .. | .index .. | .extract .. | .build ..=> true
 | .call c=> match c.callee with
  | .builtin .len | .builtin .cap | .builtin .max | .builtin .min=> true
  | _=> false
 | _=> false
theorem noEnter_run {P:Program} {o:Oper} (h:noEnter o=true) (ρ:Operand->Value) (w:World) (f:FuncId) (args:Array Value) (w':World):(execOp ρ o).run P w≠.ok (.enter f args) w':=by
 obtain ⟨dst,op,D,q,after,guard⟩:=o;have key:∀s:Sem Value,(do pure (Next.value (<-s)):Sem Next).run P w≠.ok (.enter f args) w':=by intro s;simp only [Sem.run_bind,Sem.run_pure];generalize Sem.run P s w=r;cases r <;> simp [Result.andThen]
 cases op <;> simp only [noEnter,Bool.false_eq_true] at h
 case call c=>
  obtain ⟨callee,A,F⟩:=c;cases callee <;> simp only [Bool.false_eq_true] at h
  rename_i b
  cases b <;> simp only [Bool.false_eq_true] at h <;> (simp only [execOp,resolve,invoke,builtin,Sem.run_bind,Sem.run_pure,Result.andThen_ok];simpa only [Sem.run_bind,Sem.run_pure] using key _)
 case pick c a b=>
  simp only [execOp,Sem.run_bind,Sem.run_pure];generalize Sem.run P (asBool _) _=r;cases r <;> simp [Result.andThen]
 case move=> simp [execOp,Sem.run_pure]
 case assign=> simp [execOp,Sem.run_pure]
 all_goals exact key _
section
variable {P:Program} {ops:Array Oper} {C C':World->Prop} {o:Oper} {v:Value} {a:Act}
theorem YieldsIn.shrink (hC:∀w,C' w->C w) (hn:noEnter o=true) (h:YieldsIn P ops C o v a):YieldsIn P ops C' o v a:=by
 refine h.imp (λ ⟨h1,h2⟩=> ⟨h1,λ w hw=> ?_⟩) id;have q:=h2 w (hC w hw);have A:=noEnter_run (P:=P) hn a.eval w;unfold Oper.quietAt at *;generalize (execOp a.eval o).run P w=r at *;cases r with
 | ok n w'=> cases n <;> simp only [Oper.quietUpon] at q ⊢ <;> first | exact q | exact absurd rfl (A _ _ _)
 | halt x w'=> exact q
theorem wpQuiet_yields {K:Act->Prop} {l:List Oper} (h:wpQuiet P ops C K (o::l) a):∃v,YieldsIn P ops C o v a/\wpQuiet P ops C K l (a.put o.dst v):=by
 unfold wpQuiet at h;by_cases hw:Region.wanted o (yielded ops a.tmps)=true
 . simp only [hw,if_true] at h
   obtain ⟨v,h1,q⟩:=h;exact ⟨v,.inl ⟨hw,h1⟩,q⟩
 . simp only [hw] at h
   exact ⟨undef,.inr ⟨by simpa using hw,rfl⟩,h⟩
theorem wpQuiet_of_yields {K:Act->Prop} {l:List Oper} (hy:YieldsIn P ops C o v a) (h:wpQuiet P ops C K l (a.put o.dst v)):wpQuiet P ops C K (o::l) a:=by
 unfold wpQuiet;rcases hy with ⟨q,A⟩ | ⟨q,rfl⟩
 . simp only [q,if_true];exact ⟨v,A,h⟩
 . simp only [q];exact h
theorem wpQuiet_append {K:Act->Prop} {l2:List Oper}:∀{l1:List Oper} {a:Act},wpQuiet P ops C (λ a2=> wpQuiet P ops C K l2 a2) l1 a->wpQuiet P ops C K (l1++l2) a
 | [],a,h=> h
 | o::l1,a,h=> by obtain ⟨v,q,A⟩:=wpQuiet_yields h;exact wpQuiet_of_yields q (wpQuiet_append A)
theorem wpQuiet_pull {K:Act->Prop} {j:Nat} {oj:Oper} (hj:ops[j]? =some oj) (hsj:∀cs b,oj.op≠.select cs b) {l2:List Oper}:∀{l1:List Oper} {a:Act},(∀o∈l1,o.apart ops oj=true/\∀cs b,o.op≠.select cs b)->
 wpQuiet P ops C K (l1++oj::l2) a->qOp P ops C j (wpQuiet P ops C K (l1++l2)) a
 | [],a,_,h=> by unfold qOp;simp only [hj];exact h
 | o::l1,a,hl,h=> by obtain ⟨v,q,D⟩:=wpQuiet_yields h;have A:=wpQuiet_pull hj hsj (λ o ho=> hl o (by simp [ho])) D;exact qOp_mono (λ a' h3=> wpQuiet_of_yields h3.1 h3.2) (qOp_put hj (hl o (by simp)).1 (hl o (by simp)).2 hsj q A)
def uponV (P:Program) (o:Oper) (a:Act) (next:Act->World->Prop):Result Next->Prop
 | .ok (.value v) w'=> next (a.put o.dst v) w'
 | .ok (.enter f args) w'=> Calls P f args w' λ e w''=> ∃v,e=.returned v/\next (a.put o.dst v) w''
 | _=> False
def CallSt (P:Program) (ops:Array Oper) (c:Oper) (w0:World) (K:Act->World->Prop) (a:Act):Prop:=
 Region.wanted c (yielded ops a.tmps)=true/\∀w',Below w0.heap.size w0 w'->uponV P c a (λ a2 w''=> Below w'.heap.size w' w''/\K a2 w'') ((execOp a.eval c).run P w')
theorem uponV_box {P:Program} {c:Oper} {a:Act} {next:Act->World->Prop} {w':World} {v:Value} {C:Array Value} {t:TypeId} (h:∀w2,Hid (VarIs w2 w'.heap.size C)->Hid (Below w'.heap.size w' w2)->next (a.put c.dst v) w2):uponV P c a next (.ok (.value v) (w'.alloc (.cells C t))):=
 h _ (VarIs.new w' C t) (zi.alloc lr _)
theorem callSt_pull {c:Oper} {w:World} {K:Act->World->Prop} (hsc:∀cs b,c.op≠.select cs b):∀{l1:List Oper} {a:Act},(∀o∈l1,o.apart ops c=true/\(∀cs b,o.op≠.select cs b)/\noEnter o=true)->
 wpQuiet P ops (Cls w) (CallSt P ops c w K) l1 a->CallSt P ops c w (λ a' q=> wpQuiet P ops (Cls q) (λ a2=> K a2 q) l1 a') a
 | [],a,_,h=> h
 | o::l1,a,hl,h=> by
  obtain ⟨v,G,M⟩:=wpQuiet_yields h;obtain ⟨F,L⟩:=callSt_pull hsc (λ o ho=> hl o (by simp [ho])) M;obtain ⟨J,H,I⟩:=hl o (by simp);obtain ⟨a1,a2,a3⟩:=Oper.apart_spec J;rw [wanted_put c a o.dst v a1] at F;refine ⟨F,λ w' hb=> ?_⟩;have C:=L w' hb;rw [execOp_put c hsc a o.dst v a1] at C;have key:∀u q,(Below w'.heap.size w' q/\wpQuiet P ops (Cls q) (λ a2=> K a2 q) l1 ((a.put o.dst v).put c.dst u))->Below w'.heap.size w' q/\wpQuiet P ops (Cls q) (λ a2=> K a2 q) (o::l1) (a.put c.dst u):=by
   rintro u q ⟨A,D⟩;refine ⟨A,wpQuiet_of_yields (v:=v) ?_ ?_⟩
   . refine YieldsIn.shrink (λ x hx=> (cls_of (hb.trans (A.mono hb.size))).trans hx) I (G.of_same (execOp_put o H a c.dst u a3) (wanted_put o a c.dst u a3))
   . rw [<-Act.put_comm a v u a2]
     exact D
  generalize (execOp a.eval c).run P w'=r at *;cases r with
  | ok n w1=>
   cases n <;> simp only [uponV] at C ⊢
   case value u=> exact key u w1 C
   case enter f args=>
    refine C.mono λ e q=> ?_;rintro ⟨u,rfl,D⟩;exact ⟨u,rfl,key u q D⟩
  | halt x w1=> exact C
end
def wpSegs (P:Program) (ops:Array Oper) (Q:Exit->Act->World->Prop):List (List Oper×Oper)->List Oper->List Oper->Act->World->Prop
 | [],S,T,a,w=> wpQuiet P ops (Cls w) (λ a'=> ∀w',Below w.heap.size w w'->wpList P ops Q T a' w') S a
 | (S,c)::r,S',T,a,w=> wpQuiet P ops (Cls w) (CallSt P ops c w λ a' w''=> wpSegs P ops Q r S' T a' w'') S a
def opN (ops:Array Oper) (i:Nat):Oper:=(ops[i]?).getD default
theorem opN_eq {ops:Array Oper} {i:Nat} (h:i < ops.size):ops[i]? =some (opN ops i):=by unfold opN;rw [Array.getElem?_eq_getElem h];rfl
def direct (ops:Array Oper) (i:Nat):List Nat:=((opN ops i).after.toList.filter (Region.binds .any ·)).map (·.on)
def flatI:List (List Nat×Nat)->List Nat->List Nat->List Nat
 | [],S,T=> S++T
 | (S1,c)::r,S,T=> S1++c::flatI r S T
def forwardB (ops:Array Oper):Bool:=(List.range ops.size).all λ i=> match ops[i]? with
 | none=> true
 | some o=> o.after.toList.all λ e=> !Region.binds .any e || decide (e.on < i)
theorem forward_of {ops:Array Oper} (h:forwardB ops=true) {i:Nat} {o:Oper} (ho:ops[i]? =some o):∀e∈o.after,Region.binds .any e=true->e.on < i:=by
 intro e he q;have hi:=(Array.getElem?_eq_some_iff.1 ho).1;have h1:=all_eq_true.1 h i (by simpa using hi);simp only [ho] at h1;have A:=all_eq_true.1 h1 e (by simpa using he);simpa [q] using A
theorem ready_nil {ops:Array Oper} {listed:Array Bool} (hf:forwardB ops=true) (hs:listed.size=ops.size) (h:Region.ready .any ops listed=[]):∀i,i < ops.size->listed.getD i false=true:=by
 intro i
 induction i using Nat.strongRecOn with
 | ind i ih=>
  intro hi;apply Classical.byContradiction;intro A;have o:i∈Region.ready .any ops listed:=by
   refine mem_ready.2 ⟨?_,ops[i],Array.getElem?_eq_getElem hi,λ e he hb=> ?_⟩
   . have:i < listed.size:=by omega
     simp [Array.getD,this] at A ⊢;exact A
   . have q:=forward_of hf (Array.getElem?_eq_getElem hi) e he hb
     exact ih e.on q (by omega)
  rw [h] at o;cases o
def ancs (ops:Array Oper):Nat->List (List Nat)
 | 0=> []
 | n+1=> let A:=ancs ops n;A++[direct ops n++(direct ops n).flatMap λ d=> A.getD d []]
def pairB (ops:Array Oper) (A:List (List Nat)) (isQ isT:Nat->Bool) (i j:Nat):Bool:=(A.getD j []).contains i || (isQ i && !isT j && (opN ops i).apart ops (opN ops j))
def pairwiseB (r:Nat->Nat->Bool):List Nat->Bool
 | []=> true
 | i::l=> l.all (r i) && pairwiseB r l
theorem pairwiseB_iff {r:Nat->Nat->Bool}:∀{l:List Nat},pairwiseB r l=true->l.Pairwise λ i j=> r i j=true
 | [],_=> .nil
 | i::l,h=> by simp only [pairwiseB,Bool.and_eq_true,all_eq_true] at h;exact .cons h.1 (pairwiseB_iff h.2)
theorem ancs_length (ops:Array Oper):∀n,(ancs ops n).length=n
 | 0=> rfl
 | n+1=> by simp [ancs,ancs_length ops n]
theorem ancs_stable {ops:Array Oper} {d m:Nat} (hd:d < m):∀{n:Nat},m<=n->(ancs ops n).getD d []=(ancs ops m).getD d []
 | 0,h=> by omega
 | n+1,h=> by
  by_cases e:m=n+1
  . subst e;rfl
  . rw [ancs,getD_eq_getElem?_getD,List.getElem?_append_left (by rw [ancs_length];omega),<-getD_eq_getElem?_getD]
    exact ancs_stable hd (by omega)
theorem ancs_mem {ops:Array Oper} {n j x:Nat} (hj:j < n) (hx:x∈(ancs ops n).getD j []):x∈direct ops j\/∃d∈direct ops j,x∈(ancs ops n).getD d []:=by
 rw [ancs_stable (lt_succ_self j) (show j+1<=n from hj),ancs] at hx;simp only [getD_eq_getElem?_getD] at hx;rw [getElem?_append_right (by rw [ancs_length];exact lr),ancs_length,Nat.sub_self] at hx;simp only [getElem?_cons_zero,Option.getD_some,mem_append,List.mem_flatMap] at hx;refine hx.imp id λ ⟨d,h1,h2⟩=> ⟨d,h1,?_⟩
 by_cases hd:d < j
 . rw [ancs_stable hd (le_of_lt hj)]
   simpa [getD_eq_getElem?_getD] using h2
 . rw [List.getElem?_eq_none (by rw [ancs_length];omega)] at h2
   cases h2
structure Rem (ops:Array Oper) (A:List (List Nat)) (isQ isT:Nat->Bool) (F:List Nat) (listed:Array Bool):Prop where
 size:listed.size=ops.size
 pair:F.Pairwise λ i j=> pairB ops A isQ isT i j=true
 nodup:F.Nodup
 here:∀i,i∈F↔i < ops.size/\listed.getD i false=false
 up:∀j,j < ops.size->listed.getD j false=true->∀x∈A.getD j [],listed.getD x false=true
theorem Rem.ready {ops:Array Oper} {isQ isT:Nat->Bool} {F:List Nat} {listed:Array Bool} (h:Rem ops (ancs ops ops.size) isQ isT F listed) {j:Nat} (hj:j∈Region.ready .any ops listed):j∈F/\∀x∈(ancs ops ops.size).getD j [],listed.getD x false=true:=by
 obtain ⟨G,K,A,D⟩:=mem_ready.1 hj;have q:=(Array.getElem?_eq_some_iff.1 A).1;have C:j < listed.size:=by rw [h.size];exact q
 refine ⟨(h.here j).2 ⟨q,by simpa [Array.getD,C] using G⟩,λ x hx=> ?_⟩;have o:∀d∈direct ops j,d < ops.size/\listed.getD d false=true:=by
  intro d o;unfold direct opN at o;rw [A] at o;simp only [Option.getD_some,List.mem_map,List.mem_filter] at o;obtain ⟨e,⟨h1,I⟩,rfl⟩:=o;have H:=D e (by simpa using h1) I;have J:e.on < listed.size:=by apply Classical.byContradiction;intro L;rw [Array.getD_eq_getD_getElem?,Array.getElem?_eq_none (by omega)] at H;cases H
  exact ⟨by rw [<-h.size];exact J,H⟩
 rcases ancs_mem q hx with h1 | ⟨d,h1,I⟩
 . exact (o x h1).2
 . exact h.up d (o d h1).1 (o d h1).2 x I
theorem Rem.set {ops:Array Oper} {isQ isT:Nat->Bool} {l1 l2:List Nat} {listed:Array Bool} {j:Nat} (h:Rem ops (ancs ops ops.size) isQ isT (l1++j::l2) listed) (hj:j∈Region.ready .any ops listed):Rem ops (ancs ops ops.size) isQ isT (l1++l2) (listed.setIfInBounds j true):=by
 have o:(l1++l2).Sublist (l1++j::l2):=List.Sublist.append (List.Sublist.refl _) (List.sublist_cons_self _ _);have G:j < listed.size:=by rw [h.size];exact ((h.here j).1 (by simp)).1
 have A:∀i,(listed.setIfInBounds j true).getD i false=(decide (j=i) || listed.getD i false):=by
  intro i;by_cases e:j=i
  . subst e
    simp [Array.getD,G]
  . rw [getD_set_ne false e]
    simp [e]
 have D:=h.nodup;have F:j ∉ l1++l2:=by
  rw [List.nodup_append] at D;obtain ⟨-,C,q⟩:=D;simp only [List.nodup_cons] at C;intro hm;rcases mem_append.1 hm with hm | hm
  . exact q j hm j (by simp) rfl
  . exact C.1 hm
 refine ⟨by simpa using h.size,h.pair.sublist o,h.nodup.sublist o,λ i=> ?_,λ i hi hl x hx=> ?_⟩
 . rw [A]
   constructor
   . intro hi
     have h1:=(h.here i).1 (o.subset hi);refine ⟨h1.1,?_⟩;rw [h1.2];simp only [Bool.or_false,decide_eq_false_iff_not];intro e;subst e;exact F hi
   . rintro ⟨h1,C⟩
     simp only [Bool.or_eq_false_iff,decide_eq_false_iff_not] at C;have q:=(h.here i).2 ⟨h1,C.2⟩;simp only [mem_append,mem_cons] at q ⊢;rcases q with q | q | q
     . exact .inl q
     . exact absurd q.symm C.1
     . exact .inr q
 . rw [A] at hl ⊢
   simp only [Bool.or_eq_true,decide_eq_true_eq] at hl ⊢;rcases hl with rfl | hl
   . exact .inr ((h.ready hj).2 x hx)
   . exact .inr (h.up i hi hl x hx)
theorem Rem.ahead {ops:Array Oper} {isQ isT:Nat->Bool} {l1 l2:List Nat} {listed:Array Bool} {j:Nat} (h:Rem ops (ancs ops ops.size) isQ isT (l1++j::l2) listed) (hj:j∈Region.ready .any ops listed):∀i∈l1,isQ i=true/\isT j=false/\(opN ops i).apart ops (opN ops j)=true:=by
 intro i hi;have h1:=(List.pairwise_append.1 h.pair).2.2 i hi j (by simp);have o:=((h.here i).1 (by simp [hi])).2;unfold pairB at h1;simp only [Bool.or_eq_true,Bool.and_eq_true,Bool.not_eq_true',List.contains_iff_mem] at h1;rcases h1 with h1 | ⟨⟨h1,A⟩,q⟩
 . rw [(h.ready hj).2 i h1] at o
   cases o
 . exact ⟨h1,A,q⟩
section
variable {P:Program} {ops:Array Oper} {Q:Exit->Act->World->Prop}
theorem rem_nil {isQ isT:Nat->Bool} {F:List Nat} {listed:Array Bool} (hf:forwardB ops=true) (h:Rem ops (ancs ops ops.size) isQ isT F listed) (hr:Region.ready .any ops listed=[]):F=[]:=by
 rw [List.eq_nil_iff_forall_not_mem];intro i hi;obtain ⟨h1,o⟩:=(h.here i).1 hi;rw [ready_nil hf h.size hr i h1] at o;cases o
theorem tail_any {isQ isT:Nat->Bool} (hf:forwardB ops=true):
 ∀(n:Nat) (T:List Nat) (listed:Array Bool) (a:Act) (w:World),T.length=n->(∀i∈T,isT i=true)->Rem ops (ancs ops ops.size) isQ isT T listed->wpList P ops Q (T.map (opN ops)) a w->wpAny P .any ops Q n listed a w
 | 0,[],listed,a,w,_,_,h,hw=> by refine ⟨?_,hw⟩;rw [List.eq_nil_iff_forall_not_mem];intro j C;cases (h.ready C).1
 | n+1,j::T,listed,a,w,hl,ht,h,hw=> by
  refine ⟨λ hr=> (by cases rem_nil hf h hr),λ i hi=> ?_⟩;obtain ⟨q,D,e⟩:=List.append_of_mem (h.ready hi).1;rw [e] at h;have h1:=h.ahead hi;cases q with
  | cons x q=>
   have:=(h1 x (by simp)).2.1;rw [ht i (by rw [e];simp)] at this;cases this
  | nil=>
   obtain ⟨rfl,rfl⟩:=List.cons.inj e;have o:=((h.here j).1 (by simp)).1;have A:=h.set hi;unfold wpOp;simp only [opN_eq o];rw [map_cons,wpList] at hw;split at hw
   . rw [if_pos (by assumption)]
     refine hw.imp (λ hw=> Oper.wp_mono (λ a' w' h'=> tail_any hf n T _ a' w' (by simpa using hl) (λ i hi=> ht i (by simp [hi])) A h') hw) id
   . rw [if_neg (by assumption)]
     exact tail_any hf n T _ _ _ (by simpa using hl) (λ i hi=> ht i (by simp [hi])) A hw
def mapS (ops:Array Oper) (I:List (List Nat×Nat)):List (List Oper×Oper):=I.map λ p=> (p.1.map (opN ops),opN ops p.2)
def preI (l:List Nat):List (List Nat×Nat)->List Nat->List (List Nat×Nat)×List Nat
 | [],S=> ([],l++S)
 | (S1,c)::r,S=> ((l++S1,c)::r,S)
theorem flat_pre (l S T:List Nat) (I:List (List Nat×Nat)):flatI (preI l I S).1 (preI l I S).2 T=l++flatI I S T:=by
 cases I with
 | nil=> simp [preI,flatI]
 | cons p r=> simp [preI,flatI]
theorem segs_pre {l S T:List Nat} {I:List (List Nat×Nat)} {a:Act} {w:World} (h:wpQuiet P ops (Cls w) (λ a2=> wpSegs P ops Q (mapS ops I) (S.map (opN ops)) (T.map (opN ops)) a2 w) (l.map (opN ops)) a):
 wpSegs P ops Q (mapS ops (preI l I S).1) ((preI l I S).2.map (opN ops)) (T.map (opN ops)) a w:=by
 cases I with
 | nil=>
  have:=wpQuiet_append h;simpa [preI,mapS,wpSegs] using this
 | cons p r=>
  have:=wpQuiet_append h;simpa [preI,mapS,wpSegs] using this
theorem segs_any {isQ isT:Nat->Bool} (hf:forwardB ops=true) (hs:Region.noSelect ops=true) (hn:∀i,i < ops.size->isQ i=true->noEnter (opN ops i)=true):
 ∀(n:Nat) (I:List (List Nat×Nat)) (S T:List Nat) (A:Array Bool) (a:Act) (w C:World),(flatI I S T).length=n->(∀i∈T,isT i=true)->(∀p∈I,isQ p.2=false)->
  Rem ops (ancs ops ops.size) isQ isT (flatI I S T) A->Below C.heap.size C w->wpSegs P ops Q (mapS ops I) (S.map (opN ops)) (T.map (opN ops)) a C->wpAny P .any ops Q n A a w:=by
 have G:∀j,j < ops.size->∀cs b,(opN ops j).op≠.select cs b:=λ j F cs b=> Region.noSelect_spec hs j _ cs b (opN_eq F);have go:∀(n:Nat),(∀(I:List (List Nat×Nat)) (S T:List Nat) (A:Array Bool) (a:Act) (w C:World),(flatI I S T).length=n->(∀i∈T,isT i=true)->(∀p∈I,isQ p.2=false)->
  Rem ops (ancs ops ops.size) isQ isT (flatI I S T) A->Below C.heap.size C w->wpSegs P ops Q (mapS ops I) (S.map (opN ops)) (T.map (opN ops)) a C->wpAny P .any ops Q n A a w)->
  ∀(I:List (List Nat×Nat)) (S T:List Nat) (A:Array Bool) (a:Act) (w C:World),(flatI I S T).length=n+1->(∀i∈T,isT i=true)->(∀p∈I,isQ p.2=false)->
  Rem ops (ancs ops ops.size) isQ isT (flatI I S T) A->Below C.heap.size C w->wpSegs P ops Q (mapS ops I) (S.map (opN ops)) (T.map (opN ops)) a C->wpAny P .any ops Q (n+1) A a w:=by
  intro n ih I S T A a w C hl hT hI h hb V;have J:∀(M rest:List Nat) (K:Act->Prop) (j:Nat),j∈Region.ready .any ops A->Rem ops (ancs ops ops.size) isQ isT (M++rest) A->j∈M->wpQuiet P ops (Cls C) K (M.map (opN ops)) a->
   (∀(l:List Nat) (a':Act) (w':World),(∀i∈l,i∈M)->l.length+1=M.length->Rem ops (ancs ops ops.size) isQ isT (l++rest) (A.setIfInBounds j true)->Below C.heap.size C w'->wpQuiet P ops (Cls C) K (l.map (opN ops)) a'->wpAny P .any ops Q n (A.setIfInBounds j true) a' w')->
   wpOp P ops Q j (wpAny P .any ops Q n (A.setIfInBounds j true)) a w:=by
   intro M rest K j F hr hm hq hk;obtain ⟨l1,l2,rfl⟩:=List.append_of_mem hm;rw [append_assoc,cons_append] at hr;have L:=((hr.here j).1 (by simp)).1;have h1:=hr.ahead F;rw [map_append,map_cons] at hq;have h2:=wpQuiet_pull (opN_eq L) (G j L) (λ o ho=> by obtain ⟨i,hi,rfl⟩:=List.mem_map.1 ho;exact ⟨(h1 i hi).2.2,G i ((hr.here i).1 (by simp [hi])).1⟩) hq;rw [<-map_append] at h2;refine wpOp_of_qOp (cls_of hb) (λ a' w' W H=> hk (l1++l2) a' w' (λ i hi=> ?_) (by simp;omega) ?_ W.below H) h2
   . rcases mem_append.1 hi with hi | hi <;> simp [hi]
   . rw [append_assoc]
     exact hr.set F
  refine ⟨λ hr=> ?_,λ j F=> ?_⟩
  . rw [rem_nil hf h hr] at hl
    cases hl
  . have U:=(h.ready F).1
    cases I with
    | nil=>
     simp only [flatI,mapS,map_nil,wpSegs] at h V U hl;rcases mem_append.1 U with hm | hm
     . refine J S T _ j F h hm V λ l a' w' h1 h2 H h4 h5=> ih [] l T _ a' w' C (by simp [flatI] at hl ⊢;omega) hT (by simp) H h4 h5
     . obtain ⟨t1,t2,rfl⟩:=List.append_of_mem hm
       rw [<-append_assoc] at h;have h1:=h.ahead F;have hE:S++t1=[]:=by rw [List.eq_nil_iff_forall_not_mem];intro i hi;have:=(h1 i hi).2.1;rw [hT j (by simp)] at this;cases this
       obtain ⟨rfl,rfl⟩:=List.append_eq_nil_iff.1 hE;have W:=V w hb;exact (tail_any hf (n+1) (j::t2) A a w (by simpa using hl) hT h W).2 j F
    | cons p r=>
     obtain ⟨M,c⟩:=p;simp only [flatI,mapS,map_cons,wpSegs] at h V U hl;have hc:isQ c=false:=hI (M,c) (by simp);rcases mem_append.1 U with hm | hm
     . refine J M (c::flatI r S T) _ j F h hm V λ l a' w' h1 h2 H h4 h5=> ih ((l,c)::r) S T _ a' w' C (by simp [flatI] at hl ⊢;omega) hT (λ p O=> ?_) H h4 h5
       rcases mem_cons.1 O with rfl | O
       . exact hc
       . exact hI p (by simp [O])
     . rcases mem_cons.1 hm with rfl | hm
       . have L:=((h.here j).1 (by simp)).1
         have h1:=h.ahead F;obtain ⟨aa,h2⟩:=callSt_pull (G j L) (λ o ho=> by obtain ⟨i,hi,rfl⟩:=List.mem_map.1 ho;have H:=((h.here i).1 (by simp [hi])).1;exact ⟨(h1 i hi).2.2,G i H,hn i H (h1 i hi).1⟩) V;have H:=h2 w hb;have key:∀v D,(Below w.heap.size w D/\wpQuiet P ops (Cls D) (λ a2=> wpSegs P ops Q (r.map λ p=> (p.1.map (opN ops),opN ops p.2)) (S.map (opN ops)) (T.map (opN ops)) a2 D) (M.map (opN ops)) (a.put (opN ops j).dst v))->wpAny P .any ops Q n (A.setIfInBounds j true) (a.put (opN ops j).dst v) D:=by
          rintro v D ⟨ab,h5⟩;have h6:=segs_pre h5;have h7:=h.set F;rw [<-flat_pre] at h7;refine ih _ _ T _ _ D D ?_ hT (λ p O=> ?_) h7 zi h6
          . rw [flat_pre]
            simp at hl ⊢;omega
          . cases r with
            | nil=> simp [preI] at O
            | cons q r=>
             simp only [preI,mem_cons] at O;rcases O with rfl | O
             . exact hI q (by simp)
             . exact hI p (by simp [O])
         unfold wpOp;simp only [opN_eq L,aa,if_true,Oper.wp];refine .inl ?_;generalize (execOp a.eval (opN ops j)).run P w=r0 at *;cases r0 with
         | ok n w1=>
          cases n <;> simp only [uponV] at H <;> simp only [Oper.upon]
          case value u=> exact key u w1 H
          case enter f args=>
           refine H.mono λ e D=> ?_;rintro ⟨u,rfl,h5⟩;exact key u D h5
         | halt x w1=> exact absurd H id
       . obtain ⟨l1,l2,e⟩:=List.append_of_mem hm
         rw [e,<-cons_append,<-append_assoc] at h;have:=(h.ahead F c (by simp)).1;rw [hc] at this;cases this
 intro n
 induction n with
 | zero=>
  intro I S T A a w C hl hT hI h hb V;have hE:=length_eq_zero_iff.1 hl;cases I with
  | cons p r=> simp [flatI] at hE
  | nil=>
   simp only [flatI,List.append_eq_nil_iff] at hE;obtain ⟨rfl,rfl⟩:=hE;refine ⟨?_,V w hb⟩;rw [List.eq_nil_iff_forall_not_mem];intro j F;cases (h.ready F).1
 | succ n ih=> exact go n ih
def segsB (ops:Array Oper) (I:List (List Nat×Nat)) (S T:List Nat):Bool:=
 let F:=flatI I S T;let isQ:=λ i=> !(I.map (·.2)).contains i && !T.contains i
 forwardB ops && Region.noSelect ops && (List.range ops.size).all (λ i=> !isQ i || noEnter (opN ops i)) && pairwiseB (pairB ops (ancs ops ops.size) isQ T.contains) F && pairwiseB (λ i j=> i !=j) F && F.length==ops.size && F.all (λ i=> decide (i < ops.size)) && (List.range ops.size).all F.contains
theorem wp_region_segs {id:Nat} {a:Act} {w:World} (I:List (List Nat×Nat)) (S T:List Nat) (hm:P.follows .mixedOrders=true) (hB:segsB ops I S T=true)
 (h:wpSegs P ops Q (mapS ops I) (S.map (opN ops)) (T.map (opN ops)) a w.drew):(Code.region id ops true).wp P Q a w:=by
 simp only [segsB,Bool.and_eq_true,all_eq_true,beq_iff_eq,decide_eq_true_eq,List.mem_range] at hB;obtain ⟨⟨⟨⟨⟨⟨⟨h1,H⟩,G⟩,F⟩,D⟩,C⟩,A⟩,q⟩:=hB;have o:(flatI I S T).Nodup:=(pairwiseB_iff D).imp λ h=> by simpa using h
 refine wp_region_any hm (segs_any (isQ:=λ i=> !(I.map (·.2)).contains i && !T.contains i) (isT:=T.contains) h1 H (λ i hi hq=> ?_) ops.size I S T _ a _ w.drew C (λ i hi=> by simpa using hi) (λ p hp=> ?_) ⟨by simp,pairwiseB_iff F,o,λ i=> ?_,λ j hj hl=> ?_⟩ zi h)
 . have:=G i hi
   rw [hq] at this;simpa using this
 . have:(I.map (·.2)).contains p.2=true:=by
    rw [List.contains_iff_mem];exact List.mem_map.2 ⟨p,hp,rfl⟩
   simp only [this,Bool.not_true,Bool.false_and]
 . have J:(Array.replicate ops.size false).getD i false=false:=by simp [Array.getD]
   rw [J];refine ⟨λ hi=> ⟨A i hi,rfl⟩,λ ⟨hi,_⟩=> ?_⟩;simpa using q i hi
 . simp [Array.getD] at hl
theorem quiet_load_row {rest:List Oper} {o:Oper} {a:Act} {w:World} {K:Act->Prop} (hgd:o.guard=none) (ty:TypeId) (x:Operand) (ho:o.op=.load ty x) (b:Nat) (hx:a.eval x=.pointer (some ⟨b,0,none⟩)) {cs:List Value} (d:TypeDesc) (h:∀j,w.cell? ⟨b,j,none⟩=cs.toArray[j]?)
 (hu:P.underlying ty=some d) (hd:d.isRow=true) (hi:(P.info? ty).map (·.size)=some cs.length) (hK:wpQuiet P ops (Cls w) K rest (a.put o.dst (.agg cs.toArray))):wpQuiet P ops (Cls w) K (o::rest) a:=by
 refine wpQuiet_of_yields (v:=.agg cs.toArray) (.inl ⟨by simp [Region.wanted,hgd],λ w' hw'=> ?_⟩) hK;unfold Oper.quietAt execOp;have q:=run_loadAt_mid (P:=P) w' b 0 ty cs d (λ j v hv=> by
  rw [zero_add];have h1:w.cell? ⟨b,j,none⟩=some v:=by rw [h j];simpa using hv
  rw [hw'.below.cell (p:=⟨b,j,none⟩) (World.block_lt_of_cell? _ _ h1)];exact h1) hu hd hi
 simp only [ho,hx,q,Sem.run_bind,Sem.run_pure,Result.andThen_ok,Oper.quietUpon];exact ⟨trivial,trivial⟩
end
theorem q2c:(∀ops I,mapS ops I=I.map λ p=> (p.1.map (opN ops),opN ops p.2))/\(∀(f:List Nat×Nat->List Oper×Oper) a l,(a::l).map f=f a::l.map f)/\(∀f:List Nat×Nat->List Oper×Oper,[].map f=[])/\(∀(f:Nat->Oper) a l,(a::l).map f=f a::l.map f)/\(∀f:Nat->Oper,[].map f=[])/\(∀ops i,opN ops i=(ops[i]?).getD default)/\(∀(l:List Oper) (i:Nat),l.toArray[i]? =l[i]?)/\(∀(a:Oper) l,(a::l)[0]? =some a)/\(∀(a:Oper) l (i:Nat),(a::l)[i+1]? =l[i]?)/\∀(x d:Oper),(some x).getD d=x:=⟨λ _ _=> rfl,λ _ _ _=> rfl,λ _=> rfl,λ _ _ _=> rfl,λ _=> rfl,λ _ _=> rfl,λ _ _=> by simp,λ _ _=> rfl,λ _ _ _=> rfl,λ _ _=> rfl⟩
end
section
open Go.Sort
def normQ (K:Act->World->Prop) (Q:Exit->Act->World->Prop):Exit->Act->World->Prop
 | .normal,a,w=> K a w
 | e,a,w=> Q e a w
theorem wp_normQ {P:Program} {o:Oper} {a:Act} {w:World} {K N:Act->World->Prop} {Q:Exit->Act->World->Prop} (h:o.wp P a w N (normQ K Q)):o.wp P a w N Q:=by
 unfold Oper.wp at *;generalize (execOp a.eval o).run P w=r at *;cases r with
 | ok n w'=>
  cases n <;> simp only [Oper.upon] at h ⊢ <;> first
   | exact h
   | exact Calls.mono h (λ e w'' he=> by cases e <;> first | exact he | (obtain ⟨a,w,h⟩:=he;exact ⟨a,w,h⟩))
 | halt x w'=> cases x <;> simp only [Oper.upon] at h ⊢ <;> exact h
theorem AllReady.consL {P:Program} {md:Region.Mode} {ops:Array Oper} {Q:Exit->Act->World->Prop} {fuel:Nat} {listed:Array Bool} {a:Act} {w:World} {i:Nat} {o:Oper} {rs:List Nat} (ho:ops[i]? =some o)
 (h:∀K:Act->World->Prop,(∀a w,wpAny P md ops Q fuel (listed.setIfInBounds i true) a w->K a w)->wpList P ops (normQ K Q) [o] a w)
 (hs:AllReady P md ops Q fuel listed a w rs):AllReady P md ops Q fuel listed a w (i::rs):=λ j q=> by
 rcases mem_cons.1 q with rfl | q
 . have h1:=h _ (λ _ _ h=> h)
   unfold wpOp;simp only [ho];rw [wpList] at h1;split at h1
   . rw [if_pos (by assumption)]
     exact h1.imp (λ h=> Oper.wp_mono (λ _ _ h=> h) (wp_normQ h)) λ ⟨h2,a,w,h3⟩=> ⟨h2,a,w,h3⟩
   . rw [if_neg (by assumption)]
     exact h1
 . exact hs j q
end
theorem flat_set (l:List Vl) (k:Nat) (hk:k < l.length) (v:Vl):(((flat l).set (k * 3) (qi v.kind)).set (k * 3+1) (qi v.int)).set (k * 3+2) (qt v.text)=flat (l.set k v):=by
 induction l generalizing k with
 | nil=> simp at hk
 | cons x l ih=>
  cases k with
  | zero=> simp [flat,Vl.cells]
  | succ k=>
   have:=ih k (by simpa using hk);simp only [flat,List.flatMap_cons,List.set_cons_succ] at this ⊢;rw [<-this];rw [List.set_append_right _ _ (by simp [Vl.cells];omega),List.set_append_right _ _ (by simp [Vl.cells];omega),List.set_append_right _ _ (by simp [Vl.cells];omega)];congr 1;simp only [Vl.cells,length_cons,length_nil];rw [show (k+1) * 3 - (0+1+1+1)=k * 3 by omega,show (k+1) * 3+1 - (0+1+1+1)=k * 3+1 by omega,show (k+1) * 3+2 - (0+1+1+1)=k * 3+2 by omega]
theorem own_set {w:World} {B g n cap k:Nat} {l:List Vl} {v:Vl} (h:w.ownsRow B 35 3 (qs (some ⟨g,0,none⟩) n cap) n (flat l)) (hk:k < l.length):
 (((w.setCell ⟨g,k * 3,none⟩ (qi v.kind)).setCell ⟨g,k * 3+1,none⟩ (qi v.int)).setCell ⟨g,k * 3+2,none⟩ (qt v.text)).ownsRow B 35 3 (qs (some ⟨g,0,none⟩) n cap) n (flat (l.set k v)):=by
 have h1:=(h.stored (k * 3) (qi v.kind)).1;have q:=(h1.stored (k * 3+1) (qi v.int)).1;have o:=(q.stored (k * 3+2) (qt v.text)).1
 rwa [flat_set l k hk v] at o
theorem cloneV_calls (R:Rw) (r:Value) (w:World) (hr:ValsAt w R r) (hlen:R.length < 1099511627776):
 Calls Tryz.prog 43 #[r] w λ e w'=> ∃v,e=.returned v/\RowO w' w.heap.size R v/\Below w.heap.size w w':=by
 obtain ⟨a,n,c,rfl,O,hm⟩:=hr.shape;have U:=hid hr.txt;obtain ⟨i0,W,M,L,K⟩:=info_parts Tryz.info35';rcases vals_src hr with ⟨rfl,rfl,rfl,rfl⟩ | ⟨T,rfl,F⟩
 . have C:=λ w'=> Lib.run_eql_slice_nil (P:=Tryz.prog) w' 59 35 none 0 0 0 0 Tryz.underlying59
   simp only [Option.isNone_none] at C;clear hr O hm hlen;go_enter Tryz.func43,Tryz.ntmps43;go_wp2;go_ret;exact ⟨_,rfl,⟨World.ownsRow_nil _ _ _ _,by simp⟩,zi⟩
 . have J:=hid O
   have q:=World.ownsRow_lit (e:=35) (size:=3) w #[] 0 lr (by simp) (by simp);have H:=one_flat R;have o:∀j u,(flat R)[j]? =some u->(w.alloc (.cells #[] 35)).cell? (T.add j)=some u:=by intro j u hu;have h1:=F j u hu;rw [World.cell?_alloc_lt _ _ _ (World.block_lt_of_cell? w _ h1)];exact h1
   have I:=hid o;have G:=hid hlen;have C:=λ w'=> Lib.run_eql_slice_nil (P:=Tryz.prog) w' 59 35 (some T) n c 0 0 Tryz.underlying59;simp only [Option.isNone_some] at C;clear hr O hm F o hlen;go_enter Tryz.func43,Tryz.ntmps43;go_wp2_with (at_builtin;go_loud (refine wpList_append_own _ rfl _ _ 59 rfl w.heap.size 35 i0 (.agg q0c) 3 32 Tryz.underlying59 W M L K rfl (by decide) _ 0 [] rfl q T n c (flat R) rfl ?c0 ?c1 ?c2 ?c3 ?c4 ?c5 ?_))
   case c0=> rw [length_flat];have:=J.out;omega
   case c1=> exact I
   case c2=> exact H
   case c3=> unfold maxLen;have:=J.out;have:=G.out;omega
   case c4=> have:=J.out;have:=G.out;omega
   intro V w' A D _;have H1:Hid (w'.ownsRow w.heap.size 35 3 V R.length (flat R)):=by
    show World.ownsRow _ _ _ _ _ _ _;have e:R.length=0+n:=by have:=J.out;omega
    rw [e];simpa using A
   have H2:Hid (Below w.heap.size w w'):=(zi.alloc lr _).grown D (by simp) (λ k hk=> (q.lt k hk).1);clear A D;go_wp2;go_ret;exact ⟨_,rfl,⟨H1,U⟩,H2⟩
structure Od where
 item:Int
 desc:Bool
def nilV:Vl:=⟨0,0,⟨#[]⟩⟩
def Od.k (o:Od):Nat:=(o.item - 1).toNat
def Od.c (o:Od) (x y:Rw):Int:=if o.desc then - cmpV (x.getD o.k nilV) (y.getD o.k nilV) else cmpV (x.getD o.k nilV) (y.getD o.k nilV)
def ordC:List Od->Rw->Rw->Int
 | [],x,y=> cmpR x y
 | o::os,x,y=> if o.c x y=0 then ordC os x y else o.c x y
theorem ordC_cons (o:Od) (os:List Od) (x y:Rw):ordC (o::os) x y=if o.c x y=0 then ordC os x y else o.c x y:=rfl
theorem odc_swap (o:Od) (x y:Rw):o.c y x= - o.c x y:=by
 unfold Od.c;rw [cmpV_swap];split <;> rfl
theorem ordC_swap (os:List Od) (x y:Rw):ordC os y x= - ordC os x y:=by
 induction os with
 | nil=> exact cmpR_swap x y
 | cons o os ih=>
  unfold ordC;rw [odc_swap,ih];by_cases h:o.c x y=0
  . simp [h]
  . rw [if_neg (by omega),if_neg h]
theorem cmpV_le {a b c:Vl} (h1:cmpV a b<=0) (h2:cmpV b c<=0):cmpV a c<=0/\(cmpV a c=0->cmpV a b=0/\cmpV b c=0):=by
 by_cases e1:cmpV a b=0
 . rw [cmpV_zero] at e1
   subst e1;exact ⟨h2,λ h=> ⟨cmpV_zero.2 rfl,h⟩⟩
 . by_cases e2:cmpV b c=0
   . rw [cmpV_zero] at e2
     subst e2;exact ⟨h1,λ h=> ⟨h,cmpV_zero.2 rfl⟩⟩
   . have:=cmpV_trans (a:=a) (b:=b) (c:=c) (by omega) (by omega)
     exact ⟨by omega,λ h=> by omega⟩
theorem odc_le {o:Od} {x y z:Rw} (h1:o.c x y<=0) (h2:o.c y z<=0):o.c x z<=0/\(o.c x z=0->o.c x y=0/\o.c y z=0):=by
 by_cases hd:o.desc
 . have e:∀a b,o.c a b=cmpV (b.getD o.k nilV) (a.getD o.k nilV):=λ a b=> by unfold Od.c;rw [if_pos hd,<-cmpV_swap]
   rw [e] at h1 h2;have:=cmpV_le h2 h1;rw [e,e,e];exact ⟨this.1,λ h=> (this.2 h).symm⟩
 . have e:∀a b,o.c a b=cmpV (a.getD o.k nilV) (b.getD o.k nilV):=λ a b=> by unfold Od.c;rw [if_neg hd]
   rw [e] at h1 h2;rw [e,e,e];exact cmpV_le h1 h2
theorem cmpR_le {a b c:Rw} (h1:cmpR a b<=0) (h2:cmpR b c<=0):cmpR a c<=0:=by
 by_cases e1:cmpR a b=0
 . rw [cmpR_zero] at e1;subst e1;exact h2
 . by_cases e2:cmpR b c=0
   . rw [cmpR_zero] at e2;subst e2;exact h1
   . have:=cmpR_trans (a:=a) (b:=b) (c:=c) (by omega) (by omega);omega
theorem ordC_le (os:List Od) {x y z:Rw} (h1:ordC os x y<=0) (h2:ordC os y z<=0):ordC os x z<=0:=by
 induction os with
 | nil=> exact cmpR_le h1 h2
 | cons o os ih=>
  rw [ordC_cons] at h1 h2 ⊢;have A:o.c x y<=0:=by split at h1 <;> omega
  have q:o.c y z<=0:=by split at h2 <;> omega
  obtain ⟨G,F⟩:=odc_le A q;by_cases h5:o.c x z=0
  . obtain ⟨D,C⟩:=F h5
    rw [if_pos h5];rw [if_pos D] at h1;rw [if_pos C] at h2;exact ih h1 h2
  . rw [if_neg h5];exact G
theorem ordC_zero {os:List Od} {x y:Rw} (h:ordC os x y=0):x=y:=by
 induction os with
 | nil=> exact cmpR_zero.1 h
 | cons o os ih=>
  unfold ordC at h;split at h
  . exact ih h
  . contradiction
theorem ordC_ord3 (os:List Od):Ord3 (cc (ordC os)):=
 ⟨λ x y=> by unfold cc;have:=ordC_swap os x.r y.r;omega,λ x y z h1 h2=> ordC_le os h1 h2⟩
theorem ordC_uniq (os:List Od):∀{l m:List Rw},l.Pairwise (λ x y=> ordC os x y<=0)->m.Pairwise (λ x y=> ordC os x y<=0)->l.Perm m->l=m:=by
 intro l
 induction l with
 | nil=> intro m _ _ h;exact h.nil_eq
 | cons x l ih=>
  intro m h1 o h
  match m with
  | []=> exact absurd h.symm.nil_eq (by simp)
  | y::m=>
   obtain ⟨a1,a2⟩:=pairwise_cons.1 h1;obtain ⟨q,b2⟩:=pairwise_cons.1 o;have C:ordC os x y<=0:=by
    rcases mem_cons.1 (h.mem_iff.2 (List.mem_cons_self ..):y∈x::l) with e | e
    . subst e;have:=ordC_swap os y y;omega
    . exact a1 y e
   have A:ordC os y x<=0:=by
    rcases mem_cons.1 (h.mem_iff.1 (List.mem_cons_self ..):x∈y::m) with e | e
    . subst e;have:=ordC_swap os x x;omega
    . exact q x e
   have e:x=y:=ordC_zero (os:=os) (by have:=ordC_swap os x y;omega);subst e;rw [ih a2 b2 (h.cons_inv)]
inductive OrdsAt (w:World):List Od->Value->Prop where
 | mt {a:Option Addr} {c:Nat}:OrdsAt w [] (qs a 0 c)
 | lie (os:List Od) (b o n cap:Nat) (hn:n=os.length) (hlt:b < w.heap.size) (hm:n<=maxLen)
  (hc:∀i (h:i < os.length),w.cell? ⟨b,o+i * 2,none⟩=some (qi os[i].item)/\w.cell? ⟨b,o+i * 2+1,none⟩=some (.bool os[i].desc)):OrdsAt w os (qs (some ⟨b,o,none⟩) n cap)
theorem OrdsAt.mono {w w':World} {os:List Od} {s:Value} (h:OrdsAt w os s) (hb:Below w.heap.size w w'):OrdsAt w' os s:=by
 cases h with
 | mt=> exact .mt
 | lie _ b o n cap hn hlt hm hc=> exact .lie _ b o n cap hn (lt_of_lt_of_le hlt hb.size) hm λ i h=> ⟨(hb.cell (p:=⟨b,_,none⟩) hlt).trans (hc i h).1,(hb.cell (p:=⟨b,_,none⟩) hlt).trans (hc i h).2⟩
theorem OrdsAt.shape {w:World} {os:List Od} {s:Value} (h:OrdsAt w os s):∃a n c,s=qs a n c/\n=os.length/\n<=maxLen:=by
 cases h with
 | mt=> exact ⟨_,_,_,rfl,rfl,by simp⟩
 | lie _ b o n cap hn hlt hm hc=> exact ⟨_,_,_,rfl,hn,hm⟩
theorem OrdsAt.at {w:World} {os:List Od} {a:Option Addr} {n c:Nat} (h:OrdsAt w os (qs a n c)) (i:Nat) (hi:i < os.length):∃b o,a=some ⟨b,o,none⟩/\b < w.heap.size/\w.cell? ⟨b,o+i * 2,none⟩=some (qi os[i].item)/\w.cell? ⟨b,o+i * 2+1,none⟩=some (.bool os[i].desc):=by
 cases h with
 | mt=> simp at hi
 | lie _ b o n cap hn hlt hm hc=> exact ⟨b,o,rfl,hlt,hc i hi⟩
def OrdsFit (os:List Od) (n:Nat):Prop:=∀o∈os,1<=o.item/\o.item<=n
theorem ordC_drop {os:List Od} {k:Nat} (h:k < os.length) (x y:Rw):ordC (os.drop k) x y=if (os[k]).c x y=0 then ordC (os.drop (k+1)) x y else (os[k]).c x y:=by
 rw [drop_eq_getElem_cons h];rfl
theorem RowsOwn.set {w:World} {B g n c:Nat} {L:List Rw} (h:RowsOwn w B L (qs (some ⟨g,0,none⟩) n c)) (k:Nat) {r:Rw} {y:Value} (hy:ValsAt w r y) (hf:Far w B y):
 RowsOwn (w.setCell ⟨g,k,none⟩ y) B (L.set k r) (qs (some ⟨g,0,none⟩) n c):=by
 obtain ⟨J,h1,H,G⟩:=h;have q:L.length=n:=by
  rcases h1.2 with ⟨e,_⟩ | ⟨_,_,_,e,_⟩
  . simp at e
  . injection e with _ e2;exact e2.symm
 rw [q] at h1;obtain ⟨F,D⟩:=h1.stored k y;have o:w.grownBy (w.setCell ⟨g,k,none⟩ y) (qs (some ⟨g,0,none⟩) n c).ownBlock:=D;have A:=H.grown G h1 o;have I:=hy.grown hf h1 o;refine ⟨J.set k y,by rw [List.length_set,q];exact F,?_,λ x C=> ?_⟩
 . generalize w.setCell ⟨g,k,none⟩ y=w' at *
   clear F D o h1 H G q;obtain ⟨A,-⟩:=A
   induction A generalizing k with
   | nil=> exact .nil
   | cons a b ih=>
    cases k with
    | zero=> exact .cons I.1 b
    | succ k=> exact .cons a (ih k)
 . rcases List.mem_or_eq_of_mem_set C with C | rfl
   . exact A.2 x C
   . exact I.2
theorem RowsOwn.cellAt {w:World} {B g n c:Nat} {L:List Rw} (h:RowsOwn w B L (qs (some ⟨g,0,none⟩) n c)) (k:Nat) (hk:k < n):∃x,w.cell? ⟨g,k,none⟩=some x/\w.frozen? ⟨g,k,none⟩=false/\g < w.heap.size/\L.length=n:=by
 obtain ⟨A,h1,D,C⟩:=h;have o:L.length=n:=by
  rcases h1.2 with ⟨e,_⟩ | ⟨_,_,_,e,_⟩
  . simp at e
  . injection e with _ e2;exact e2.symm
 rw [o] at h1;have hl:=h1.1;have q:=h1.cellAt k (by omega);rw [getElem?_eq_getElem (by omega)] at q;exact ⟨_,q,h1.frozenAt k,World.block_lt_of_cell? w _ q,o⟩
theorem rowsOwn_made {w:World} {B n:Nat} {v:Value} (h:w.ownsRow B 60 1 v n (madeCells (q0).cells (n * 1)).toList):RowsOwn w B (List.replicate n []) v:=by
 have e:(madeCells (q0).cells (n * 1)).toList=List.replicate n (q0):=by rw [Nat.mul_one];exact toList_madeCells_one _ _
 rw [e] at h;refine ⟨_,by rw [List.length_replicate];exact h,?_,λ x hx=> ?_⟩
 . clear h e
   induction n with
   | zero=> exact .nil
   | succ n ih=> rw [List.replicate_succ,List.replicate_succ];exact .cons .mt ih
 . rw [List.eq_of_mem_replicate hx]
   intro C q A o;injection o with h1;cases h1
theorem rowVs_cels {w:World} {L:List Rw} {xs:List Value} (h:RowVs w L xs):∃d:List Cel,d.map Cel.v=xs/\d.map Cel.r=L/\∀x∈d,ValsAt w x.r x.v:=by
 induction h with
 | nil=> exact ⟨[],rfl,rfl,by simp⟩
 | cons a _ ih=>
  obtain ⟨d,h1,A,q⟩:=ih;obtain ⟨b,n,c,rfl,_,_⟩:=a.shape;refine ⟨⟨_,b,n,c⟩::d,by rw [map_cons,h1];rfl,by rw [map_cons,A],λ x o=> ?_⟩;rcases mem_cons.1 o with rfl | o
  . exact a
  . exact q x o
theorem cels_rowVs {w:World} {d:List Cel} (h:∀x∈d,ValsAt w x.r x.v):RowVs w (d.map Cel.r) (d.map Cel.v):=by
 induction d with
 | nil=> exact .nil
 | cons x d ih=> exact .cons (h x (by simp)) (ih λ y hy=> h y (mem_cons_of_mem _ hy))
def insO (os:List Od) (x:Rw):List Rw->List Rw
 | []=> [x]
 | y::l=> if ordC os x y < 0 then x::y::l else y::insO os x l
def sortL (os:List Od) (L:List Rw):List Rw:=L.foldl (λ l x=> insO os x l) []
theorem insO_perm (os:List Od) (x:Rw):∀l,(insO os x l).Perm (x::l)
 | []=> List.Perm.refl _
 | y::l=> by
  unfold insO;split
  . exact List.Perm.refl _
  . exact ((insO_perm os x l).cons y).trans (List.Perm.swap _ _ _)
theorem insO_asc (os:List Od) (x:Rw):∀{l:List Rw},l.Pairwise (λ x y=> ordC os x y<=0)->(insO os x l).Pairwise (λ x y=> ordC os x y<=0)
 | [],_=> List.pairwise_singleton _ _
 | y::l,h=> by
  obtain ⟨h1,A⟩:=pairwise_cons.1 h;unfold insO;split
  . rename_i q
    refine pairwise_cons.2 ⟨λ z o=> ?_,h⟩;rcases mem_cons.1 o with rfl | o
    . omega
    . exact ordC_le os (by omega) (h1 z o)
  . rename_i q
    refine pairwise_cons.2 ⟨λ z o=> ?_,insO_asc os x A⟩;rcases mem_cons.1 ((insO_perm os x l).mem_iff.1 o) with rfl | o
    . have:=ordC_swap os z y;omega
    . exact h1 z o
theorem sortL_spec (os:List Od) (L:List Rw):(sortL os L).Pairwise (λ x y=> ordC os x y<=0)/\(sortL os L).Perm L:=by
 have:∀(L l:List Rw),l.Pairwise (λ x y=> ordC os x y<=0)->(L.foldl (λ l x=> insO os x l) l).Pairwise (λ x y=> ordC os x y<=0)/\(L.foldl (λ l x=> insO os x l) l).Perm (l++L):=by
  intro L
  induction L with
  | nil=> intro l h;exact ⟨h,by simp⟩
  | cons x L ih=>
   intro l h;obtain ⟨h1,o⟩:=ih _ (insO_asc os x h);refine ⟨h1,o.trans ?_⟩;have:=(insO_perm os x l).append_right L;exact this.trans List.perm_middle.symm
 have h:=this L [] List.Pairwise.nil;exact ⟨h.1,by have o:=h.2;rw [nil_append] at o;exact o⟩
theorem sortL_eq (os:List Od) {X Z:List Cel} (ha:AscC (cc (ordC os)) Z) (he:StEq (cc (ordC os)) X Z):Z.map Cel.r=sortL os (X.map Cel.r):=by
 obtain ⟨h1,o⟩:=sortL_spec os (X.map Cel.r);refine ordC_uniq os ?_ h1 ?_
 . rw [List.pairwise_map];exact ha
 . exact (((he.perm (ordC_ord3 os)).map Cel.r).symm).trans o.symm
def forwardK (ops:Array Oper):Bool:=(List.range ops.size).all λ i=> match ops[i]? with
 | none=> true
 | some o=> o.after.toList.all λ e=> !Region.binds .any e || decide (e.on < i)
theorem forwardK_of {ops:Array Oper} (h:forwardK ops=true) {i:Nat} {o:Oper} (ho:ops[i]? =some o):∀e∈o.after,Region.binds .any e=true->e.on < i:=by
 intro e he q;have hi:=(Array.getElem?_eq_some_iff.1 ho).1;have h1:=all_eq_true.1 h i (by simpa using hi);simp only [ho] at h1;have A:=all_eq_true.1 h1 e (by simpa using he);simpa [q] using A
theorem readyK_nil {ops:Array Oper} {listed:Array Bool} (hf:forwardK ops=true) (hs:listed.size=ops.size) (h:Region.ready .any ops listed=[]):∀i,i < ops.size->listed.getD i false=true:=by
 intro i
 induction i using Nat.strongRecOn with
 | ind i ih=>
  intro hi;apply Classical.byContradiction;intro A;have o:i∈Region.ready .any ops listed:=by
   refine mem_ready.2 ⟨?_,ops[i],Array.getElem?_eq_getElem hi,λ e he hb=> ?_⟩
   . have:i < listed.size:=by omega
     simp [Array.getD,this] at A ⊢;exact A
   . have q:=forwardK_of hf (Array.getElem?_eq_getElem hi) e he hb
     exact ih e.on q (by omega)
  rw [h] at o;cases o
def left (listed:Array Bool):Nat:=listed.toList.count false
theorem left_set {listed:Array Bool} {i:Nat} (hi:i < listed.size) (h:listed.getD i false=false):left (listed.setIfInBounds i true)+1=left listed:=by
 unfold left;have o:listed.toList[i]'(by simpa using hi)=false:=by simpa [Array.getD,hi] using h
 have q:0 < listed.toList.count false:=List.count_pos_iff.2 (by rw [<-o];exact getElem_mem _);rw [Array.toList_setIfInBounds,List.count_set (by simpa using hi)];rw [o];have C:(false==false)=true:=rfl;have A:(true==false)=false:=rfl;rw [C,A];simp only [if_true,Bool.false_eq_true,if_false];omega
theorem wpAnyH_inv {P:Program} {ops:Array Oper} {Q:Exit->Act->World->Prop} {Inv:(Nat->Bool)->Act->World->Prop} (hf:forwardK ops=true)
 (hstep:∀(i:Nat) (o:Oper) (L:Nat->Bool) (a:Act) (w:World),ops[i]? =some o->L i=false->(∀e∈o.after,Region.binds .any e=true->L e.on=true)->Inv L a w->wpOp P ops Q i (λ a' w'=> Inv (λ j=> L j || decide (j=i)) a' w') a w)
 (hend:∀(L:Nat->Bool) (a:Act) (w:World),(∀i,i < ops.size->L i=true)->Inv L a w->Q .normal a w):
 ∀(fuel:Nat) (listed:Array Bool) (a:Act) (w:World),listed.size=ops.size->left listed<=fuel->Inv (λ j=> listed.getD j false) a w->wpAnyH P .any ops Q (λ _=> True) fuel listed a w
 | 0,listed,a,w,hs,hl,hI=> by
  have G:Region.ready .any ops listed=[]:=by
   rw [List.eq_nil_iff_forall_not_mem];intro j H;obtain ⟨D,I,A,_⟩:=mem_ready.1 H;have q:j < listed.size:=by have:=(Array.getElem?_eq_some_iff.1 A).1;omega
   have:0 < listed.toList.count false:=List.count_pos_iff.2 (by
    have J:listed.toList[j]'(by simpa using q)=false:=by simpa [Array.getD,q] using D
    rw [<-J];exact getElem_mem _)
   unfold left at hl;omega
  exact wpAnyH_done G (hend _ _ _ (readyK_nil hf hs G) hI) 0
 | fuel+1,listed,a,w,hs,hl,hI=> by
  refine ⟨λ G=> hend _ _ _ (readyK_nil hf hs G) hI,λ j H=> ?_⟩;obtain ⟨D,I,A,F⟩:=mem_ready.1 H;have q:j < listed.size:=by have:=(Array.getElem?_eq_some_iff.1 A).1;omega
  have C:listed.getD j false=false:=by simpa [Array.getD,q] using D
  refine wpOp_mono (λ a' w' h'=> ⟨trivial,wpAnyH_inv hf hstep hend fuel (listed.setIfInBounds j true) a' w' (by simpa using hs) ?_ ?_⟩) (hstep j I (λ j=> listed.getD j false) a w A C F hI)
  . have:=left_set q C
    omega
  . have:(λ k=> (listed.setIfInBounds j true).getD k false)=λ k=> listed.getD k false || decide (k=j):=by
     funext k;by_cases hk:k=j
     . subst hk
       simp [Array.getD,q]
     . rw [getD_set_ne false (λ h=> hk h.symm)]
       simp [hk]
    rw [this];exact h'
theorem wp_region_inv {P:Program} {id:Nat} {ops ops':Array Oper} {Q:Exit->Act->World->Prop} {a:Act} {w:World} (Inv:(Nat->Bool)->Act->World->Prop) (he:ops=ops') (hm:P.follows .mixedOrders=true) (hf:forwardK ops'=true)
 (h0:Inv (λ _=> false) a w.drew)
 (hstep:∀(i:Nat) (o:Oper) (L:Nat->Bool) (a:Act) (w:World),ops'[i]? =some o->L i=false->(∀e∈o.after,Region.binds .any e=true->L e.on=true)->Inv L a w->wpOp P ops' (NoPanic Q) i (λ a' w'=> Inv (λ j=> L j || decide (j=i)) a' w') a w)
 (hend:∀(L:Nat->Bool) (a:Act) (w:World),(∀i,i < ops'.size->L i=true)->Inv L a w->NoPanic Q .normal a w):(Code.region id ops true).wp P Q a w:=by
 subst he;refine wp_region_noPanic (wp_region_held (S:=λ _=> True) hm (wpAnyH_inv hf hstep hend _ _ _ _ (by simp) ?_ ?_))
 . unfold left
   exact le_trans List.count_le_length (by simp)
 . have:(λ j=> (Array.replicate ops.size false).getD j false)=λ _=> false:=by
    funext j;simp [Array.getD]
   rw [this];exact h0
theorem inv_value {P:Program} {ops:Array Oper} {Q:Exit->Act->World->Prop} {K:Act->World->Prop} {i:Nat} {a:Act} {w w':World} {o:Oper} {v:Value} (ho:ops[i]? =some o) (hw:Region.wanted o (yielded ops a.tmps)=true)
 (hc:(execOp a.eval o).run P w=.ok (.value v) w') (h:K (a.put o.dst v) w'):wpOp P ops Q i K a w:=by
 unfold wpOp;simp only [ho,hw,if_true,Oper.wp,hc,Oper.upon];exact .inl h
theorem inv_call {P:Program} {ops:Array Oper} {Q:Exit->Act->World->Prop} {K:Act->World->Prop} {i:Nat} {a:Act} {w:World} {o:Oper} {f:FuncId} {args:Array Value} {R:Ending->World->Prop} (ho:ops[i]? =some o) (hw:Region.wanted o (yielded ops a.tmps)=true)
 (hc:(execOp a.eval o).run P w=.ok (.enter f args) w) (hR:Calls P f args w R) (h:∀e w',R e w'->∃v,e=.returned v/\K (a.put o.dst v) w'):wpOp P ops Q i K a w:=by
 unfold wpOp;simp only [ho,hw,if_true,Oper.wp,hc,Oper.upon];refine .inl (hR.mono λ e w' hr=> ?_);obtain ⟨v,rfl,q⟩:=h e w' hr;exact q
theorem inv_step {P:Program} {ops:Array Oper} {Q:Exit->Act->World->Prop} {K:Act->World->Prop} {i:Nat} {a:Act} {w:World} {o:Oper} (ho:ops[i]? =some o) (hw:Region.wanted o (yielded ops a.tmps)=true)
 (h:∀K':Act->World->Prop,Shut (∀a w,K a w->K' a w)->o.wp P a w K' Q):wpOp P ops Q i K a w:=by
 unfold wpOp;simp only [ho,hw,if_true];exact .inl (h _ (λ a w h=> h))
theorem val_set_ne {t:Array Value} {k j:Nat} {v:Value} (h:k≠j):(t.setIfInBounds k v).getD j undef=t.getD j undef:=by
 simp [Array.getD_eq_getD_getElem?,h]
structure FrameLike (a0 a:Act) (ks:List Nat):Prop where
 defers:a.defers=a0.defers
 size:a.tmps.size=a0.tmps.size
 same:∀k,k ∉ ks->a.tmps.getD k undef=a0.tmps.getD k undef
theorem FrameLike.refl (a:Act) (ks:List Nat):FrameLike a a ks:=⟨rfl,rfl,λ _ _=> rfl⟩
theorem FrameLike.put {a0 a:Act} {ks:List Nat} (h:FrameLike a0 a ks) {k:Nat} (hk:k∈ks) (v:Value):FrameLike a0 (a.put (some k) v) ks:=
 ⟨h.defers,by simpa [Act.put] using h.size,λ j hj=> by have o:k≠j:=λ e=> hj (e ▸ hk);show (a.tmps.setIfInBounds k v).getD j undef=_;rw [val_set_ne o];exact h.same j hj⟩
theorem eval_put_same {a:Act} {k:Nat} {v:Value} (h:k < a.tmps.size):(a.put (some k) v).eval (.tmp k)=v:=by
 show (a.tmps.setIfInBounds k v).getD k undef=v;simp [Array.getD,h]
theorem eval_put_ne {a:Act} {k j:Nat} {v:Value} (h:j≠k):(a.put (some j) v).eval (.tmp k)=a.eval (.tmp k):=by
 show (a.tmps.setIfInBounds j v).getD k undef=a.tmps.getD k undef;exact val_set_ne h
def putK (a:Act) (l:List (Nat×Value)):Act:=l.foldl (λ a p=> a.put (some p.1) p.2) a
theorem FrameLike.eq {a:Act}:∀{ks:List Nat} {a0:Act},FrameLike a0 a ks->a=putK a0 (ks.map λ k=> (k,a.eval (.tmp k)))
 | [],a0,h=> by
  obtain ⟨q,F⟩:=a0;obtain ⟨t,d⟩:=a;have h1:d=F:=h.defers;subst h1;have o:t.size=q.size:=h.size;have D:t=q:=by apply Array.ext o;intro i C A;have:=h.same i (by simp);simpa [Array.getD,C,A] using this
  rw [D];rfl
 | k::ks,a0,h=> by
  have h1:FrameLike (a0.put (some k) (a.eval (.tmp k))) a ks:=by
   refine ⟨h.defers,by simpa [Act.put] using h.size,λ j hj=> ?_⟩;show _=(a0.tmps.setIfInBounds k _).getD j undef;by_cases hjk:k=j
   . subst hjk
     by_cases hlt:k < a0.tmps.size
     . have:(a0.tmps.setIfInBounds k (a.eval (.tmp k))).getD k undef=a.eval (.tmp k):=by simp [Array.getD,hlt]
       rw [this];rfl
     . have h1:¬ k < a.tmps.size:=by rw [h.size];exact hlt
       simp [Array.getD,hlt,h1]
   . rw [val_set_ne hjk]
     exact h.same j (by simp [hj,Ne.symm hjk])
  have o:=FrameLike.eq (ks:=ks) (a0:=a0.put (some k) (a.eval (.tmp k))) h1;exact o
theorem eval_spell {a:Act} {k:Nat} {v:Value} (h:a.eval (.tmp k)=v):a.tmps[k]?.getD undef=v:=by
 rw [<-h];show _=a.tmps.getD k undef;rw [Array.getD_eq_getD_getElem?]
structure RInv (ops:Array Oper) (a0:Act) (ks:List Nat) (vals:List (Nat×Nat×Value)) (E:(Nat->Bool)->(Nat->Value)->World->Prop) (L:Nat->Bool) (a:Act) (w:World):Prop where
 frame:FrameLike a0 a ks
 vals:∀t∈vals,L t.1=true->a.eval (.tmp t.2.1)=t.2.2
 down:∀j o,ops[j]? =some o->L j=true->∀e∈o.after,Region.binds .any e=true->L e.on=true
 eff:E L (λ d=> a.eval (.tmp d)) w
def Looks (E:(Nat->Bool)->(Nat->Value)->World->Prop) (effs ds:List Nat):Prop:=
 ∀L L' g g' w,(∀k∈effs,L k=L' k)->(∀d∈ds,g d=g' d)->E L g w->E L' g' w
theorem down_step {ops:Array Oper} {L:Nat->Bool} {i:Nat} {o:Oper} (hd:∀j o,ops[j]? =some o->L j=true->∀e∈o.after,Region.binds .any e=true->L e.on=true) (ho:ops[i]? =some o)
 (h:∀e∈o.after,Region.binds .any e=true->L e.on=true):∀j o,ops[j]? =some o->(L j || decide (j=i))=true->∀e∈o.after,Region.binds .any e=true->(L e.on || decide (e.on=i))=true:=by
 intro j D q F e he C;by_cases hj:j=i
 . subst hj
   rw [ho] at q;injection q with q;subst q;rw [h e he C];rfl
 . have A:L j=true:=by simpa [hj] using F
   rw [hd j D q A e he C];rfl
theorem RInv.read {P:Program} {ops:Array Oper} {Q:Exit->Act->World->Prop} {a0 a:Act} {ks:List Nat} {vals:List (Nat×Nat×Value)} {E:(Nat->Bool)->(Nat->Value)->World->Prop} {L:Nat->Bool} {w:World} {effs ds:List Nat}
 (hI:RInv ops a0 ks vals E L a w) (hE:Looks E effs ds) (i d:Nat) (v:Value) {o:Oper} (ho:ops[i]? =some o) (hdst:o.dst=some d) (hw:Region.wanted o (yielded ops a.tmps)=true)
 (hdep:∀e∈o.after,Region.binds .any e=true->L e.on=true) (hks:d∈ks) (hlt:d < a0.tmps.size) (hni:i ∉ effs) (hnd:d ∉ ds)
 (hv:∀t∈vals,(t.1=i->t.2.1=d/\t.2.2=v)/\(t.1≠i->t.2.1≠d))
 (hc:(execOp a.eval o).run P w=.ok (.value v) w):wpOp P ops (NoPanic Q) i (λ a' w'=> RInv ops a0 ks vals E (λ j=> L j || decide (j=i)) a' w') a w:=by
 refine inv_value ho hw hc ?_;rw [hdst];have q:d < a.tmps.size:=by rw [hI.frame.size];exact hlt
 refine ⟨hI.frame.put hks v,λ t ht hL=> ?_,down_step hI.down ho hdep,hE _ _ _ _ _ (λ k hk=> ?_) (λ e he=> ?_) hI.eff⟩
 . obtain ⟨h1,D⟩:=hv t ht
   by_cases hti:t.1=i
   . obtain ⟨C,A⟩:=h1 hti
     rw [C,A];exact eval_put_same q
   . rw [eval_put_ne (λ e=> D hti e.symm)]
     exact hI.vals t ht (by simpa [hti] using hL)
 . have:k≠i:=λ e=> hni (e ▸ hk)
   simp [this]
 . exact (eval_put_ne (λ e'=> hnd (by rw [e'];exact he))).symm
theorem RInv.put {ops:Array Oper} {a0 a:Act} {ks:List Nat} {vals:List (Nat×Nat×Value)} {E:(Nat->Bool)->(Nat->Value)->World->Prop} {L:Nat->Bool} {w w':World}
 (hI:RInv ops a0 ks vals E L a w) (i d:Nat) (v:Value) {o:Oper} (ho:ops[i]? =some o) (hdep:∀e∈o.after,Region.binds .any e=true->L e.on=true) (hks:d∈ks)
 (hv:∀t∈vals,t.1≠i/\t.2.1≠d)
 (h:E (λ j=> L j || decide (j=i)) (λ e=> (a.put (some d) v).eval (.tmp e)) w'):RInv ops a0 ks vals E (λ j=> L j || decide (j=i)) (a.put (some d) v) w':=by
 refine ⟨hI.frame.put hks v,λ t ht hL=> ?_,down_step hI.down ho hdep,h⟩;obtain ⟨h1,q⟩:=hv t ht;rw [eval_put_ne (λ e=> q e.symm)];exact hI.vals t ht (by simpa [h1] using hL)
theorem RInv.step {ops:Array Oper} {a0 a:Act} {ks:List Nat} {vals:List (Nat×Nat×Value)} {E:(Nat->Bool)->(Nat->Value)->World->Prop} {L:Nat->Bool} {w w':World}
 (hI:RInv ops a0 ks vals E L a w) (i:Nat) {o:Oper} (ho:ops[i]? =some o) (hdep:∀e∈o.after,Region.binds .any e=true->L e.on=true)
 (hv:∀t∈vals,t.1≠i) (h:E (λ j=> L j || decide (j=i)) (λ e=> a.eval (.tmp e)) w'):RInv ops a0 ks vals E (λ j=> L j || decide (j=i)) a w':=
 ⟨hI.frame,λ t ht hL=> hI.vals t ht (by simpa [hv t ht] using hL),down_step hI.down ho hdep,h⟩
theorem RInv.val {ops:Array Oper} {a0 a:Act} {ks:List Nat} {vals:List (Nat×Nat×Value)} {E:(Nat->Bool)->(Nat->Value)->World->Prop} {L:Nat->Bool} {w:World}
 (hI:RInv ops a0 ks vals E L a w) (i d:Nat) (v:Value) (ht:(i,d,v)∈vals) (hL:L i=true):a.tmps[d]?.getD undef=v:=eval_spell (hI.vals (i,d,v) ht hL)
theorem RInv.old {ops:Array Oper} {a0 a:Act} {ks:List Nat} {vals:List (Nat×Nat×Value)} {E:(Nat->Bool)->(Nat->Value)->World->Prop} {L:Nat->Bool} {w:World}
 (hI:RInv ops a0 ks vals E L a w) (d:Nat) (v:Value) (hd:d ∉ ks) (h0:a0.eval (.tmp d)=v):a.tmps[d]?.getD undef=v:=eval_spell ((hI.frame.same d hd).trans h0)
theorem wp_region_vals {P:Program} {id:Nat} {ops ops':Array Oper} {Q:Exit->Act->World->Prop} {a:Act} {w:World} (ks:List Nat) (vals:List (Nat×Nat×Value)) (E:(Nat->Bool)->(Nat->Value)->World->Prop) (he:ops=ops') (hm:P.follows .mixedOrders=true) (hf:forwardK ops'=true)
 (h0:E (λ _=> false) (λ d=> a.eval (.tmp d)) w.drew)
 (hstep:∀(i:Nat) (o:Oper) (L:Nat->Bool) (a1:Act) (w:World),ops'[i]? =some o->L i=false->(∀e∈o.after,Region.binds .any e=true->L e.on=true)->RInv ops' a ks vals E L a1 w->wpOp P ops' (NoPanic Q) i (λ a' w'=> RInv ops' a ks vals E (λ j=> L j || decide (j=i)) a' w') a1 w)
 (hend:∀(L:Nat->Bool) (a1:Act) (w:World),(∀i,i < ops'.size->L i=true)->RInv ops' a ks vals E L a1 w->NoPanic Q .normal a1 w):(Code.region id ops true).wp P Q a w:=
 wp_region_inv (λ L a1 w1=> RInv ops' a ks vals E L a1 w1) he hm hf ⟨FrameLike.refl _ _,λ _ _ h=> (nomatch h),λ _ _ _ h=> (nomatch h),h0⟩ hstep hend
def opsOf:Code->Nat->Option (Array Oper)
 | .region id ops _,n=> if id=n then some ops else none
 | .seq a b,n=> match opsOf a n with | some r=> some r | none=> opsOf b n
 | .cond _ a b,n=> match opsOf a n with | some r=> some r | none=> opsOf b n
 | .block _ c,n=> opsOf c n
 | .loop c,n=> opsOf c n
 | .rangeFunc _ _ a b,n=> match opsOf a n with | some r=> some r | none=> opsOf b n
 | .scope c,n=> opsOf c n
 | _,_=> none
def waitsB (ops:Array Oper) (i j:Nat):Bool:=match ops[i]? with
 | some o=> o.after.any λ e=> Region.binds .any e && e.on==j
 | none=> false
theorem waits_of {ops:Array Oper} {i j:Nat} (h:waitsB ops i j=true):∃o e,ops[i]? =some o/\e∈o.after/\Region.binds .any e=true/\e.on=j:=by
 unfold waitsB at h;split at h
 . rename_i o ho
   obtain ⟨k,C,he⟩:=Array.any_iff_exists.1 h;obtain ⟨A,_,q⟩:=he;simp only [Bool.and_eq_true,beq_iff_eq] at q;exact ⟨o,_,ho,Array.getElem_mem _,q.1,q.2⟩
 . cases h
theorem RInv.no {ops:Array Oper} {a0 a:Act} {ks:List Nat} {vals:List (Nat×Nat×Value)} {E:(Nat->Bool)->(Nat->Value)->World->Prop} {L:Nat->Bool} {w:World}
 (hI:RInv ops a0 ks vals E L a w) {i j:Nat} (hL:L i=false) (h:waitsB ops j i=true):L j=false:=by
 obtain ⟨o,e,h1,C,A,q⟩:=waits_of h;cases hj:L j
 . rfl
 . rw [<-q,hI.down j o h1 hj e C A] at hL
   cases hL
theorem dep_of {ops:Array Oper} {L:Nat->Bool} {i j:Nat} {o:Oper} (ho:ops[i]? =some o) (hdep:∀e∈o.after,Region.binds .any e=true->L e.on=true) (h:waitsB ops i j=true):L j=true:=by
 obtain ⟨D,e,h1,C,A,q⟩:=waits_of h;rw [ho] at h1;injection h1 with h1;subst h1;rw [<-q];exact hdep e C A
theorem nodup_at {α:Type} {l:List α} (h:l.Nodup) {i j:Nat} {x:α} (hi:l[i]? =some x) (hj:l[j]? =some x):i=j:=by
 obtain ⟨h1,q⟩:=List.getElem?_eq_some_iff.1 hi;obtain ⟨A,o⟩:=List.getElem?_eq_some_iff.1 hj;exact (List.getElem_inj (h:=h) ).1 (q.trans o.symm)
theorem vals_at {vals:List (Nat×Nat×Value)} (h1:(vals.map (·.1)).Nodup) (h2:(vals.map (·.2.1)).Nodup) (m:Nat) {i d:Nat} {v:Value} (hm:vals[m]? =some (i,d,v)):∀t∈vals,(t.1=i->t.2.1=d/\t.2.2=v)/\(t.1≠i->t.2.1≠d):=by
 intro t ht;obtain ⟨j,o⟩:=List.getElem?_of_mem ht;refine ⟨λ e=> ?_,λ hne e=> ?_⟩
 . have:m=j:=nodup_at h1 (x:=i) (by rw [List.getElem?_map,hm];rfl) (by rw [List.getElem?_map,o];exact congrArg some e)
   subst this;rw [hm] at o;injection o with o;subst o;exact ⟨rfl,rfl⟩
 . have:m=j:=nodup_at h2 (x:=d) (by rw [List.getElem?_map,hm];rfl) (by rw [List.getElem?_map,o];exact congrArg some e)
   subst this;rw [hm] at o;injection o with o;subst o;exact hne rfl
theorem vals_ne1 {vals:List (Nat×Nat×Value)} {l1:List Nat} {i:Nat} (h1:vals.map (·.1)=l1) (hi:i ∉ l1) {t:Nat×Nat×Value} (ht:t∈vals):t.1≠i:=by
 intro e;refine hi ?_;rw [<-h1,<-e];exact List.mem_map.2 ⟨t,ht,rfl⟩
theorem vals_ne2 {vals:List (Nat×Nat×Value)} {l1 l2:List Nat} {i d:Nat} (h1:vals.map (·.1)=l1) (h2:vals.map (·.2.1)=l2) (hi:i ∉ l1) (hd:d ∉ l2) {t:Nat×Nat×Value} (ht:t∈vals):t.1≠i/\t.2.1≠d:=by
 refine ⟨vals_ne1 h1 hi ht,λ e=> hd ?_⟩;rw [<-h2,<-e];exact List.mem_map.2 ⟨t,ht,rfl⟩
section
attribute [local go_sem] Oper.semAt_some
theorem fins_succ {n k:Nat} (h:k < n):(List.finRange n).take (k+1)=(List.finRange n).take k++[⟨k,h⟩]:=by
 rw [take_succ_eq_append_getElem (by simpa using h)];simp
theorem values1_in (m:Nat) (hm:1<=m) (l bx n b o c:Nat) (n₀:Nat) (xa:Nat->Option Addr) (xn xc:Nat->Nat) (hb:b < n₀) (hn:n < 1099511627776) (J Jx:List (Fin n)->World->Prop)
 (hY:∀(pre:List (Fin n)) (x:Fin n) (W:World),J pre W->pre.length < n->YieldAt Fence.wide (m - 1) Tryz.prog l #[qs (xa x) (xn x) (xc x)] W λ e W'=>
  (e=.returned (.bool true)/\J (pre++[x]) W'/\Below n₀ W W')\/(e=.returned (.bool false)/\Jx (pre++[x]) W'))
 (W:World) (hBs:W.cell? ⟨bx,0,none⟩=some (qs (some ⟨b,o,none⟩) n c)) (hc:∀j,j < n->W.cell? ⟨b,o+j,none⟩=some (qs (xa j) (xn j) (xc j))) (h0:J [] W):
 CallsIn Fence.wide m Tryz.prog 38 #[.func (.yield l) #[] #[],.pointer (some ⟨bx,0,none⟩)] W λ e W'=> (∃v,e=.returned v)/\
  ((∃ys,ys=List.finRange n/\J ys W')\/(∃pre,True/\Jx pre W')):=by
 refine callsIn_of_wp Tryz.func38 rfl trivial ?_ rfl;simp only [Tryz.ntmps38,List.size_toArray,length_cons,length_nil,Nat.reduceAdd,Nat.reduceSub,Array.replicate_succ,Array.replicate_zero,List.push_toArray,List.append_toArray,nil_append,cons_append]
 gi_wp2
 gi_loopw [7] (λ i wr=> ∃k:Nat,k<=n/\i=qi k/\J ((List.finRange n).take k) wr/\Below n₀ W wr)
  (λ i _=> n - (intOf i).toNat)
 case atStart=> exact ⟨0,zero_le _,rfl,by simpa using h0,zi⟩
 case round=>
  obtain ⟨k,L,rfl,C,q⟩:=hrel;by_cases hlt:k < n
  . have G:wr.cell? ⟨b,o+k,none⟩=some (qs (xa k) (xn k) (xc k)):=(q.cell (p:=⟨b,o+k,none⟩) hb).trans (hc k hlt)
    obtain ⟨fn,tmps,assign,body,H,K⟩:=hY _ ⟨k,hlt⟩ wr C (by rw [length_take];omega);dsimp only at H;have I:=fins_succ hlt
    gi_wp2
    refine K.mono ?_;rintro e M (⟨rfl,F,D⟩ | ⟨rfl,A⟩)
    . gi_wp2
      go_roundw
      case rel=> exact ⟨k+1,by omega,by simp,by rw [I];exact F,q.trans D⟩
      case measure=> simp [intOf];omega
    . gi_wp2
      refine bodyPost_ret (results_none rfl _ _ _) rfl ?_;exact ⟨⟨_,rfl⟩,.inr ⟨_,trivial,A⟩⟩
  . obtain rfl:k=n:=by omega
    gi_wp2
    go_end0;exact ⟨⟨_,rfl⟩,.inl ⟨_,rfl,by rwa [take_of_length_le (by simp)] at C⟩⟩
end
theorem want_g {ops:Array Oper} {o oj:Oper} {j d:Nat} {b:Bool} {tmps:Array Value} (hg:o.guard=some (j,b)) (hj:ops[j]? =some oj) (hd:oj.dst=some d) (hv:tmps[d]?.getD undef=.bool b):Region.wanted o (yielded ops tmps)=true:=by
 have h1:tmps[d]? =some (.bool b):=by
  cases h:tmps[d]? with
  | none=> rw [h] at hv;cases hv
  | some v=> rw [h] at hv;exact congrArg some hv
 unfold Region.wanted yielded;simp [hg,hj,hd,h1]
end
end Go.Proofs.YtcomoomndgbckaaGreat
