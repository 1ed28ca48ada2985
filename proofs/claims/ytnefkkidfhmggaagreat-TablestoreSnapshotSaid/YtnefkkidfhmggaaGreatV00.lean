/- Part 0 of the proof: K0, K1, P0, P1, P3, Vr, L0, S0, V0, V1, Tk, Tf -/
import Derived.ChangeArms
import Derived.ChangeAt
import Derived.Deep.Slices
import Derived.Laws.World
import GoSem.ClaimJoined
import Derived.Test.YtnefkkidfhmggaaGreatRows
import Derived.Below
import Derived.WalkKit
import Derived.ProofKit
import Derived.OpenShut
import Derived.Carry
import Derived.Deep.DeepHandedRow
import Derived.Lib.Bytealg
import Derived.WalkSpells
import Derived.Outline
import Derived.RowKit3
import Derived.OwnWalk
import Derived.Laws.OwnMore
import Derived.LoopTactic
import Derived.Lib.Hide
import Derived.Deep.RegionHeld3
import Derived.Deep.RegionLaw
import Derived.Deep.RegionWith
import Derived.IntWalk
import Derived.Deep.DeepCutAuto
import Derived.StillTailTactics
import Derived.Laws.AppendOwn
import Derived.Laws.AppendOwnNone
import Derived.Laws.CopyOwn
import Derived.Laws.CopyRow
import Derived.Lib.AppendZerosOnto
import Derived.Lib.Overlaps
import Derived.Lib.SliceRun
import Derived.Deep.Draws
set_option maxHeartbeats 16000000
set_option maxRecDepth 100000
noncomputable section
namespace Go.Proofs.YtnefkkidfhmggaaGreat
open Go.ChangeShapes Go.ChangeAt
section
variable {H:Type} {enc:TypeId×Value->H} {P:Program} {w:World} {held:Bool}
theorem spotless {w:World} {a:Addr} {v:Value} (h:w.cell? a=some v):a.spot=none/\a.block < w.heap.size:=by
 refine ⟨?_,World.block_lt_of_cell? w a h⟩;unfold World.cell? at h;split at h
 · split at h
   · cases h
   · rename_i hs;simpa using hs
 · cases h
theorem cells_at {w:World} {b o i sz:Nat} {cs:List Value} (h:w.cells? 0 (Addr.add ⟨b,o,none⟩ (i * sz)) sz=some cs):cs.length=sz/\∀j,j < sz->w.cell? ⟨b,o+i * sz+j,none⟩=cs[j]? :=by
 obtain ⟨_,hl,hc⟩:=World.cells?_some h;refine ⟨hl,λ j hj=> ?_⟩;have:=hc j hj;rw [Deep.add_add] at this;rw [<-this];unfold Addr.add;by_cases h0:i * sz+j=0
 · rw [if_pos h0];simp [Nat.add_assoc,h0]
 · rw [if_neg h0];simp [Nat.add_assoc]
theorem slice_read {t e:TypeId} {fuel sz:Nat} {cs:List Value} {x:DataW H×List MemPlace} (ht:P.underlying t=some (.slice e)) (hsz:P.cellsOf e=sz) (h0:0 < sz) (h:DataW.trod enc P w 0 (λ _=> true) held fuel t cs=some x):
 (∃a,cs=[.slice a 0 0])\/
 ∃(b o len cap n:Nat) (D:List (DataW H)) (R:List (DataW H)),cs=[.slice (some ⟨b,o,none⟩) len cap]/\b < w.heap.size/\len<=cap/\cap<=maxLen/\fuel=n+1/\x.1=.slice D R/\D.length=len/\
  ∀i (hi:i < D.length),∃cs' pl,cs'.length=sz/\(∀j,j < sz->w.cell? ⟨b,o+i * sz+j,none⟩=cs'[j]?)/\DataW.trod enc P w 0 (λ _=> true) held n e cs'=some (D[i],pl):=by
 rcases DataW.trod_slice ht h with ⟨rfl, -⟩ | ⟨a,len,cap,elems,rest,n,rfl,rfl,rfl, -,hl,hm,hlen,hel,hsp, -⟩
 · exact .inl ⟨none,rfl⟩
 by_cases hc0:cap=0
 · subst hc0
   obtain rfl:len=0:=by omega
   exact .inl ⟨some a,rfl⟩
 right;have hcell:∃v,w.cell? a=some v:=by
  have hread:∃cs',w.cells? 0 (a.add (0 * P.cellsOf e)) (P.cellsOf e)=some cs':=by
   by_cases hl0:len=0
   · subst hl0
     obtain ⟨hr,hj⟩:=hsp rfl;have h1:=hj 0 (by omega);rw [List.getElem?_eq_getElem (by omega)] at h1;obtain ⟨cs',h2,_⟩:=Option.bind_eq_some_iff.1 h1;exact ⟨cs',by simpa using h2⟩
   · have h1:=hel 0 (by omega)
     rw [List.getElem?_eq_getElem (by omega)] at h1;obtain ⟨cs',h2,_⟩:=Option.bind_eq_some_iff.1 h1;exact ⟨cs',h2⟩
  obtain ⟨cs',h1⟩:=hread;obtain ⟨_,hl',hc⟩:=World.cells?_some h1;have h2:=hc 0 (by omega);rw [List.getElem?_eq_getElem (by omega)] at h2;exact ⟨_,by simpa [Addr.add] using h2⟩
 obtain ⟨v,hv⟩:=hcell;obtain ⟨hs,hb⟩:=spotless hv;obtain ⟨b,o,sp⟩:=a;simp only at hs hb;subst hs;refine ⟨b,o,len,cap,n,elems.map (·.1),rest.map (·.1),rfl,hb,hl,hm,rfl,rfl,by simpa using hlen,λ i hi=> ?_⟩;have hi':i < elems.length:=by simpa using hi
 have h1:=hel i (by omega);rw [List.getElem?_eq_getElem hi'] at h1;obtain ⟨cs',h2,h3⟩:=Option.bind_eq_some_iff.1 h1;rw [hsz] at h2;obtain ⟨h4,h5⟩:=cells_at h2;exact ⟨cs',(elems[i]).2,h4,h5,by rw [h3];simp⟩
end
end Go.Proofs.YtnefkkidfhmggaaGreat
end
noncomputable section
namespace Go.Proofs.YtnefkkidfhmggaaGreat
open Go.ChangeShapes Go.WideShapes Go.ChangeAt Go.RowKit Go.WideMaps Go.WideElems
section
variable {H:Type} {enc:TypeId×Value->H} {P:Program}
theorem trodAll_stays {W W':World} {sp':Nat->Bool} (hl:laidOutB P=true):∀{ts:List TypeId} {vs:List Value} {ds:List (DataW H)} {ps:List MemPlace},(∀t∈ts,P.readableRec t=true/\t < P.types.size)->
 DataW.TrodAll enc P W 0 (λ _=> true) true ts vs ds ps->(∀p∈ps,W.sameAt W' p)->(∀p∈ps,sp' p.block=true)->DataW.TrodAll enc P W' 0 sp' true ts vs ds ps
 | [],vs,ds,ps,_,h,_,_=> by cases vs <;> cases ds <;> simp_all [DataW.TrodAll]
 | t::ts,vs,ds,ps,hr,h,hsame,hs=> by
  cases vs with
  | nil=> cases ds <;> simp [DataW.TrodAll] at h
  | cons v vs=>
   cases ds with
   | nil=> simp [DataW.TrodAll] at h
   | cons d ds=>
    obtain ⟨p,q,h1,h2,rfl⟩:=h;exact ⟨p,q,Trod_stays hl (hr t (by simp)).1 (hr t (by simp)).2 h1 (λ x hx=> hsame x (by simp [hx])) (λ x hx=> hs x (by simp [hx])),
     trodAll_stays hl (λ t' ht'=> hr t' (by simp [ht'])) h2 (λ x hx=> hsame x (by simp [hx])) (λ x hx=> hs x (by simp [hx])),rfl⟩
theorem post_true {f:Func} {s:ChangeSpec} {W W':World} {args:Array Value} {ds:List (DataW H)} {before:List MemPlace} (hl:laidOutB P=true) (hr:∀t∈f.params.toList,P.readableRec t=true/\t < P.types.size)
 (hres:f.resultTypes=#[4]) (h4:P.underlying 4=some .bool) (hv:s.vars=[]) (hfn:s.fn H (ds++[])={ results:=[.lit (.bool true)],args:=ds })
 (hW:DataW.Whole enc P f.params.toList s.vars false W args.toList ds [] before) (hb:Below W.heap.size W W'):s.post enc P f false true false false W args (.bool true) W':=by
 have hlt:∀p∈before,p.block < W.heap.size:=λ p hp=> hW.lt p hp;have hold:∀p∈before,(λ b=> decide (b < W.heap.size)) p.block=true:=λ p hp=> by simpa using hlt p hp
 obtain ⟨p,q,hA,hV,hpq,_,_⟩:=id hW;rw [hv] at hV;obtain ⟨_,rfl⟩:=trodVars_none hV;rw [List.append_nil] at hpq;subst hpq;refine ⟨ds,[],_,[],_,[],hW,?_,?_,?_,World.keptBut_mono (λ x hx=> ⟨hx, .inr (.inl hx)⟩) (hb.frame (· ∈_)),λ h=> by cases h⟩
 · rw [hfn,hres]
   exact trodAll_mk1 (shut_bool h4 true)
 · rw [hfn]
   exact trodAll_stays hl hr hA (λ x hx=> hb.same (hlt x hx)) hold
 · rw [hfn,hv]
   exact (rfl:([]:List MemPlace)=[])
end
section
variable {H:Type}
theorem cell_of_one_slice {v:Value} {t e:TypeId} (W:World) (ht:Tryz.prog.underlying t=some (.slice e)) {base:Nat} (hok:Value.okWide Tryz.prog W .any base t v):v.cells.toList=[v]:=by
 unfold Value.okWide at hok;rw [ht] at hok;simp only at hok;cases v <;> simp [Value.cells]
 all_goals (unfold Cell.okWide at hok;rw [ht] at hok;simp at hok)
 all_goals (unfold Cell.ok at hok;rw [ht] at hok;simp at hok)
end
theorem own:ownKnob Tryz.prog.godebug=none:=by kernel_rfl
theorem laidOut:laidOutB Tryz.prog=true:=by kernel_rfl
end Go.Proofs.YtnefkkidfhmggaaGreat
end
noncomputable section
namespace Go.Proofs.YtnefkkidfhmggaaGreat
class KOrd (κ:Type) where
 cmp:κ->κ->Int
 range:∀a b,cmp a b= -1\/cmp a b=0\/cmp a b=1
 zero:∀{a b},cmp a b=0↔a=b
 swap:∀a b,cmp b a= - cmp a b
 trans:∀{a b c},cmp a b < 0->cmp b c < 0->cmp a c < 0
section
variable {κ ν:Type} [KOrd κ]
def ltK (a b:κ):Prop:=KOrd.cmp a b < 0
instance (a b:κ):Decidable (ltK a b):=inferInstanceAs (Decidable (_ < _))
def eqK (a b:κ):Bool:=decide (KOrd.cmp a b=0)
theorem eqK_iff {a b:κ}:eqK a b=true↔a=b:=by unfold eqK;rw [decide_eq_true_iff];exact KOrd.zero
theorem eqK_not {a b:κ}:eqK a b=false↔a≠b:=by rw [<-Bool.not_eq_true,eqK_iff]
theorem eqK_self (a:κ):eqK a a=true:=eqK_iff.2 rfl
theorem ltK_irrefl (a:κ):¬ ltK a a:=by unfold ltK;rw [KOrd.zero.2 rfl];omega
theorem ltK_trans {a b c:κ} (h1:ltK a b) (h2:ltK b c):ltK a c:=KOrd.trans h1 h2
theorem ltK_asymm {a b:κ} (h:ltK a b):¬ ltK b a:=λ h'=> ltK_irrefl _ (ltK_trans h h')
theorem ltK_ne {a b:κ} (h:ltK a b):a≠b:=λ e=> by subst e;exact ltK_irrefl _ h
theorem ltK_tri (a b:κ):ltK a b\/a=b\/ltK b a:=by
 unfold ltK;rw [KOrd.swap a b];rcases KOrd.range a b with h | h | h
 · left;omega
 · right;left;exact KOrd.zero.1 h
 · right;right;omega
theorem ltK_of_not {a b:κ} (h:¬ ltK a b) (hne:a≠b):ltK b a:=by
 rcases ltK_tri a b with h1 | h1 | h1
 · exact absurd h1 h
 · exact absurd h1 hne
 · exact h1
abbrev M (κ ν:Type):=List (κ×ν)
def AscM (l:M κ ν):Prop:=l.Pairwise λ a b=> ltK a.1 b.1
def getM:M κ ν->κ->Option ν
 | [],_=> none
 | x::l,k=> if eqK x.1 k then some x.2 else getM l k
def putM:M κ ν->κ->ν->M κ ν
 | [],k,v=> [(k,v)]
 | x::l,k,v=> if ltK x.1 k then x::putM l k v else if eqK x.1 k then (k,v)::l else (k,v)::x::l
def delM:M κ ν->κ->M κ ν
 | [],_=> []
 | x::l,k=> if eqK x.1 k then l else x::delM l k
def AllLt (l:M κ ν) (k:κ):Prop:=∀x∈l,ltK x.1 k
def AllGt (k:κ) (l:M κ ν):Prop:=∀x∈l,ltK k x.1
theorem AllLt.nil (k:κ):AllLt ([]:M κ ν) k:=by intro x h;cases h
theorem AllGt.nil (k:κ):AllGt k ([]:M κ ν):=by intro x h;cases h
theorem AllLt.append {l m:M κ ν} {k:κ} (h1:AllLt l k) (h2:AllLt m k):AllLt (l++m) k:=by
 intro x h;rcases List.mem_append.1 h with h | h
 · exact h1 x h
 · exact h2 x h
theorem getM_lt {l:M κ ν} {k:κ} (h:AllLt l k) (m:M κ ν):getM (l++m) k=getM m k:=by
 induction l with
 | nil=> rfl
 | cons x l ih=>
  rw [List.cons_append,getM,if_neg (by rw [eqK_iff];exact ltK_ne (h x (by simp))),ih λ y hy=> h y (List.mem_cons_of_mem _ hy)]
theorem getM_gt {m:M κ ν} {k:κ} (h:AllGt k m) (l:M κ ν):getM (l++m) k=getM l k:=by
 induction l with
 | nil=>
  induction m with
  | nil=> rfl
  | cons x m ih=>
   have e:getM (x::m) k=getM m k:=by rw [getM,if_neg (by rw [eqK_iff];exact (ltK_ne (h x (by simp))).symm)]
   exact e.trans (ih λ y hy=> h y (List.mem_cons_of_mem _ hy))
 | cons x l ih=> rw [List.cons_append,getM,getM,ih]
theorem putM_lt {l:M κ ν} {k:κ} (h:AllLt l k) (m:M κ ν) (v:ν):putM (l++m) k v=l++putM m k v:=by
 induction l with
 | nil=> rfl
 | cons x l ih=> rw [List.cons_append,putM,if_pos (h x (by simp)),ih λ y hy=> h y (List.mem_cons_of_mem _ hy)];rfl
theorem putM_gt {m:M κ ν} {k:κ} (h:AllGt k m) (l:M κ ν) (v:ν):putM (l++m) k v=putM l k v++m:=by
 induction l with
 | nil=>
  cases m with
  | nil=> rfl
  | cons x m=>
   have hx:=h x (by simp);have e:putM (x::m) k v=(k,v)::x::m:=by rw [putM,if_neg (ltK_asymm hx),if_neg (by rw [eqK_iff];exact (ltK_ne hx).symm)]
   exact e
 | cons x l ih=>
  rw [List.cons_append,putM,putM];split
  · rw [ih];rfl
  · split <;> rfl
theorem delM_lt {l:M κ ν} {k:κ} (h:AllLt l k) (m:M κ ν):delM (l++m) k=l++delM m k:=by
 induction l with
 | nil=> rfl
 | cons x l ih=> rw [List.cons_append,delM,if_neg (by rw [eqK_iff];exact ltK_ne (h x (by simp))),ih λ y hy=> h y (List.mem_cons_of_mem _ hy)];rfl
theorem delM_gt {m:M κ ν} {k:κ} (h:AllGt k m) (l:M κ ν):delM (l++m) k=delM l k++m:=by
 induction l with
 | nil=>
  induction m with
  | nil=> rfl
  | cons x m ih=>
   have e:delM (x::m) k=x::delM m k:=by rw [delM,if_neg (by rw [eqK_iff];exact (ltK_ne (h x (by simp))).symm)]
   have:=ih λ y hy=> h y (List.mem_cons_of_mem _ hy);rw [List.nil_append] at this;exact e.trans (by rw [this];rfl)
 | cons x l ih=>
  rw [List.cons_append,delM,delM];split
  · rfl
  · rw [ih];rfl
theorem putM_here {l m:M κ ν} {x:κ×ν} {k:κ} (h:AllLt l k) (e:x.1=k) (v:ν):putM (l++x::m) k v=l++(k,v)::m:=by
 rw [putM_lt h,putM,if_neg (by rw [e];exact ltK_irrefl _),if_pos (eqK_iff.2 e)]
theorem putM_new {l m:M κ ν} {k:κ} (h:AllLt l k) (h':AllGt k m) (v:ν):putM (l++m) k v=l++(k,v)::m:=by
 rw [putM_lt h];have:=putM_gt h' [] v;rw [List.nil_append] at this;rw [this];rfl
theorem getM_here {l m:M κ ν} {x:κ×ν} {k:κ} (h:AllLt l k) (e:x.1=k):getM (l++x::m) k=some x.2:=by
 rw [getM_lt h,getM,if_pos (eqK_iff.2 e)]
theorem getM_none {l m:M κ ν} {k:κ} (h:AllLt l k) (h':AllGt k m):getM (l++m) k=none:=by
 rw [getM_lt h];have:=getM_gt h' ([]:M κ ν);rw [List.nil_append] at this;rw [this];rfl
theorem delM_here {l m:M κ ν} {x:κ×ν} {k:κ} (h:AllLt l k) (e:x.1=k):delM (l++x::m) k=l++m:=by
 rw [delM_lt h,delM,if_pos (eqK_iff.2 e)]
theorem delM_none {l m:M κ ν} {k:κ} (h:AllLt l k) (h':AllGt k m):delM (l++m) k=l++m:=by
 rw [delM_lt h];have:=delM_gt h' ([]:M κ ν);rw [List.nil_append] at this;rw [this];rfl
theorem mem_putM {l:M κ ν} {k:κ} {v:ν} {y:κ×ν} (h:y∈putM l k v):y=(k,v)\/y∈l:=by
 induction l with
 | nil=> simpa [putM] using h
 | cons x l ih=>
  rw [putM] at h;split at h
  · rcases List.mem_cons.1 h with h | h
    · exact .inr (List.mem_cons.2 (.inl h))
    · rcases ih h with h | h
      · exact .inl h
      · exact .inr (List.mem_cons_of_mem _ h)
  · split at h
    · rcases List.mem_cons.1 h with h | h
      · exact .inl h
      · exact .inr (List.mem_cons_of_mem _ h)
    · rcases List.mem_cons.1 h with h | h
      · exact .inl h
      · exact .inr h
theorem mem_delM {l:M κ ν} {k:κ} {y:κ×ν} (h:y∈delM l k):y∈l:=by
 induction l with
 | nil=> exact h
 | cons x l ih=>
  rw [delM] at h;split at h
  · exact List.mem_cons_of_mem _ h
  · rcases List.mem_cons.1 h with h | h
    · exact List.mem_cons.2 (.inl h)
    · exact List.mem_cons_of_mem _ (ih h)
theorem AscM.cons {x:κ×ν} {l:M κ ν}:AscM (x::l)↔AllGt x.1 l/\AscM l:=List.pairwise_cons
theorem AscM.append {l m:M κ ν}:AscM (l++m)↔AscM l/\AscM m/\∀a∈l,∀b∈m,ltK a.1 b.1:=List.pairwise_append
theorem AscM.mid {l m:M κ ν} {x:κ×ν} (h:AscM (l++x::m)):AscM l/\AscM m/\AllLt l x.1/\AllGt x.1 m/\∀a∈l,∀b∈m,ltK a.1 b.1:=by
 obtain ⟨h1,h2,h3⟩:=AscM.append.1 h;obtain ⟨h4,h5⟩:=AscM.cons.1 h2;exact ⟨h1,h5,λ a ha=> h3 a ha x (by simp),h4,λ a ha b hb=> h3 a ha b (List.mem_cons_of_mem _ hb)⟩
theorem ascM_putM {l:M κ ν} (h:AscM l) (k:κ) (v:ν):AscM (putM l k v):=by
 induction l with
 | nil=> exact List.pairwise_singleton _ _
 | cons x l ih=>
  obtain ⟨h1,h2⟩:=AscM.cons.1 h;rw [putM];split
  · rename_i hlt
    refine AscM.cons.2 ⟨λ y hy=> ?_,ih h2⟩;rcases mem_putM hy with rfl | hy
    · exact hlt
    · exact h1 y hy
  · rename_i hn
    split
    · rename_i he
      rw [eqK_iff] at he;subst he;exact AscM.cons.2 ⟨h1,h2⟩
    · rename_i he
      rw [eqK_iff] at he;have hlt:=ltK_of_not hn he;refine AscM.cons.2 ⟨λ y hy=> ?_,h⟩;rcases List.mem_cons.1 hy with rfl | hy
      · exact hlt
      · exact ltK_trans hlt (h1 y hy)
theorem ascM_delM {l:M κ ν} (h:AscM l) (k:κ):AscM (delM l k):=by
 induction l with
 | nil=> exact h
 | cons x l ih=>
  obtain ⟨h1,h2⟩:=AscM.cons.1 h;rw [delM];split
  · exact h2
  · exact AscM.cons.2 ⟨λ y hy=> h1 y (mem_delM hy),ih h2⟩
end
end Go.Proofs.YtnefkkidfhmggaaGreat
end
noncomputable section
namespace Go.Proofs.YtnefkkidfhmggaaGreat
inductive T (κ ν:Type) where
 | node (es:List (κ×ν)) (cs:List (T κ ν))
section
variable {κ ν:Type}
namespace T
def es:T κ ν->M κ ν | .node es _=> es
def cs:T κ ν->List (T κ ν) | .node _ cs=> cs
end T
open T
theorem es_node (es:M κ ν) (cs:List (T κ ν)):(T.node es cs).es=es:=rfl
theorem cs_node (es:M κ ν) (cs:List (T κ ν)):(T.node es cs).cs=cs:=rfl
theorem T.eta (x:T κ ν):.node x.es x.cs=x:=by cases x;rfl
def pre (f:T κ ν->M κ ν):M κ ν->List (T κ ν)->M κ ν
 | a::A,c::C=> f c++a::pre f A C
 | A,_=> A
def post (f:T κ ν->M κ ν):M κ ν->List (T κ ν)->M κ ν
 | b::B,c::C=> b::f c++post f B C
 | B,_=> B
def toL:Nat->T κ ν->M κ ν
 | 0,x=> x.es
 | h+1,x=> match x.cs with
  | []=> x.es
  | c::C=> toL h c++post (toL h) x.es C
theorem toL_split (h:Nat):∀(A B:M κ ν) (C1 C2:List (T κ ν)) (c:T κ ν),A.length=C1.length->toL (h+1) (.node (A++B) (C1++c::C2))=pre (toL h) A C1++toL h c++post (toL h) B C2
 | [],B,[],C2,c,_=> by simp [toL,pre,es_node,cs_node]
 | a::A,B,c1::C1,C2,c,hl=> by
  have ih:=toL_split h A B C1 C2 c (by simpa using hl);cases C1 with
  | nil=>
   cases A with
   | nil=>
    simp only [toL,cs_node,es_node,List.cons_append,List.nil_append,pre,post,List.append_assoc]
   | cons=> simp at hl
  | cons c0 C0=>
   simp only [toL,cs_node,es_node,List.cons_append] at ih ⊢;simp only [post,pre,List.cons_append,List.append_assoc] at ih ⊢;rw [ih]
theorem toL_last (h:Nat) (A:M κ ν) (C1:List (T κ ν)) (c:T κ ν) (hl:A.length=C1.length):toL (h+1) (.node A (C1++[c]))=pre (toL h) A C1++toL h c:=by
 have:=toL_split h A [] C1 [] c hl;simpa [post] using this
theorem toL_cons (h:Nat) (c:T κ ν) (B:M κ ν) (C:List (T κ ν)):toL (h+1) (.node B (c::C))=toL h c++post (toL h) B C:=rfl
theorem sub_post {f:T κ ν->M κ ν}:∀(B:M κ ν) (C:List (T κ ν)),List.Sublist B (post f B C)
 | [],C=> by cases C <;> exact List.Sublist.refl _
 | b::B,[]=> List.Sublist.refl _
 | b::B,c::C=> by rw [post];exact List.Sublist.cons_cons _ ((sub_post B C).trans (List.sublist_append_right _ _))
theorem sub_toL:∀(h:Nat) (x:T κ ν),List.Sublist x.es (toL h x)
 | 0,x=> List.Sublist.refl _
 | h+1, .node es []=> List.Sublist.refl _
 | h+1, .node es (c::C)=> by rw [toL_cons];exact (sub_post es C).trans (List.sublist_append_right _ _)
theorem take_takeWhile {α:Type} (p:α->Bool):∀l:List α,l.take (l.takeWhile p).length=l.takeWhile p
 | []=> rfl
 | x::l=> by
  rw [List.takeWhile_cons];split
  · rw [List.length_cons,List.take_succ_cons,take_takeWhile p l]
  · rfl
theorem drop_takeWhile {α:Type} (p:α->Bool):∀l:List α,l.drop (l.takeWhile p).length=l.dropWhile p
 | []=> rfl
 | x::l=> by
  rw [List.takeWhile_cons,List.dropWhile_cons];split
  · rw [List.length_cons,List.drop_succ_cons,drop_takeWhile p l]
  · rfl
theorem mem_takeWhile {α:Type} {p:α->Bool}:∀{l:List α} {x:α},x∈l.takeWhile p->p x=true
 | [],_,h=> by simp at h
 | y::l,x,h=> by
  rw [List.takeWhile_cons] at h;split at h
  · rename_i hy
    rcases List.mem_cons.1 h with rfl | h
    · exact hy
    · exact mem_takeWhile h
  · simp at h
theorem dropWhile_head {α:Type} {p:α->Bool}:∀{l:List α} {x:α} {m:List α},l.dropWhile p=x::m->p x=false
 | [],_,_,h=> by simp at h
 | y::l,x,m,h=> by
  rw [List.dropWhile_cons] at h;split at h
  · exact dropWhile_head h
  · rename_i hy
    injection h with h _;subst h;simpa using hy
theorem getElem?_drop0 {α:Type} (l:List α) (i:Nat):l[i]? =(l.drop i)[0]? :=by rw [List.getElem?_drop];simp
def least (o:Nat):Nat:=(o+1) / 2 - 1
def Body (o:Nat):Nat->Nat->Nat->T κ ν->Prop
 | 0,lo,hi,x=> lo<=x.es.length/\x.es.length<=hi/\x.cs=[]
 | h+1,lo,hi,x=> lo<=x.es.length/\x.es.length<=hi/\x.cs.length=x.es.length+1/\∀c∈x.cs,Body o h (least o) (o - 1) c
theorem Body.lo {o h lo hi:Nat} {x:T κ ν} (hb:Body o h lo hi x):lo<=x.es.length:=by cases h <;> exact hb.1
theorem Body.hi {o h lo hi:Nat} {x:T κ ν} (hb:Body o h lo hi x):x.es.length<=hi:=by cases h <;> exact hb.2.1
theorem Body.mono {o h lo hi lo' hi':Nat} {x:T κ ν} (hb:Body o h lo hi x) (h1:lo'<=x.es.length) (h2:x.es.length<=hi'):Body o h lo' hi' x:=by
 cases h <;> exact ⟨h1,h2,hb.2.2⟩
def splitT (o i:Nat) (x:T κ ν):T κ ν:=match x.cs[i]? with
 | none=> x
 | some c=> match c.es[o / 2]? with
  | none=> x
  | some m=> .node (x.es.take i++m::x.es.drop i)
   (x.cs.take i++.node (c.es.take (o / 2)) (c.cs.take (o / 2+1))::.node (c.es.drop (o / 2+1)) (c.cs.drop (o / 2+1))::x.cs.drop (i+1))
theorem toL_halves {o h lo hi:Nat} {c:T κ ν} {m:κ×ν} (hb:Body o h lo hi c) (hm:c.es[o / 2]? =some m):
 toL h c=toL h (.node (c.es.take (o / 2)) (c.cs.take (o / 2+1)))++m::toL h (.node (c.es.drop (o / 2+1)) (c.cs.drop (o / 2+1))):=by
 obtain ⟨hlt,hm⟩:=List.getElem?_eq_some_iff.1 hm;have he:c.es=c.es.take (o / 2)++m::c.es.drop (o / 2+1):=by
  conv=> lhs;rw [<-List.take_append_drop (o / 2) c.es]
  rw [List.drop_eq_getElem_cons hlt,hm]
 cases h with
 | zero=> simp only [toL,es_node];exact he
 | succ h=>
  obtain ⟨es,cs⟩:=c;simp only [es_node,cs_node] at *;replace hlt:o / 2 < es.length:=hlt;have hl:=hb.2.2.1;simp only [es_node,cs_node] at hl;have hlt:o / 2 < es.length:=hlt;generalize hD:es.take (o / 2)=D1 at *;generalize hE:es.drop (o / 2+1)=D2 at *;have l1:D1.length=o / 2:=by rw [<-hD];simp;omega
  have l2:D2.length=es.length - (o / 2+1):=by rw [<-hE];simp
  obtain ⟨C1,c1,hc1⟩:∃C1 c1,cs.take (o / 2+1)=C1++[c1]:=by
   have:cs.take (o / 2+1)≠[]:=by intro e;have:=congrArg List.length e;rw [List.length_take,List.length_nil] at this;omega
   exact ⟨_,_,(List.dropLast_concat_getLast this).symm⟩
  obtain ⟨c2,C2,hc2⟩:∃c2 C2,cs.drop (o / 2+1)=c2::C2:=by
   cases hd:cs.drop (o / 2+1) with
   | nil=> have:=congrArg List.length hd;rw [List.length_drop,List.length_nil] at this;omega
   | cons a b=> exact ⟨a,b,rfl⟩
  have lc1:D1.length=C1.length:=by have:=congrArg List.length hc1;simp at this;omega
  rw [hc1,hc2,toL_last h _ _ _ lc1,toL_cons];have hcs:cs=C1++c1::c2::C2:=by
   conv=> lhs;rw [<-List.take_append_drop (o / 2+1) cs]
   rw [hc1,hc2];simp
  rw [he,hcs,toL_split h D1 (m::D2) C1 (c2::C2) c1 lc1,post];simp
theorem split_at {α:Type} {l:List α} {i:Nat} {x:α} (h:l[i]? =some x):l=l.take i++x::l.drop (i+1):=by
 obtain ⟨hlt,hx⟩:=List.getElem?_eq_some_iff.1 h
 conv=> lhs;rw [<-List.take_append_drop i l]
 rw [List.drop_eq_getElem_cons hlt,hx]
theorem split_spec {o h:Nat} (ho:3<=o) {x:T κ ν} {i:Nat} {c:T κ ν} (hx:x.cs.length=x.es.length+1) (hc:x.cs[i]? =some c) (hb:Body o h (least o) o c) (hlen:c.es.length=o)
 (hk:∀d∈x.cs.take i,Body o h (least o) (o - 1) d) (hk':∀d∈x.cs.drop (i+1),Body o h (least o) (o - 1) d):
 (splitT o i x).es.length=x.es.length+1/\Body o (h+1) (x.es.length+1) (x.es.length+1) (splitT o i x)/\toL (h+1) (splitT o i x)=toL (h+1) x:=by
 obtain ⟨hlt,_⟩:=List.getElem?_eq_some_iff.1 hc;have hm0:o / 2 < c.es.length:=by omega
 obtain ⟨m,hm⟩:∃m,c.es[o / 2]? =some m:=⟨_,List.getElem?_eq_getElem hm0⟩
 have e:splitT o i x=.node (x.es.take i++m::x.es.drop i)
  (x.cs.take i++.node (c.es.take (o / 2)) (c.cs.take (o / 2+1))::.node (c.es.drop (o / 2+1)) (c.cs.drop (o / 2+1))::x.cs.drop (i+1)):=by
  unfold splitT;rw [hc];simp only [hm]
 have hl1:(x.es.take i).length=(x.cs.take i).length:=by simp;omega
 have hle:(x.es.take i++m::x.es.drop i).length=x.es.length+1:=by simp;omega
 have hlc:(x.cs.take i++T.node (c.es.take (o / 2)) (c.cs.take (o / 2+1))::.node (c.es.drop (o / 2+1)) (c.cs.drop (o / 2+1))::x.cs.drop (i+1)).length=x.es.length+2:=by simp;omega
 rw [e];refine ⟨hle,⟨Nat.le_of_eq hle.symm,Nat.le_of_eq hle,by simp only [cs_node,es_node];rw [hlc,hle],λ d hd=> ?_⟩,?_⟩
 · simp only [cs_node] at hd
   rcases List.mem_append.1 hd with hd | hd
   · exact hk d hd
   · have k1:Body o h (least o) (o - 1) (T.node (c.es.take (o / 2)) (c.cs.take (o / 2+1)))/\Body o h (least o) (o - 1) (T.node (c.es.drop (o / 2+1)) (c.cs.drop (o / 2+1))):=by
      cases h with
      | zero=>
       have hz:=hb.2.2;simp only [Body,es_node,cs_node,List.length_take,List.length_drop,hz,List.take_nil,List.drop_nil,least,and_true];omega
      | succ h=>
       obtain ⟨_,_,hz,hkk⟩:=hb;simp only [Body,es_node,cs_node,List.length_take,List.length_drop,hz,least];refine ⟨⟨by omega,by omega,by omega,λ d hd=> hkk d (List.mem_of_mem_take hd)⟩,⟨by omega,by omega,by omega,λ d hd=> hkk d (List.mem_of_mem_drop hd)⟩⟩
     rcases List.mem_cons.1 hd with rfl | hd
     · exact k1.1
     · rcases List.mem_cons.1 hd with rfl | hd
       · exact k1.2
       · exact hk' d hd
 · have hxe:x=.node (x.es.take i++x.es.drop i) (x.cs.take i++c::x.cs.drop (i+1)):=by
    rw [List.take_append_drop,<-split_at hc,T.eta]
   conv=> rhs;rw [hxe]
   rw [toL_split h _ _ _ _ _ hl1,toL_split h _ _ _ _ _ hl1,toL_halves hb hm,post];simp
theorem take_set_lt {α:Type} (l:List α) (i:Nat) (x:α):(l.set i x).take i=l.take i:=List.take_set_of_le (Nat.le_refl _)
theorem drop_set_lt {α:Type} (l:List α) (i:Nat) (x:α):(l.set i x).drop (i+1)=l.drop (i+1):=List.drop_set_of_lt (by omega)
theorem set_at {α:Type} {l:List α} {i:Nat} {x:α} (h:l[i]? =some x) (y:α):l.set i y=l.take i++y::l.drop (i+1):=by
 obtain ⟨hlt,_⟩:=List.getElem?_eq_some_iff.1 h;rw [List.set_eq_take_append_cons_drop,if_pos hlt]
end
section
variable {κ ν:Type} [KOrd κ]
theorem pre_lt {f:T κ ν->M κ ν} {k:κ}:∀{A:M κ ν} {C:List (T κ ν)},AllLt A k->AscM (pre f A C)->AllLt (pre f A C) k
 | [],C,_,_=> by cases C <;> exact AllLt.nil k
 | a::A,[],h,_=> h
 | a::A,c::C,h,ha=> by
  rw [pre] at ha ⊢;obtain ⟨h1,h2,h3,h4,h5⟩:=ha.mid;have hk:=h a (by simp);refine AllLt.append (λ x hx=> ltK_trans (h3 x hx) hk) ?_;intro x hx;rcases List.mem_cons.1 hx with rfl | hx
  · exact hk
  · exact pre_lt (λ y hy=> h y (List.mem_cons_of_mem _ hy)) h2 x hx
theorem post_gt {f:T κ ν->M κ ν} {k:κ}:∀{B:M κ ν} {C:List (T κ ν)},AllGt k B->AscM (post f B C)->AllGt k (post f B C)
 | [],C,_,_=> by cases C <;> exact AllGt.nil k
 | b::B,[],h,_=> h
 | b::B,c::C,h,ha=> by
  rw [post] at ha ⊢;obtain ⟨h1,h2⟩:=AscM.cons.1 (by simpa using ha);have hk:=h b (by simp);intro x hx;rcases List.mem_cons.1 hx with rfl | hx
  · exact hk
  · exact ltK_trans hk (h1 x hx)
theorem asc_es {h:Nat} {x:T κ ν} (ha:AscM (toL h x)):AscM x.es:=ha.sublist (sub_toL h x)
def posK (es:M κ ν) (k:κ):Nat:=(es.takeWhile λ x=> decide (ltK x.1 k)).length
def hasK (es:M κ ν) (k:κ):Bool:=match es[posK es k]? with | some x=> eqK x.1 k | none=> false
theorem posK_le (es:M κ ν) (k:κ):posK es k<=es.length:=(List.takeWhile_sublist _).length_le
theorem posK_take (es:M κ ν) (k:κ):es.take (posK es k)=es.takeWhile λ x=> decide (ltK x.1 k):=take_takeWhile _ _
theorem posK_drop (es:M κ ν) (k:κ):es.drop (posK es k)=es.dropWhile λ x=> decide (ltK x.1 k):=drop_takeWhile _ _
theorem posK_lt (es:M κ ν) (k:κ):AllLt (es.take (posK es k)) k:=by
 rw [posK_take];intro x hx;simpa using mem_takeWhile hx
theorem posK_head {es:M κ ν} {k:κ} {x:κ×ν} {m:M κ ν} (h:es.drop (posK es k)=x::m):¬ ltK x.1 k:=by
 rw [posK_drop] at h;simpa using dropWhile_head h
theorem hasK_yes {es:M κ ν} {k:κ} (h:hasK es k=true):∃x m,es.drop (posK es k)=x::m/\x.1=k:=by
 unfold hasK at h;rw [getElem?_drop0] at h;cases hd:es.drop (posK es k) with
 | nil=> rw [hd] at h;simp at h
 | cons x m=> rw [hd] at h;exact ⟨x,m,rfl,eqK_iff.1 (by simpa using h)⟩
theorem hasK_no {es:M κ ν} {k:κ} (ha:AscM es) (h:hasK es k=false):AllGt k (es.drop (posK es k)):=by
 unfold hasK at h;rw [getElem?_drop0] at h;cases hd:es.drop (posK es k) with
 | nil=> exact AllGt.nil k
 | cons x m=>
  rw [hd] at h;have hx:=ltK_of_not (posK_head hd) (eqK_not.1 (by simpa using h));have hs:AscM (x::m):=by rw [<-hd];exact ha.sublist (List.drop_sublist _ _)
  obtain ⟨h1,_⟩:=AscM.cons.1 hs;intro y hy;rcases List.mem_cons.1 hy with rfl | hy
  · exact hx
  · exact ltK_trans hx (h1 y hy)
def putT (o:Nat):Nat->T κ ν->κ->ν->T κ ν
 | 0,x,k,v=> if hasK x.es k then .node (x.es.set (posK x.es k) (k,v)) x.cs else .node (x.es.take (posK x.es k)++(k,v)::x.es.drop (posK x.es k)) x.cs
 | h+1,x,k,v=> if hasK x.es k then .node (x.es.set (posK x.es k) (k,v)) x.cs else match x.cs[posK x.es k]? with
  | none=> x
  | some c=>
   let c':=putT o h c k v;let x':=T.node x.es (x.cs.set (posK x.es k) c')
   if o<=c'.es.length then splitT o (posK x.es k) x' else x'
def getT:Nat->T κ ν->κ->Option ν
 | 0,x,k=> if hasK x.es k then (x.es[posK x.es k]?).map (·.2) else none
 | h+1,x,k=> if hasK x.es k then (x.es[posK x.es k]?).map (·.2) else match x.cs[posK x.es k]? with
  | none=> none
  | some c=> getT h c k
theorem putT_spec {o:Nat} (ho:3<=o) (k:κ) (v:ν):∀(h lo:Nat) (x:T κ ν),Body o h lo (o - 1) x->AscM (toL h x)->
 Body o h lo o (putT o h x k v)/\toL h (putT o h x k v)=putM (toL h x) k v
 | 0,lo,x,hb,ha=> by
  have hc:=hb.2.2;have h1:=hb.1;have h2:=hb.2.1;have hp:=posK_le x.es k;have hlt:=posK_lt x.es k;rw [putT];cases hh:hasK x.es k
  · have hgt:=hasK_no (asc_es ha) hh
    simp only [Bool.false_eq_true,if_false];refine ⟨⟨?_,?_,hc⟩,?_⟩
    · simp only [es_node,List.length_append,List.length_take,List.length_cons,List.length_drop];omega
    · simp only [es_node,List.length_append,List.length_take,List.length_cons,List.length_drop];omega
    · simp only [toL,es_node]
      conv=> rhs;rw [<-List.take_append_drop (posK x.es k) x.es]
      rw [putM_new hlt hgt]
  · obtain ⟨y,m,hd,he⟩:=hasK_yes hh
    have hy:x.es[posK x.es k]? =some y:=by rw [getElem?_drop0,hd];rfl
    have hdr:x.es.drop (posK x.es k+1)=m:=by rw [<-List.drop_drop,hd];rfl
    simp only [if_true];refine ⟨⟨by simp only [es_node,List.length_set];exact h1,by simp only [es_node,List.length_set];omega,hc⟩,?_⟩;simp only [toL,es_node]
    conv=> rhs;rw [split_at hy]
    rw [set_at hy,putM_here hlt he]
 | h+1,lo,x,hb,ha=> by
  obtain ⟨h1,h2,h3,h4⟩:=hb;have hp:=posK_le x.es k;have hlt:=posK_lt x.es k;rw [putT];cases hh:hasK x.es k
  · have hgt:=hasK_no (asc_es ha) hh
    simp only [Bool.false_eq_true,if_false];obtain ⟨c,hc⟩:∃c,x.cs[posK x.es k]? =some c:=⟨_,List.getElem?_eq_getElem (by omega)⟩
    simp only [hc];have hcm:=List.mem_of_getElem? hc;have hl1:(x.es.take (posK x.es k)).length=(x.cs.take (posK x.es k)).length:=by simp;omega
    have hxe:toL (h+1) x=pre (toL h) (x.es.take (posK x.es k)) (x.cs.take (posK x.es k))++toL h c++post (toL h) (x.es.drop (posK x.es k)) (x.cs.drop (posK x.es k+1)):=by rw [<-toL_split h _ _ _ _ _ hl1,List.take_append_drop,<-split_at hc,T.eta]
    rw [hxe] at ha;obtain ⟨a1,a2,a3⟩:=AscM.append.1 ha;obtain ⟨a4,a5,a6⟩:=AscM.append.1 a1;obtain ⟨ih1,ih2⟩:=putT_spec ho k v h (least o) c (h4 c hcm) a5;have hres:toL (h+1) (.node x.es (x.cs.set (posK x.es k) (putT o h c k v)))=putM (toL (h+1) x) k v:=by rw [set_at hc];have:=toL_split h (x.es.take (posK x.es k)) (x.es.drop (posK x.es k)) (x.cs.take (posK x.es k)) (x.cs.drop (posK x.es k+1)) (putT o h c k v) hl1;rw [List.take_append_drop] at this;rw [this,hxe,putM_gt (post_gt hgt a2),putM_lt (pre_lt hlt a4),ih2]
    have hks:∀d∈x.cs.take (posK x.es k),Body o h (least o) (o - 1) d:=λ d hd=> h4 d (List.mem_of_mem_take hd);have hks':∀d∈x.cs.drop (posK x.es k+1),Body o h (least o) (o - 1) d:=λ d hd=> h4 d (List.mem_of_mem_drop hd);split
    · rename_i hge
      have hi:=ih1.hi;have hlt':posK x.es k < x.cs.length:=by omega
      obtain ⟨s1,s2,s3⟩:=split_spec (o:=o) (h:=h) ho (x:=.node x.es (x.cs.set (posK x.es k) (putT o h c k v))) (i:=posK x.es k) (c:=putT o h c k v) (by simpa [cs_node,es_node] using h3) (by simp [cs_node,hlt']) ih1 (by omega)
       (by simp only [cs_node];rw [take_set_lt];exact hks) (by simp only [cs_node];rw [drop_set_lt];exact hks')
      refine ⟨s2.mono ?_ ?_,by rw [s3,hres]⟩
      · rw [s1];simp only [es_node];omega
      · rw [s1];simp only [es_node];omega
    · rename_i hge
      refine ⟨⟨h1,by simp only [es_node];omega,by simpa [cs_node,es_node] using h3,λ d hd=> ?_⟩,hres⟩;simp only [cs_node] at hd;rw [set_at hc] at hd;rcases List.mem_append.1 hd with hd | hd
      · exact hks d hd
      · rcases List.mem_cons.1 hd with rfl | hd
        · exact ih1.mono ih1.lo (by omega)
        · exact hks' d hd
  · obtain ⟨y,m,hd,he⟩:=hasK_yes hh
    have hy:x.es[posK x.es k]? =some y:=by rw [getElem?_drop0,hd];rfl
    simp only [if_true];refine ⟨⟨by simp only [es_node,List.length_set];exact h1,by simp only [es_node,List.length_set];omega,by simpa [cs_node,es_node] using h3,h4⟩,?_⟩;obtain ⟨c,hc⟩:∃c,x.cs[posK x.es k]? =some c:=⟨_,List.getElem?_eq_getElem (by omega)⟩
    have hl1:(x.es.take (posK x.es k)).length=(x.cs.take (posK x.es k)).length:=by simp;omega
    have hdr:x.es.drop (posK x.es k+1)=m:=by rw [<-List.drop_drop,hd];rfl
    have hlt2:posK x.es k < x.es.length:=(List.getElem?_eq_some_iff.1 hy).1;obtain ⟨c2,hc2⟩:∃c2 C,x.cs.drop (posK x.es k+1)=c2::C:=by
     cases hdd:x.cs.drop (posK x.es k+1) with
     | nil=> have:=congrArg List.length hdd;rw [List.length_drop,List.length_nil] at this;omega
     | cons a b=> exact ⟨a,b,rfl⟩
    obtain ⟨C2,hc2⟩:=hc2;have hxe:toL (h+1) x=pre (toL h) (x.es.take (posK x.es k)) (x.cs.take (posK x.es k))++toL h c++y::(toL h c2++post (toL h) m C2):=by
     have h0:toL (h+1) x=pre (toL h) (x.es.take (posK x.es k)) (x.cs.take (posK x.es k))++toL h c++post (toL h) (x.es.drop (posK x.es k)) (x.cs.drop (posK x.es k+1)):=by rw [<-toL_split h _ _ _ _ _ hl1,List.take_append_drop,<-split_at hc,T.eta]
     rw [h0,hd,hc2];rfl
    have hres:toL (h+1) (.node (x.es.set (posK x.es k) (k,v)) x.cs)=pre (toL h) (x.es.take (posK x.es k)) (x.cs.take (posK x.es k))++toL h c++(k,v)::(toL h c2++post (toL h) m C2):=by rw [set_at hy,hdr];have:=toL_split h (x.es.take (posK x.es k)) ((k,v)::m) (x.cs.take (posK x.es k)) (x.cs.drop (posK x.es k+1)) c hl1;rw [<-split_at hc] at this;rw [this,hc2];rfl
    rw [hres,hxe];rw [hxe] at ha;obtain ⟨b1,b2,b3,b4,b5⟩:=ha.mid;rw [putM_here (λ z hz=> by have:=b3 z hz;rwa [he] at this) he]
theorem getT_spec {o:Nat} (k:κ):∀(h lo hi:Nat) (x:T κ ν),Body o h lo hi x->AscM (toL h x)->getT h x k=getM (toL h x) k
 | 0,lo,hi,x,hb,ha=> by
  have hlt:=posK_lt x.es k;rw [getT];cases hh:hasK x.es k
  · have hgt:=hasK_no (asc_es ha) hh
    simp only [Bool.false_eq_true,if_false,toL]
    conv=> rhs;rw [<-List.take_append_drop (posK x.es k) x.es]
    rw [getM_none hlt hgt]
  · obtain ⟨y,m,hd,he⟩:=hasK_yes hh
    have hy:x.es[posK x.es k]? =some y:=by rw [getElem?_drop0,hd];rfl
    simp only [if_true,hy,Option.map_some,toL]
    conv=> rhs;rw [split_at hy]
    rw [getM_here hlt he]
 | h+1,lo,hi,x,hb,ha=> by
  obtain ⟨h1,h2,h3,h4⟩:=hb;have hp:=posK_le x.es k;have hlt:=posK_lt x.es k;obtain ⟨c,hc⟩:∃c,x.cs[posK x.es k]? =some c:=⟨_,List.getElem?_eq_getElem (by omega)⟩
  have hl1:(x.es.take (posK x.es k)).length=(x.cs.take (posK x.es k)).length:=by simp;omega
  have hxe:toL (h+1) x=pre (toL h) (x.es.take (posK x.es k)) (x.cs.take (posK x.es k))++toL h c++post (toL h) (x.es.drop (posK x.es k)) (x.cs.drop (posK x.es k+1)):=by rw [<-toL_split h _ _ _ _ _ hl1,List.take_append_drop,<-split_at hc,T.eta]
  rw [hxe] at ha;obtain ⟨a1,a2,a3⟩:=AscM.append.1 ha;obtain ⟨a4,a5,a6⟩:=AscM.append.1 a1;rw [getT,hxe];cases hh:hasK x.es k
  · have hgt:=hasK_no (asc_es (h:=h+1) (by rw [hxe];exact ha)) hh
    simp only [Bool.false_eq_true,if_false,hc];rw [getT_spec k h (least o) (o - 1) c (h4 c (List.mem_of_getElem? hc)) a5,getM_gt (post_gt hgt a2),getM_lt (pre_lt hlt a4)]
  · obtain ⟨y,m,hd,he⟩:=hasK_yes hh
    have hy:x.es[posK x.es k]? =some y:=by rw [getElem?_drop0,hd];rfl
    simp only [if_true,hy,Option.map_some];have hlt2:posK x.es k < x.es.length:=(List.getElem?_eq_some_iff.1 hy).1;obtain ⟨c2,C2,hc2⟩:∃c2 C,x.cs.drop (posK x.es k+1)=c2::C:=by
     cases hdd:x.cs.drop (posK x.es k+1) with
     | nil=> have:=congrArg List.length hdd;rw [List.length_drop,List.length_nil] at this;omega
     | cons a b=> exact ⟨a,b,rfl⟩
    rw [hd,hc2,post] at ha ⊢;obtain ⟨b1,b2,b3,b4,b5⟩:=AscM.mid (l:=pre (toL h) (x.es.take (posK x.es k)) (x.cs.take (posK x.es k))++toL h c) (m:=toL h c2++post (toL h) m C2) (x:=y) (by simpa using ha);have:=getM_here (l:=pre (toL h) (x.es.take (posK x.es k)) (x.cs.take (posK x.es k))++toL h c) (m:=toL h c2++post (toL h) m C2) (x:=y) (k:=k) (λ z hz=> by have:=b3 z hz;rwa [he] at this) he;rw [<-this];simp
end
end Go.Proofs.YtnefkkidfhmggaaGreat
end
noncomputable section
namespace Go.Proofs.YtnefkkidfhmggaaGreat
def cmpS (a b:Int):Int:=if a < b then -1 else if b < a then 1 else 0
theorem cmpS_range (a b:Int):cmpS a b= -1\/cmpS a b=0\/cmpS a b=1:=by
 unfold cmpS;split
 · exact .inl rfl
 · split
   · exact .inr (.inr rfl)
   · exact .inr (.inl rfl)
theorem cmpS_swap (a b:Int):cmpS b a= - cmpS a b:=by
 unfold cmpS;by_cases h1:a < b
 · have:¬ b < a:=by omega
   simp [h1,this]
 · by_cases h2:b < a <;> simp [h1,h2]
theorem cmpS_zero {a b:Int}:cmpS a b=0↔a=b:=by
 unfold cmpS;by_cases h1:a < b
 · simp [h1];omega
 · by_cases h2:b < a
   · simp [h1,h2];omega
   · simp [h1,h2];omega
theorem cmpS_neg {a b:Int}:cmpS a b < 0↔a < b:=by
 unfold cmpS;by_cases h1:a < b
 · simp [h1]
 · by_cases h2:b < a <;> simp [h1,h2]
instance:KOrd Int where
 cmp:=cmpS
 range:=cmpS_range
 zero:=cmpS_zero
 swap:=cmpS_swap
 trans:=λ h1 h2=> by rw [cmpS_neg] at *;omega
def bytes (s:ByteArray):List UInt8:=s.data.toList
theorem bytes_inj {a b:ByteArray} (h:bytes a=bytes b):a=b:=by
 obtain ⟨⟨a⟩⟩:=a;obtain ⟨⟨b⟩⟩:=b;simpa [bytes] using h
theorem cmpB_range:∀a b:List UInt8,Lib.compareBytes a b= -1\/Lib.compareBytes a b=0\/Lib.compareBytes a b=1
 | [],[]=> by simp [Lib.compareBytes]
 | [],_::_=> by simp [Lib.compareBytes]
 | _::_,[]=> by simp [Lib.compareBytes]
 | a::x,b::y=> by
  rw [Lib.compareBytes];split
  · exact .inl rfl
  · split
    · exact .inr (.inr rfl)
    · exact cmpB_range x y
theorem cmpB_zero:∀{a b:List UInt8},Lib.compareBytes a b=0↔a=b
 | [],[]=> by simp [Lib.compareBytes]
 | [],_::_=> by simp [Lib.compareBytes]
 | _::_,[]=> by simp [Lib.compareBytes]
 | a::x,b::y=> by
  rw [Lib.compareBytes];by_cases h:a < b
  · have hne:¬ a=b:=λ e=> by subst e;exact UInt8.lt_irrefl _ h
    simp [h,hne]
  · by_cases h2:b < a
    · have hne:¬ a=b:=λ e=> by subst e;exact h h2
      simp [h,h2,hne]
    · have he:a=b:=by
       rw [UInt8.lt_iff_toNat_lt] at h h2;exact UInt8.toNat_inj.1 (by omega)
      subst he;simp [cmpB_zero (a:=x) (b:=y)]
theorem cmpB_swap:∀a b:List UInt8,Lib.compareBytes b a= - Lib.compareBytes a b
 | [],[]=> by simp [Lib.compareBytes]
 | [],_::_=> by simp [Lib.compareBytes]
 | _::_,[]=> by simp [Lib.compareBytes]
 | a::x,b::y=> by
  rw [Lib.compareBytes,Lib.compareBytes,cmpB_swap x y];by_cases h:a < b
  · have:¬ b < a:=by rw [UInt8.lt_iff_toNat_lt] at *;omega
    simp [h,this]
  · by_cases h2:b < a <;> simp [h,h2]
theorem cmpB_trans:∀{a b c:List UInt8},Lib.compareBytes a b < 0->Lib.compareBytes b c < 0->Lib.compareBytes a c < 0
 | [],[],_,h,_=> by simp [Lib.compareBytes] at h
 | _::_,[],_,h,_=> by simp [Lib.compareBytes] at h
 | _,_::_,[],_,h=> by simp [Lib.compareBytes] at h
 | [],_::_,_::_,_,_=> by simp [Lib.compareBytes]
 | a::x,b::y,c::z,h1,h2=> by
  rw [Lib.compareBytes] at h1 h2 ⊢;by_cases hab:a < b
  · by_cases hbc:b < c
    · have:a < c:=by rw [UInt8.lt_iff_toNat_lt] at *;omega
      simp [this]
    · by_cases hcb:c < b
      · simp [hbc,hcb] at h2
      · have:a < c:=by rw [UInt8.lt_iff_toNat_lt] at *;omega
        simp [this]
  · by_cases hba:b < a
    · simp [hab,hba] at h1
    · simp only [hab,hba,if_false] at h1
      have e:a=b:=by rw [UInt8.lt_iff_toNat_lt] at hab hba;exact UInt8.toNat_inj.1 (by omega)
      subst e;by_cases hbc:a < c
      · simp [hbc]
      · by_cases hcb:c < a
        · simp [hbc,hcb] at h2
        · simp only [hbc,hcb,if_false] at h2 ⊢
          exact cmpB_trans h1 h2
instance:KOrd ByteArray where
 cmp:=λ a b=> Lib.compareBytes (bytes a) (bytes b)
 range:=λ _ _=> cmpB_range _ _
 zero:=⟨λ h=> bytes_inj (cmpB_zero.1 h),λ h=> by rw [h];exact cmpB_zero.2 rfl⟩
 swap:=λ _ _=> cmpB_swap _ _
 trans:=cmpB_trans
section
variable {κ ν:Type} [KOrd κ]
theorem posK_eq {es:M κ ν} {k:κ} {i:Nat} (hi:i<=es.length) (h1:∀j (h:j < es.length),j < i->ltK es[j].1 k) (h2:∀h:i < es.length,¬ ltK es[i].1 k):posK es k=i:=by
 unfold posK
 induction es generalizing i with
 | nil=> simp at hi;simp [hi]
 | cons x es ih=>
  cases i with
  | zero=>
   have:=h2 (by simp);simp only [List.getElem_cons_zero] at this;simp [this]
  | succ i=>
   have h0:=h1 0 (by simp) (by omega);simp only [List.getElem_cons_zero] at h0;simp only [List.takeWhile_cons,h0,decide_true,if_true,List.length_cons];rw [ih (i:=i) (by simpa using hi) (λ j h hj=> by have:=h1 (j+1) (by simpa using h) (by omega);simpa using this) (λ h=> by have:=h2 (by simpa using h);simpa using this)]
theorem hasK_at {es:M κ ν} {k:κ} {i:Nat} (h:posK es k=i):hasK es k=if h:i < es.length then decide (KOrd.cmp es[i].1 k=0) else false:=by
 unfold hasK;rw [h];by_cases hi:i < es.length
 · rw [dif_pos hi,List.getElem?_eq_getElem hi];rfl
 · rw [dif_neg hi,List.getElem?_eq_none (by omega)]
end
end Go.Proofs.YtnefkkidfhmggaaGreat
end
noncomputable section
namespace Go.Proofs.YtnefkkidfhmggaaGreat
structure Vl where
 kind:Int
 int:Int
 text:ByteArray
 deriving DecidableEq
abbrev Rw:=List Vl
def orS (a b:Int):Int:=if a=0 then b else a
def cmpV (a b:Vl):Int:=orS (cmpS a.kind b.kind) (orS (cmpS a.int b.int) (Lib.compareBytes (bytes a.text) (bytes b.text)))
def cmpR:Rw->Rw->Int
 | [],[]=> 0
 | [],_::_=> -1
 | _::_,[]=> 1
 | a::x,b::y=> if cmpV a b=0 then cmpR x y else cmpV a b
theorem cmpV_zero {a b:Vl}:cmpV a b=0↔a=b:=by
 obtain ⟨k,i,t⟩:=a;obtain ⟨k',i',t'⟩:=b;unfold cmpV orS;by_cases h1:cmpS k k'=0
 · by_cases h2:cmpS i i'=0
   · simp only [h1,h2,if_true]
     rw [cmpB_zero];have e1:=cmpS_zero.1 h1;have e2:=cmpS_zero.1 h2;subst e1 e2;constructor
     · intro h;rw [bytes_inj h]
     · intro h;cases h;rfl
   · simp only [h1,h2,if_true,if_false]
     have:¬ i=i':=λ h=> h2 (cmpS_zero.2 h);constructor
     · intro h;exact h.elim
     · intro h;cases h;exact this rfl
 · simp only [h1,if_false]
   constructor
   · intro h;exact absurd h (by simp)
   · intro h;cases h;exact h1 (cmpS_zero.2 rfl)
theorem cmpV_swap (a b:Vl):cmpV b a= - cmpV a b:=by
 unfold cmpV orS;rw [cmpS_swap a.kind b.kind,cmpS_swap a.int b.int,cmpB_swap (bytes a.text) (bytes b.text)];by_cases h1:cmpS a.kind b.kind=0
 · by_cases h2:cmpS a.int b.int=0 <;> simp [h1,h2]
 · have:¬ - cmpS a.kind b.kind=0:=by omega
   simp [h1]
theorem cmpV_trans {a b c:Vl} (h1:cmpV a b < 0) (h2:cmpV b c < 0):cmpV a c < 0:=by
 obtain ⟨k,i,t⟩:=a;obtain ⟨k',i',t'⟩:=b;obtain ⟨k'',i'',t''⟩:=c;unfold cmpV orS at *;simp only at *;by_cases p1:cmpS k k'=0
 · have e1:=cmpS_zero.1 p1
   subst e1;by_cases p2:cmpS k k''=0
   · have e2:=cmpS_zero.1 p2
     subst e2;simp only [p1,if_true] at *;by_cases q1:cmpS i i'=0
     · have e3:=cmpS_zero.1 q1
       subst e3;by_cases q2:cmpS i i''=0
       · simp only [q1,q2,if_true] at *
         exact cmpB_trans h1 h2
       · simp only [q2,if_false] at *
         exact h2
     · simp only [q1,if_false] at h1
       rw [cmpS_neg] at h1;by_cases q2:cmpS i' i''=0
       · have e4:=cmpS_zero.1 q2
         subst e4;simp only [q1,if_false];exact cmpS_neg.2 h1
       · simp only [q2,if_false] at h2
         rw [cmpS_neg] at h2;have q3:¬ cmpS i i''=0:=λ h=> by have:=cmpS_zero.1 h;omega
         simp only [q3,if_false];exact cmpS_neg.2 (by omega)
   · simp only [p1,p2,if_true,if_false] at *
     exact h2
 · simp only [p1,if_false] at h1
   rw [cmpS_neg] at h1;by_cases p2:cmpS k' k''=0
   · have e2:=cmpS_zero.1 p2
     subst e2;simp only [p1,if_false];exact cmpS_neg.2 h1
   · simp only [p2,if_false] at h2
     rw [cmpS_neg] at h2;have p3:¬ cmpS k k''=0:=λ h=> by have:=cmpS_zero.1 h;omega
     simp only [p3,if_false];exact cmpS_neg.2 (by omega)
theorem cmpR_zero:∀{a b:Rw},cmpR a b=0↔a=b
 | [],[]=> by simp [cmpR]
 | [],_::_=> by simp [cmpR]
 | _::_,[]=> by simp [cmpR]
 | a::x,b::y=> by
  rw [cmpR];split
  · rename_i h
    rw [cmpR_zero (a:=x) (b:=y)];have:=cmpV_zero.1 h;subst this;simp
  · rename_i h
    have hne:¬ a=b:=λ e=> h (cmpV_zero.2 e);simp [h,hne]
theorem cmpR_step {R S:Rw} {k:Nat} (h1:k < R.length) (h2:k < S.length):cmpR (R.drop k) (S.drop k)=if cmpV R[k] S[k]=0 then cmpR (R.drop (k+1)) (S.drop (k+1)) else cmpV R[k] S[k]:=by
 rw [List.drop_eq_getElem_cons h1,List.drop_eq_getElem_cons h2,cmpR]
theorem cmpR_long {R S:Rw} {k:Nat} (h1:k < R.length) (h2:S.length<=k):cmpR (R.drop k) (S.drop k)=1:=by
 rw [List.drop_eq_getElem_cons h1,List.drop_of_length_le h2,cmpR]
theorem cmpR_short {R S:Rw} {k:Nat} (h1:R.length<=k) (h2:k < S.length):cmpR (R.drop k) (S.drop k)= -1:=by
 rw [List.drop_eq_getElem_cons h2,List.drop_of_length_le h1,cmpR]
theorem cmpR_both {R S:Rw} {k:Nat} (h1:R.length<=k) (h2:S.length<=k):cmpR (R.drop k) (S.drop k)=0:=by
 rw [List.drop_of_length_le h1,List.drop_of_length_le h2,cmpR]
end Go.Proofs.YtnefkkidfhmggaaGreat
end
noncomputable section
namespace Go.Proofs.YtnefkkidfhmggaaGreat
open Go.RowKit
structure VarIs (w:World) (b:Nat) (c:Array Value):Prop where
 lt:b < w.heap.size
 cell:∀j,w.cell? ⟨b,j,none⟩=c[j]?
 free:∀j,w.frozen? ⟨b,j,none⟩=false
theorem VarIs.new (w:World) (c:Array Value) (t:TypeId):VarIs (w.alloc (.cells c t)) w.heap.size c:=
 ⟨by simp,λ j=> World.cell?_alloc_new w c t j,λ j=> World.frozen?_alloc_new w c t j⟩
theorem VarIs.alloc {w:World} {b:Nat} {c:Array Value} (h:VarIs w b c) (o:Obj):VarIs (w.alloc o) b c:=
 ⟨by simp;have:=h.lt;omega,λ j=> (World.cell?_alloc_lt _ _ _ h.lt).trans (h.cell j),λ j=> (World.frozen?_alloc_old _ _ _ (Nat.ne_of_lt h.lt)).trans (h.free j)⟩
theorem VarIs.new1 (w:World) (o:Obj) (c:Array Value) (t:TypeId):VarIs ((w.alloc o).alloc (.cells c t)) (w.heap.size+1) c:=by
 have:=VarIs.new (w.alloc o) c t
 rwa [World.size_alloc] at this
theorem S_of {W w:World} (h:Below W.heap.size W w):Below W.heap.size W w/\∀b o,b < W.heap.size->w.cell? ⟨b,o,none⟩=W.cell? ⟨b,o,none⟩:=⟨h,λ b o hb=> h.cell (p:=⟨b,o,none⟩) hb⟩
theorem S_step {W w w':World} (h:Below W.heap.size W w/\∀b o,b < W.heap.size->w.cell? ⟨b,o,none⟩=W.cell? ⟨b,o,none⟩) (hb:Below w.heap.size w w'):Below W.heap.size W w'/\∀b o,b < W.heap.size->w'.cell? ⟨b,o,none⟩=W.cell? ⟨b,o,none⟩:=
 S_of (h.1.trans (hb.mono h.1.size))
theorem S_alloc {W w:World} (h:Below W.heap.size W w/\∀b o,b < W.heap.size->w.cell? ⟨b,o,none⟩=W.cell? ⟨b,o,none⟩) (o:Obj):Below W.heap.size W (w.alloc o)/\∀b o',b < W.heap.size->(w.alloc o).cell? ⟨b,o',none⟩=W.cell? ⟨b,o',none⟩:=
 S_of (h.1.alloc h.1.size o)
theorem own_below {w w':World} {base:Nat} {e:TypeId} {size:Nat} {v:Value} {n:Nat} {xs:List Value} (h:w.ownsRow base e size v n xs) (hb:Below w.heap.size w w'):w'.ownsRow base e size v n xs:=by
 refine ⟨h.1,?_⟩;rcases h.2 with h2 | ⟨g,cap,cur,hv,hg,hh,r⟩
 · exact .inl h2
 · exact .inr ⟨g,cap,cur,hv,hg,(hb.block g (Array.getElem?_eq_some_iff.1 hh).1).trans hh,r⟩
section
variable {P:Program}
theorem run_copy_row_k (w:World) (dT sT ty elem:TypeId) (k g o dLen dCap:Nat) (a:Addr) (sLen sCap:Nat) (cur:Array Value) (t:TypeId) (cs:List Value)
 (hu:P.underlying dT=some (.slice elem)) (hs:(P.info? elem).map (·.size)=some k)
 (hg:w.heap[g]? =some (.cells cur t (0,0))) (hn:cs.length=Nat.min sLen dLen * k)
 (hsrc:∀j v,cs[j]? =some v->w.cell? (a.add j)=some v) (hfit:o+cs.length<=cur.size) (h1:∀v∈cs,v.oneCell'=true):
 (Builtin.copy_ #[dT,sT] ty #[.slice (some ⟨g,o,none⟩) dLen dCap, .slice (some a) sLen sCap]).run P w=
  .ok (goInt (Nat.min sLen dLen:Nat)) (w.setRow g (cur.toList.take o++cs++cur.toList.drop (o+cs.length)).toArray):=by
 have hl:=run_loadCells_list (P:=P) w a cs hsrc;have hst:=run_storeCells_at P g o t cs 0 cur w hg (by simpa using hfit) h1;cases hq:P.info? elem with
 | none=> simp [hq] at hs
 | some i=>
  have hi:i.size=k:=by simpa [hq] using hs
  simp [Builtin.copy_,run_underlying hu,Builtin.lenOf,Builtin.firstCells,sizeOf,typeInfo,hq,hi,<-hn,hl,hst]
theorem grown_setRow (w:World) (g:Nat) (cs:Array Value):w.grownBy (w.setRow g cs) (some g):=
 ⟨rfl,rfl,rfl,by simp [World.setRow],λ k _ hk=> setRow_other w g k cs (λ e=> hk (by rw [e]))⟩
theorem wpList_copy2 {w:World} {ops:Array Oper} {rest:List Oper} {o:Oper} {a:Act} {Q:Exit->Act->World->Prop} (hgd:o.guard=none) (d s:Operand) (dT sT:TypeId)
 (ho:o.op=.call { callee:=.builtin .copy,args:=#[d,s],argTypes:=#[dT,sT] }) (elem:TypeId) (k:Nat) (hu:P.underlying dT=some (.slice elem)) (hsz:(P.info? elem).map (·.size)=some k)
 (g off dLen dCap:Nat) (ad:Addr) (sLen sCap:Nat) (hd:a.eval d=.slice (some ⟨g,off,none⟩) dLen dCap) (hs:a.eval s=.slice (some ad) sLen sCap)
 (cur:List Value) (t:TypeId) (hg:w.heap[g]? =some (.cells cur.toArray t (0,0))) (cs:List Value) (hn:cs.length=Nat.min sLen dLen * k)
 (hsrc:∀j v,cs[j]? =some v->w.cell? (ad.add j)=some v) (hfit:off+cs.length<=cur.length) (h1:∀v∈cs,v.oneCell'=true)
 (h:∀w',Hid (w'.heap[g]? =some (.cells (splice cur off cs).toArray t (0,0)))->Hid (w.grownBy w' (some g))->wpList P ops Q rest (a.put o.dst (goInt (Nat.min sLen dLen:Nat))) w'):wpList P ops Q (o::rest) a w:=by
 refine wpList_plain hgd λ K hK=> ?_;have hrun:=run_copy_row_k (P:=P) w dT sT o.type elem k g off dLen dCap ad sLen sCap cur.toArray t cs hu hsz hg hn hsrc (by simpa using hfit) h1;unfold Oper.wp;simp only [execOp,ho,resolve,invoke,builtin,Sem.run_bind,Sem.run_pure,Result.andThen_ok,List.map_toArray,List.map_cons,List.map_nil,hd,hs,hrun];exact hK _ _ (h _ (show _=_ by simpa [splice] using setRow_heap w g _ _ t _ hg) (grown_setRow _ _ _))
theorem step_copy2 {w:World} {ops:Array Oper} {o:Oper} {a:Act} {K:Act->World->Prop} {Q:Exit->Act->World->Prop} {E:Prop} (hgd:o.guard=none) (d s:Operand) (dT sT:TypeId)
 (ho:o.op=.call { callee:=.builtin .copy,args:=#[d,s],argTypes:=#[dT,sT] }) (elem:TypeId) (k:Nat) (hu:P.underlying dT=some (.slice elem)) (hsz:(P.info? elem).map (·.size)=some k)
 (g off dLen dCap:Nat) (ad:Addr) (sLen sCap:Nat) (hd:a.eval d=.slice (some ⟨g,off,none⟩) dLen dCap) (hs:a.eval s=.slice (some ad) sLen sCap)
 (cur:List Value) (t:TypeId) (hg:w.heap[g]? =some (.cells cur.toArray t (0,0))) (cs:List Value) (hn:cs.length=Nat.min sLen dLen * k)
 (hsrc:∀j v,cs[j]? =some v->w.cell? (ad.add j)=some v) (hfit:off+cs.length<=cur.length) (h1:∀v∈cs,v.oneCell'=true)
 (h:∀w',Hid (w'.heap[g]? =some (.cells (splice cur off cs).toArray t (0,0)))->Hid (w.grownBy w' (some g))->K (a.put o.dst (goInt (Nat.min sLen dLen:Nat))) w'):
 if Region.wanted o (yielded ops a.tmps)=true then Oper.wp P o a w K Q else E:=by
 have hw:Region.wanted o (yielded ops a.tmps)=true:=by simp [Region.wanted,hgd]
 rw [if_pos hw];have hrun:=run_copy_row_k (P:=P) w dT sT o.type elem k g off dLen dCap ad sLen sCap cur.toArray t cs hu hsz hg hn hsrc (by simpa using hfit) h1;unfold Oper.wp;simp only [execOp,ho,resolve,invoke,builtin,Sem.run_bind,Sem.run_pure,Result.andThen_ok,List.map_toArray,List.map_cons,List.map_nil,hd,hs,hrun];exact h _ (show _=_ by simpa [splice] using setRow_heap w g _ _ t _ hg) (grown_setRow _ _ _)
end
section
variable {P:Program}
theorem run_append_block (w:World) (base:Nat) (t ty e:TypeId) (i:TypeInfo) (z:Value) (size bytes:Nat) (ht:P.underlying t=some (.slice e)) (hi:P.info? e=some i) (hz:i.zero=some z)
 (hsize:i.size=size) (hby:i.bytes=bytes) (hzs:z.cells.size=size) (hsz:0 < size)
 (v:Value) (n:Nat) (xs:List Value) (hown:w.ownsRow base e size v n xs)
 (a:Addr) (m c:Nat) (news:List Value) (hl:news.length=m * size) (hnews:∀j u,news[j]? =some u->w.cell? (a.add j)=some u) (h1:∀u∈news,u.oneCell'=true)
 (hm:0 < m) (h63:n+m<=maxLen) (hbytes:(n+m) * bytes<=140737488355328) (hbase:base<=w.heap.size):
 ∃v' w',(Builtin.append_ #[t,t] ty #[v, .slice (some a) m c]).run P w=.ok v' w'/\w'.ownsRow base e size v' (n+m) (xs++news)/\w.grownBy w' v.ownBlock/\
  (∀k,v'.ownBlock=some k->v.ownBlock=some k\/w.heap.size<=k):=by
 obtain ⟨v',w',hr,h2,h3,_⟩:=run_append_own (P:=P) w base t ty e i z size bytes ht hi hz hsize hby hzs hsz v n xs hown a m c news hl hnews h1 h63 hbytes hbase;refine ⟨v',w',hr,h2,h3,?_⟩;subst hsize;subst hby;have h63':n+m<=9223372036854775807:=by unfold maxLen at h63;omega
 intro k hk;rcases hown.2 with ⟨rfl,rfl⟩ | ⟨g,cap,cur,rfl,hbg,hg,hnc,hcm,hcs,htake⟩
 · have hr2:=run_append_nil (P:=P) w t ty e i z ht hi hz a m c news hl hnews hm (by omega) (by simp only [Nat.zero_add] at hbytes;omega)
   rw [hr2] at hr;injection hr with hr _;subst hr;simp only [Value.ownBlock,Option.some.injEq] at hk;exact .inr (by omega)
 · by_cases hroom:n+m<=cap
   · have hfit:n * i.size+news.length<=cur.size:=by rw [hl,hcs,<-Nat.add_mul];exact Nat.mul_le_mul_right _ hroom
     have hr2:=run_append_room (P:=P) w t ty e i ht hi g n cap cur hg a m c news hl hnews h1 hroom hfit;rw [hr2] at hr;injection hr with hr _;subst hr;exact .inl hk
   · have holds:∀j u,xs[j]? =some u->w.cell? ((⟨g,0,none⟩:Addr).add j)=some u:=hown.cells (g:=g) rfl
     have hr2:=run_append_grow (P:=P) w t ty e i z ht hi hz ⟨g,0,none⟩ n cap xs hown.1 holds a m c news hl hnews (by omega) (by omega) (growslice_fits (by omega) hbytes);rw [hr2] at hr;injection hr with hr _;subst hr;simp only [Value.ownBlock,Option.some.injEq] at hk;exact .inr (by omega)
theorem wpList_append_block (w:World) {ops:Array Oper} {rest:List Oper} {o:Oper} {a:Act} {Q:Exit->Act->World->Prop} (hgd:o.guard=none) (s x:Operand) (t:TypeId)
 (ho:o.op=.call { callee:=.builtin .append,args:=#[s,x],argTypes:=#[t,t] })
 (base:Nat) (e:TypeId) (i:TypeInfo) (z:Value) (size bytes:Nat) (ht:P.underlying t=some (.slice e)) (hi:P.info? e=some i) (hz:i.zero=some z)
 (hsize:i.size=size) (hby:i.bytes=bytes) (hzs:z.cells.size=size) (hsz:0 < size)
 (v:Value) (n:Nat) (xs:List Value) (hs:a.eval s=v) (hown:w.ownsRow base e size v n xs)
 (ad:Addr) (m c:Nat) (news:List Value) (hx:a.eval x=.slice (some ad) m c) (hl:news.length=m * size) (hnews:∀j u,news[j]? =some u->w.cell? (ad.add j)=some u) (h1:∀u∈news,u.oneCell'=true)
 (hm:0 < m) (h63:n+m<=maxLen) (hbytes:(n+m) * bytes<=140737488355328) (hbase:base<=w.heap.size)
 (h:∀v' w',w'.ownsRow base e size v' (n+m) (xs++news)->w.grownBy w' v.ownBlock->Hid (∀k,v'.ownBlock=some k->v.ownBlock=some k\/w.heap.size<=k)->wpList P ops Q rest (a.put o.dst v') w'):wpList P ops Q (o::rest) a w:=by
 refine wpList_plain hgd λ K hK=> ?_;obtain ⟨v',w',hr,h2,h3,h4⟩:=run_append_block (P:=P) w base t o.type e i z size bytes ht hi hz hsize hby hzs hsz v n xs hown ad m c news hl hnews h1 hm h63 hbytes hbase;unfold Oper.wp execOp;simp only [ho,resolve,invoke,builtin,Sem.run_bind,Sem.run_pure,Result.andThen_ok,List.map_toArray,List.map_cons,List.map_nil,hs,hx,hr];exact hK _ _ (h v' w' h2 h3 h4)
end
section
variable {P:Program}
theorem wpList_append_zeros {w:World} {ops:Array Oper} {rest:List Oper} {o:Oper} {a:Act} {Q:Exit->Act->World->Prop} (hgd:o.guard=none) (s x:Operand) (t tn:TypeId)
 (ho:o.op=.call { callee:=.builtin .append,args:=#[s,x],argTypes:=#[t,tn] })
 (e:TypeId) (i:TypeInfo) (z:Value) (size bytes:Nat) (kq kn:IntKind) (ht:P.underlying t=some (.slice e)) (htn:P.underlying tn=some (.int kn)) (hi:P.info? e=some i) (hz:i.zero=some z)
 (hsize:i.size=size) (hby:i.bytes=bytes) (hzs:z.cells.size=size) (hsz:0 < size)
 (g n cap:Nat) (hs:a.eval s=.slice (some ⟨g,0,none⟩) n cap) (k:Nat) (hx:a.eval x=.int kq k)
 (cs:List Value) (hl:cs.length=n * size) (hcs:∀j u,cs[j]? =some u->w.cell? ⟨g,j,none⟩=some u)
 (h0:0 < k) (hg:cap < n+k) (hnc:n<=cap) (h63:n+k<=1099511627776) (hbytes:(n+k) * bytes<=140737488355328)
 (h:∀w' G Z,Hid (w'.heap[w.heap.size]? =some (.cells (cs++Z).toArray e (0,0)))->Hid (Z.length=(G - n) * size)->n+k<=G->Hid (G<=maxLen)->Hid (w.grownBy w' none)->
  wpList P ops Q rest (a.put o.dst (.slice (some ⟨w.heap.size,0,none⟩) (n+k) G)) w'):wpList P ops Q (o::rest) a w:=by
 refine wpList_plain hgd λ K hK=> ?_;subst hsize;subst hby;have hold:(Builtin.firstCells i.size n (.slice (some ⟨g,0,none⟩) n cap)).run P w.drew=.ok cs.toArray w.drew:=
  run_firstCells_some w.drew i.size n ⟨g,0,none⟩ n cap cs hl (λ j v hj=> by rw [Addr.add_lit,Nat.zero_add];exact hcs j v hj)
 have hfit:Builtin.nextslicecap (n+k) cap * i.bytes<=281474976710656:=growslice_fits hg hbytes;have hkb:k * i.bytes<=(n+k) * i.bytes:=Nat.mul_le_mul_right _ (by omega);have hrun:=Lib.run_append_grow_zeros (P:=P) w t tn o.type e i z kq kn ht htn hi hz (some ⟨g,0,none⟩) n cap cs hold k h0 hsz hg (by omega) (by omega) hfit;have hG1:=grownCap_ge w (n+k) cap e;have hG2:=grownCap_le_maxLen w (n+k) cap e (by unfold maxLen;omega);unfold Oper.wp execOp;simp only [ho,resolve,invoke,builtin,Sem.run_bind,Sem.run_pure,Result.andThen_ok,List.map_toArray,List.map_cons,List.map_nil,hs,hx,hrun];refine hK _ _ (h _ _ ((Builtin.zeroCells z.cells k++Builtin.zeroCells z.cells (grownCap w (n+k) cap e - (n+k))).toList) ?_ ?_ hG1 hG2 ?_)
 · show _=_
   refine (heap_alloc_new w.drew _).trans ?_;simp
 · show _=_
   simp only [Array.toList_append,List.length_append,Array.length_toList,size_zeroCells,hzs];rw [<-Nat.add_mul];congr 1;omega
 · show World.grownBy _ _ _
   exact ⟨rfl,rfl,rfl,by simp,λ j hj _=> Below.heap_alloc w.drew _ _ hj⟩
theorem splice_get {α:Type} (L:List α) (off:Nat) (cs:List α) (h:off+cs.length<=L.length) (j:Nat):(splice L off cs)[j]? =if j < off then L[j]? else if j < off+cs.length then cs[j - off]? else L[j]? :=by
 unfold splice;by_cases h1:j < off
 · rw [List.getElem?_append_left (by simp;omega),List.getElem?_take,if_pos h1,if_pos h1]
 · rw [List.getElem?_append_right (by simp;omega),if_neg h1]
   have e:(L.take off).length=off:=by simp;omega
   rw [e];by_cases h2:j < off+cs.length
   · rw [List.getElem?_append_left (by omega),if_pos h2]
   · rw [List.getElem?_append_right (by omega),if_neg h2,List.getElem?_drop]
     congr 1;omega
theorem splice_length {α:Type} (L:List α) (off:Nat) (cs:List α) (h:off+cs.length<=L.length):(splice L off cs).length=L.length:=by
 unfold splice;simp;omega
theorem row_shift {α:Type} (cur:List α) (k m:Nat) (vs:List α) (hm:m+vs.length<=cur.length) (hk:k<=m):
 (splice (splice cur (k+vs.length) ((cur.take m).drop k)) k vs).take (m+vs.length)=(cur.take m).take k++vs++(cur.take m).drop k:=by
 have l1:((cur.take m).drop k).length=m - k:=by simp;omega
 have h1:(k+vs.length)+((cur.take m).drop k).length<=cur.length:=by omega
 have h2:k+vs.length<=(splice cur (k+vs.length) ((cur.take m).drop k)).length:=by rw [splice_length _ _ _ h1];omega
 apply List.ext_getElem?;intro j;have e1:((cur.take m).take k).length=k:=by simp;omega
 rw [List.getElem?_take,splice_get _ _ _ h2,splice_get _ _ _ h1,l1];by_cases c1:j < k
 · rw [if_pos (by omega),if_pos c1,if_pos (by omega),List.getElem?_append_left (by simp;omega),List.getElem?_append_left (by omega),List.getElem?_take,if_pos c1,List.getElem?_take,if_pos (by omega)]
 · by_cases c2:j < k+vs.length
   · rw [if_pos (by omega),if_neg c1,if_pos c2,List.getElem?_append_left (by simp;omega),List.getElem?_append_right (by omega),e1]
   · by_cases c3:j < m+vs.length
     · rw [if_pos c3,if_neg c1,if_neg c2,if_neg c2,if_pos (by omega),List.getElem?_append_right (by simp;omega)]
       congr 1;simp;omega
     · rw [if_neg c3,List.getElem?_eq_none]
       simp;omega
theorem row_grow {α:Type} (cs Z:List α) (k:Nat) (vs:List α) (hk:k<=cs.length) (hz:vs.length+(cs.length - k)<=Z.length):
 (splice (splice (cs.take k++Z) k vs) (k+vs.length) (cs.drop k)).take (cs.length+vs.length)=cs.take k++vs++cs.drop k:=by
 have h1:k+vs.length<=(cs.take k++Z).length:=by simp;omega
 have h2:(k+vs.length)+(cs.drop k).length<=(splice (cs.take k++Z) k vs).length:=by rw [splice_length _ _ _ h1];simp;omega
 apply List.ext_getElem?;intro j;have e1:(cs.take k).length=k:=by simp;omega
 rw [List.getElem?_take,splice_get _ _ _ h2,splice_get _ _ _ h1];by_cases c1:j < k
 · rw [if_pos (by omega),if_pos (by omega),if_pos c1,List.getElem?_append_left (by simp;omega),List.getElem?_append_left (by simp;omega),List.getElem?_append_left (by omega)]
 · by_cases c2:j < k+vs.length
   · rw [if_pos (by omega),if_pos c2,if_neg c1,if_pos c2,List.getElem?_append_left (by simp;omega),List.getElem?_append_right (by omega),e1]
   · by_cases c3:j < cs.length+vs.length
     · rw [if_pos c3,if_neg c2,if_pos (by simp;omega),List.getElem?_append_right (by simp;omega)]
       congr 1;simp;omega
     · rw [if_neg c3,List.getElem?_eq_none]
       simp;omega
end
section
variable {P:Program}
theorem step_append_row {w:World} {ops:Array Oper} {o:Oper} {a:Act} {K:Act->World->Prop} {Q:Exit->Act->World->Prop} {E:Prop} (hgd:o.guard=none) (s x:Operand) (t:TypeId)
 (ho:o.op=.call { callee:=.builtin .append,args:=#[s,x],argTypes:=#[t,t] }) (e:TypeId) (i:TypeInfo) (size:Nat) (ht:P.underlying t=some (.slice e)) (hi:P.info? e=some i) (hsize:i.size=size)
 (g n cap:Nat) (hs:a.eval s=.slice (some ⟨g,0,none⟩) n cap) (cur:List Value) (hg:w.heap[g]? =some (.cells cur.toArray e (0,0)))
 (ad:Addr) (m c:Nat) (news:List Value) (hx:a.eval x=.slice (some ad) m c) (hl:news.length=m * size) (hnews:∀j u,news[j]? =some u->w.cell? (ad.add j)=some u) (h1:∀u∈news,u.oneCell'=true)
 (hroom:n+m<=cap) (hfit:n * size+news.length<=cur.length)
 (h:∀w',Hid (w'.heap[g]? =some (.cells (splice cur (n * size) news).toArray e (0,0)))->Hid (w.grownBy w' (some g))->K (a.put o.dst (.slice (some ⟨g,0,none⟩) (n+m) cap)) w'):
 if Region.wanted o (yielded ops a.tmps)=true then Oper.wp P o a w K Q else E:=by
 have hw:Region.wanted o (yielded ops a.tmps)=true:=by simp [Region.wanted,hgd]
 rw [if_pos hw];subst hsize;have hrun:=run_append_room (P:=P) w t o.type e i ht hi g n cap cur.toArray hg ad m c news hl hnews h1 hroom (by simpa using hfit);unfold Oper.wp;simp only [execOp,ho,resolve,invoke,builtin,Sem.run_bind,Sem.run_pure,Result.andThen_ok,List.map_toArray,List.map_cons,List.map_nil,hs,hx,hrun];exact h _ (show _=_ by simpa [splice] using setRow_heap w g _ _ e _ hg) (grown_setRow _ _ _)
theorem wpList_clear2 {w:World} {ops:Array Oper} {rest:List Oper} {o:Oper} {a:Act} {Q:Exit->Act->World->Prop} (hgd:o.guard=none) (s:Operand) (t:TypeId)
 (ho:o.op=.call { callee:=.builtin .clear,args:=#[s],argTypes:=#[t] }) (e:TypeId) (i:TypeInfo) (z:Value) (size:Nat) (ht:P.underlying t=some (.slice e)) (hi:P.info? e=some i) (hz:i.zero=some z) (hzs:z.cells.size=size)
 (g off n cap:Nat) (hs:a.eval s=.slice (some ⟨g,off,none⟩) n cap) (hn:0 < n) (cur:List Value) (hg:w.heap[g]? =some (.cells cur.toArray e (0,0))) (hfit:off+n * size<=cur.length) (h1:∀u∈(Builtin.zeroCells z.cells n).toList,u.oneCell'=true)
 (h:∀w',Hid (w'.heap[g]? =some (.cells (splice cur off (Builtin.zeroCells z.cells n).toList).toArray e (0,0)))->Hid (w.grownBy w' (some g))->wpList P ops Q rest (a.put o.dst (.tuple #[])) w'):wpList P ops Q (o::rest) a w:=by
 refine wpList_plain hgd λ K hK=> ?_;have hzl:(Builtin.zeroCells z.cells n).toList.length=n * size:=by rw [Array.length_toList,size_zeroCells,hzs]
 have hst:=run_storeCells_at P g off e (Builtin.zeroCells z.cells n).toList 0 cur.toArray w hg (by rw [hzl];simpa using hfit) h1;obtain ⟨n,rfl⟩:∃m,n=m+1:=⟨n - 1,by omega⟩
 have hrun:∀ty,(Builtin.clear_ #[t] ty #[.slice (some ⟨g,off,none⟩) (n+1) cap]).run P w=.ok (.tuple #[]) (w.setRow g (cur.take off++(Builtin.zeroCells z.cells (n+1)).toList++cur.drop (off+(Builtin.zeroCells z.cells (n+1)).toList.length)).toArray):=by intro ty;simp only [Nat.add_zero] at hst;simp [Builtin.clear_,run_underlying ht,zeroValue,typeInfo,hi,hz,hst]
 unfold Oper.wp;simp only [execOp,ho,resolve,invoke,builtin,Sem.run_bind,Sem.run_pure,Result.andThen_ok,List.map_toArray,List.map_cons,List.map_nil,hs,hrun];exact hK _ _ (h _ (show _=_ by simpa [splice] using setRow_heap w g _ _ e _ hg) (grown_setRow _ _ _))
theorem row_delete {α:Type} (cur:List α) (k m d:Nat) (zs:List α) (hm:m<=cur.length) (hk:k+d<=m) (hz:zs.length<=d):
 (splice (splice cur k ((cur.take m).drop (k+d))) (m - d) zs).take (m - d)=(cur.take m).take k++(cur.take m).drop (k+d):=by
 have l1:((cur.take m).drop (k+d)).length=m - (k+d):=by simp;omega
 have h1:k+((cur.take m).drop (k+d)).length<=cur.length:=by omega
 have h2:(m - d)+zs.length<=(splice cur k ((cur.take m).drop (k+d))).length:=by rw [splice_length _ _ _ h1];omega
 have e1:((cur.take m).take k).length=k:=by simp;omega
 apply List.ext_getElem?;intro j;rw [List.getElem?_take,splice_get _ _ _ h2,splice_get _ _ _ h1,l1];by_cases c1:j < k
 · rw [if_pos (by omega),if_pos (by omega),if_pos c1,List.getElem?_append_left (by omega),List.getElem?_take,if_pos c1,List.getElem?_take,if_pos (by omega)]
 · by_cases c2:j < m - d
   · rw [if_pos c2,if_pos c2,if_neg c1,if_pos (by omega),List.getElem?_append_right (by omega),e1]
   · rw [if_neg c2,List.getElem?_eq_none]
     simp;omega
end
theorem grown_drew {w w':World} {g:Option Nat} (h:w.drew.grownBy w' g):w.grownBy w' g:=⟨h.os,h.tape,h.output,h.size,h.block⟩
end Go.Proofs.YtnefkkidfhmggaaGreat
end
noncomputable section
namespace Go.Proofs.YtnefkkidfhmggaaGreat
open Go.RowKit
structure Asn where
 p:World->List Nat->Prop
 lt:∀{w:World} {fp:List Nat},p w fp->∀k∈fp,k < w.heap.size
 loc:∀{w w':World} {fp:List Nat},p w fp->(∀k∈fp,w'.heap[k]? =w.heap[k]?)->p w' fp
def Star (w:World):List Asn->List Nat->Prop
 | [],fp=> fp=[]
 | A::L,fp=> ∃f g,A.p w f/\Star w L g/\(∀k∈f,k ∉ g)/\fp=f++g
theorem Star.lt {w:World}:∀{L:List Asn} {fp:List Nat},Star w L fp->∀k∈fp,k < w.heap.size
 | [],fp,h,k,hk=> by rw [show fp=[] from h] at hk;cases hk
 | A::L,fp,h,k,hk=> by
  obtain ⟨f,g,h1,h2,_,rfl⟩:=h;rcases List.mem_append.1 hk with hk | hk
  · exact A.lt h1 k hk
  · exact Star.lt h2 k hk
theorem Star.loc {w w':World}:∀{L:List Asn} {fp:List Nat},Star w L fp->(∀k∈fp,w'.heap[k]? =w.heap[k]?)->Star w' L fp
 | [],fp,h,_=> h
 | A::L,fp,h,hs=> by obtain ⟨f,g,h1,h2,h3,rfl⟩:=h;exact ⟨f,g,A.loc h1 (λ k hk=> hs k (List.mem_append.2 (.inl hk))),Star.loc h2 (λ k hk=> hs k (List.mem_append.2 (.inr hk))),h3,rfl⟩
structure Tr (w w':World) (fp fp':List Nat):Prop where
 os:w'.os=w.os
 tape:w'.tape=w.tape
 output:w'.output=w.output
 size:w.heap.size<=w'.heap.size
 block:∀k,k < w.heap.size->k ∉ fp->w'.heap[k]? =w.heap[k]?
 new:∀k∈fp',k∈fp\/w.heap.size<=k
theorem Tr.refl (w:World) (fp:List Nat):Tr w w fp fp:=⟨rfl,rfl,rfl,Nat.le_refl _,λ _ _ _=> rfl,λ _ h=> .inl h⟩
theorem Tr.trans {w w1 w2:World} {fp fp1 fp2:List Nat} (h:Tr w w1 fp fp1) (h':Tr w1 w2 fp1 fp2):Tr w w2 fp fp2:=by
 refine ⟨h'.os.trans h.os,h'.tape.trans h.tape,h'.output.trans h.output,Nat.le_trans h.size h'.size,λ k hk hn=> ?_,λ k hk=> ?_⟩
 · refine (h'.block k (Nat.lt_of_lt_of_le hk h.size) λ h1=> ?_).trans (h.block k hk hn)
   rcases h.new k h1 with h2 | h2
   · exact hn h2
   · omega
 · rcases h'.new k hk with h1 | h1
   · exact h.new k h1
   · exact .inr (Nat.le_trans h.size h1)
theorem Tr.of_below {w w':World} (fp:List Nat) (h:Below w.heap.size w w'):Tr w w' fp fp:=⟨h.os,h.tape,h.output,h.size,λ k hk _=> h.block k hk,λ _ h=> .inl h⟩
theorem Tr.below {w w':World} {fp fp':List Nat} {B:Nat} (h:Tr w w' fp fp') (hB:B<=w.heap.size) (hf:∀k∈fp,B<=k):Below B w w':=
 ⟨h.os,h.tape,h.output,h.size,λ k hk=> h.block k (by omega) λ h1=> by have:=hf k h1;omega⟩
theorem Tr.of_grown {w w':World} {o o':Option Nat} (h:w.grownBy w' o) (hn:∀k,o'=some k->o=some k\/w.heap.size<=k):Tr w w' o.toList o'.toList:=
 ⟨h.os,h.tape,h.output,h.size,λ k hk hm=> h.block k hk (λ e=> hm (by rw [<-e];simp)),λ k hk=> by
  have:o'=some k:=by cases o' <;> simp_all
  rcases hn k this with h1 | h1
  · left;rw [h1];simp
  · exact .inr h1⟩
theorem Star.get {w:World}:∀{L:List Asn} {fp:List Nat} (i:Nat) {A:Asn},L[i]? =some A->Star w L fp->
 ∃f,A.p w f/\(∀k∈f,k∈fp)/\∀(A':Asn) (w':World) (f':List Nat),A'.p w' f'->Tr w w' f f'->∃fp',Star w' (L.set i A') fp'/\Tr w w' fp fp'
 | [],fp,i,A,h,_=> by simp at h
 | B::L,fp,0,A,h,hs=> by
  obtain rfl:B=A:=by simpa using h
  obtain ⟨f,g,h1,h2,h3,rfl⟩:=hs;refine ⟨f,h1,λ k hk=> List.mem_append.2 (.inl hk),λ A' w' f' ha ht=> ⟨f'++g,⟨f',g,ha,h2.loc λ k hk=> ht.block k (h2.lt k hk) λ h=> h3 k h hk,λ k hk hg=> ?_,rfl⟩,?_⟩⟩
  · rcases ht.new k hk with h | h
    · exact h3 k h hg
    · have:=h2.lt k hg;omega
  · refine ⟨ht.os,ht.tape,ht.output,ht.size,λ k hk hn=> ht.block k hk λ h=> hn (List.mem_append.2 (.inl h)),λ k hk=> ?_⟩
    rcases List.mem_append.1 hk with hk | hk
    · rcases ht.new k hk with h | h
      · exact .inl (List.mem_append.2 (.inl h))
      · exact .inr h
    · exact .inl (List.mem_append.2 (.inr hk))
 | B::L,fp,i+1,A,h,hs=> by
  obtain ⟨f0,g,h1,h2,h3,rfl⟩:=hs;obtain ⟨f,hf,hfg,hk⟩:=Star.get i (by simpa using h) h2;refine ⟨f,hf,λ k hk=> List.mem_append.2 (.inr (hfg k hk)),λ A' w' f' ha ht=> ?_⟩;obtain ⟨g',hg',htg⟩:=hk A' w' f' ha ht;refine ⟨f0++g',⟨f0,g',B.loc h1 λ k hk=> ht.block k (B.lt h1 k hk) λ h=> h3 k hk (hfg k h),hg',λ k hk hg=> ?_,rfl⟩,?_⟩
  · rcases htg.new k hg with h | h
    · exact h3 k hk h
    · have:=B.lt h1 k hk;omega
  · refine ⟨ht.os,ht.tape,ht.output,ht.size,λ k hk hn=> htg.block k hk λ h=> hn (List.mem_append.2 (.inr h)),λ k hk=> ?_⟩
    rcases List.mem_append.1 hk with hk | hk
    · exact .inl (List.mem_append.2 (.inl hk))
    · rcases htg.new k hk with h | h
      · exact .inl (List.mem_append.2 (.inr h))
      · exact .inr h
theorem Star.snoc {w:World} {L:List Asn} {fp:List Nat} {A:Asn} {f:List Nat} (h:Star w L fp) (ha:A.p w f) (hd:∀k∈f,k ∉ fp):Star w (L++[A]) (fp++f):=by
 induction L generalizing fp with
 | nil=>
  rw [show fp=[] from h];exact ⟨f,[],ha,rfl,by simp,by simp⟩
 | cons B L ih=>
  obtain ⟨f0,g,h1,h2,h3,rfl⟩:=h;refine ⟨f0,g++f,h1,ih h2 (λ k hk hg=> hd k hk (List.mem_append.2 (.inr hg))),λ k hk hg=> ?_,by simp⟩;rcases List.mem_append.1 hg with hg | hg
  · exact h3 k hk hg
  · exact hd k hg (List.mem_append.2 (.inl hk))
theorem Star.append {w:World}:∀{L1 L2:List Asn} {fp:List Nat},Star w (L1++L2) fp->∃f g,Star w L1 f/\Star w L2 g/\(∀k∈f,k ∉ g)/\fp=f++g
 | [],L2,fp,h=> ⟨[],fp,rfl,h,by simp,rfl⟩
 | A::L1,L2,fp,h=> by
  obtain ⟨f0,g,h1,h2,h3,rfl⟩:=h;obtain ⟨f,g',h4,h5,h6,rfl⟩:=Star.append h2;refine ⟨f0++f,g',⟨f0,f,h1,h4,λ k hk hf=> h3 k hk (List.mem_append.2 (.inl hf)),rfl⟩,h5,λ k hk hg=> ?_,by simp⟩;rcases List.mem_append.1 hk with hk | hk
  · exact h3 k hk (List.mem_append.2 (.inr hg))
  · exact h6 k hk hg
theorem Star.join {w:World}:∀{L1 L2:List Asn} {f g:List Nat},Star w L1 f->Star w L2 g->(∀k∈f,k ∉ g)->Star w (L1++L2) (f++g)
 | [],L2,f,g,h,h',_=> by rw [show f=[] from h];exact h'
 | A::L1,L2,fp,g,h,h',hd=> by
  obtain ⟨f0,f,h1,h2,h3,rfl⟩:=h;refine ⟨f0,f++g,h1,Star.join h2 h' (λ k hk=> hd k (List.mem_append.2 (.inr hk))),λ k hk hm=> ?_,by simp⟩;rcases List.mem_append.1 hm with hm | hm
  · exact h3 k hk hm
  · exact hd k (List.mem_append.2 (.inl hk)) hm
def St (w0:World) (fp0:List Nat) (L:List Asn) (w:World):Prop:=∃fp,Star w L fp/\Tr w0 w fp0 fp
theorem St.start {w:World} {L:List Asn} {fp:List Nat} (h:Star w L fp):St w fp L w:=⟨fp,h,Tr.refl _ _⟩
theorem St.get {w0 w:World} {fp0:List Nat} {L:List Asn} (h:St w0 fp0 L w) (i:Nat) {A:Asn} (hi:L[i]? =some A):
 ∃f,A.p w f/\∀(A':Asn) (w':World) (f':List Nat),A'.p w' f'->Tr w w' f f'->St w0 fp0 (L.set i A') w':=by
 obtain ⟨fp,hs,ht⟩:=h;obtain ⟨f,h1,_,h2⟩:=hs.get i hi;refine ⟨f,h1,λ A' w' f' ha htr=> ?_⟩;obtain ⟨fp',h3,h4⟩:=h2 A' w' f' ha htr;exact ⟨fp',h3,ht.trans h4⟩
theorem St.has {w0 w:World} {fp0:List Nat} {L:List Asn} (h:St w0 fp0 L w) (i:Nat) {A:Asn} (hi:L[i]? =some A):∃f,A.p w f:=by
 obtain ⟨f,h1,_⟩:=h.get i hi;exact ⟨f,h1⟩
theorem St.mono {w0 w w':World} {fp0:List Nat} {L:List Asn} (h:St w0 fp0 L w) (hb:Below w.heap.size w w'):St w0 fp0 L w':=by
 obtain ⟨fp,hs,ht⟩:=h;exact ⟨fp,hs.loc λ k hk=> hb.block k (hs.lt k hk),ht.trans (Tr.of_below fp hb)⟩
theorem St.add {w0 w w':World} {fp0:List Nat} {L:List Asn} (h:St w0 fp0 L w) (hb:Below w.heap.size w w') {A:Asn} {f:List Nat} (ha:A.p w' f) (hn:∀k∈f,w.heap.size<=k):St w0 fp0 (L++[A]) w':=by
 obtain ⟨fp,hs,ht⟩:=h;refine ⟨fp++f,(hs.loc λ k hk=> hb.block k (hs.lt k hk)).snoc ha (λ k hk hf=> by have:=hs.lt k hf;have:=hn k hk;omega),ht.trans ⟨hb.os,hb.tape,hb.output,hb.size,λ k hk _=> hb.block k hk,λ k hk=> ?_⟩⟩;rcases List.mem_append.1 hk with hk | hk
 · exact .inl hk
 · exact .inr (hn k hk)
theorem St.drop {w0 w:World} {fp0:List Nat} {A:Asn} {L:List Asn} (h:St w0 fp0 (A::L) w):St w0 fp0 L w:=by
 obtain ⟨fp,⟨f,g,h1,h2,h3,rfl⟩,ht⟩:=h;exact ⟨g,h2,ht.os,ht.tape,ht.output,ht.size,ht.block,λ k hk=> ht.new k (List.mem_append.2 (.inr hk))⟩
theorem St.fold {w0 w:World} {fp0:List Nat} {L1 L2:List Asn} {B:Asn} (h:St w0 fp0 (L1++L2) w) (hB:∀f,Star w L1 f->B.p w f):St w0 fp0 (B::L2) w:=by
 obtain ⟨fp,hs,ht⟩:=h;obtain ⟨f,g,h1,h2,h3,rfl⟩:=hs.append;exact ⟨f++g,⟨f,g,hB f h1,h2,h3,rfl⟩,ht⟩
theorem St.unfold {w0 w:World} {fp0:List Nat} {α:Sort _} {L1:α->List Asn} {L2:List Asn} {B:Asn} (h:St w0 fp0 (B::L2) w) (hB:∀f,B.p w f->∃a,Star w (L1 a) f):∃a,St w0 fp0 (L1 a++L2) w:=by
 obtain ⟨fp,⟨f,g,h1,h2,h3,rfl⟩,ht⟩:=h;obtain ⟨a,ha⟩:=hB f h1;exact ⟨a,f++g,ha.join h2 h3,ht⟩
def emp:Asn:=⟨λ _ fp=> fp=[],λ h k hk=> (by rw [h] at hk;cases hk),λ h _=> h⟩
def pureA (P:Prop):Asn:=⟨λ _ fp=> P/\fp=[],λ h k hk=> (by rw [h.2] at hk;cases hk),λ h _=> h⟩
def blkA (b:Nat) (t:TypeId) (c:Array Value):Asn:=
 ⟨λ w fp=> w.heap[b]? =some (.cells c t (0,0))/\fp=[b],λ h k hk=> by rw [h.2] at hk;obtain rfl:=List.mem_singleton.1 hk;exact (Array.getElem?_eq_some_iff.1 h.1).1,λ h hs=> ⟨(hs b (by rw [h.2];simp)).trans h.1,h.2⟩⟩
theorem own_loc {w w':World} {t:TypeId} {size:Nat} {v:Value} {n:Nat} {xs:List Value} (h:w.ownsRow 0 t size v n xs) (hs:∀k∈v.ownBlock.toList,w'.heap[k]? =w.heap[k]?):w'.ownsRow 0 t size v n xs:=by
 refine ⟨h.1,?_⟩;rcases h.2 with h1 | ⟨g,cap,cur,rfl,hb,hg,rest⟩
 · exact .inl h1
 · exact .inr ⟨g,cap,cur,rfl,hb,(hs g (by simp [Value.ownBlock])).trans hg,rest⟩
def slA (t:TypeId) (v:Value) (xs:List Value):Asn:=
 ⟨λ w fp=> w.ownsRow 0 t 1 v xs.length xs/\fp=v.ownBlock.toList,λ h k hk=> by rw [h.2] at hk;exact (h.1.lt k (by cases hv:v.ownBlock <;> simp_all)).2,λ h hs=> ⟨own_loc h.1 (by rw [<-h.2];exact hs),h.2⟩⟩
def starA (L:List Asn):Asn:=⟨λ w fp=> Star w L fp,λ h=> h.lt,λ h=> h.loc⟩
def exA {α:Type} (F:α->Asn):Asn:=⟨λ w fp=> ∃a,(F a).p w fp,λ ⟨a,h⟩=> (F a).lt h,λ ⟨a,h⟩ hs=> ⟨a,(F a).loc h hs⟩⟩
theorem blk_get {w:World} {b:Nat} {t:TypeId} {c:Array Value} {f:List Nat} (h:(blkA b t c).p w f):(∀j,w.cell? ⟨b,j,none⟩=c[j]?)/\(∀j,w.frozen? ⟨b,j,none⟩=false)/\b < w.heap.size:=
 ⟨λ j=> cell_of_row w b j c t (0,0) h.1,λ j=> frozen_of_row w b j c t h.1,(Array.getElem?_eq_some_iff.1 h.1).1⟩
theorem blk_set {w:World} {b:Nat} {t:TypeId} {c:Array Value} {f:List Nat} (h:(blkA b t c).p w f) (i:Nat) (v:Value):
 (blkA b t (c.setIfInBounds i v)).p (w.setCell ⟨b,i,none⟩ v) [b]/\Tr w (w.setCell ⟨b,i,none⟩ v) f [b]:=by
 obtain ⟨h1,h2⟩:=h;subst h2;exact ⟨⟨heap_setCell_same w b i c t v h1,rfl⟩,⟨rfl,rfl,rfl,by simp,λ k _ hk=> Below.heap_setCell w ⟨b,i,none⟩ v k (λ e=> hk (by simp [e])),λ k hk=> .inl hk⟩⟩
theorem sl_get {w:World} {t:TypeId} {v:Value} {xs:List Value} {f:List Nat} (h:(slA t v xs).p w f):∃a c,v=.slice a xs.length c/\xs.length<=c/\c<=maxLen/\((a=none/\xs=[]/\c=0)\/∃g,a=some ⟨g,0,none⟩/\g < w.heap.size/\(∀i,i < xs.length->w.cell? ⟨g,i,none⟩=xs[i]?)/\∀i,w.frozen? ⟨g,i,none⟩=false):=by
 obtain ⟨ho,_⟩:=h;have ho':=ho;rcases ho'.2 with ⟨rfl,h0⟩ | ⟨g,cap,cur,rfl,hb,hg,hn,hc,hs,ht⟩
 · have:xs=[]:=List.length_eq_zero_iff.1 h0
   subst this;exact ⟨none,0,rfl,Nat.le_refl _,Nat.zero_le _, .inl ⟨rfl,rfl,rfl⟩⟩
 · exact ⟨_,cap,rfl,hn,hc, .inr ⟨g,rfl,(Array.getElem?_eq_some_iff.1 hg).1,λ i hi=> ho.cellAt i (by omega),λ i=> ho.frozenAt i⟩⟩
theorem sl_set {w:World} {t:TypeId} {g c:Nat} {xs:List Value} {f:List Nat} {n:Nat} (h:(slA t (.slice (some ⟨g,0,none⟩) n c) xs).p w f) (i:Nat) (v:Value):
 (slA t (.slice (some ⟨g,0,none⟩) n c) (xs.set i v)).p (w.setCell ⟨g,i,none⟩ v) [g]/\Tr w (w.setCell ⟨g,i,none⟩ v) f [g]:=by
 obtain ⟨h1,h2⟩:=h;have hn:n=xs.length:=by
  rcases h1.2 with ⟨e,_⟩ | ⟨_,_,_,e,_⟩
  · cases e
  · injection e
 subst hn;obtain ⟨h3,h4⟩:=h1.stored i v;refine ⟨⟨by rw [List.length_set];exact h3,rfl⟩,?_⟩;rw [h2];exact Tr.of_grown (o:=some g) (o':=some g) h4 (λ k hk=> .inl hk)
end Go.Proofs.YtnefkkidfhmggaaGreat
end
namespace Go.Proofs.YtnefkkidfhmggaaGreat
open Go Go.RowKit
noncomputable section
def forwardB (ops:Array Oper):Bool:=(List.range ops.size).all λ i=> match ops[i]? with
 | none=> true
 | some o=> o.after.toList.all λ e=> !Region.binds .any e || decide (e.on < i)
theorem forward_of {ops:Array Oper} (h:forwardB ops=true) {i:Nat} {o:Oper} (ho:ops[i]? =some o):∀e∈o.after,Region.binds .any e=true->e.on < i:=by
 intro e he hb;have hi:=(Array.getElem?_eq_some_iff.1 ho).1;have h1:=List.all_eq_true.1 h i (by simpa using hi);simp only [ho] at h1;have h2:=List.all_eq_true.1 h1 e (by simpa using he);simpa [hb] using h2
theorem ready_nil {ops:Array Oper} {listed:Array Bool} (hf:forwardB ops=true) (hs:listed.size=ops.size) (h:Region.ready .any ops listed=[]):∀i,i < ops.size->listed.getD i false=true:=by
 intro i
 induction i using Nat.strongRecOn with
 | ind i ih=>
  intro hi;apply Classical.byContradiction;intro hn;have hmem:i∈Region.ready .any ops listed:=by
   refine mem_ready.2 ⟨?_,ops[i],Array.getElem?_eq_getElem hi,λ e he hb=> ?_⟩
   · have:i < listed.size:=by omega
     simp [Array.getD,this] at hn ⊢;exact hn
   · have hlt:=forward_of hf (Array.getElem?_eq_getElem hi) e he hb
     exact ih e.on hlt (by omega)
  rw [h] at hmem;cases hmem
def left (listed:Array Bool):Nat:=listed.toList.count false
theorem left_set {listed:Array Bool} {i:Nat} (hi:i < listed.size) (h:listed.getD i false=false):left (listed.setIfInBounds i true)+1=left listed:=by
 unfold left;have hx:listed.toList[i]'(by simpa using hi)=false:=by simpa [Array.getD,hi] using h
 have hpos:0 < listed.toList.count false:=List.count_pos_iff.2 (by rw [<-hx];exact List.getElem_mem _);rw [Array.toList_setIfInBounds,List.count_set (by simpa using hi)];rw [hx];have e1:(false==false)=true:=rfl;have e2:(true==false)=false:=rfl;rw [e1,e2];simp only [if_true,Bool.false_eq_true,if_false];omega
theorem wpAnyH_inv {P:Program} {ops:Array Oper} {Q:Exit->Act->World->Prop} {Inv:(Nat->Bool)->Act->World->Prop} (hf:forwardB ops=true)
 (hstep:∀(i:Nat) (o:Oper) (L:Nat->Bool) (a:Act) (w:World),ops[i]? =some o->L i=false->(∀e∈o.after,Region.binds .any e=true->L e.on=true)->Inv L a w->wpOp P ops Q i (λ a' w'=> Inv (λ j=> L j || decide (j=i)) a' w') a w)
 (hend:∀(L:Nat->Bool) (a:Act) (w:World),(∀i,i < ops.size->L i=true)->Inv L a w->Q .normal a w):
 ∀(fuel:Nat) (listed:Array Bool) (a:Act) (w:World),listed.size=ops.size->left listed<=fuel->Inv (λ j=> listed.getD j false) a w->wpAnyH P .any ops Q (λ _=> True) fuel listed a w
 | 0,listed,a,w,hs,hl,hI=> by
  have hr:Region.ready .any ops listed=[]:=by
   rw [List.eq_nil_iff_forall_not_mem];intro j hj;obtain ⟨hun,oj,hoj,_⟩:=mem_ready.1 hj;have hlt:j < listed.size:=by have:=(Array.getElem?_eq_some_iff.1 hoj).1;omega
   have:0 < listed.toList.count false:=List.count_pos_iff.2 (by
    have hx:listed.toList[j]'(by simpa using hlt)=false:=by simpa [Array.getD,hlt] using hun
    rw [<-hx];exact List.getElem_mem _)
   unfold left at hl;omega
  exact wpAnyH_done hr (hend _ _ _ (ready_nil hf hs hr) hI) 0
 | fuel+1,listed,a,w,hs,hl,hI=> by
  refine ⟨λ hr=> hend _ _ _ (ready_nil hf hs hr) hI,λ j hj=> ?_⟩;obtain ⟨hun,oj,hoj,hall⟩:=mem_ready.1 hj;have hlt:j < listed.size:=by have:=(Array.getElem?_eq_some_iff.1 hoj).1;omega
  have hun':listed.getD j false=false:=by simpa [Array.getD,hlt] using hun
  refine wpOp_mono (λ a' w' h'=> ⟨trivial,wpAnyH_inv hf hstep hend fuel (listed.setIfInBounds j true) a' w' (by simpa using hs) ?_ ?_⟩) (hstep j oj (λ j=> listed.getD j false) a w hoj hun' hall hI)
  · have:=left_set hlt hun'
    omega
  · have:(λ k=> (listed.setIfInBounds j true).getD k false)=λ k=> listed.getD k false || decide (k=j):=by
     funext k;by_cases hk:k=j
     · subst hk
       simp [Array.getD,hlt]
     · rw [getD_set_ne false (λ h=> hk h.symm)]
       simp [hk]
    rw [this];exact h'
theorem wp_region_inv {P:Program} {id:Nat} {ops ops':Array Oper} {Q:Exit->Act->World->Prop} {a:Act} {w:World} (Inv:(Nat->Bool)->Act->World->Prop) (he:ops=ops') (hm:P.follows .mixedOrders=true) (hf:forwardB ops'=true)
 (h0:Inv (λ _=> false) a w.drew)
 (hstep:∀(i:Nat) (o:Oper) (L:Nat->Bool) (a:Act) (w:World),ops'[i]? =some o->L i=false->(∀e∈o.after,Region.binds .any e=true->L e.on=true)->Inv L a w->wpOp P ops' (NoPanic Q) i (λ a' w'=> Inv (λ j=> L j || decide (j=i)) a' w') a w)
 (hend:∀(L:Nat->Bool) (a:Act) (w:World),(∀i,i < ops'.size->L i=true)->Inv L a w->NoPanic Q .normal a w):(Code.region id ops true).wp P Q a w:=by
 subst he;refine wp_region_noPanic (wp_region_held (S:=λ _=> True) hm (wpAnyH_inv hf hstep hend _ _ _ _ (by simp) ?_ ?_))
 · unfold left
   exact Nat.le_trans List.count_le_length (by simp)
 · have:(λ j=> (Array.replicate ops.size false).getD j false)=λ _=> false:=by
    funext j;simp [Array.getD]
   rw [this];exact h0
theorem val_set_ne {t:Array Value} {k j:Nat} {v:Value} (h:k≠j):(t.setIfInBounds k v).getD j undef=t.getD j undef:=by
 simp [Array.getD_eq_getD_getElem?,h]
structure FrameLike (a0 a:Act) (ks:List Nat):Prop where
 defers:a.defers=a0.defers
 size:a.tmps.size=a0.tmps.size
 same:∀k,k ∉ ks->a.tmps.getD k undef=a0.tmps.getD k undef
theorem FrameLike.refl (a:Act) (ks:List Nat):FrameLike a a ks:=⟨rfl,rfl,λ _ _=> rfl⟩
theorem FrameLike.put {a0 a:Act} {ks:List Nat} (h:FrameLike a0 a ks) {k:Nat} (hk:k∈ks) (v:Value):FrameLike a0 (a.put (some k) v) ks:=
 ⟨h.defers,by simpa [Act.put] using h.size,λ j hj=> by have hne:k≠j:=λ e=> hj (e ▸ hk);show (a.tmps.setIfInBounds k v).getD j undef=_;rw [val_set_ne hne];exact h.same j hj⟩
theorem eval_put_same {a:Act} {k:Nat} {v:Value} (h:k < a.tmps.size):(a.put (some k) v).eval (.tmp k)=v:=by
 show (a.tmps.setIfInBounds k v).getD k undef=v;simp [Array.getD,h]
theorem eval_put_ne {a:Act} {k j:Nat} {v:Value} (h:j≠k):(a.put (some j) v).eval (.tmp k)=a.eval (.tmp k):=by
 show (a.tmps.setIfInBounds j v).getD k undef=a.tmps.getD k undef;exact val_set_ne h
def putL (a:Act) (l:List (Nat×Value)):Act:=l.foldl (λ a p=> a.put (some p.1) p.2) a
theorem FrameLike.eq {a:Act}:∀{ks:List Nat} {a0:Act},FrameLike a0 a ks->a=putL a0 (ks.map λ k=> (k,a.eval (.tmp k)))
 | [],a0,h=> by
  obtain ⟨t0,d0⟩:=a0;obtain ⟨t,d⟩:=a;have h1:d=d0:=h.defers;subst h1;have h2:t.size=t0.size:=h.size;have h3:t=t0:=by apply Array.ext h2;intro i h4 h5;have:=h.same i (by simp);simpa [Array.getD,h4,h5] using this
  rw [h3];rfl
 | k::ks,a0,h=> by
  have h1:FrameLike (a0.put (some k) (a.eval (.tmp k))) a ks:=by
   refine ⟨h.defers,by simpa [Act.put] using h.size,λ j hj=> ?_⟩;show _=(a0.tmps.setIfInBounds k _).getD j undef;by_cases hjk:k=j
   · subst hjk
     by_cases hlt:k < a0.tmps.size
     · have:(a0.tmps.setIfInBounds k (a.eval (.tmp k))).getD k undef=a.eval (.tmp k):=by simp [Array.getD,hlt]
       rw [this];rfl
     · have h1:¬ k < a.tmps.size:=by rw [h.size];exact hlt
       simp [Array.getD,hlt,h1]
   · rw [val_set_ne hjk]
     exact h.same j (by simp [hj,Ne.symm hjk])
  have h2:=FrameLike.eq (ks:=ks) (a0:=a0.put (some k) (a.eval (.tmp k))) h1;exact h2
theorem eval_spell {a:Act} {k:Nat} {v:Value} (h:a.eval (.tmp k)=v):a.tmps[k]?.getD undef=v:=by
 rw [<-h];show _=a.tmps.getD k undef;rw [Array.getD_eq_getD_getElem?]
theorem down_step {ops:Array Oper} {L:Nat->Bool} {i:Nat} {o:Oper} (hd:∀j o,ops[j]? =some o->L j=true->∀e∈o.after,Region.binds .any e=true->L e.on=true) (ho:ops[i]? =some o)
 (h:∀e∈o.after,Region.binds .any e=true->L e.on=true):∀j o,ops[j]? =some o->(L j || decide (j=i))=true->∀e∈o.after,Region.binds .any e=true->(L e.on || decide (e.on=i))=true:=by
 intro j oj hoj hL e he hb;by_cases hj:j=i
 · subst hj
   rw [ho] at hoj;injection hoj with hoj;subst hoj;rw [h e he hb];rfl
 · have hL':L j=true:=by simpa [hj] using hL
   rw [hd j oj hoj hL' e he hb];rfl
def opsOf:Code->Nat->Option (Array Oper)
 | .region id ops _,n=> if id=n then some ops else none
 | .seq a b,n=> match opsOf a n with | some r=> some r | none=> opsOf b n
 | .cond _ a b,n=> match opsOf a n with | some r=> some r | none=> opsOf b n
 | .block _ c,n=> opsOf c n
 | .loop c,n=> opsOf c n
 | .rangeFunc _ _ a b,n=> match opsOf a n with | some r=> some r | none=> opsOf b n
 | .scope c,n=> opsOf c n
 | _,_=> none
def waitsB (ops:Array Oper) (i j:Nat):Bool:=match ops[i]? with
 | some o=> o.after.any λ e=> Region.binds .any e && e.on==j
 | none=> false
theorem waits_of {ops:Array Oper} {i j:Nat} (h:waitsB ops i j=true):∃o e,ops[i]? =some o/\e∈o.after/\Region.binds .any e=true/\e.on=j:=by
 unfold waitsB at h;split at h
 · rename_i o ho
   obtain ⟨k,hk,he⟩:=Array.any_iff_exists.1 h;obtain ⟨hk2,_,h3⟩:=he;simp only [Bool.and_eq_true,beq_iff_eq] at h3;exact ⟨o,_,ho,Array.getElem_mem _,h3.1,h3.2⟩
 · cases h
theorem dep_of {ops:Array Oper} {L:Nat->Bool} {i j:Nat} {o:Oper} (ho:ops[i]? =some o) (hdep:∀e∈o.after,Region.binds .any e=true->L e.on=true) (h:waitsB ops i j=true):L j=true:=by
 obtain ⟨o',e,h1,h2,h3,h4⟩:=waits_of h;rw [ho] at h1;injection h1 with h1;subst h1;rw [<-h4];exact hdep e h2 h3
theorem sl_shape {w:World} {t:TypeId} {v:Value} {xs:List Value} {f:List Nat} (h:(slA t v xs).p w f):∃a n c,v=.slice a n c:=by
 obtain ⟨a,c,h1,_⟩:=sl_get h;exact ⟨_,_,_,h1⟩
theorem sl_elem {w:World} {t:TypeId} {g n c:Nat} {xs:List Value} {f:List Nat} (h:(slA t (.slice (some ⟨g,0,none⟩) n c) xs).p w f) (i:Nat) (hi:i < xs.length):
 w.cell? ⟨g,i,none⟩=some xs[i]/\w.frozen? ⟨g,i,none⟩=false/\g < w.heap.size/\n=xs.length:=by
 obtain ⟨a,c',h1,h2,h3,h4⟩:=sl_get h;injection h1 with h5 h6 h7;rcases h4 with ⟨e,_⟩ | ⟨g',e,h8,h9,h10⟩
 · rw [e] at h5;cases h5
 · rw [e] at h5
   injection h5 with h5;injection h5 with h5;subst h5;exact ⟨by rw [h9 i hi,List.getElem?_eq_getElem hi],h10 i,h8,h6⟩
theorem sl_some {w:World} {t:TypeId} {v:Value} {xs:List Value} {f:List Nat} (h:(slA t v xs).p w f) (hp:0 < xs.length):∃g c,v=.slice (some ⟨g,0,none⟩) xs.length c/\xs.length<=c/\c<=maxLen:=by
 obtain ⟨a,c,h1,h2,h3,h4⟩:=sl_get h;rcases h4 with ⟨_,e,_⟩ | ⟨g,e,_⟩
 · rw [e] at hp;cases hp
 · exact ⟨g,c,by rw [h1,e],h2,h3⟩
theorem below_drew (w:World):Below w.heap.size w w.drew:=⟨rfl,rfl,rfl,Nat.le_refl _,λ _ _=> rfl⟩
theorem below_drewN (w:World) (n:Nat):Below w.heap.size w (w.drewN n):=⟨rfl,rfl,rfl,Nat.le_refl _,λ _ _=> rfl⟩
theorem nodup_at {α:Type} {l:List α} (h:l.Nodup) {i j:Nat} {x:α} (hi:l[i]? =some x) (hj:l[j]? =some x):i=j:=by
 obtain ⟨h1,h2⟩:=List.getElem?_eq_some_iff.1 hi;obtain ⟨h3,h4⟩:=List.getElem?_eq_some_iff.1 hj;exact (List.getElem_inj (h:=h) ).1 (h2.trans h4.symm)
theorem Tr.of_new {w w':World} {f:List Nat} (h:Below w.heap.size w w') (hf:∀k∈f,w.heap.size<=k):Tr w w' [] f:=⟨h.os,h.tape,h.output,h.size,λ k hk _=> h.block k hk,λ k hk=> .inr (hf k hk)⟩
def atA (t:TypeId) (s:Value) (c:Array Value):Asn:=
 ⟨λ w fp=> ∃b,s=.pointer (some ⟨b,0,none⟩)/\(blkA b t c).p w fp,λ ⟨b,_,h1⟩=> (blkA b t c).lt h1,λ ⟨b,h0,h1⟩ hs=> ⟨b,h0,(blkA b t c).loc h1 hs⟩⟩
theorem St.atN {w0 w:World} {fp0:List Nat} {L:List Asn} (h:St w0 fp0 L w) (i:Nat) (hi:L[i]? =some YtnefkkidfhmggaaGreat.emp) (t:TypeId) (c:Array Value):St w0 fp0 (L.set i (atA t (.pointer (some ⟨w.heap.size,0,none⟩)) c)) (w.alloc (.cells c t)):=by
 obtain ⟨f,h1,h2⟩:=h.get i hi;obtain rfl:f=[]:=h1;have hb:=(Below.refl w.heap.size w).alloc (Nat.le_refl _) (.cells c t (0,0));exact h2 _ _ [w.heap.size] ⟨_,rfl,heap_alloc_new w _,rfl⟩ (Tr.of_new hb (by simp))
theorem St.newA {w0 w w':World} {fp0:List Nat} {L:List Asn} (h:St w0 fp0 L w) (i:Nat) (hi:L[i]? =some YtnefkkidfhmggaaGreat.emp) {A:Asn} {f:List Nat} (ha:A.p w' f) (hb:Below w.heap.size w w') (hf:∀k∈f,w.heap.size<=k):St w0 fp0 (L.set i A) w':=by
 obtain ⟨f0,h1,h2⟩:=h.get i hi;obtain rfl:f0=[]:=h1;exact h2 _ _ f ha (Tr.of_new hb hf)
def boxA (t:TypeId) (s x:Value):Asn:=
 ⟨λ w fp=> ∃vb,s=.slice (some ⟨vb,0,none⟩) 1 1/\w.heap[vb]? =some (.cells #[x] t (0,0))/\fp=[vb],λ ⟨vb,_,h1,h2⟩ k hk=> by rw [h2] at hk;obtain rfl:=List.mem_singleton.1 hk;exact (Array.getElem?_eq_some_iff.1 h1).1,λ ⟨vb,h0,h1,h2⟩ hs=> ⟨vb,h0,(hs vb (by rw [h2];simp)).trans h1,h2⟩⟩
theorem box_new (w:World) (t:TypeId) (x:Value):(boxA t (.slice (some ⟨w.heap.size,0,none⟩) 1 1) x).p (w.alloc (.cells #[x] t)) [w.heap.size]/\Tr w (w.alloc (.cells #[x] t)) [] [w.heap.size]:=by
 have hb:=(Below.refl w.heap.size w).alloc (Nat.le_refl _) (.cells #[x] t (0,0));refine ⟨⟨_,rfl,heap_alloc_new w _,rfl⟩,hb.os,hb.tape,hb.output,hb.size,λ k hk _=> hb.block k hk,λ k hk=> .inr ?_⟩;rw [List.mem_singleton.1 hk];exact Nat.le_refl _
theorem Star.two {w:World}:∀{L:List Asn} {fp:List Nat} (i j:Nat) {A B:Asn},i < j->L[i]? =some A->L[j]? =some B->Star w L fp->∃f g,A.p w f/\B.p w g/\(∀k∈f,k ∉ g)/\
 (∀(A':Asn) (w':World) (f':List Nat),A'.p w' f'->Tr w w' f f'->∃fp',Star w' (L.set i A') fp'/\Tr w w' fp fp')/\(∀(B':Asn) (w':World) (g':List Nat),B'.p w' g'->Tr w w' g g'->∃fp',Star w' (L.set j B') fp'/\Tr w w' fp fp')
 | [],fp,i,j,A,B,_,h,_,_=> by simp at h
 | C::L,fp,0,j+1,A,B,_,h,h',hs=> by
  obtain rfl:C=A:=by simpa using h
  have hs':=hs;obtain ⟨f,g,h1,h2,h3,rfl⟩:=hs;obtain ⟨g1,h4,h5,h6⟩:=h2.get j (by simpa using h');refine ⟨f,g1,h1,h4,λ k hk hg=> h3 k hk (h5 k hg),λ A' w' f' ha ht=> ⟨f'++g,⟨f',g,ha,h2.loc λ k hk=> ht.block k (h2.lt k hk) λ h=> h3 k h hk,λ k hk hg=> ?_,rfl⟩,?_⟩,λ B' w' g' hb ht=> ?_⟩
  · rcases ht.new k hk with h | h
    · exact h3 k h hg
    · have:=h2.lt k hg;omega
  · refine ⟨ht.os,ht.tape,ht.output,ht.size,λ k hk hn=> ht.block k hk λ h=> hn (List.mem_append.2 (.inl h)),λ k hk=> ?_⟩
    rcases List.mem_append.1 hk with hk | hk
    · rcases ht.new k hk with h | h
      · exact .inl (List.mem_append.2 (.inl h))
      · exact .inr h
    · exact .inl (List.mem_append.2 (.inr hk))
  · obtain ⟨g2,h7,h8⟩:=h6 B' w' g' hb ht
    refine ⟨f++g2,⟨f,g2,C.loc h1 λ k hk=> ht.block k (C.lt h1 k hk) λ h=> h3 k hk (h5 k h),h7,λ k hk hg=> ?_,rfl⟩,h8.os,h8.tape,h8.output,h8.size,λ k hk hn=> h8.block k hk λ h=> hn (List.mem_append.2 (.inr h)),λ k hk=> ?_⟩
    · rcases h8.new k hg with h | h
      · exact h3 k hk h
      · have:=C.lt h1 k hk;omega
    · rcases List.mem_append.1 hk with hk | hk
      · exact .inl (List.mem_append.2 (.inl hk))
      · rcases h8.new k hk with h | h
        · exact .inl (List.mem_append.2 (.inr h))
        · exact .inr h
 | C::L,fp,i+1,j+1,A,B,hij,h,h',hs=> by
  obtain ⟨f0,g,h1,h2,h3,rfl⟩:=hs;obtain ⟨fa,fb,h4,h5,h6,h7,h8⟩:=Star.two i j (by omega) (by simpa using h) (by simpa using h') h2;obtain ⟨ga,ha,hga,_⟩:=h2.get i (by simpa using h);have key:∀(k:Nat) (B':Asn) (w':World) (fp':List Nat),Star w' (L.set k B') fp'->Tr w w' g fp'->∃fp2,Star w' ((C::L).set (k+1) B') fp2/\Tr w w' (f0++g) fp2:=by
   intro k B' w' fp' hs' ht;refine ⟨f0++fp',⟨f0,fp',C.loc h1 λ k hk=> ht.block k (C.lt h1 k hk) λ h=> h3 k hk h,hs',λ k hk hg=> ?_,rfl⟩,ht.os,ht.tape,ht.output,ht.size,λ k hk hn=> ht.block k hk λ h=> hn (List.mem_append.2 (.inr h)),λ k hk=> ?_⟩
   · rcases ht.new k hg with h | h
     · exact h3 k hk h
     · have:=C.lt h1 k hk;omega
   · rcases List.mem_append.1 hk with hk | hk
     · exact .inl (List.mem_append.2 (.inl hk))
     · rcases ht.new k hk with h | h
       · exact .inl (List.mem_append.2 (.inr h))
       · exact .inr h
  refine ⟨fa,fb,h4,h5,h6,λ A' w' f' ha ht=> ?_,λ B' w' f' hb ht=> ?_⟩
  · obtain ⟨fp',h9,h10⟩:=h7 A' w' f' ha ht
    exact key i A' w' fp' h9 h10
  · obtain ⟨fp',h9,h10⟩:=h8 B' w' f' hb ht
    exact key j B' w' fp' h9 h10
theorem St.two {w0 w:World} {fp0:List Nat} {L:List Asn} (h:St w0 fp0 L w) (i j:Nat) {A B:Asn} (hij:i < j) (hi:L[i]? =some A) (hj:L[j]? =some B):
 ∃f g,A.p w f/\B.p w g/\(∀k∈f,k ∉ g)/\(∀(A':Asn) (w':World) (f':List Nat),A'.p w' f'->Tr w w' f f'->St w0 fp0 (L.set i A') w')/\(∀(B':Asn) (w':World) (g':List Nat),B'.p w' g'->Tr w w' g g'->St w0 fp0 (L.set j B') w'):=by
 obtain ⟨fp,hs,ht⟩:=h;obtain ⟨f,g,h1,h2,h3,h4,h5⟩:=hs.two i j hij hi hj;refine ⟨f,g,h1,h2,h3,λ A' w' f' ha htr=> ?_,λ B' w' f' ha htr=> ?_⟩
 · obtain ⟨fp',h6,h7⟩:=h4 A' w' f' ha htr
   exact ⟨fp',h6,ht.trans h7⟩
 · obtain ⟨fp',h6,h7⟩:=h5 B' w' f' ha htr
   exact ⟨fp',h6,ht.trans h7⟩
def adjOf (ops:Array Oper):List (List Nat):=ops.toList.map λ o=> (o.after.toList.filter λ e=> Region.binds .any e).map (·.on)
def addAll (s t:List Nat):List Nat:=t.foldl (λ s x=> if s.elem x then s else x::s) s
def unions (f:Nat->List Nat) (l s:List Nat):List Nat:=l.foldl (λ s x=> addAll s (f x)) s
def closGo:List (List Nat)->List (List Nat)->List (List Nat)
 | acc,[]=> acc
 | acc,l::rest=> closGo (acc++[unions (λ j=> acc.getD j []) l l]) rest
def closOf (ops:Array Oper):List (List Nat):=closGo [] (adjOf ops)
def Down (ops:Array Oper) (L:Nat->Bool):Prop:=∀j o,ops[j]? =some o->L j=true->∀e∈o.after,Region.binds .any e=true->L e.on=true
theorem mem_addAll {x:Nat}:∀{t s:List Nat},x∈addAll s t↔x∈s\/x∈t
 | [],s=> by simp [addAll]
 | y::t,s=> by
  show x∈addAll (if s.elem y then s else y::s) t↔_;rw [mem_addAll];by_cases h:s.elem y=true
  · rw [if_pos h]
    have hy:y∈s:=List.elem_iff.1 h;constructor
    · rintro (h1 | h1) <;> simp [h1]
    · rintro (h1 | h1)
      · exact .inl h1
      · rcases List.mem_cons.1 h1 with rfl | h2
        · exact .inl hy
        · exact .inr h2
  · rw [if_neg h]
    simp only [List.mem_cons];constructor
    · rintro ((h | h) | h) <;> simp [h]
    · rintro (h | h | h) <;> simp [h]
theorem mem_unions {x:Nat} {f:Nat->List Nat}:∀{l s:List Nat},x∈unions f l s↔x∈s\/∃y∈l,x∈f y
 | [],s=> by simp [unions]
 | y::l,s=> by
  show x∈unions f l (addAll s (f y))↔_;rw [mem_unions,mem_addAll];constructor
  · rintro ((h | h) | ⟨z,h1,h2⟩)
    · exact .inl h
    · exact .inr ⟨y,by simp,h⟩
    · exact .inr ⟨z,by simp [h1],h2⟩
  · rintro (h | ⟨z,h1,h2⟩)
    · exact .inl (.inl h)
    · rcases List.mem_cons.1 h1 with rfl | h1
      · exact .inl (.inr h2)
      · exact .inr ⟨z,h1,h2⟩
theorem closGo_ok {A:List (List Nat)} {L:Nat->Bool} (hd:∀i,L i=true->∀x∈A.getD i [],L x=true):∀(rest acc:List (List Nat)),rest=A.drop acc.length->
 (∀i,∀j∈acc.getD i [],(∀x∈A.getD i [],L x=true)->L j=true)->∀i,∀j∈(closGo acc rest).getD i [],(∀x∈A.getD i [],L x=true)->L j=true
 | [],acc,_,h=> h
 | l::rest,acc,hr,h=> by
  refine closGo_ok hd rest (acc++[unions (λ j=> acc.getD j []) l l]) (by rw [List.length_append,<-List.drop_drop,<-hr];rfl) ?_;intro i j hj hx;have hl:A.getD acc.length []=l:=by
   have h1:A[acc.length]? =some l:=by have:=congrArg (λ l:List (List Nat)=> l[0]?) hr;simpa [List.getElem?_drop] using this.symm
   simp [List.getD,h1]
  by_cases hi:i < acc.length
  · refine h i j ?_ hx
    simpa [List.getD,List.getElem?_append_left hi] using hj
  · by_cases he:i=acc.length
    · subst he
      have hj':j∈unions (λ j=> acc.getD j []) l l:=by simpa [List.getD] using hj
      rw [hl] at hx;rcases mem_unions.1 hj' with h1 | ⟨y,h1,h2⟩
      · exact hx j h1
      · exact h y j h2 λ x hx'=> hd y (hx y h1) x hx'
    · have:(acc++[unions (λ j=> acc.getD j []) l l])[i]? =none:=by
       rw [List.getElem?_eq_none_iff,List.length_append];simp only [List.length_cons,List.length_nil];omega
      rw [List.getD,this] at hj;cases hj
theorem adj_mem {ops:Array Oper} {i x:Nat}:x∈(adjOf ops).getD i []↔∃o,ops[i]? =some o/\∃e∈o.after,Region.binds .any e=true/\e.on=x:=by
 unfold adjOf;rw [List.getD,List.getElem?_map,Array.getElem?_toList];cases h:ops[i]? with
 | none=> simp
 | some o=>
  simp only [Option.map_some,Option.getD_some,List.mem_map,List.mem_filter,Array.mem_toList_iff];constructor
  · rintro ⟨e,⟨h1,h2⟩,h3⟩
    exact ⟨o,rfl,e,h1,h2,h3⟩
  · rintro ⟨o',h0,e,h1,h2,h3⟩
    cases h0;exact ⟨e,⟨h1,h2⟩,h3⟩
theorem clos_true {ops:Array Oper} {L:Nat->Bool} (hd:Down ops L) {i:Nat} {o:Oper} (ho:ops[i]? =some o) (h:∀e∈o.after,Region.binds .any e=true->L e.on=true):∀j∈(closOf ops).getD i [],L j=true:=by
 intro j hj;refine closGo_ok (A:=adjOf ops) (L:=L) ?_ (adjOf ops) [] rfl (by simp) i j hj ?_
 · intro k hk x hx
   obtain ⟨o',h1,e,h2,h3,rfl⟩:=adj_mem.1 hx;exact hd k o' h1 hk e h2 h3
 · intro x hx
   obtain ⟨o',h1,e,h2,h3,rfl⟩:=adj_mem.1 hx;rw [ho] at h1;cases h1;exact h e h2 h3
theorem clos_out {ops:Array Oper} {i:Nat} (h:ops[i]? =none):(closOf ops).getD i []=[]:=by
 have hlen:∀(rest acc:List (List Nat)),(closGo acc rest).length=acc.length+rest.length:=by
  intro rest
  induction rest with
  | nil=> intro acc;rfl
  | cons l rest ih=> intro acc;rw [closGo,ih];simp only [List.length_append,List.length_cons,List.length_nil];omega
 have h1:(closOf ops).length=ops.size:=by rw [closOf,hlen];simp [adjOf]
 have h2:ops.size<=i:=Array.getElem?_eq_none_iff.1 h;rw [List.getD,List.getElem?_eq_none_iff.2 (by omega)];rfl
def lk (C:List (List Nat)) (i:Nat) (L:Nat->Bool) (j:Nat):Bool:=(C.getD i []).elem j || (!((C.getD j []).elem i || j==i) && L j)
def ln (C:List (List Nat)) (i:Nat) (L:Nat->Bool) (j:Nat):Bool:=(C.getD i []).elem j || (j==i || (!(C.getD j []).elem i && L j))
theorem clos_not {ops:Array Oper} {L:Nat->Bool} (hd:Down ops L) {i j:Nat} (hL:L i=false) (h:(((closOf ops).getD j []).elem i)=true):L j=false:=by
 cases hj:L j
 · rfl
 · cases ho:ops[j]? with
   | none=> rw [clos_out ho] at h;cases h
   | some o=>
    have:=clos_true hd ho (λ e he hb=> hd j o ho hj e he hb) i (List.elem_iff.1 h);rw [hL] at this;cases this
theorem lk_eq {ops:Array Oper} {L:Nat->Bool} (hd:Down ops L) {i:Nat} {o:Oper} (ho:ops[i]? =some o) (h:∀e∈o.after,Region.binds .any e=true->L e.on=true) (hL:L i=false):lk (closOf ops) i L=L:=by
 funext j;unfold lk;cases h1:((closOf ops).getD i []).elem j
 · cases h2:((closOf ops).getD j []).elem i
   · by_cases h3:j=i
     · subst h3;simp [hL]
     · simp [h3]
   · simp [clos_not hd hL h2]
 · simp [clos_true hd ho h j (List.elem_iff.1 h1)]
theorem ln_eq {ops:Array Oper} {L:Nat->Bool} (hd:Down ops L) {i:Nat} {o:Oper} (ho:ops[i]? =some o) (h:∀e∈o.after,Region.binds .any e=true->L e.on=true) (hL:L i=false):ln (closOf ops) i L=λ j=> L j || decide (j=i):=by
 funext j;unfold ln;cases h1:((closOf ops).getD i []).elem j
 · by_cases h3:j=i
   · subst h3;simp
   · cases h2:((closOf ops).getD j []).elem i
     · simp [h3]
     · simp [h3,clos_not hd hL h2]
 · simp [clos_true hd ho h j (List.elem_iff.1 h1)]
def rb (fl:List Nat) (L:Nat->Bool) (j:Nat):Bool:=fl.elem j && L j
def rv (sl:List Nat) (g:Nat->Value) (d:Nat):Value:=match sl.elem d with | true=> g d | false=> undef
theorem rb_eq {fl:List Nat} {L L':Nat->Bool} (h:∀j∈fl,L j=L' j):rb fl L=rb fl L':=by
 funext j;unfold rb;cases h1:fl.elem j
 · rfl
 · rw [h j (List.elem_iff.1 h1)]
theorem rv_eq {sl:List Nat} {g g':Nat->Value} (h:∀j∈sl,g j=g' j):rv sl g=rv sl g':=by
 funext j;unfold rv;cases h1:sl.elem j
 · rfl
 · dsimp only;rw [h j (List.elem_iff.1 h1)]
structure Vf where
 i:Nat
 d:Nat
 sl:List Nat
 v:(Nat->Value)->Value
def Vf.at (t:Vf) (g:Nat->Value):Value:=t.v (rv t.sl g)
inductive Src where
 | s (d:Nat)
 | v (x:Value)
def Src.val (g:Nat->Value):Src->Value
 | .s d=> g d
 | .v x=> x
def Src.ds:Src->List Nat
 | .s d=> [d]
 | .v _=> []
structure Cl where
 v0:Value
 st:List (Nat×Src)
def lastV (L:Nat->Bool) (g:Nat->Value):Value->List (Nat×Src)->Value
 | v,[]=> v
 | v,(i,s)::l=> lastV L g (match L i with | true=> s.val g | false=> v) l
def Cl.val (L:Nat->Bool) (g:Nat->Value) (c:Cl):Value:=lastV L g c.v0 c.st
def slNow (g:Nat->Value) (v:Value):Bool->Option Src->Value
 | true,some s=> s.val g
 | _,_=> v
def slV (L:Nat->Bool) (g:Nat->Value):Value->List (Nat×Option Src×List Value)->Value
 | v,[]=> v
 | v,(i,d,_)::l=> slV L g (slNow g v (L i) d) l
def slX (L:Nat->Bool):List Value->List (Nat×Option Src×List Value)->List Value
 | x,[]=> x
 | x,(i,_,y)::l=> slX L (match L i with | true=> y | false=> x) l
inductive Pc where
 | gen (fl sl:List Nat) (A:(Nat->Bool)->(Nat->Value)->Asn)
 | all (A:Asn)
 | blk (b:Nat) (t:TypeId) (cs:List Cl)
 | sl (t:TypeId) (v:Value) (xs:List Value) (st:List (Nat×Option Src×List Value))
 | new (i:Nat) (ds:List Nat) (mk:(Nat->Value)->Asn)
def Pc.fl:Pc->List Nat
 | .gen fl _ _=> fl
 | .all _=> []
 | .blk _ _ cs=> cs.flatMap λ c=> c.st.map (·.1)
 | .sl _ _ _ st=> st.map (·.1)
 | .new i _ _=> [i]
def Pc.ds:Pc->List Nat
 | .gen _ s _=> s
 | .all _=> []
 | .blk _ _ cs=> cs.flatMap λ c=> c.st.flatMap λ p=> p.2.ds
 | .sl _ _ _ st=> st.flatMap λ p=> match p.2.1 with
  | some s=> s.ds
  | none=> []
 | .new _ ds _=> ds
def Pc.A:Pc->(Nat->Bool)->(Nat->Value)->Asn
 | .gen _ _ A,L,g=> A L g
 | .all A,_,_=> A
 | .blk b t cs,L,g=> blkA b t (cs.map (Cl.val L g)).toArray
 | .sl t v xs st,L,g=> slA t (slV L g v st) (slX L xs st)
 | .new i _ mk,L,g=> match L i with
  | true=> mk g
  | false=> emp
def Pc.uses:Pc->List (Nat×List Nat)
 | .blk _ _ cs=> cs.flatMap λ c=> c.st.map λ p=> (p.1,p.2.ds)
 | .sl _ _ _ st=> st.map λ p=> (p.1,match p.2.1 with
  | some s=> s.ds
  | none=> [])
 | .new i ds _=> [(i,ds)]
 | _=> []
def Pc.ds0:Pc->List Nat
 | .gen _ s _=> s
 | _=> []
def Pc.at (p:Pc) (L:Nat->Bool) (g:Nat->Value):Asn:=p.A (rb p.fl L) (rv p.ds g)
theorem Pc.at_eq {p:Pc} {L L':Nat->Bool} {g g':Nat->Value} (h:∀j∈p.fl,L j=L' j) (h':∀d∈p.ds,g d=g' d):p.at L g=p.at L' g':=by
 unfold Pc.at
 rw [rb_eq h,rv_eq h']
theorem Src.val_eq {s:Src} {g g':Nat->Value} (h:∀d∈s.ds,g d=g' d):s.val g=s.val g':=by
 cases s with
 | s d=> exact h d (by simp [Src.ds])
 | v x=> rfl
theorem lastV_eq {L:Nat->Bool} {g g':Nat->Value}:∀{l:List (Nat×Src)} {v:Value},(∀p∈l,L p.1=true->∀d∈p.2.ds,g d=g' d)->lastV L g v l=lastV L g' v l
 | [],_,_=> rfl
 | (i,s)::l,v,h=> by
  unfold lastV;have e:(match L i with | true=> s.val g | false=> v)=match L i with | true=> s.val g' | false=> v:=by
   cases hi:L i
   · rfl
   · exact Src.val_eq (h (i,s) (by simp) hi)
  rw [e];exact lastV_eq λ p hp=> h p (List.mem_cons_of_mem _ hp)
theorem slV_eq {L:Nat->Bool} {g g':Nat->Value}:∀{l:List (Nat×Option Src×List Value)} {v:Value},(∀p∈l,L p.1=true->∀s,p.2.1=some s->∀d∈s.ds,g d=g' d)->slV L g v l=slV L g' v l
 | [],_,_=> rfl
 | (i,s,x)::l,v,h=> by
  unfold slV;have e:slNow g v (L i) s=slNow g' v (L i) s:=by
   cases hi:L i
   · rfl
   · cases s with
     | none=> rfl
     | some s=> exact Src.val_eq (h (i,some s,x) (by simp) hi s rfl)
  rw [e];exact slV_eq λ p hp=> h p (List.mem_cons_of_mem _ hp)
theorem Pc.at_slots {p:Pc} {L:Nat->Bool} {g g':Nat->Value} (h0:∀d∈p.ds0,g d=g' d) (h:∀u∈p.uses,rb p.fl L u.1=true->∀d∈u.2,g d=g' d):p.at L g=p.at L g':=by
 have hr:∀{ds:List Nat} {d:Nat},g d=g' d->rv ds g d=rv ds g' d:=by
  intro ds d e;unfold rv;cases ds.elem d
  · rfl
  · exact e
 cases p with
 | gen fl sl A=> exact Pc.at_eq (λ _ _=> rfl) h0
 | all A=> rfl
 | blk b t cs=>
  show blkA b t (cs.map (Cl.val _ _)).toArray=blkA b t (cs.map (Cl.val _ _)).toArray;congr 2;refine List.map_congr_left λ c hc=> lastV_eq λ q hq hL d hd=> hr ?_;exact h (q.1,q.2.ds) (List.mem_flatMap.2 ⟨c,hc,List.mem_map.2 ⟨q,hq,rfl⟩⟩) hL d hd
 | sl t v xs st=>
  show slA t (slV _ _ v st) _=slA t (slV _ _ v st) _;congr 1;refine slV_eq λ q hq hL s hs d hd=> hr ?_;refine h (q.1,match q.2.1 with | some s=> s.ds | none=> []) (List.mem_map.2 ⟨q,hq,rfl⟩) hL d ?_;rw [hs];exact hd
 | new i ds mk=>
  show (match rb [i] L i with | true=> mk (rv ds g) | false=> emp)=match rb [i] L i with | true=> mk (rv ds g') | false=> emp
  cases hi:rb [i] L i
  · rfl
  · exact congrArg mk (rv_eq λ d hd=> h (i,ds) (by simp [Pc.uses]) hi d hd)
theorem Vf.at_eq {t:Vf} {g g':Nat->Value} (h:∀d∈t.sl,g d=g' d):t.at g=t.at g':=by
 unfold Vf.at
 rw [rv_eq h]
def slots (a:Act) (d:Nat):Value:=a.eval (.tmp d)
def sput (g:Nat->Value) (dst:Option Nat) (v:Value) (d:Nat):Value:=if dst=some d then v else g d
theorem slots_put {a:Act} {dst:Option Nat} {v:Value} (h:∀d,dst=some d->d < a.tmps.size):slots (a.put dst v)=sput (slots a) dst v:=by
 funext d;unfold slots sput;cases dst with
 | none=> rfl
 | some k=>
  by_cases e:k=d
  · subst e
    rw [if_pos rfl];exact eval_put_same (h k rfl)
  · rw [if_neg (λ e'=> e (Option.some.inj e'))]
    exact eval_put_ne e
structure Rg where
 P:Program
 ops:Array Oper
 nt:Nat
 ks:List Nat
 inp:List (Nat×Value)
 inq:List (Nat×Value×Nat):=[]
 vals:List Vf
 pcs:List Pc
 w0:World
 fp0:List Nat
 R:List Asn
def look (k:Nat):List (Nat×Value)->Option Value
 | []=> none
 | (j,v)::l=> match j==k with | true=> some v | false=> look k l
theorem look_mem {k:Nat} {v:Value}:∀{l:List (Nat×Value)},look k l=some v->(k,v)∈l
 | [],h=> by cases h
 | (j,u)::l,h=> by
  unfold look at h;split at h
  · rename_i e
    have:j=k:=by simpa using e
    subst this;cases h;simp
  · exact List.mem_cons_of_mem _ (look_mem h)
def Rg.tab (G:Rg) (i:Nat) (g:Nat->Value):List (Nat×Value):=(G.inp++(G.inq.filter λ p=> ((closOf G.ops).getD p.2.2 []).elem i || p.2.2==i).map λ p=> (p.1,p.2.1))++(G.vals.filter λ t=> ((closOf G.ops).getD i []).elem t.i).map λ t=> (t.d,t.at g)
def Rg.env (G:Rg) (i:Nat) (a:Act):Operand->Value
 | .tmp k=> match look k (G.tab i (slots a)) with
  | some v=> v
  | none=> a.eval (.tmp k)
 | .const v=> v
 | .global n=> a.eval (.global n)
 | .func f=> a.eval (.func f)
theorem Rg.env_eq (G:Rg) {i:Nat} {a:Act} (h1:∀p∈G.inp,a.eval (.tmp p.1)=p.2) (h3:∀p∈G.inq,((((closOf G.ops).getD p.2.2 []).elem i || p.2.2==i)=true)->slots a p.1=p.2.1) (h2:∀t∈G.vals,t.i∈(closOf G.ops).getD i []->slots a t.d=t.at (slots a)):G.env i a=a.eval:=by
 funext x;cases x with
 | tmp k=>
  show (match look k (G.tab i (slots a)) with | some v=> v | none=> a.eval (.tmp k))=_;cases h:look k (G.tab i (slots a)) with
  | none=> rfl
  | some v=>
   dsimp only;rcases List.mem_append.1 (look_mem h) with h0 | h0
   · rcases List.mem_append.1 h0 with h0 | h0
     · exact (h1 _ h0).symm
     · obtain ⟨t,h4,h5⟩:=List.mem_map.1 h0
       injection h5 with h5 h6;subst h5 h6;obtain ⟨h7,h8⟩:=List.mem_filter.1 h4;exact (h3 t h7 h8).symm
   · obtain ⟨t,h4,h5⟩:=List.mem_map.1 h0
     injection h5 with h5 h6;subst h5 h6;obtain ⟨h7,h8⟩:=List.mem_filter.1 h4;exact (h2 t h7 (List.elem_iff.1 h8)).symm
 | const v=> rfl
 | global n=> rfl
 | func f=> rfl
def uponT (P:Program) (K:Value->World->Prop):Result Next->Prop
 | .ok (.value v) w=> K v w
 | .ok .skip w=> K undef w
 | .ok (.enter f args) w=> Calls P f args w λ e w'=> ∃v,e=.returned v/\K v w'
 | _=> False
def stP (G:Rg) (L:Nat->Bool) (g:Nat->Value) (w:World):Prop:=St G.w0 G.fp0 (G.pcs.map (λ p=> p.at L g)++G.R) w
def wantE (ops:Array Oper) (o:Oper) (env:Operand->Value):Option Bool:=
 match o.guard with
 | none=> some true
 | some (j,b)=> match (ops[j]?).bind Oper.dst with
  | none=> none
  | some d=> match env (.tmp d) with
   | .bool c=> some (c==b)
   | _=> some false
def Rg.valOf (G:Rg) (i:Nat):Option Vf:=G.vals.find? λ t=> t.i==i
theorem find_one {i:Nat} {t:Vf}:∀{l:List Vf},(l.map (·.i)).Nodup->t∈l->t.i=i->l.find? (λ t=> t.i==i)=some t
 | [],_,h,_=> nomatch h
 | x::l,hn,h,e=> by
  rw [List.map_cons,List.nodup_cons] at hn;rcases List.mem_cons.1 h with rfl | h
  · simp [e]
  · have hne:x.i≠i:=λ e'=> hn.1 (List.mem_map.2 ⟨t,h,e.trans e'.symm⟩)
    rw [List.find?_cons_of_neg (by simpa using hne)];exact find_one hn.2 h e
def Rg.Ob (G:Rg) (i:Nat):Prop:=∀(o:Oper),G.ops[i]? =some o->∀(L:Nat->Bool) (a:Act) (w:World),a.tmps.size=G.nt->G.env i a=a.eval->stP G (lk (closOf G.ops) i L) (slots a) w->
 match wantE G.ops o (G.env i a) with
 | none=> False
 | some true=> uponT G.P (λ v w'=> (∀t,G.valOf i=some t->v=t.at (sput (slots a) o.dst v))/\stP G (ln (closOf G.ops) i L) (sput (slots a) o.dst v) w') ((execOp (G.env i a) o).run G.P w)
 | some false=> (∀t,G.valOf i=some t->undef=t.at (sput (slots a) o.dst undef))/\stP G (ln (closOf G.ops) i L) (sput (slots a) o.dst undef) w
def dstOf (ops:Array Oper) (i:Nat):Option Nat:=(ops[i]?).bind Oper.dst
def nodupB:List Nat->Bool
 | []=> true
 | x::l=> !l.elem x && nodupB l
theorem nodup_of:∀{l:List Nat},nodupB l=true->l.Nodup
 | [],_=> List.nodup_nil
 | x::l,h=> by unfold nodupB at h;simp only [Bool.and_eq_true,Bool.not_eq_true'] at h;exact List.nodup_cons.2 ⟨λ hm=> (by have h1:=h.1;rw [List.elem_iff.2 hm] at h1;cases h1),nodup_of h.2⟩
def fitsB (ops:Array Oper) (nt:Nat) (ks:List Nat) (inp:List Nat) (vs:List (Nat×Nat×List Nat)) (fs:List Nat) (iq:List (Nat×Nat)):Bool:=
 iq.all (λ p=> dstOf ops p.2==some p.1) && fs.all (λ j=> decide (j < ops.size)) && forwardB ops && (ops.toList.filterMap Oper.dst==ks) && nodupB ks && ks.all (λ d=> decide (d < nt)) && inp.all (λ d=> !ks.elem d) && nodupB (vs.map (·.1)) &&
 vs.all λ t=> dstOf ops t.1==some t.2.1 && t.2.2.all λ s=> (List.range ops.size).all λ k=> dstOf ops k !=some s || k==t.1 || ((closOf ops).getD t.1 []).elem k
structure Rg.Inv (G:Rg) (a0:Act) (L:Nat->Bool) (a:Act) (w:World):Prop where
 frame:FrameLike a0 a G.ks
 vals:∀t∈G.vals,L t.i=true->slots a t.d=t.at (slots a)
 inq:∀p∈G.inq,L p.2.2=false->slots a p.1=p.2.1
 down:Down G.ops L
 eff:stP G L (slots a) w
theorem fits_parts {ops:Array Oper} {nt:Nat} {ks inp:List Nat} {vs:List (Nat×Nat×List Nat)} {fs:List Nat} {iq:List (Nat×Nat)} (h:fitsB ops nt ks inp vs fs iq=true):(∀p∈iq,dstOf ops p.2=some p.1)/\(∀j∈fs,j < ops.size)/\forwardB ops=true/\ops.toList.filterMap Oper.dst=ks/\ks.Nodup/\(∀d∈ks,d < nt)/\(∀d∈inp,d ∉ ks)/\(vs.map (·.1)).Nodup/\
 ∀t∈vs,dstOf ops t.1=some t.2.1/\∀s∈t.2.2,∀k,k < ops.size->dstOf ops k=some s->k=t.1\/k∈(closOf ops).getD t.1 []:=by
 unfold fitsB at h;simp only [Bool.and_eq_true] at h;obtain ⟨⟨⟨⟨⟨⟨⟨⟨hq,h0⟩,h1⟩,h2⟩,h3⟩,h4⟩,h5⟩,h6⟩,h7⟩:=h;refine ⟨λ p hp=> by simpa using List.all_eq_true.1 hq p hp,λ j hj=> by simpa using List.all_eq_true.1 h0 j hj,h1,by simpa using h2,nodup_of h3,λ d hd=> by simpa using List.all_eq_true.1 h4 d hd,λ d hd hk=> ?_,nodup_of h6,λ t ht=> ?_⟩
 · have:=List.all_eq_true.1 h5 d hd
   rw [List.elem_iff.2 hk] at this;cases this
 · have h8:=List.all_eq_true.1 h7 t ht
   simp only [Bool.and_eq_true,beq_iff_eq] at h8;refine ⟨h8.1,λ s hs k hk hd=> ?_⟩;have h9:=List.all_eq_true.1 (List.all_eq_true.1 h8.2 s hs) k (by simpa using hk);simp only [Bool.or_eq_true,bne_iff_ne,ne_eq,beq_iff_eq,List.elem_iff] at h9;rcases h9 with (h9 | h9) | h9
   · exact absurd hd h9
   · exact .inl h9
   · exact .inr h9
theorem dst_one {ops:Array Oper} {ks:List Nat} (h:ops.toList.filterMap Oper.dst=ks) (hn:ks.Nodup) {i j d:Nat} (hi:dstOf ops i=some d) (hj:dstOf ops j=some d):i=j:=by
 have key:∀(l:List Oper) (i j:Nat),(l.filterMap Oper.dst).Nodup->(l[i]?).bind Oper.dst=some d->(l[j]?).bind Oper.dst=some d->i=j:=by
  intro l
  induction l with
  | nil=> intro i j _ h;simp at h
  | cons o l ih=>
   intro i j hn hi hj;have hmem:∀k:Nat,(l[k]?).bind Oper.dst=some d->d∈l.filterMap Oper.dst:=λ k hk=> by
    cases h:l[k]? with
    | none=> rw [h] at hk;cases hk
    | some o'=> rw [h] at hk;exact List.mem_filterMap.2 ⟨o',List.mem_of_getElem? h,hk⟩
   cases i with
   | zero=> cases j with
    | zero=> rfl
    | succ j=>
     have h1:o.dst=some d:=by simpa using hi
     rw [List.filterMap_cons_some h1] at hn;exact absurd (hmem j (by simpa using hj)) (List.nodup_cons.1 hn).1
   | succ i=> cases j with
    | zero=>
     have h1:o.dst=some d:=by simpa using hj
     rw [List.filterMap_cons_some h1] at hn;exact absurd (hmem i (by simpa using hi)) (List.nodup_cons.1 hn).1
    | succ j=>
     have hn':(l.filterMap Oper.dst).Nodup:=by
      cases h1:o.dst with
      | none=> rwa [List.filterMap_cons_none h1] at hn
      | some e=> rw [List.filterMap_cons_some h1] at hn;exact (List.nodup_cons.1 hn).2
     rw [ih i j hn' (by simpa using hi) (by simpa using hj)]
 subst h;unfold dstOf at hi hj;rw [<-Array.getElem?_toList] at hi hj;exact key _ i j hn hi hj
theorem dst_mem {ops:Array Oper} {i d:Nat} (hi:dstOf ops i=some d):d∈ops.toList.filterMap Oper.dst:=by
 unfold dstOf at hi;cases h:ops[i]? with
 | none=> rw [h] at hi;cases hi
 | some o=> rw [h] at hi;exact List.mem_filterMap.2 ⟨o,List.mem_of_getElem? (l:=ops.toList) (i:=i) (by rw [Array.getElem?_toList,h]),hi⟩
theorem want_of {ops:Array Oper} {o:Oper} {a:Act} {b:Bool} (h:wantE ops o a.eval=some b):Region.wanted o (yielded ops a.tmps)=b:=by
 unfold wantE at h;unfold Region.wanted;cases hg:o.guard with
 | none=> rw [hg] at h;simpa using h
 | some p=>
  obtain ⟨j,c⟩:=p;rw [hg] at h;dsimp only at h ⊢;unfold yielded;cases hj:(ops[j]?).bind Oper.dst with
  | none=> rw [hj] at h;cases h
  | some d=>
   rw [hj] at h;dsimp only at h;have he:a.eval (.tmp d)=a.tmps.getD d undef:=rfl;rw [he,Array.getD_eq_getD_getElem?] at h;show ((match a.tmps[d]? with | some (.bool b)=> some b | _=> none)==some c)=b;cases hd:a.tmps[d]? with
   | none=>
    rw [hd] at h;have h':some false=some b:=h;cases h';rfl
   | some v=>
    rw [hd] at h;cases v <;> first | (simp at h ⊢;exact h) | (cases h;rfl)
theorem Rg.step (G:Rg) {a0:Act} (hsz:a0.tmps.size=G.nt) (hin:∀p∈G.inp,a0.eval (.tmp p.1)=p.2) (hf:fitsB G.ops G.nt G.ks (G.inp.map (·.1)) (G.vals.map λ t=> (t.i,t.d,t.sl)) (G.pcs.flatMap Pc.fl) (G.inq.map λ p=> (p.1,p.2.2))=true) {Q:Exit->Act->World->Prop} {i:Nat} (hob:G.Ob i) {o:Oper} {L:Nat->Bool} {a:Act} {w:World}
 (ho:G.ops[i]? =some o) (hL:L i=false) (hdep:∀e∈o.after,Region.binds .any e=true->L e.on=true) (hI:G.Inv a0 L a w):wpOp G.P G.ops Q i (λ a' w'=> G.Inv a0 (λ j=> L j || decide (j=i)) a' w') a w:=by
 obtain ⟨hiq,_,_,hks,hnd,hlt,hinp,hni,hvs⟩:=fits_parts hf;have hasz:a.tmps.size=G.nt:=hI.frame.size.trans hsz;have henv:G.env i a=a.eval:=G.env_eq (λ p hp=> (hI.frame.same p.1 (hinp _ (List.mem_map.2 ⟨p,hp,rfl⟩))).trans (hin p hp)) (λ p hp hb=> hI.inq p hp (by
  rcases Bool.or_eq_true _ _ ▸ hb with h | h
  · exact clos_not hI.down hL h
  · rw [beq_iff_eq.1 h];exact hL)) (λ t ht hc=> hI.vals t ht (clos_true hI.down ho hdep _ hc))
 have hdst:∀d,o.dst=some d->d∈G.ks:=λ d hd=> by rw [<-hks];exact dst_mem (i:=i) (by rw [dstOf,ho];exact hd)
 have hin2:∀v w',(∀t,G.valOf i=some t->v=t.at (sput (slots a) o.dst v))->stP G (ln (closOf G.ops) i L) (sput (slots a) o.dst v) w'->G.Inv a0 (λ j=> L j || decide (j=i)) (a.put o.dst v) w':=by
  intro v w' hv he;have hsl:slots (a.put o.dst v)=sput (slots a) o.dst v:=slots_put λ d hd=> by rw [hasz];exact hlt d (hdst d hd)
  refine ⟨?_,λ t ht hLt=> ?_,λ p hp hLp=> ?_,down_step hI.down ho hdep,?_⟩
  · cases hd:o.dst with
    | none=> exact hI.frame
    | some d=> exact hI.frame.put (hdst d hd) v
  · have ht':=hvs _ (List.mem_map.2 ⟨t,ht,rfl⟩)
    rw [hsl];by_cases e:t.i=i
    · have hd:o.dst=some t.d:=by
       have h1:=ht'.1;dsimp only at h1;rw [e,dstOf,ho] at h1;exact h1
      have hni':(G.vals.map (·.i)).Nodup:=by simpa [Function.comp_def] using hni
      rw [<-hv t (find_one hni' ht e)];unfold sput;rw [if_pos hd]
    · have hLi:L t.i=true:=by simpa [e] using hLt
      have hne:∀d,o.dst=some d->d≠t.d/\d ∉ t.sl:=by
       intro d hd;have hi:dstOf G.ops i=some d:=by rw [dstOf,ho];exact hd
       refine ⟨λ e'=> e (dst_one hks hnd (by rw [ht'.1];simp only [e']) hi),λ hm=> ?_⟩;rcases ht'.2 d hm i (Array.getElem?_eq_some_iff.1 ho).1 hi with h1 | h1
       · exact e h1.symm
       · have hob:∃o',G.ops[t.i]? =some o':=by
          have h2:=ht'.1;dsimp only [dstOf] at h2;cases h3:G.ops[t.i]? with
          | none=> rw [h3] at h2;cases h2
          | some o'=> exact ⟨o',rfl⟩
         obtain ⟨o',ho'⟩:=hob;have:=clos_true hI.down ho' (λ e he hb=> hI.down _ _ ho' hLi e he hb) i h1;rw [hL] at this;cases this
      have h1:sput (slots a) o.dst v t.d=slots a t.d:=by unfold sput;rw [if_neg λ h=> (hne _ h).1 rfl]
      rw [h1,hI.vals t ht hLi];refine Vf.at_eq λ d hd=> ?_;unfold sput;rw [if_neg λ h=> (hne _ h).2 hd]
  · simp only [Bool.or_eq_false_iff,decide_eq_false_iff_not] at hLp
    rw [hsl];unfold sput;rw [if_neg λ h=> hLp.2 (dst_one hks hnd (hiq _ (List.mem_map.2 ⟨p,hp,rfl⟩)) (by rw [dstOf,ho];exact h))];exact hI.inq p hp hLp.1
  · rw [hsl]
    rw [ln_eq hI.down ho hdep hL] at he;exact he
 have hS:stP G (lk (closOf G.ops) i L) (slots a) w:=by rw [lk_eq hI.down ho hdep hL];exact hI.eff
 have h:=hob o ho L a w hasz henv hS;rw [henv] at h;unfold wpOp;simp only [ho];cases hw:wantE G.ops o a.eval with
 | none=> rw [hw] at h;exact h.elim
 | some b=>
  rw [hw] at h;rw [want_of hw];cases b with
  | false=>
   simp only [Bool.false_eq_true,if_false];dsimp only at h;exact hin2 undef w h.1 h.2
  | true=>
   simp only [if_true];dsimp only at h;refine .inl ?_;unfold Oper.wp;generalize (execOp a.eval o).run G.P w=r at h;cases r with
   | ok n w'=>
    cases n with
    | value v=> exact hin2 v w' h.1 h.2
    | skip=> exact hin2 undef w' h.1 h.2
    | enter f args=>
     refine Calls.mono h λ e w2 he=> ?_;obtain ⟨v,rfl,h1⟩:=he;exact hin2 v w2 h1.1 h1.2
    | _=> exact h.elim
   | _=> exact h.elim
theorem wpOps_tok {P:Program} {ops:Array Oper} {Q:Exit->Act->World->Prop} {Inv:(Nat->Bool)->Act->World->Prop} (hf:forwardB ops=true)
 (hstep:∀(i:Nat) (o:Oper) (L:Nat->Bool) (a1:Act) (w:World),ops[i]? =some o->L i=false->(∀e∈o.after,Region.binds .any e=true->L e.on=true)->Inv L a1 w->wpOp P ops (NoPanic Q) i (λ a' w'=> Inv (λ j=> L j || decide (j=i)) a' w') a1 w)
 (hend:∀(L:Nat->Bool) (a1:Act) (w:World),(∀i,i < ops.size->L i=true)->Inv L a1 w->NoPanic Q .normal a1 w):
 ∀(n i:Nat) (a1:Act) (w:World),i+n=ops.size->Inv (λ j=> decide (j < i)) a1 w->wpOps P ops (NoPanic Q) (List.range' i n) a1 w
 | 0,i,a1,w,hn,hI=> hend _ _ _ (λ j hj=> by simp;omega) hI
 | n+1,i,a1,w,hn,hI=> by
  rw [List.range'_succ,wpOps_cons];have ho:ops[i]? =some ops[i]:=Array.getElem?_eq_getElem (by omega);refine wpOp_mono (λ a' w' h'=> ?_) (hstep i ops[i] _ a1 w ho (by simp) (λ e he hb=> by have:=forward_of hf ho e he hb;simpa using this) hI);refine wpOps_tok hf hstep hend n (i+1) a' w' (by omega) ?_;have e:(λ j=> decide (j < i) || decide (j=i))=λ j=> decide (j < i+1):=by funext j;rw [Bool.eq_iff_iff];simp;omega
  rw [<-e];exact h'
def Rg.Obs (G:Rg):Nat->Nat->Prop
 | _,0=> True
 | i,n+1=> G.Ob i/\G.Obs (i+1) n
theorem Rg.Obs.get {G:Rg}:∀{n i:Nat},G.Obs i n->∀j,i<=j->j < i+n->G.Ob j
 | 0,i,_,j,h1,h2=> absurd h2 (by omega)
 | n+1,i,h,j,h1,h2=> by
  by_cases e:i=j
  · exact e ▸ h.1
  · exact Rg.Obs.get h.2 j (by omega) (by omega)
structure Knows (nt:Nat) (a:Act) (fs:List (Nat×Value)):Prop where
 size:a.tmps.size=nt
 defers:a.defers=[]
 at':∀p∈fs,a.eval (.tmp p.1)=p.2
structure Knows0 (nt:Nat) (a:Act) (fs:List (Nat×Value)):Prop where
 size:a.tmps.size=nt
 at':∀p∈fs,a.eval (.tmp p.1)=p.2
theorem Knows.k0 {nt:Nat} {a:Act} {fs:List (Nat×Value)} (h:Knows nt a fs):Knows0 nt a fs:=⟨h.size,h.at'⟩
structure Rg.Next (G:Rg) (a a1:Act):Prop where
 frame:FrameLike a a1 G.ks
 vals:∀t∈G.vals,slots a1 t.d=t.at (slots a1)
theorem wp_tok2 (G:Rg) {id:Nat} {ops:Array Oper} {dr:Bool} {Q:Exit->Act->World->Prop} {a:Act} {w:World} (n:Nat) (he:ops=G.ops) (hm:G.P.follows .mixedOrders=true) (hf:fitsB G.ops G.nt G.ks (G.inp.map (·.1)) (G.vals.map λ t=> (t.i,t.d,t.sl)) (G.pcs.flatMap Pc.fl) (G.inq.map λ p=> (p.1,p.2.2))=true) (hn:G.ops.size=n)
 (hin:Knows0 G.nt a (G.inp++G.inq.map λ p=> (p.1,p.2.1))) (hS:stP G (λ _=> false) (slots a) w) (hob:G.Obs 0 n)
 (hQ:∀a1 w1,G.Next a a1->stP G (λ _=> true) (slots a1) w1->Q .normal a1 w1):(Code.region id ops dr).wp G.P Q a w:=by
 subst he hn;obtain ⟨_,hfl0,hfw,_,_,_,_,_,hvs⟩:=fits_parts hf;have hstep:∀(i:Nat) (o:Oper) (L:Nat->Bool) (a1:Act) (w:World),G.ops[i]? =some o->L i=false->(∀e∈o.after,Region.binds .any e=true->L e.on=true)->G.Inv a L a1 w->wpOp G.P G.ops (NoPanic Q) i (λ a' w'=> G.Inv a (λ j=> L j || decide (j=i)) a' w') a1 w:=
  λ i o L a1 w1 ho hL hdep hI=> G.step hin.size (λ p hp=> hin.at' p (List.mem_append.2 (.inl hp))) hf (hob.get i (Nat.zero_le _) (by have:=(Array.getElem?_eq_some_iff.1 ho).1;omega)) ho hL hdep hI
 have hend:∀(L:Nat->Bool) (a1:Act) (w:World),(∀i,i < G.ops.size->L i=true)->G.Inv a L a1 w->NoPanic Q .normal a1 w:=by
  intro L a1 w1 hL hI;have hv:∀t∈G.vals,slots a1 t.d=t.at (slots a1):=λ t ht=> hI.vals t ht (hL _ (by
   have h2:=(hvs _ (List.mem_map.2 ⟨t,ht,rfl⟩)).1;dsimp only [dstOf] at h2;cases h3:G.ops[t.i]? with
   | none=> rw [h3] at h2;cases h2
   | some o'=> exact (Array.getElem?_eq_some_iff.1 h3).1))
  refine hQ a1 w1 ⟨hI.frame,hv⟩ ?_;have e:G.pcs.map (λ p=> p.at (λ _=> true) (slots a1))=G.pcs.map (λ p=> p.at L (slots a1)):=List.map_congr_left λ p hp=> Pc.at_eq (λ j hj=> (hL j (hfl0 j (List.mem_flatMap.2 ⟨p,hp,hj⟩))).symm) λ _ _=> rfl;unfold stP;rw [e];exact hI.eff
 cases dr with
 | true=> exact wp_region_inv (λ L a1 w1=> G.Inv a L a1 w1) rfl hm hfw ⟨FrameLike.refl _ _,λ _ _ h=> (nomatch h),λ p hp _=> hin.at' _ (List.mem_append.2 (.inr (List.mem_map.2 ⟨p,hp,rfl⟩))),λ _ _ _ h=> (nomatch h),St.mono hS (below_drew w)⟩ hstep hend
 | false=>
  refine wp_region_noPanic (wp_region ?_);rw [List.range_eq_range'];refine wpOps_tok (Inv:=λ L a1 w1=> G.Inv a L a1 w1) hfw hstep hend _ 0 a w (by omega) ?_;have e:(λ j:Nat=> decide (j < 0))=λ _=> false:=by funext j;simp
  rw [e];exact ⟨FrameLike.refl _ _,λ _ _ h=> (nomatch h),λ p hp _=> hin.at' _ (List.mem_append.2 (.inr (List.mem_map.2 ⟨p,hp,rfl⟩))),λ _ _ _ h=> (nomatch h),hS⟩
def Rg.out (G:Rg) (fs:List (Nat×Value)):List (Nat×Value):=(fs.filter λ p=> !G.ks.elem p.1)++(G.vals.filter λ t=> t.sl.isEmpty).map λ t=> (t.d,t.at λ _=> undef)
theorem Rg.Next.knows {G:Rg} {a a1:Act} {fs fs':List (Nat×Value)} (h:G.Next a a1) (hk:Knows G.nt a fs) (hc:(fs'.map λ p=> look p.1 (G.out fs))=fs'.map λ p=> some p.2):Knows G.nt a1 fs':=by
 refine ⟨h.frame.size.trans hk.size,h.frame.defers.trans hk.defers,λ p hp=> ?_⟩;obtain ⟨i,hi⟩:=List.getElem?_of_mem hp;have h1:=congrArg (λ l:List (Option Value)=> l[i]?) hc;simp only [List.getElem?_map,hi,Option.map_some] at h1;rcases List.mem_append.1 (look_mem (Option.some.inj h1)) with h2 | h2
 · obtain ⟨h3,h4⟩:=List.mem_filter.1 h2
   refine (h.frame.same p.1 λ hm=> ?_).trans (hk.at' _ h3);rw [List.elem_iff.2 hm] at h4;cases h4
 · obtain ⟨t,h3,h4⟩:=List.mem_map.1 h2
   obtain ⟨h5,h6⟩:=List.mem_filter.1 h3;injection h4 with h7 h8;rw [<-h7,<-h8];exact (h.vals t h5).trans (Vf.at_eq λ d hd=> by rw [List.isEmpty_iff.1 h6] at hd;cases hd)
theorem Rg.Next.val {G:Rg} {a a1:Act} (h:G.Next a a1) (m:Nat) {t:Vf} (ht:G.vals[m]? =some t):slots a1 t.d=t.at (slots a1):=h.vals t (List.mem_of_getElem? ht)
theorem Knows.add {nt:Nat} {a:Act} {fs:List (Nat×Value)} (h:Knows nt a fs) (d:Nat) (v:Value) (hv:slots a d=v):Knows nt a ((d,v)::fs):=
 ⟨h.size,h.defers,λ p hp=> by
  rcases List.mem_cons.1 hp with rfl | hp
  · exact hv
  · exact h.at' p hp⟩
theorem Knows.sub {nt:Nat} {a:Act} {fs fs':List (Nat×Value)} (h:Knows nt a fs) (hs:(fs'.map λ p=> look p.1 fs)=fs'.map λ p=> some p.2):Knows nt a fs':=
 ⟨h.size,h.defers,λ p hp=> by obtain ⟨i,hi⟩:=List.getElem?_of_mem hp;have h1:=congrArg (λ l:List (Option Value)=> l[i]?) hs;simp only [List.getElem?_map,hi,Option.map_some] at h1;exact h.at' _ (look_mem (Option.some.inj h1))⟩
def cfst:Code->Code
 | .seq x _=> x
 | c=> c
def csnd:Code->Code
 | .seq _ y=> y
 | c=> c
def isSeq:Code->Bool
 | .seq _ _=> true
 | _=> false
def cops:Code->Array Oper
 | .region _ ops _=> ops
 | _=> #[]
def isReg:Code->Bool
 | .region _ _ _=> true
 | _=> false
theorem wp_seqT {P:Program} {Q:Exit->Act->World->Prop} {a:Act} {w:World} {c:Code} (hc:isSeq c=true) (h:(cfst c).wp P (Exit.then ((csnd c).wp P Q) Q) a w):c.wp P Q a w:=by
 cases c <;> first | (cases hc;done) | exact wp_seq h
structure Rg.Ok (G:Rg) (n:Nat):Prop where
 fits:fitsB G.ops G.nt G.ks (G.inp.map (·.1)) (G.vals.map λ t=> (t.i,t.d,t.sl)) (G.pcs.flatMap Pc.fl) (G.inq.map λ p=> (p.1,p.2.2))=true
 size:G.ops.size=n
 obs:G.Obs 0 n
theorem wp_regD {G:Rg} {n:Nat} {c:Code} {Q:Exit->Act->World->Prop} {a:Act} {w:World} (hG:G.Ok n) (hm:G.P.follows .mixedOrders=true) (hc:isReg c=true/\cops c=G.ops)
 (hin:Knows0 G.nt a (G.inp++G.inq.map λ p=> (p.1,p.2.1))) (hS:stP G (λ _=> false) (slots a) w)
 (hQ:∀a1 w1,G.Next a a1->stP G (λ _=> true) (slots a1) w1->Q .normal a1 w1):c.wp G.P Q a w:=by
 obtain ⟨hc,he⟩:=hc;cases c <;> first | (cases hc;done) | exact wp_tok2 G n he hm hG.fits hG.size hin hS hG.obs hQ
theorem wp_regT {G:Rg} {n:Nat} {c:Code} {Q:Exit->Act->World->Prop} {a:Act} {w:World} (hG:G.Ok n) (hm:G.P.follows .mixedOrders=true) (hc:isReg c=true/\cops c=G.ops)
 (hin:Knows G.nt a (G.inp++G.inq.map λ p=> (p.1,p.2.1))) (hS:stP G (λ _=> false) (slots a) w)
 (hQ:∀a1 w1,G.Next a a1->stP G (λ _=> true) (slots a1) w1->Q .normal a1 w1):c.wp G.P Q a w:=wp_regD hG hm hc hin.k0 hS hQ
def ccond:Code->Operand
 | .cond c _ _=> c
 | _=> .const undef
def cthen:Code->Code
 | .cond _ x _=> x
 | c=> c
def celse:Code->Code
 | .cond _ _ y=> y
 | c=> c
def isCond:Code->Bool
 | .cond _ _ _=> true
 | _=> false
theorem wp_condT {P:Program} {Q:Exit->Act->World->Prop} {a:Act} {w:World} {c:Code} {t:Bool} (hc:isCond c=true) (hv:a.eval (ccond c)=.bool t) (ht:t=true->(cthen c).wp P Q a w) (hf:t=false->(celse c).wp P Q a w):c.wp P Q a w:=by
 cases c <;> first | (cases hc;done) | exact wp_cond_split hv ht hf
def isRet:Code->Bool
 | .ret=> true
 | _=> false
theorem wp_retT {P:Program} {Q:Exit->Act->World->Prop} {a:Act} {w:World} {c:Code} (hc:isRet c=true) (h:Q .ret a w):c.wp P Q a w:=by
 cases c <;> first | (cases hc;done) | exact wp_ret h
def isSkip:Code->Bool
 | .skip=> true
 | _=> false
theorem wp_skipT {P:Program} {Q:Exit->Act->World->Prop} {a:Act} {w:World} {c:Code} (hc:isSkip c=true) (h:Q .normal a w):c.wp P Q a w:=by
 cases c <;> first | (cases hc;done) | exact wp_skip h
def cbody:Code->Code
 | .block _ c=> c
 | .loop c=> c
 | c=> c
def isBlk:Code->Bool
 | .block _ _=> true
 | _=> false
def blkId:Code->Nat
 | .block i _=> i
 | _=> 0
theorem wp_blkT {P:Program} {Q:Exit->Act->World->Prop} {a:Act} {w:World} {c:Code} (hc:isBlk c=true) (h:(cbody c).wp P (Exit.inBlock (blkId c) Q) a w):c.wp P Q a w:=by
 cases c <;> first | (cases hc;done) | exact wp_block h
theorem wp_blkN {P:Program} {Q:Exit->Act->World->Prop} {a:Act} {w:World} {c:Code} (hc:isBlk c=true) (hQ:∀i a w,¬ Q (.exit i) a w) (h:(cbody c).wp P Q a w):c.wp P Q a w:=by
 refine wp_blkT hc (wp_mono h λ e a w he=> ?_);cases e <;> first | exact he | exact (hQ _ _ _ he).elim
theorem calls_T {P:Program} {f:Nat} {args:Array Value} {w:World} {R:Ending->World->Prop} {F:Func} {c:Code} {nt:Nat} (fs:List (Nat×Value)) (hF:P.funcs[f]? =some F/\F.body=some c/\F.ntmps=nt) (hsz:args.size<=nt) (hfs:(fs.map λ p=> args[p.1]?)=fs.map λ p=> some p.2)
 (h:∀a,Knows nt a fs->c.wp P (bodyPost P F R) a w):Calls P f args w R:=by
 obtain ⟨hF,hb,hn⟩:=hF;refine calls_of_wp hF hb (h _ ⟨?_,rfl,λ p hp=> ?_⟩)
 · simp [hn];omega
 · obtain ⟨i,hi⟩:=List.getElem?_of_mem hp
   have h1:=congrArg (λ l:List (Option Value)=> l[i]?) hfs;simp only [List.getElem?_map,hi,Option.map_some] at h1;have h2:=Option.some.inj h1;have hlt:=(Array.getElem?_eq_some_iff.1 h2).1;show (args++_).getD p.1 undef=p.2;rw [Array.getD_eq_getD_getElem?,Array.getElem?_append_left hlt,h2];rfl
theorem wp_seqJ {P:Program} {Q:Exit->Act->World->Prop} {a:Act} {w:World} {c:Code} (hc:isSeq c=true) (J:Act->World->Prop) (h:(cfst c).wp P (Exit.then J Q) a w) (h2:∀a w,J a w->(csnd c).wp P Q a w):c.wp P Q a w:=by
 refine wp_seqT hc (wp_mono h λ e a w he=> ?_);cases e <;> first | exact h2 _ _ he | exact he
theorem Knows.look {nt:Nat} {a:Act} {fs:List (Nat×Value)} (h:Knows nt a fs) {d:Nat} {v:Value} (hl:YtnefkkidfhmggaaGreat.look d fs=some v):a.eval (.tmp d)=v:=h.at' _ (look_mem hl)
theorem wp_condK {P:Program} {Q:Exit->Act->World->Prop} {a:Act} {w:World} {c:Code} {d nt:Nat} {fs:List (Nat×Value)} {t:Bool} (hc:isCond c=true/\ccond c=.tmp d) (hk:Knows nt a fs) (hl:YtnefkkidfhmggaaGreat.look d fs=some (.bool t)) (ht:t=true->(cthen c).wp P Q a w) (hf:t=false->(celse c).wp P Q a w):c.wp P Q a w:=
 wp_condT hc.1 (by rw [hc.2];exact hk.look hl) ht hf
theorem res0 {P:Program} {F:Func} {t:Array Value} {w:World} (h:F.results=#[]):(results F t).run P w=.ok (.tuple #[]) w:=by
 simp [results,h]
theorem res1 {P:Program} {F:Func} {nt d:Nat} {a:Act} {fs:List (Nat×Value)} {v:Value} {w:World} (h:F.results=#[.tmp d]) (hk:Knows nt a fs) (hl:YtnefkkidfhmggaaGreat.look d fs=some v):(results F a.tmps).run P w=.ok v w:=by
 have e:a.tmps.getD d undef=v:=hk.look hl;simp only [Array.getD_eq_getD_getElem?] at e;simp [results,h,e]
theorem res2 {P:Program} {F:Func} {nt d d':Nat} {a:Act} {fs:List (Nat×Value)} {v v':Value} {w:World} (h:F.results=#[.tmp d, .tmp d']) (hk:Knows nt a fs) (hl:YtnefkkidfhmggaaGreat.look d fs=some v) (hl':YtnefkkidfhmggaaGreat.look d' fs=some v'):(results F a.tmps).run P w=.ok (.tuple #[v,v']) w:=by
 have e:a.tmps.getD d undef=v:=hk.look hl;have e':a.tmps.getD d' undef=v':=hk.look hl';simp only [Array.getD_eq_getD_getElem?] at e e';simp [results,h,e,e']
theorem post_T {P:Program} {F:Func} {R:Ending->World->Prop} {nt:Nat} {a:Act} {w:World} {fs:List (Nat×Value)} {e:Exit} {v:Value} (hk:Knows nt a fs) (hr:(results F a.tmps).run P w=.ok v w) (h:R (.returned v) w) (he:e=.normal\/e=.ret:=by first | exact .inl rfl | exact .inr rfl):bodyPost P F R e a w:=by
 rcases he with rfl | rfl <;> exact ⟨hk.defers,v,hr,h⟩
structure Ft where
 i:Nat
 d:Nat
 p:World->Value->Prop
 mono:∀w w' v,p w v->Below w.heap.size w w'->p w' v
def Ft.const (i d:Nat) (v:Value):Ft:=⟨i,d,λ _ u=> u=v,λ _ _ _ h _=> h⟩
structure FInv (a0:Act) (ks:List Nat) (fs:List Ft) (W:World) (L:Nat->Bool) (a:Act) (w:World):Prop where
 frame:FrameLike a0 a ks
 below:Below W.heap.size W w
 facts:∀f∈fs,L f.i=true->f.p w (a.eval (.tmp f.d))
def coverN (ops:Array Oper) (N:Nat) (l:List (Nat×Nat)):Bool:=(List.range N).all λ i=> match ops[i]? with
 | none=> false
 | some o=> o.guard.isNone && l.any λ t=> t.1==i && o.dst==some t.2
def tailN (ops:Array Oper) (N:Nat):Bool:=(List.range ops.size).all λ i=> decide (i < N) || (List.range i).all λ j=> ((closOf ops).getD i []).elem j
theorem pair_nodup {l:List Ft} (h:(l.map (·.i)).Nodup) {f g:Ft} (hf:f∈l) (hg:g∈l) (e:f.i=g.i):f=g:=by
 obtain ⟨k,hk⟩:=List.getElem?_of_mem hf;obtain ⟨j,hj⟩:=List.getElem?_of_mem hg;have h1:(l.map (·.i))[k]? =some f.i:=by rw [List.getElem?_map,hk];rfl
 have h2:(l.map (·.i))[j]? =some f.i:=by rw [List.getElem?_map,hj,e];rfl
 have:=nodup_at h h1 h2;subst this;rw [hk] at hj;exact Option.some.inj hj
theorem pair_nodup_d {l:List Ft} (h:(l.map (·.d)).Nodup) {f g:Ft} (hf:f∈l) (hg:g∈l) (e:f.d=g.d):f=g:=by
 obtain ⟨k,hk⟩:=List.getElem?_of_mem hf;obtain ⟨j,hj⟩:=List.getElem?_of_mem hg;have h1:(l.map (·.d))[k]? =some f.d:=by rw [List.getElem?_map,hk];rfl
 have h2:(l.map (·.d))[j]? =some f.d:=by rw [List.getElem?_map,hj,e];rfl
 have:=nodup_at h h1 h2;subst this;rw [hk] at hj;exact Option.some.inj hj
theorem drop_head {α:Type} {l:List α} {i:Nat} {x:α} (h:l[i]? =some x):l.drop i=x::l.drop (i+1):=by
 obtain ⟨h1,h2⟩:=List.getElem?_eq_some_iff.1 h;rw [List.drop_eq_getElem_cons h1,h2]
end
end Go.Proofs.YtnefkkidfhmggaaGreat
