/- Part 2 of the proof: Kd, Fa, N0, N1, P2, O0, Lm, Ao, Cm, Fi, Fe, Nw -/
import Derived.Test.YtpdlkdoogojboaaGreatY00
import Derived.Test.YtpdlkdoogojboaaGreatY01
import Derived.Test.YtpdlkdoogojboaaGreatProg
import Derived.Deep.AppendSrc
import Derived.Laws.Cover1
import Derived.Laws.Strings
import Derived.Deep.DeepCutAuto
set_option maxHeartbeats 16000000
set_option maxRecDepth 100000
namespace Go.Proofs.YtpdlkdoogojboaaGreat
open Go Go.RowKit
noncomputable section
inductive Ky where
 | int (n:Int)
 | str (s:ByteArray)
inductive Va where
 | int (n:Int)
 | sl (a:Option Addr) (n c:Nat)
def encK:Ky->Value
 | .int n=> .int .i64 n
 | .str s=> .string s
def encV:Va->Value
 | .int n=> .int .i64 n
 | .sl a n c=> .slice a n c
theorem encK_one (k:Ky):(encK k).oneCell'=true:=by cases k <;> rfl
theorem encV_one (v:Va):(encV v).oneCell'=true:=by cases v <;> rfl
def Ky.ok:Bool->Ky->Prop
 | false, .int _=> True
 | true, .str _=> True
 | _,_=> False
def va0:Bool->Va
 | false=> .sl none 0 0
 | true=> .int 0
def cmpKy:Ky->Ky->Int
 | .int a, .int b=> cmpS a b
 | .int _, .str _=> -1
 | .str _, .int _=> 1
 | .str a, .str b=> Lib.compareBytes (bytes a) (bytes b)
instance:KOrd Ky where
 cmp:=cmpKy
 range a b:=by
  cases a <;> cases b
  · exact cmpS_range _ _
  · exact .inl rfl
  · exact .inr (.inr rfl)
  · exact cmpB_range _ _
 zero {a b}:=by
  cases a <;> cases b <;> simp only [cmpKy,reduceCtorEq,iff_false,Ky.int.injEq,Ky.str.injEq] <;> first
   | exact cmpS_zero
   | exact cmpB_zero.trans ⟨bytes_inj,λ e=> by rw [e]⟩
   | decide
 swap a b:=by
  cases a <;> cases b
  · exact cmpS_swap _ _
  · rfl
  · rfl
  · exact cmpB_swap _ _
 trans {a b c}:=by
  cases a <;> cases b <;> cases c <;> simp only [cmpKy] <;> intro h1 h2 <;> first
   | omega
   | (exact cmpS_neg.2 (Int.lt_trans (cmpS_neg.1 h1) (cmpS_neg.1 h2)))
   | exact cmpB_trans h1 h2
abbrev MM:=M Ky Va
abbrev TT:=T Ky Va
def tN (β:Bool):Nat:=match β with | false=> 190 | true=> 198
def tT (β:Bool):Nat:=match β with | false=> 186 | true=> 194
def tK (β:Bool):Nat:=match β with | false=> 2 | true=> 9
def tV (β:Bool):Nat:=match β with | false=> 33 | true=> 2
def tP (β:Bool):Nat:=match β with | false=> 184 | true=> 192
def tE (β:Bool):Nat:=match β with | false=> 269 | true=> 303
def tES (β:Bool):Nat:=match β with | false=> 266 | true=> 300
def tKS (β:Bool):Nat:=match β with | false=> 187 | true=> 195
def tVS (β:Bool):Nat:=match β with | false=> 63 | true=> 187
def tPS (β:Bool):Nat:=match β with | false=> 188 | true=> 196
def opsR (F:Func) (r:Nat):Array Oper:=((F.body).bind λ c=> opsOf c r).getD #[]
def bodyC (F:Func):Code:=F.body.getD .skip
def fInsK (β:Bool):Nat:=match β with | false=> 157 | true=> 163
def fInsV (β:Bool):Nat:=match β with | false=> 158 | true=> 157
def fInsP (β:Bool):Nat:=match β with | false=> 162 | true=> 166
def fClK (β:Bool):Nat:=match β with | false=> 159 | true=> 164
def fClV (β:Bool):Nat:=match β with | false=> 160 | true=> 159
def fClP (β:Bool):Nat:=match β with | false=> 161 | true=> 165
def fDelK (β:Bool):Nat:=match β with | false=> 147 | true=> 153
def fDelV (β:Bool):Nat:=match β with | false=> 148 | true=> 147
def fDelP (β:Bool):Nat:=match β with | false=> 181 | true=> 185
def fNew (β:Bool):Nat:=match β with | false=> 112 | true=> 141
def fPut (β:Bool):Nat:=match β with | false=> 88 | true=> 89
def BPut (β:Bool):Func:=match β with | false=> Tryz.f88 | true=> Tryz.f89
def fIns0 (β:Bool):Nat:=match β with | false=> 126 | true=> 128
def BIns0 (β:Bool):Func:=match β with | false=> Tryz.f126 | true=> Tryz.f128
def fSplit (β:Bool):Nat:=match β with | false=> 127 | true=> 129
def BSplit (β:Bool):Func:=match β with | false=> Tryz.f127 | true=> Tryz.f129
def fGet (β:Bool):Nat:=match β with | false=> 91 | true=> 91
def BGet (β:Bool):Func:=match β with | false=> Tryz.f91 | true=> Tryz.f91
def fDelete (β:Bool):Nat:=match β with | false=> 83 | true=> 84
def BDelete (β:Bool):Func:=match β with | false=> Tryz.f83 | true=> Tryz.f84
def fRemove (β:Bool):Nat:=match β with | false=> 120 | true=> 122
def BRemove (β:Bool):Func:=match β with | false=> Tryz.f120 | true=> Tryz.f122
def fFill (β:Bool):Nat:=match β with | false=> 151 | true=> 156
def BFill (β:Bool):Func:=match β with | false=> Tryz.f151 | true=> Tryz.f156
def fMerge (β:Bool):Nat:=match β with | false=> 182 | true=> 186
def BMerge (β:Bool):Func:=match β with | false=> Tryz.f182 | true=> Tryz.f186
def fMax (β:Bool):Nat:=match β with | false=> 149 | true=> 154
def BMax (β:Bool):Func:=match β with | false=> Tryz.f149 | true=> Tryz.f154
def fLeast (β:Bool):Nat:=match β with | false=> 150 | true=> 155
def fLeaf (β:Bool):Nat:=match β with | false=> 121 | true=> 123
def fFind (β:Bool):Nat:=match β with | false=> 130 | true=> 152
def fCollect (β:Bool):Nat:=match β with | false=> 199 | true=> 238
def BCollect (β:Bool):Func:=match β with | false=> Tryz.f199 | true=> Tryz.f238
def fBetween (β:Bool):Nat:=match β with | false=> 169 | true=> 237
def fBetw1 (β:Bool):Nat:=match β with | false=> 198 | true=> 198
def BBetw1 (β:Bool):Func:=match β with | false=> Tryz.f198 | true=> Tryz.f198
def okI (β:Bool):Bool:=match β with | false=> true | true=> 0==1
class OkI (β:Bool):Prop where
 ok:okI β=true
instance:OkI false:=⟨rfl⟩
section
variable {β:Bool}
def ptrV (b:Nat):Value:=.pointer (some ⟨b,0,none⟩)
def keysV (es:MM):List Value:=es.map λ e=> encK e.1
def valsV (es:MM):List Value:=es.map λ e=> encV e.2
def nodeL (β:Bool) (K:TT->Nat->Asn) (x:TT) (b:Nat) (q:Value×Value×Value×List Nat):List Asn:=
 pureA (q.2.2.2.length=x.cs.length)::blkA b (tN β) #[q.1,q.2.1,q.2.2.1]::slA (tK β) q.1 (keysV x.es)::slA (tV β) q.2.1 (valsV x.es)::slA (tP β) q.2.2.1 (q.2.2.2.map ptrV)::List.zipWith K x.cs q.2.2.2
def nodeA (β:Bool) (K:TT->Nat->Asn) (x:TT) (b:Nat):Asn:=exA λ q=> starA (nodeL β K x b q)
def treeA (β:Bool):Nat->TT->Nat->Asn
 | 0=> nodeA β λ _ _=> emp
 | h+1=> nodeA β (treeA β h)
def kidA (β:Bool):Nat->TT->Nat->Asn
 | 0=> λ _ _=> emp
 | h+1=> treeA β h
theorem treeA_eq (h:Nat):treeA β h=nodeA β (kidA β h):=by cases h <;> rfl
theorem keysV_length (es:MM):(keysV es).length=es.length:=by simp [keysV]
theorem valsV_length (es:MM):(valsV es).length=es.length:=by simp [valsV]
theorem keysV_one (es:MM):∀u∈keysV es,u.oneCell'=true:=by
 intro u hu;obtain ⟨e,_,rfl⟩:=List.mem_map.1 hu
 first | exact encK_one _ | exact encV_one _ | rfl
theorem valsV_one (es:MM):∀u∈valsV es,u.oneCell'=true:=by
 intro u hu;obtain ⟨e,_,rfl⟩:=List.mem_map.1 hu
 first | exact encK_one _ | exact encV_one _ | rfl
theorem ptrV_one (bs:List Nat):∀u∈bs.map ptrV,u.oneCell'=true:=by
 intro u hu;obtain ⟨e,_,rfl⟩:=List.mem_map.1 hu
 first | exact encK_one _ | exact encV_one _ | rfl
theorem St.openT {w0 w:World} {fp0:List Nat} {L2:List Asn} {h:Nat} {x:TT} {b:Nat} (hs:St w0 fp0 (treeA β h x b::L2) w):∃q,St w0 fp0 (nodeL β (kidA β h) x b q++L2) w:=by
 rw [treeA_eq] at hs;exact hs.unfold λ f ⟨q,hq⟩=> ⟨q,hq⟩
theorem St.shutT {w0 w:World} {fp0:List Nat} {L2:List Asn} {h:Nat} {x:TT} {b:Nat} (q:Value×Value×Value×List Nat) (hs:St w0 fp0 (nodeL β (kidA β h) x b q++L2) w):St w0 fp0 (treeA β h x b::L2) w:=by
 rw [treeA_eq];exact hs.fold λ f hf=> ⟨q,hf⟩
end
section
variable {β:Bool}
def restA (β:Bool) (h i j:Nat) (cs:List TT) (bs:List Nat):Asn:=starA (List.zipWith (treeA β h) (cs.take i) (bs.take i)++List.zipWith (treeA β h) (cs.drop j) (bs.drop j))
theorem zip3T (h i j:Nat) (hij:i<=j) (cs:List TT) (bs:List Nat) (hl:bs.length=cs.length):
 List.zipWith (treeA β h) cs bs=List.zipWith (treeA β h) (cs.take i) (bs.take i)++(List.zipWith (treeA β h) ((cs.take j).drop i) ((bs.take j).drop i)++List.zipWith (treeA β h) (cs.drop j) (bs.drop j)):=by
 conv=> lhs;rw [<-List.take_append_drop j cs,<-List.take_append_drop j bs]
 rw [zipWith_app _ _ _ _ _ (by simp [hl])]
 conv=> lhs;lhs;rw [<-List.take_append_drop i (cs.take j),<-List.take_append_drop i (bs.take j)]
 rw [zipWith_app _ _ _ _ _ (by simp [hl]),List.take_take,List.take_take,Nat.min_eq_left hij,List.append_assoc]
theorem St.kidsT {w0 w:World} {fp0:List Nat} {R:List Asn} {h:Nat} {x:TT} {b:Nat} (i j:Nat) (hij:i<=j) (hs:St w0 fp0 (treeA β (h+1) x b::R) w):∃ks vs ps bs,bs.length=x.cs.length/\
 St w0 fp0 (blkA b (tN β) #[ks,vs,ps]::slA (tK β) ks (keysV x.es)::slA (tV β) vs (valsV x.es)::slA (tP β) ps (bs.map ptrV)::restA β h i j x.cs bs::(List.zipWith (treeA β h) ((x.cs.take j).drop i) ((bs.take j).drop i)++R)) w:=by
 obtain ⟨⟨ks,vs,ps,bs⟩,h1⟩:=hs.openT;obtain ⟨h2,h3⟩:=St.pure.1 h1;simp only at h2 h3;refine ⟨ks,vs,ps,bs,h2,?_⟩;rw [show kidA β (h+1)=treeA β h from rfl,zip3T h i j hij _ _ h2] at h3;have h4:St w0 fp0 ((List.zipWith (treeA β h) (x.cs.take i) (bs.take i)++List.zipWith (treeA β h) (x.cs.drop j) (bs.drop j))++(blkA b (tN β) #[ks,vs,ps]::slA (tK β) ks (keysV x.es)::slA (tV β) vs (valsV x.es)::slA (tP β) ps (bs.map ptrV)::(List.zipWith (treeA β h) ((x.cs.take j).drop i) ((bs.take j).drop i)++R))) w:=by
  refine h3.perm ?_
  classical refine List.perm_iff_count.2 λ a=> ?_;simp only [List.append_eq,List.cons_append,List.count_append,List.count_cons];omega
 refine (St.star.2 h4).perm ?_
 classical refine List.perm_iff_count.2 λ a=> ?_;simp only [List.count_append,List.count_cons,restA];omega
theorem St.joinT {w0 w:World} {fp0:List Nat} {R:List Asn} {h:Nat} {cs mid:List TT} {es:MM} {b:Nat} {ks vs ps:Value} {bs mb:List Nat} (i j:Nat) (hl:bs.length=cs.length) (hm:mb.length=mid.length)
 (hs:St w0 fp0 (blkA b (tN β) #[ks,vs,ps]::slA (tK β) ks (keysV es)::slA (tV β) vs (valsV es)::slA (tP β) ps ((bs.take i++(mb++bs.drop j)).map ptrV)::restA β h i j cs bs::(List.zipWith (treeA β h) mid mb++R)) w):
 St w0 fp0 (treeA β (h+1) (.node es (cs.take i++(mid++cs.drop j))) b::R) w:=by
 refine St.shutT (ks,vs,ps,bs.take i++(mb++bs.drop j)) ?_;refine St.pure.2 ⟨by simp [cs_node,hl,hm],?_⟩;rw [show kidA β (h+1)=treeA β h from rfl,es_node,cs_node,zipWith_app _ _ _ _ _ (by simp [hl]),zipWith_app _ _ _ _ _ hm.symm];have h4:St w0 fp0 (restA β h i j cs bs::(blkA b (tN β) #[ks,vs,ps]::slA (tK β) ks (keysV es)::slA (tV β) vs (valsV es)::slA (tP β) ps ((bs.take i++(mb++bs.drop j)).map ptrV)::(List.zipWith (treeA β h) mid mb++R))) w:=by
  refine hs.perm ?_
  classical refine List.perm_iff_count.2 λ a=> ?_;simp only [List.count_append,List.count_cons];omega
 refine (St.star.1 h4).perm ?_
 classical refine List.perm_iff_count.2 λ a=> ?_;simp only [List.append_eq,List.cons_append,List.count_append,List.count_cons];omega
theorem mid1 {α:Type} {l:List α} {i:Nat} {c:α} (h:l[i]? =some c):(l.take (i+1)).drop i=[c]:=by
 obtain ⟨h1,h2⟩:=List.getElem?_eq_some_iff.1 h;rw [List.take_succ_eq_append_getElem h1,List.drop_append_of_le_length (by simp;omega),List.drop_of_length_le (by simp;omega),h2];rfl
theorem St.viewT {w0 w:World} {fp0:List Nat} {R:List Asn} {h:Nat} {x:TT} {b:Nat} (i:Nat) {c:TT} (hc:x.cs[i]? =some c) (hs:St w0 fp0 (treeA β (h+1) x b::R) w):∃ks vs ps bs cb,bs.length=x.cs.length/\bs[i]? =some cb/\
 St w0 fp0 (blkA b (tN β) #[ks,vs,ps]::slA (tK β) ks (keysV x.es)::slA (tV β) vs (valsV x.es)::slA (tP β) ps (bs.map ptrV)::restA β h i (i+1) x.cs bs::treeA β h c cb::R) w:=by
 obtain ⟨ks,vs,ps,bs,h1,h2⟩:=hs.kidsT i (i+1) (Nat.le_succ i);have hi:i < bs.length:=by rw [h1];exact (List.getElem?_eq_some_iff.1 hc).1
 refine ⟨ks,vs,ps,bs,bs[i],h1,List.getElem?_eq_getElem hi,?_⟩;rw [mid1 hc,mid1 (List.getElem?_eq_getElem hi)] at h2;exact h2
theorem St.unviewT {w0 w:World} {fp0:List Nat} {R:List Asn} {h:Nat} {es:MM} {cs:List TT} {b i cb:Nat} {c':TT} {ks vs ps:Value} {bs:List Nat} (hl:bs.length=cs.length) (hb:bs[i]? =some cb)
 (hs:St w0 fp0 (blkA b (tN β) #[ks,vs,ps]::slA (tK β) ks (keysV es)::slA (tV β) vs (valsV es)::slA (tP β) ps (bs.map ptrV)::restA β h i (i+1) cs bs::treeA β h c' cb::R) w):
 St w0 fp0 (treeA β (h+1) (.node es (cs.set i c')) b::R) w:=by
 obtain ⟨h1,h2⟩:=List.getElem?_eq_some_iff.1 hb;have e:cs.set i c'=cs.take i++([c']++cs.drop (i+1)):=by rw [set_at (List.getElem?_eq_getElem (by omega:i < cs.length))];rfl
 have e':bs=bs.take i++([cb]++bs.drop (i+1)):=split_at hb;rw [e];refine St.joinT (ks:=ks) (vs:=vs) (ps:=ps) (mb:=[cb]) i (i+1) hl rfl ?_;rw [<-e'];exact hs
theorem St.openNT {w0 w:World} {fp0:List Nat} {L:List Asn} {h:Nat} {x:TT} {b:Nat} (hs:St w0 fp0 (treeA β h x b::L) w):∃ks vs ps bs,bs.length=x.cs.length/\
 St w0 fp0 (blkA b (tN β) #[ks,vs,ps]::slA (tK β) ks (keysV x.es)::slA (tV β) vs (valsV x.es)::slA (tP β) ps (bs.map ptrV)::starA (List.zipWith (kidA β h) x.cs bs)::L) w:=by
 obtain ⟨⟨ks,vs,ps,bs⟩,h1⟩:=hs.openT;obtain ⟨h2,h3⟩:=St.pure.1 h1;simp only at h2 h3;refine ⟨ks,vs,ps,bs,h2,?_⟩;have h4:St w0 fp0 (List.zipWith (kidA β h) x.cs bs++(blkA b (tN β) #[ks,vs,ps]::slA (tK β) ks (keysV x.es)::slA (tV β) vs (valsV x.es)::slA (tP β) ps (bs.map ptrV)::L)) w:=by
  refine h3.perm ?_
  classical refine List.perm_iff_count.2 λ a=> ?_;simp only [List.append_eq,List.cons_append,List.count_append,List.count_cons];omega
 refine (St.star.2 h4).perm ?_
 classical refine List.perm_iff_count.2 λ a=> ?_;simp only [List.count_cons];omega
theorem St.shutNT {w0 w:World} {fp0:List Nat} {L:List Asn} {h:Nat} {es:MM} {cs:List TT} {b:Nat} {ks vs ps:Value} {bs:List Nat} (hl:bs.length=cs.length)
 (hs:St w0 fp0 (blkA b (tN β) #[ks,vs,ps]::slA (tK β) ks (keysV es)::slA (tV β) vs (valsV es)::slA (tP β) ps (bs.map ptrV)::starA (List.zipWith (kidA β h) cs bs)::L) w):St w0 fp0 (treeA β h (.node es cs) b::L) w:=by
 refine St.shutT (ks,vs,ps,bs) (St.pure.2 ⟨hl,?_⟩);rw [es_node,cs_node];have h4:St w0 fp0 (starA (List.zipWith (kidA β h) cs bs)::(blkA b (tN β) #[ks,vs,ps]::slA (tK β) ks (keysV es)::slA (tV β) vs (valsV es)::slA (tP β) ps (bs.map ptrV)::L)) w:=by
  refine hs.perm ?_
  classical refine List.perm_iff_count.2 λ a=> ?_;simp only [List.count_cons];omega
 refine (St.star.1 h4).perm ?_
 classical refine List.perm_iff_count.2 λ a=> ?_;simp only [List.append_eq,List.cons_append,List.count_append,List.count_cons];omega
theorem St.cutkidsT {w0 w:World} {fp0:List Nat} {L:List Asn} {h:Nat} {cs:List TT} {bs:List Nat} (d:Nat) (hl:bs.length=cs.length) (hs:St w0 fp0 (starA (List.zipWith (kidA β h) cs bs)::L) w):
 St w0 fp0 (starA (List.zipWith (kidA β h) (cs.take d) (bs.take d))::starA (List.zipWith (kidA β h) (cs.drop d) (bs.drop d))::L) w:=by
 have h1:=St.star.1 hs;rw [<-List.take_append_drop d cs,<-List.take_append_drop d bs,zipWith_app _ _ _ _ _ (by simp [hl]),List.append_assoc] at h1;have h2:St w0 fp0 (starA (List.zipWith (kidA β h) (cs.drop d) (bs.drop d))::(List.zipWith (kidA β h) (cs.take d) (bs.take d)++L)) w:=by
  refine St.star.2 (h1.perm ?_)
  classical refine List.perm_iff_count.2 λ a=> ?_;simp only [List.count_append];omega
 refine St.star.2 (h2.perm ?_)
 classical refine List.perm_iff_count.2 λ a=> ?_;simp only [List.count_append,List.count_cons];omega
theorem St.at_open {w0 w:World} {fp0:List Nat} {L:List Asn} {t:TypeId} {s:Value} {c:Array Value} (hs:St w0 fp0 (atA t s c::L) w):∃b,s=.pointer (some ⟨b,0,none⟩)/\St w0 fp0 (blkA b t c::L) w:=by
 obtain ⟨fp,⟨f,g,⟨b,h0,h1⟩,h2,h3,rfl⟩,ht⟩:=hs;exact ⟨b,h0,f++g,⟨f,g,h1,h2,h3,rfl⟩,ht⟩
theorem St.nilA {w0 w:World} {fp0:List Nat} {L:List Asn} (t:TypeId) (hs:St w0 fp0 L w):St w0 fp0 (slA t (.slice none 0 0) []::L) w:=by
 obtain ⟨fp,h1,h2⟩:=hs;exact ⟨fp,⟨[],fp,⟨World.ownsRow_nil _ _ _ _,rfl⟩,h1,by simp,rfl⟩,h2⟩
theorem tree_lookT {w:World} {h:Nat} {x:TT} {b:Nat} {f:List Nat} (ht:(treeA β h x b).p w f):∃ka kc vs ps,w.cell? ⟨b,0,none⟩=some (.slice ka x.es.length kc)/\w.cell? ⟨b,1,none⟩=some vs/\w.cell? ⟨b,2,none⟩=some ps/\b < w.heap.size:=by
 rw [treeA_eq] at ht;obtain ⟨⟨ks,vs,ps,bs⟩,hq⟩:=ht;obtain ⟨_,g,_,⟨f1,g1,h1,⟨f2,g2,h2,_⟩,_⟩,_⟩:=hq;obtain ⟨a,c,e,_⟩:=sl_get h2;rw [keysV_length] at e;refine ⟨a,c,vs,ps,?_,(blk_get h1).1 1,(blk_get h1).1 2,(blk_get h1).2.2⟩;rw [<-e];exact (blk_get h1).1 0
theorem St.newblk {w0 w:World} {fp0:List Nat} {L:List Asn} (h:St w0 fp0 L w) (t:TypeId) (c:Array Value):St w0 fp0 (blkA w.heap.size t c::L) (w.alloc (.cells c t)):=by
 have h1:St w0 fp0 (L++[blkA w.heap.size t c]) (w.alloc (.cells c t)):=h.add ((Below.refl _ _).alloc (Nat.le_refl _) _) ⟨heap_alloc_new w _,rfl⟩ (by simp);exact h1.perm List.perm_append_comm
end
end
end Go.Proofs.YtpdlkdoogojboaaGreat
noncomputable section
namespace Go.Proofs.YtpdlkdoogojboaaGreat
open T
section
variable {κ ν:Type}
def maxT:Nat->T κ ν->Option (κ×ν)
 | 0,x=> x.es.getLast?
 | h+1,x=> match x.cs.getLast? with
  | none=> none
  | some c=> maxT h c
def mergeT (i:Nat) (x:T κ ν):T κ ν:=match x.cs[i]?,x.cs[i+1]?,x.es[i]? with
 | some l,some r,some s=> .node (x.es.eraseIdx i) (x.cs.take i++.node (l.es++s::r.es) (l.cs++r.cs)::x.cs.drop (i+2))
 | _,_,_=> x
def rightT (i:Nat) (x:T κ ν):T κ ν:=match x.cs[i]?,x.cs[i+1]?,x.es[i]? with
 | some l,some c,some s=> match l.es.getLast? with
  | some m=> .node (x.es.set i m) (x.cs.take i++.node l.es.dropLast (l.cs.dropLast)::.node (s::c.es) (l.cs.getLast?.toList++c.cs)::x.cs.drop (i+2))
  | none=> x
 | _,_,_=> x
def leftT (i:Nat) (x:T κ ν):T κ ν:=match x.cs[i]?,x.cs[i+1]?,x.es[i]? with
 | some c,some r,some s=> match r.es with
  | m::R=> .node (x.es.set i m) (x.cs.take i++.node (c.es++[s]) (c.cs++r.cs.take 1)::.node R (r.cs.drop 1)::x.cs.drop (i+2))
  | []=> x
 | _,_,_=> x
def cntT (x:T κ ν) (i:Nat):Nat:=match x.cs[i]? with | some c=> c.es.length | none=> 0
def fillT (o i:Nat) (x:T κ ν):T κ ν:=
 if 0 < i/\least o < cntT x (i - 1) then rightT (i - 1) x
 else if i < x.es.length/\least o < cntT x (i+1) then leftT i x
 else if 0 < i then mergeT (i - 1) x else mergeT i x
theorem toL_two (h:Nat) (A:M κ ν) (s:κ×ν) (B:M κ ν) (C1:List (T κ ν)) (c d:T κ ν) (C2:List (T κ ν)) (hl:A.length=C1.length):
 toL (h+1) (.node (A++s::B) (C1++c::d::C2))=pre (toL h) A C1++(toL h c++s::toL h d)++post (toL h) B C2:=by
 rw [toL_split h A (s::B) C1 (d::C2) c hl,post];simp
theorem toL_one (h:Nat) (A:M κ ν) (B:M κ ν) (C1:List (T κ ν)) (c:T κ ν) (C2:List (T κ ν)) (hl:A.length=C1.length):
 toL (h+1) (.node (A++B) (C1++c::C2))=pre (toL h) A C1++toL h c++post (toL h) B C2:=toL_split h A B C1 C2 c hl
theorem snoc_of {α:Type} {l:List α} (h:l≠[]):∃m x,l=m++[x]:=⟨_,_,(List.dropLast_concat_getLast h).symm⟩
theorem ne_nil {α:Type} {l:List α} (h:0 < l.length):l≠[]:=by intro e;rw [e] at h;exact absurd h (by simp)
theorem toL_join {o h lo hi lo' hi':Nat} {l r:T κ ν} (hl:Body o h lo hi l) (hr:Body o h lo' hi' r) (s:κ×ν):toL h (.node (l.es++s::r.es) (l.cs++r.cs))=toL h l++s::toL h r:=by
 cases h with
 | zero=> simp [toL,es_node]
 | succ h=>
  obtain ⟨le,lc⟩:=l;obtain ⟨re,rc⟩:=r;have h1:=hl.2.2.1;have h2:=hr.2.2.1;simp only [es_node,cs_node] at *;obtain ⟨C1,c,rfl⟩:=snoc_of (ne_nil (l:=lc) (by omega));cases rc with
  | nil=> simp at h2
  | cons d C2=>
   have hlen:le.length=C1.length:=by simp at h1;omega
   rw [show C1++[c]++d::C2=C1++c::d::C2 by simp,toL_two h _ _ _ _ _ _ _ hlen,toL_last h _ _ _ hlen,toL_cons];simp
theorem toL_right {o h lo hi lo' hi':Nat} {l c:T κ ν} {m s:κ×ν} (hl:Body o h lo hi l) (hr:Body o h lo' hi' c) (hm:l.es.getLast? =some m):
 toL h (.node l.es.dropLast l.cs.dropLast)++m::toL h (.node (s::c.es) (l.cs.getLast?.toList++c.cs))=toL h l++s::toL h c:=by
 obtain ⟨le,lc⟩:=l;obtain ⟨ce,cc⟩:=c;simp only [es_node,cs_node] at *;obtain ⟨L,rfl⟩:∃L,le=L++[m]:=by obtain ⟨L,x,rfl⟩:=snoc_of (l:=le) (by intro e;rw [e] at hm;simp at hm);simp at hm;exact ⟨L,by rw [hm]⟩
 cases h with
 | zero=>
  have h1:=hl.2.2;have h2:=hr.2.2;simp only [cs_node] at h1 h2;subst h1 h2;simp [toL,es_node]
 | succ h=>
  have h1:=hl.2.2.1;have h2:=hr.2.2.1;simp only [es_node,cs_node] at h1 h2;obtain ⟨K,d,rfl⟩:=snoc_of (ne_nil (l:=lc) (by omega));obtain ⟨K',d',rfl⟩:=snoc_of (l:=K) (ne_nil (by simp at h1;omega));cases cc with
  | nil=> simp at h2
  | cons d2 C2=>
   have hlen:L.length=K'.length:=by simp at h1;omega
   rw [show K'++[d']++[d]=K'++d'::d::[] by simp,show (L++[m]:M κ ν)=L++m::[] by rfl,toL_two h _ _ _ _ _ _ _ hlen];have e1:(K'++d'::d::[]).dropLast=K'++[d']:=by rw [show K'++d'::d::[]=(K'++[d'])++[d] by simp,List.dropLast_concat]
   have e2:(K'++d'::d::[]).getLast? =some d:=by rw [show K'++d'::d::[]=(K'++[d'])++[d] by simp,List.getLast?_concat]
   have e3:(L++m::[]).dropLast=L:=List.dropLast_concat;rw [e1,e2,e3,toL_last h _ _ _ hlen];simp only [Option.toList,List.cons_append,List.nil_append,toL_cons,post];simp
theorem toL_left {o h lo hi lo' hi':Nat} {c r:T κ ν} {m s:κ×ν} {R:M κ ν} (hl:Body o h lo hi c) (hr:Body o h lo' hi' r) (hm:r.es=m::R):
 toL h (.node (c.es++[s]) (c.cs++r.cs.take 1))++m::toL h (.node R (r.cs.drop 1))=toL h c++s::toL h r:=by
 obtain ⟨ce,cc⟩:=c;obtain ⟨re,rc⟩:=r;simp only [es_node,cs_node] at *;subst hm;cases h with
 | zero=>
  have h1:=hl.2.2;have h2:=hr.2.2;simp only [cs_node] at h1 h2;subst h1 h2;simp [toL,es_node]
 | succ h=>
  have h1:=hl.2.2.1;have h2:=hr.2.2.1;simp only [es_node,cs_node] at h1 h2;obtain ⟨K,d,rfl⟩:=snoc_of (ne_nil (l:=cc) (by omega))
  match rc,h2 with
  | d1::d2::C2,h2=>
   have hlen:ce.length=K.length:=by simp at h1;omega
   simp only [List.take_succ_cons,List.take_zero,List.drop_succ_cons,List.drop_zero];rw [show K++[d]++[d1]=K++d::d1::[] by simp,toL_two h _ _ _ _ _ _ _ hlen,toL_last h _ _ _ hlen];simp only [toL_cons,post];simp
  | [d1],h2=> simp at h2
  | [],h2=> simp at h2
theorem Body.node {o h lo hi:Nat} {es:M κ ν} {cs:List (T κ ν)} (h1:lo<=es.length) (h2:es.length<=hi) (h3:cs.length=es.length+1) (h4:∀c∈cs,Body o h (least o) (o - 1) c):Body o (h+1) lo hi (.node es cs):=⟨h1,h2,h3,h4⟩
theorem Body.kids {o h lo hi:Nat} {x:T κ ν} (hb:Body o h lo hi x):(h=0/\x.cs=[])\/∃h',h=h'+1/\x.cs.length=x.es.length+1/\∀c∈x.cs,Body o h' (least o) (o - 1) c:=by
 cases h with
 | zero=> exact .inl ⟨rfl,hb.2.2⟩
 | succ h=> exact .inr ⟨h,rfl,hb.2.2.1,hb.2.2.2⟩
structure Short (o h i:Nat) (x:T κ ν):Prop where
 len:x.cs.length=x.es.length+1
 pos:0 < x.es.length
 at':i < x.cs.length
 kid:∀c,x.cs[i]? =some c->Body o h (least o - 1) (o - 1) c/\c.es.length+1=least o
 rest:∀j c,j≠i->x.cs[j]? =some c->Body o h (least o) (o - 1) c
theorem two_at {x:T κ ν} {i:Nat} {l r:T κ ν} {s:κ×ν} (h1:x.cs[i]? =some l) (h2:x.cs[i+1]? =some r) (h3:x.es[i]? =some s):
 x.es=x.es.take i++s::x.es.drop (i+1)/\x.cs=x.cs.take i++l::r::x.cs.drop (i+2)/\(x.es.take i).length=(x.cs.take i).length:=by
 refine ⟨split_at h3,?_,?_⟩
 · have e1:=split_at h1
   have e2:x.cs.drop (i+1)=r::x.cs.drop (i+2):=by obtain ⟨hlt,hx⟩:=List.getElem?_eq_some_iff.1 h2;rw [List.drop_eq_getElem_cons hlt,hx]
   rw [e2] at e1;exact e1
 · have a1:=(List.getElem?_eq_some_iff.1 h1).1
   have a2:=(List.getElem?_eq_some_iff.1 h3).1;rw [List.length_take,List.length_take];omega
theorem mem_two {o h i:Nat} {x:T κ ν} (hs:∀j c,j≠i->j≠i+1->x.cs[j]? =some c->Body o h (least o) (o - 1) c):
 (∀d∈x.cs.take i,Body o h (least o) (o - 1) d)/\∀d∈x.cs.drop (i+2),Body o h (least o) (o - 1) d:=by
 refine ⟨λ d hd=> ?_,λ d hd=> ?_⟩
 · obtain ⟨j,hj,rfl⟩:=List.mem_iff_getElem.1 hd
   rw [List.length_take] at hj;exact hs j _ (by omega) (by omega) (by rw [List.getElem_take];exact List.getElem?_eq_getElem _)
 · obtain ⟨j,hj,rfl⟩:=List.mem_iff_getElem.1 hd
   rw [List.length_drop] at hj;exact hs (i+2+j) _ (by omega) (by omega) (by rw [List.getElem_drop];exact List.getElem?_eq_getElem _)
theorem least_two {o:Nat} (ho:3<=o):1<=least o/\2 * least o<=o - 1:=by unfold least;omega
theorem merge_spec {o h i:Nat} {x l r:T κ ν} {s:κ×ν} (h1:x.cs[i]? =some l) (h2:x.cs[i+1]? =some r) (h3:x.es[i]? =some s) (hlen:x.cs.length=x.es.length+1)
 {la lb ra rb:Nat} (hl:Body o h la lb l) (hr:Body o h ra rb r) (hsum:least o<=l.es.length+r.es.length+1/\l.es.length+r.es.length+1<=o - 1)
 (hs:∀j c,j≠i->j≠i+1->x.cs[j]? =some c->Body o h (least o) (o - 1) c):
 (mergeT i x).es.length=x.es.length - 1/\Body o (h+1) (x.es.length - 1) (x.es.length - 1) (mergeT i x)/\toL (h+1) (mergeT i x)=toL (h+1) x:=by
 have e:mergeT i x=.node (x.es.eraseIdx i) (x.cs.take i++.node (l.es++s::r.es) (l.cs++r.cs)::x.cs.drop (i+2)):=by unfold mergeT;rw [h1,h2,h3]
 obtain ⟨t1,t2,t3⟩:=two_at h1 h2 h3;obtain ⟨m1,m2⟩:=mem_two hs;have hi:=(List.getElem?_eq_some_iff.1 h3).1;have hi2:=(List.getElem?_eq_some_iff.1 h2).1;have he:(x.es.eraseIdx i).length=x.es.length - 1:=List.length_eraseIdx_of_lt hi;have hee:x.es.eraseIdx i=x.es.take i++x.es.drop (i+1):=List.eraseIdx_eq_take_drop_succ _ _;have hj:Body o h (least o) (o - 1) (T.node (l.es++s::r.es) (l.cs++r.cs)):=by
  have hle:(l.es++s::r.es).length=l.es.length+r.es.length+1:=by simp;omega
  rcases hl.kids with ⟨rfl,hk⟩ | ⟨h',rfl,hk,hk'⟩
  · have hk2:=hr.2.2
    exact ⟨by rw [es_node,hle];omega,by rw [es_node,hle];omega,by rw [cs_node,hk,hk2];rfl⟩
  · have hk2:=hr.2.2.1
    have hk3:=hr.2.2.2;refine ⟨by rw [es_node,hle];omega,by rw [es_node,hle];omega,by rw [cs_node,es_node,List.length_append,hle];omega,λ d hd=> ?_⟩;rcases List.mem_append.1 hd with hd | hd
    · exact hk' d hd
    · exact hk3 d hd
 rw [e];refine ⟨he,Body.node (by rw [he];exact Nat.le_refl _) (by rw [he];exact Nat.le_refl _) ?_ λ d hd=> ?_,?_⟩
 · rw [he]
   simp only [List.length_append,List.length_cons,List.length_take,List.length_drop];omega
 · rcases List.mem_append.1 hd with hd | hd
   · exact m1 d hd
   · rcases List.mem_cons.1 hd with rfl | hd
     · exact hj
     · exact m2 d hd
 · conv=> rhs;rw [<-T.eta x,t1,t2]
   rw [hee,toL_two h _ _ _ _ _ _ _ t3,toL_one h _ _ _ _ _ t3,toL_join hl hr]
theorem right_spec {o h i:Nat} {x l c:T κ ν} {s:κ×ν} (h1:x.cs[i]? =some l) (h2:x.cs[i+1]? =some c) (h3:x.es[i]? =some s) (hlen:x.cs.length=x.es.length+1)
 (ho:3<=o) (hl:Body o h (least o) (o - 1) l) (hr:Body o h (least o - 1) (o - 1) c) (hbig:least o < l.es.length) (hsm:c.es.length+1=least o)
 (hs:∀j c,j≠i->j≠i+1->x.cs[j]? =some c->Body o h (least o) (o - 1) c):
 Body o (h+1) x.es.length x.es.length (rightT i x)/\toL (h+1) (rightT i x)=toL (h+1) x:=by
 obtain ⟨m,hm⟩:∃m,l.es.getLast? =some m:=⟨_,List.getLast?_eq_some_getLast (ne_nil (by omega))⟩
 have e:rightT i x=.node (x.es.set i m) (x.cs.take i++.node l.es.dropLast (l.cs.dropLast)::.node (s::c.es) (l.cs.getLast?.toList++c.cs)::x.cs.drop (i+2)):=by unfold rightT;rw [h1,h2,h3];simp only [hm]
 obtain ⟨t1,t2,t3⟩:=two_at h1 h2 h3;obtain ⟨m1,m2⟩:=mem_two hs;have hi2:=(List.getElem?_eq_some_iff.1 h2).1;obtain ⟨lo1,lo2⟩:=least_two ho;have hli:=hl.hi;have hset:x.es.set i m=x.es.take i++m::x.es.drop (i+1):=set_at h3 m;have hj:Body o h (least o) (o - 1) (T.node l.es.dropLast l.cs.dropLast)/\Body o h (least o) (o - 1) (T.node (s::c.es) (l.cs.getLast?.toList++c.cs)):=by
  have hle:l.es.dropLast.length=l.es.length - 1:=List.length_dropLast;rcases hl.kids with ⟨rfl,hk⟩ | ⟨h',rfl,hk,hk'⟩
  · have hk2:=hr.2.2
    refine ⟨⟨by rw [es_node,hle];omega,by rw [es_node,hle];omega,by rw [cs_node,hk];rfl⟩,⟨by rw [es_node,List.length_cons];omega,by rw [es_node,List.length_cons];omega,by rw [cs_node,hk,hk2];rfl⟩⟩
  · have hk2:=hr.2.2.1
    have hk3:=hr.2.2.2;obtain ⟨y,hy⟩:∃y,l.cs.getLast? =some y:=⟨_,List.getLast?_eq_some_getLast (ne_nil (by omega))⟩
    refine ⟨⟨by rw [es_node,hle];omega,by rw [es_node,hle];omega,by rw [cs_node,es_node,List.length_dropLast,hle];omega,λ d hd=> hk' d (List.dropLast_subset _ hd)⟩,
     ⟨by rw [es_node,List.length_cons];omega,by rw [es_node,List.length_cons];omega,by rw [cs_node,es_node,hy,List.length_append,List.length_cons];simp only [Option.toList,List.length_cons,List.length_nil];omega,λ d hd=> ?_⟩⟩
    rw [cs_node,hy] at hd;rcases List.mem_append.1 hd with hd | hd
    · simp only [Option.toList,List.mem_singleton] at hd
      subst hd;exact hk' _ (List.mem_of_getLast? hy)
    · exact hk3 d hd
 rw [e];refine ⟨Body.node (by rw [List.length_set];exact Nat.le_refl _) (by rw [List.length_set];exact Nat.le_refl _) ?_ λ d hd=> ?_,?_⟩
 · rw [List.length_set]
   simp only [List.length_append,List.length_cons,List.length_take,List.length_drop];omega
 · rcases List.mem_append.1 hd with hd | hd
   · exact m1 d hd
   · rcases List.mem_cons.1 hd with rfl | hd
     · exact hj.1
     · rcases List.mem_cons.1 hd with rfl | hd
       · exact hj.2
       · exact m2 d hd
 · conv=> rhs;rw [<-T.eta x,t1,t2]
   rw [hset,toL_two h _ _ _ _ _ _ _ t3,toL_two h _ _ _ _ _ _ _ t3,toL_right hl hr hm]
theorem left_spec {o h i:Nat} {x c r:T κ ν} {s:κ×ν} (h1:x.cs[i]? =some c) (h2:x.cs[i+1]? =some r) (h3:x.es[i]? =some s) (hlen:x.cs.length=x.es.length+1)
 (ho:3<=o) (hl:Body o h (least o - 1) (o - 1) c) (hr:Body o h (least o) (o - 1) r) (hbig:least o < r.es.length) (hsm:c.es.length+1=least o)
 (hs:∀j c,j≠i->j≠i+1->x.cs[j]? =some c->Body o h (least o) (o - 1) c):
 Body o (h+1) x.es.length x.es.length (leftT i x)/\toL (h+1) (leftT i x)=toL (h+1) x:=by
 obtain ⟨m,R,hm⟩:∃m R,r.es=m::R:=by
  cases hh:r.es with
  | nil=> rw [hh] at hbig;simp at hbig
  | cons a b=> exact ⟨a,b,rfl⟩
 have e:leftT i x=.node (x.es.set i m) (x.cs.take i++.node (c.es++[s]) (c.cs++r.cs.take 1)::.node R (r.cs.drop 1)::x.cs.drop (i+2)):=by unfold leftT;rw [h1,h2,h3];simp only [hm]
 obtain ⟨t1,t2,t3⟩:=two_at h1 h2 h3;obtain ⟨m1,m2⟩:=mem_two hs;have hi2:=(List.getElem?_eq_some_iff.1 h2).1;obtain ⟨lo1,lo2⟩:=least_two ho;have hri:=hr.hi;have hRl:R.length+1=r.es.length:=by rw [hm];rfl
 have hset:x.es.set i m=x.es.take i++m::x.es.drop (i+1):=set_at h3 m;have hj:Body o h (least o) (o - 1) (T.node (c.es++[s]) (c.cs++r.cs.take 1))/\Body o h (least o) (o - 1) (T.node R (r.cs.drop 1)):=by
  have hle:(c.es++[s]).length=c.es.length+1:=by simp
  rcases hr.kids with ⟨rfl,hk⟩ | ⟨h',rfl,hk,hk'⟩
  · have hk2:=hl.2.2
    refine ⟨⟨by rw [es_node,hle];omega,by rw [es_node,hle];omega,by rw [cs_node,hk,hk2];rfl⟩,⟨by rw [es_node];omega,by rw [es_node];omega,by rw [cs_node,hk];rfl⟩⟩
  · have hk2:=hl.2.2.1
    have hk3:=hl.2.2.2;refine ⟨⟨by rw [es_node,hle];omega,by rw [es_node,hle];omega,by rw [cs_node,es_node,List.length_append,List.length_take,hle];omega,λ d hd=> ?_⟩,
     ⟨by rw [es_node];omega,by rw [es_node];omega,by rw [cs_node,es_node,List.length_drop];omega,λ d hd=> hk' d (List.mem_of_mem_drop hd)⟩⟩
    rcases List.mem_append.1 hd with hd | hd
    · exact hk3 d hd
    · exact hk' d (List.mem_of_mem_take hd)
 rw [e];refine ⟨Body.node (by rw [List.length_set];exact Nat.le_refl _) (by rw [List.length_set];exact Nat.le_refl _) ?_ λ d hd=> ?_,?_⟩
 · rw [List.length_set]
   simp only [List.length_append,List.length_cons,List.length_take,List.length_drop];omega
 · rcases List.mem_append.1 hd with hd | hd
   · exact m1 d hd
   · rcases List.mem_cons.1 hd with rfl | hd
     · exact hj.1
     · rcases List.mem_cons.1 hd with rfl | hd
       · exact hj.2
       · exact m2 d hd
 · conv=> rhs;rw [<-T.eta x,t1,t2]
   rw [hset,toL_two h _ _ _ _ _ _ _ t3,toL_two h _ _ _ _ _ _ _ t3,toL_left hl hr hm]
theorem fill_spec {o h i:Nat} (ho:3<=o) {x:T κ ν} (hs:Short o h i x):Body o (h+1) (x.es.length - 1) x.es.length (fillT o i x)/\toL (h+1) (fillT o i x)=toL (h+1) x:=by
 obtain ⟨h1,h2,h3,h4,h5⟩:=hs;obtain ⟨lo1,lo2⟩:=least_two ho;obtain ⟨c,hc⟩:∃c,x.cs[i]? =some c:=⟨_,List.getElem?_eq_getElem h3⟩
 obtain ⟨hcb,hcl⟩:=h4 c hc;unfold fillT;by_cases c1:0 < i/\least o < cntT x (i - 1)
 · rw [if_pos c1]
   obtain ⟨c1,c1'⟩:=c1;obtain ⟨j,rfl⟩:∃j,i=j+1:=⟨i - 1,by omega⟩
   rw [Nat.add_sub_cancel] at c1' ⊢;obtain ⟨l,hl⟩:∃l,x.cs[j]? =some l:=⟨_,List.getElem?_eq_getElem (by omega)⟩
   obtain ⟨s,hs⟩:∃s,x.es[j]? =some s:=⟨_,List.getElem?_eq_getElem (by omega)⟩
   unfold cntT at c1';rw [hl] at c1';obtain ⟨r1,r2⟩:=right_spec hl hc hs h1 ho (h5 j l (by omega) hl) hcb c1' hcl (λ k d hk1 hk2 hd=> h5 k d hk2 hd);exact ⟨r1.mono (by have:=r1.lo;omega) r1.hi,r2⟩
 · rw [if_neg c1]
   by_cases c2:i < x.es.length/\least o < cntT x (i+1)
   · rw [if_pos c2]
     obtain ⟨c2,c2'⟩:=c2;obtain ⟨r,hr⟩:∃r,x.cs[i+1]? =some r:=⟨_,List.getElem?_eq_getElem (by omega)⟩
     obtain ⟨s,hs⟩:∃s,x.es[i]? =some s:=⟨_,List.getElem?_eq_getElem c2⟩
     unfold cntT at c2';rw [hr] at c2';obtain ⟨r1,r2⟩:=left_spec hc hr hs h1 ho hcb (h5 (i+1) r (by omega) hr) c2' hcl (λ k d hk1 hk2 hd=> h5 k d hk1 hd);exact ⟨r1.mono (by have:=r1.lo;omega) r1.hi,r2⟩
   · rw [if_neg c2]
     by_cases c3:0 < i
     · rw [if_pos c3]
       obtain ⟨j,rfl⟩:∃j,i=j+1:=⟨i - 1,by omega⟩
       rw [Nat.add_sub_cancel] at c1 ⊢;obtain ⟨l,hl⟩:∃l,x.cs[j]? =some l:=⟨_,List.getElem?_eq_getElem (by omega)⟩
       obtain ⟨s,hs⟩:∃s,x.es[j]? =some s:=⟨_,List.getElem?_eq_getElem (by omega)⟩
       have hlb:=h5 j l (by omega) hl;have hle:l.es.length<=least o:=by have:¬ least o < cntT x j:=λ hh=> c1 ⟨c3,hh⟩;unfold cntT at this;rw [hl] at this;simp only at this;omega
       obtain ⟨r1,r2,r3⟩:=merge_spec hl hc hs h1 hlb hcb (by have:=hlb.lo;omega) (λ k d hk1 hk2 hd=> h5 k d hk2 hd);exact ⟨r2.mono (by omega) (by omega),r3⟩
     · rw [if_neg c3]
       obtain rfl:i=0:=by omega
       obtain ⟨r,hr⟩:∃r,x.cs[0+1]? =some r:=⟨_,List.getElem?_eq_getElem (by omega)⟩
       obtain ⟨s,hs⟩:∃s,x.es[0]? =some s:=⟨_,List.getElem?_eq_getElem h2⟩
       have hrb:=h5 1 r (by omega) hr;have hle:r.es.length<=least o:=by have:¬ least o < cntT x (0+1):=λ hh=> c2 ⟨h2,hh⟩;unfold cntT at this;rw [hr] at this;simp only at this;omega
       obtain ⟨r1,r2,r3⟩:=merge_spec hc hr hs h1 hcb hrb (by have:=hrb.lo;omega) (λ k d hk1 hk2 hd=> h5 k d hk1 hd);exact ⟨r2.mono (by omega) (by omega),r3⟩
theorem max_spec {o:Nat} (ho:3<=o):∀{h lo hi:Nat} {x:T κ ν},Body o h lo hi x->0 < x.es.length->∃L m,maxT h x=some m/\toL h x=L++[m]
 | 0,lo,hi,x,hb,hp=> by obtain ⟨L,m,e⟩:=snoc_of (ne_nil hp);exact ⟨L,m,by rw [maxT,e,List.getLast?_concat],e⟩
 | h+1,lo,hi, .node es cs,hb,hp=> by have h3:=hb.2.2.1;have h4:=hb.2.2.2;simp only [es_node,cs_node] at *;obtain ⟨C,c,rfl⟩:=snoc_of (ne_nil (l:=cs) (by omega));have hc:=h4 c (by simp);obtain ⟨lo1,_⟩:=least_two ho;obtain ⟨L,m,e1,e2⟩:=max_spec ho hc (by have:=hc.lo;omega);refine ⟨pre (toL h) es C++L,m,by rw [maxT,cs_node,List.getLast?_concat];exact e1,?_⟩;rw [toL_last h _ _ _ (by simp at h3;omega),e2,List.append_assoc]
theorem fix_spec {o h i:Nat} (ho:3<=o) {es:M κ ν} {cs:List (T κ ν)} {c':T κ ν} (hlen:cs.length=es.length+1) (hp:0 < es.length) (hhi:es.length<=o - 1) (hi:i < cs.length) (hb:Body o h (least o - 1) (o - 1) c')
 (hk:∀c∈cs,Body o h (least o) (o - 1) c):
 let x':=T.node es (cs.set i c');let y:=if c'.es.length < least o then fillT o i x' else x'
 Body o (h+1) (es.length - 1) (o - 1) y/\toL (h+1) y=toL (h+1) x':=by
 simp only;have hkid:∀j c,j≠i->(cs.set i c')[j]? =some c->Body o h (least o) (o - 1) c:=by intro j c hj hc;rw [List.getElem?_set_ne (λ e=> hj e.symm)] at hc;exact hk c (List.mem_of_getElem? hc)
 split
 · rename_i hlt
   have hs:Short o h i (T.node es (cs.set i c')):=by refine ⟨by simpa [cs_node,es_node] using hlen,hp,by simpa [cs_node] using hi,λ c hc=> ?_,hkid⟩;rw [cs_node,List.getElem?_set_self (by simpa using hi)] at hc;injection hc with hc;subst hc;exact ⟨hb,by have:=hb.lo;obtain ⟨lo1,_⟩:=least_two ho;omega⟩
   obtain ⟨f1,f2⟩:=fill_spec ho hs;exact ⟨f1.mono f1.lo (by have:=f1.hi;simp only [es_node] at this;omega),f2⟩
 · rename_i hge
   refine ⟨Body.node (by omega) hhi (by simpa using hlen) λ d hd=> ?_,rfl⟩;obtain ⟨j,hj⟩:=List.getElem?_of_mem hd;by_cases e:j=i
   · subst e
     rw [List.getElem?_set_self (by simpa using hi)] at hj;injection hj with hj;subst hj;exact hb.mono (by omega) hb.hi
   · exact hkid j d e hj
end
section
variable {κ ν:Type} [KOrd κ]
def removeT (o:Nat):Nat->T κ ν->κ->T κ ν
 | 0,x,k=> if hasK x.es k then .node (x.es.eraseIdx (posK x.es k)) x.cs else x
 | h+1,x,k=> match x.cs[posK x.es k]? with
  | none=> x
  | some c=>
   if hasK x.es k then
    match maxT h c with
    | none=> x
    | some m=>
     let c':=removeT o h c m.1;let x':=T.node (x.es.set (posK x.es k) m) (x.cs.set (posK x.es k) c')
     if c'.es.length < least o then fillT o (posK x.es k) x' else x'
   else
    let c':=removeT o h c k;let x':=T.node x.es (x.cs.set (posK x.es k) c')
    if c'.es.length < least o then fillT o (posK x.es k) x' else x'
theorem removeT_spec {o:Nat} (ho:3<=o):∀(h lo:Nat) (x:T κ ν) (k:κ),Body o h lo (o - 1) x->(h≠0->0 < x.es.length)->AscM (toL h x)->
 Body o h (lo - 1) (o - 1) (removeT o h x k)/\toL h (removeT o h x k)=delM (toL h x) k
 | 0,lo,x,k,hb,_,ha=> by
  have hc:=hb.2.2;have h1:=hb.1;have h2:=hb.2.1;have hlt:=posK_lt x.es k;rw [removeT];cases hh:hasK x.es k
  · have hgt:=hasK_no (asc_es ha) hh
    simp only [Bool.false_eq_true,if_false];refine ⟨hb.mono (by omega) h2,?_⟩;simp only [toL]
    conv=> rhs;rw [<-List.take_append_drop (posK x.es k) x.es]
    rw [delM_none hlt hgt,List.take_append_drop]
  · obtain ⟨y,m,hd,he⟩:=hasK_yes hh
    have hy:x.es[posK x.es k]? =some y:=by rw [getElem?_drop0,hd];rfl
    have hl:=(List.getElem?_eq_some_iff.1 hy).1;have hle:(x.es.eraseIdx (posK x.es k)).length=x.es.length - 1:=List.length_eraseIdx_of_lt hl;simp only [if_true];refine ⟨⟨by rw [es_node,hle];omega,by rw [es_node,hle];omega,hc⟩,?_⟩;simp only [toL,es_node]
    conv=> rhs;rw [split_at hy]
    rw [delM_here hlt he,List.eraseIdx_eq_take_drop_succ]
 | h+1,lo,x,k,hb,hp,ha=> by
  obtain ⟨h1,h2,h3,h4⟩:=hb;have hpos:=hp (by omega);have hple:=posK_le x.es k;have hlt:=posK_lt x.es k;obtain ⟨lo1,lo2⟩:=least_two ho;obtain ⟨c,hc⟩:∃c,x.cs[posK x.es k]? =some c:=⟨_,List.getElem?_eq_getElem (by omega)⟩
  have hcm:=List.mem_of_getElem? hc;have hcb:=h4 c hcm;have hcp:0 < c.es.length:=by have:=hcb.lo;omega
  have hl1:(x.es.take (posK x.es k)).length=(x.cs.take (posK x.es k)).length:=by rw [List.length_take,List.length_take];omega
  have hil:posK x.es k < x.cs.length:=by omega
  rw [removeT];simp only [hc];cases hh:hasK x.es k
  · have hgt:=hasK_no (asc_es ha) hh
    simp only [Bool.false_eq_true,if_false];have hxe:toL (h+1) x=pre (toL h) (x.es.take (posK x.es k)) (x.cs.take (posK x.es k))++toL h c++post (toL h) (x.es.drop (posK x.es k)) (x.cs.drop (posK x.es k+1)):=by rw [<-toL_split h _ _ _ _ _ hl1,List.take_append_drop,<-split_at hc,T.eta]
    rw [hxe] at ha;obtain ⟨a1,a2,a3⟩:=AscM.append.1 ha;obtain ⟨a4,a5,a6⟩:=AscM.append.1 a1;obtain ⟨ih1,ih2⟩:=removeT_spec ho h (least o) c k hcb (λ _=> hcp) a5;obtain ⟨f1,f2⟩:=fix_spec ho h3 hpos h2 hil ih1 h4;refine ⟨f1.mono (by have:=f1.lo;omega) f1.hi,?_⟩;rw [f2,set_at hc,hxe,delM_gt (post_gt hgt a2),delM_lt (pre_lt hlt a4),<-ih2];have:=toL_split h (x.es.take (posK x.es k)) (x.es.drop (posK x.es k)) (x.cs.take (posK x.es k)) (x.cs.drop (posK x.es k+1)) (removeT o h c k) hl1;rw [List.take_append_drop] at this;exact this
  · obtain ⟨y,m',hd,he⟩:=hasK_yes hh
    have hy:x.es[posK x.es k]? =some y:=by rw [getElem?_drop0,hd];rfl
    simp only [if_true];obtain ⟨L,mx,hm,hL⟩:=max_spec ho hcb hcp;simp only [hm];have hlt2:posK x.es k < x.es.length:=(List.getElem?_eq_some_iff.1 hy).1;obtain ⟨c2,hc2⟩:∃c2,x.cs[posK x.es k+1]? =some c2:=⟨_,List.getElem?_eq_getElem (by omega)⟩
    obtain ⟨t1,t2,t3⟩:=two_at hc hc2 hy;have hxe:toL (h+1) x=pre (toL h) (x.es.take (posK x.es k)) (x.cs.take (posK x.es k))++(toL h c++y::toL h c2)++post (toL h) (x.es.drop (posK x.es k+1)) (x.cs.drop (posK x.es k+2)):=by
     conv=> lhs;rw [<-T.eta x,t1,t2]
     exact toL_two h _ _ _ _ _ _ _ t3
    rw [hxe] at ha;have hac:AscM (toL h c):=by obtain ⟨a1,_⟩:=AscM.append.1 ha;obtain ⟨_,a2,_⟩:=AscM.append.1 a1;exact (AscM.append.1 a2).1
    obtain ⟨ih1,ih2⟩:=removeT_spec ho h (least o) c mx.1 hcb (λ _=> hcp) hac;have hdel:toL h (removeT o h c mx.1)=L:=by rw [ih2,hL];have h5:=hac;rw [hL] at h5;have h6:=AscM.mid (l:=L) (m:=[]) (x:=mx) h5;have:=delM_here (l:=L) (m:=[]) (x:=mx) h6.2.2.1 rfl;simpa using this
    obtain ⟨f1,f2⟩:=fix_spec ho (es:=x.es.set (posK x.es k) mx) (by rw [List.length_set];exact h3) (by rw [List.length_set];exact hpos) (by rw [List.length_set];exact h2) hil ih1 h4;rw [List.length_set] at f1;refine ⟨f1.mono (by have:=f1.lo;omega) f1.hi,?_⟩;rw [f2,set_at hc,set_at hy,hxe];have e2:x.cs.drop (posK x.es k+1)=c2::x.cs.drop (posK x.es k+2):=by obtain ⟨hlt3,hx⟩:=List.getElem?_eq_some_iff.1 hc2;rw [List.drop_eq_getElem_cons hlt3,hx]
    rw [e2,toL_two h _ _ _ _ _ _ _ t3,hdel,hL];have hmid:AscM ((pre (toL h) (x.es.take (posK x.es k)) (x.cs.take (posK x.es k))++toL h c)++y::(toL h c2++post (toL h) (x.es.drop (posK x.es k+1)) (x.cs.drop (posK x.es k+2)))):=by simpa using ha
    obtain ⟨b1,b2,b3,b4,b5⟩:=hmid.mid;have hdh:=delM_here (x:=y) (k:=k) (m:=toL h c2++post (toL h) (x.es.drop (posK x.es k+1)) (x.cs.drop (posK x.es k+2))) (λ z hz=> by have:=b3 z hz;rwa [he] at this) he;rw [hL] at hdh;simp only [List.append_assoc,List.cons_append,List.nil_append] at hdh ⊢;rw [hdh]
end
end Go.Proofs.YtpdlkdoogojboaaGreat
end
namespace Go.Proofs.YtpdlkdoogojboaaGreat
open Go Go.RowKit
noncomputable section
section
variable {β:Bool}
def rootB (h:Nat):Nat:=if h=0 then 0 else 1
def GoodT (o h:Nat) (l:MM) (x:TT):Prop:=Body o h (rootB h) (o - 1) x/\AscM (toL h x)/\toL h x=l
def objA (β:Bool) (o h:Nat) (l:MM) (tb:Nat):Asn:=exA λ q:TT×Nat=> starA [pureA (GoodT o h l q.1),blkA tb (tT β) #[ptrV q.2, .int .i64 o, .int .i64 l.length],treeA β h q.1 q.2]
theorem St.openOT {w0 w:World} {fp0:List Nat} {R:List Asn} {o h:Nat} {l:MM} {tb:Nat} (hs:St w0 fp0 (objA β o h l tb::R) w):∃x rb,GoodT o h l x/\St w0 fp0 (treeA β h x rb::blkA tb (tT β) #[ptrV rb, .int .i64 o, .int .i64 l.length]::R) w:=by
 obtain ⟨⟨x,rb⟩,h1⟩:=hs.unfold (L1:=λ q:TT×Nat=> [pureA (GoodT o h l q.1),blkA tb (tT β) #[ptrV q.2, .int .i64 o, .int .i64 l.length],treeA β h q.1 q.2]) λ f ⟨q,hq⟩=> ⟨q,hq⟩
 obtain ⟨h2,h3⟩:=St.pure.1 h1;exact ⟨x,rb,h2,h3.perm (List.Perm.swap _ _ _)⟩
theorem St.shutOT {w0 w:World} {fp0:List Nat} {R:List Asn} {o h:Nat} {l:MM} {tb rb:Nat} {x:TT} (hg:GoodT o h l x) (hs:St w0 fp0 (treeA β h x rb::blkA tb (tT β) #[ptrV rb, .int .i64 o, .int .i64 l.length]::R) w):St w0 fp0 (objA β o h l tb::R) w:=by
 have h1:St w0 fp0 ([pureA (GoodT o h l x),blkA tb (tT β) #[ptrV rb, .int .i64 o, .int .i64 l.length],treeA β h x rb]++R) w:=St.pure.2 ⟨hg,hs.perm (List.Perm.swap _ _ _)⟩;exact h1.fold λ f hf=> ⟨(x,rb),hf⟩
theorem box_sl {w:World} {t:TypeId} {s x:Value} {f:List Nat} (h:(boxA t s x).p w f):(slA t s [x]).p w f:=by
 obtain ⟨vb,rfl,h1,rfl⟩:=h;refine ⟨⟨rfl, .inr ⟨vb,1,#[x],rfl,Nat.zero_le _,h1,?_,?_,?_,?_⟩⟩,rfl⟩ <;> simp [maxLen]
theorem St.box_sl {w0 w:World} {fp0:List Nat} {L:List Asn} {t:TypeId} {s x:Value} (h:St w0 fp0 (boxA t s x::L) w):St w0 fp0 (slA t s [x]::L) w:=by
 obtain ⟨fp,⟨f,g,h1,h2,h3,rfl⟩,ht⟩:=h;exact ⟨f++g,⟨f,g,YtpdlkdoogojboaaGreat.box_sl h1,h2,h3,rfl⟩,ht⟩
theorem St.overT {w0 w:World} {fp0:List Nat} {R:List Asn} {h:Nat} {x:TT} {rb nr:Nat} {s:Value} (hs:St w0 fp0 (blkA nr (tN β) #[.slice none 0 0, .slice none 0 0,s]::boxA (tP β) s (ptrV rb)::treeA β h x rb::R) w):St w0 fp0 (treeA β (h+1) (.node [] [x]) nr::R) w:=by
 refine St.joinT (cs:=[]) (mid:=[x]) (es:=[]) (ks:=.slice none 0 0) (vs:=.slice none 0 0) (ps:=s) (bs:=[]) (mb:=[rb]) 0 0 rfl rfl ?_;have h1:=(hs.perm (List.Perm.swap _ _ _)).box_sl;have h2:St w0 fp0 (restA β h 0 0 [] []::(slA (tP β) s [ptrV rb]::blkA nr (tN β) #[.slice none 0 0, .slice none 0 0,s]::treeA β h x rb::R)) w:=St.star.2 h1;refine ((h2.nilA (tK β)).nilA (tV β)).perm ?_
 classical refine List.perm_iff_count.2 λ a=> ?_;simp only [List.cons_append,List.nil_append,List.zipWith,List.take_nil,List.drop_nil,List.append_nil,List.map_cons,List.map_nil,keysV,valsV,List.count_cons];omega
theorem putM_lengthT (l:MM) (k:Ky) (v:Va):AscM l->(putM l k v).length=if (getM l k).isSome then l.length else l.length+1:=by
 intro ha
 induction l with
 | nil=> rfl
 | cons x l ih=>
  obtain ⟨h1,h2⟩:=AscM.cons.1 ha;rw [putM,getM];by_cases he:eqK x.1 k=true
  · have:=eqK_iff.1 he
    have hn:¬ ltK x.1 k:=by rw [this];exact ltK_irrefl _
    simp [he,hn]
  · by_cases hlt:ltK x.1 k
    · simp only [hlt,if_true,he,List.length_cons,ih h2]
      split <;> simp_all
    · have hgt:=ltK_of_not hlt (λ e=> he (eqK_iff.2 e))
      have hl:getM l k=none:=by have:=getM_none (l:=([]:MM)) (m:=l) (k:=k) (by intro y hy;cases hy) (λ y hy=> ltK_trans hgt (h1 y hy));simpa using this
      simp [he,hlt,hl]
end
section
abbrev LL:=List (Int×Rw)
def AscI (l:LL):Prop:=l.Pairwise λ a b=> a.1 < b.1
def getL (l:LL) (k:Int):Option Rw:=(l.find? λ e=> e.1==k).map (·.2)
def delL (k:Int) (l:LL):LL:=l.filter λ e=> e.1 !=k
def putL' (k:Int) (r:Rw) (l:LL):LL:=(l.filter λ e=> decide (e.1 < k))++(k,r)::l.filter λ e=> decide (k < e.1)
theorem split_id {α:Type} (f:α->Int):∀(l:List α),l.Pairwise (λ a b=> f a < f b)->∀k:Int,(∃A e B,l=A++e::B/\f e=k/\(∀a∈A,f a < k)/\∀b∈B,k < f b)\/(∃A B,l=A++B/\(∀a∈A,f a < k)/\∀b∈B,k < f b)
 | [],_,k=> .inr ⟨[],[],rfl,by simp,by simp⟩
 | x::l,h,k=> by
  obtain ⟨h1,h2⟩:=List.pairwise_cons.1 h;rcases Int.lt_trichotomy (f x) k with hx | hx | hx
  · rcases split_id f l h2 k with ⟨A,e,B,rfl,he,hA,hB⟩ | ⟨A,B,rfl,hA,hB⟩
    · exact .inl ⟨x::A,e,B,rfl,he,by simpa [hx] using hA,hB⟩
    · exact .inr ⟨x::A,B,rfl,by simpa [hx] using hA,hB⟩
  · exact .inl ⟨[],x,l,rfl,hx,by simp,λ b hb=> by have:=h1 b hb;omega⟩
  · refine .inr ⟨[],x::l,rfl,by simp,λ b hb=> ?_⟩
    rcases List.mem_cons.1 hb with rfl | hb
    · exact hx
    · have:=h1 b hb;omega
section
variable {A B:LL} {k:Int}
theorem lt_filter (hA:∀a∈A,a.1 < k) (hB:∀b∈B,k < b.1):(A++B).filter (λ e=> decide (e.1 < k))=A/\(A++B).filter (λ e=> decide (k < e.1))=B/\(A++B).filter (λ e=> e.1 !=k)=A++B:=by
 refine ⟨?_,?_,?_⟩
 · rw [List.filter_append,List.filter_eq_self.2 (λ a ha=> decide_eq_true (hA a ha)),List.filter_eq_nil_iff.2 (λ b hb=> by have:=hB b hb;simp;omega),List.append_nil]
 · rw [List.filter_append,List.filter_eq_self.2 (λ b hb=> decide_eq_true (hB b hb)),List.filter_eq_nil_iff.2 (λ a ha=> by have:=hA a ha;simp;omega),List.nil_append]
 · refine List.filter_eq_self.2 λ e he=> ?_
   rcases List.mem_append.1 he with h | h
   · have:=hA e h;simp;omega
   · have:=hB e h;simp;omega
theorem putL_split (hA:∀a∈A,a.1 < k) (hB:∀b∈B,k < b.1) (r:Rw):putL' k r (A++B)=A++(k,r)::B:=by
 unfold putL';rw [(lt_filter hA hB).1,(lt_filter hA hB).2.1]
theorem delL_split (hA:∀a∈A,a.1 < k) (hB:∀b∈B,k < b.1):delL k (A++B)=A++B:=(lt_filter hA hB).2.2
theorem delL_split1 (hA:∀a∈A,a.1 < k) (hB:∀b∈B,k < b.1) {e:Int×Rw} (he:e.1=k):delL k (A++e::B)=A++B:=by
 have:=delL_split hA hB;unfold delL at *;rw [List.filter_append] at this ⊢;rw [List.filter_cons,if_neg (by simp [he]),this]
theorem getL_split (hA:∀a∈A,a.1 < k) (hB:∀b∈B,k < b.1):getL (A++B) k=none:=by
 unfold getL;rw [List.find?_eq_none.2 λ e he=> ?_]
 · rfl
 · rcases List.mem_append.1 he with h | h
   · have:=hA e h;simp;omega
   · have:=hB e h;simp;omega
theorem getL_split1 (hA:∀a∈A,a.1 < k) {e:Int×Rw} (he:e.1=k):getL (A++e::B) k=some e.2:=by
 unfold getL;rw [List.find?_append,List.find?_eq_none.2 λ e he=> by have:=hA e he;simp;omega];simp [he]
end
theorem putL_delL (k:Int) (r:Rw) (l:LL):putL' k r (delL k l)=putL' k r l:=by
 unfold putL' delL;rw [List.filter_filter,List.filter_filter];congr 1
 · refine List.filter_congr λ e _=> ?_
   by_cases h:e.1 < k
   · have:e.1≠k:=by omega
     simp [h,this]
   · simp [h]
 · congr 1
   refine List.filter_congr λ e _=> ?_;by_cases h:k < e.1
   · have:e.1≠k:=by omega
     simp [h,this]
   · simp [h]
theorem asc_delL {l:LL} (h:AscI l) (k:Int):AscI (delL k l):=h.sublist List.filter_sublist
theorem asc_putL {l:LL} (h:AscI l) (k:Int) (r:Rw):AscI (putL' k r l):=by
 unfold putL';refine List.pairwise_append.2 ⟨h.sublist List.filter_sublist,List.pairwise_cons.2 ⟨λ b hb=> by simpa using (List.mem_filter.1 hb).2,h.sublist List.filter_sublist⟩,λ a ha b hb=> ?_⟩;have h1:a.1 < k:=by simpa using (List.mem_filter.1 ha).2
 rcases List.mem_cons.1 hb with rfl | hb
 · exact h1
 · have:k < b.1:=by simpa using (List.mem_filter.1 hb).2
   omega
theorem mem_delL {l:LL} {k:Int} {e:Int×Rw}:e∈delL k l↔e∈l/\e.1≠k:=by simp [delL]
theorem mem_putL {l:LL} {k:Int} {r:Rw} {e:Int×Rw}:e∈putL' k r l↔e=(k,r)\/e∈l/\e.1≠k:=by
 simp only [putL',List.mem_append,List.mem_cons,List.mem_filter,decide_eq_true_eq];constructor
 · rintro (⟨h1,h2⟩ | h | ⟨h1,h2⟩)
   · exact .inr ⟨h1,by omega⟩
   · exact .inl h
   · exact .inr ⟨h1,by omega⟩
 · rintro (h | ⟨h1,h2⟩)
   · exact .inr (.inl h)
   · rcases Int.lt_trichotomy e.1 k with h | h | h
     · exact .inl ⟨h1,h⟩
     · exact absurd h h2
     · exact .inr (.inr ⟨h1,h⟩)
theorem asc_uniq {l:LL} (h:AscI l) {x y:Int×Rw} (hx:x∈l) (hy:y∈l) (e:x.1=y.1):x=y:=by
 rcases split_id (λ e:Int×Rw=> e.1) l h x.1 with ⟨A,z,B,rfl,hz,hA,hB⟩ | ⟨A,B,rfl,hA,hB⟩
 · have h1:∀u∈A++z::B,u.1=x.1->u=z:=by
    intro u hu hk;rcases List.mem_append.1 hu with h | h
    · have:=hA u h;omega
    · rcases List.mem_cons.1 h with h | h
      · exact h
      · have:=hB u h;omega
   rw [h1 x hx rfl,h1 y hy e.symm]
 · rcases List.mem_append.1 hx with h | h
   · have:=hA x h;omega
   · have:=hB x h;omega
theorem delL_len (k:Int) (l:LL):(delL k l).length<=l.length:=List.length_filter_le _ _
section
variable {κ ν:Type} [KOrd κ]
theorem delM_mem {l:M κ ν} (h:AscM l) {k:κ} {y:κ×ν}:y∈delM l k↔y∈l/\y.1≠k:=by
 induction l with
 | nil=> simp [delM]
 | cons x l ih=>
  obtain ⟨h1,h2⟩:=AscM.cons.1 h;rw [delM];by_cases he:eqK x.1 k=true
  · rw [if_pos he]
    have he':=eqK_iff.1 he;subst he';rw [List.mem_cons];constructor
    · exact λ hy=> ⟨.inr hy,(ltK_ne (h1 y hy)).symm⟩
    · rintro ⟨rfl | hy,hne⟩
      · exact absurd rfl hne
      · exact hy
  · rw [if_neg he,List.mem_cons,ih h2,List.mem_cons]
    have hne:x.1≠k:=λ e=> he (eqK_iff.2 e);constructor
    · rintro (rfl | ⟨a,b⟩)
      · exact ⟨.inl rfl,hne⟩
      · exact ⟨.inr a,b⟩
    · rintro ⟨rfl | a,b⟩
      · exact .inl rfl
      · exact .inr ⟨a,b⟩
theorem putM_mem {l:M κ ν} (h:AscM l) {k:κ} {v:ν} {y:κ×ν}:y∈putM l k v↔y=(k,v)\/y∈l/\y.1≠k:=by
 induction l with
 | nil=> simp [putM]
 | cons x l ih=>
  obtain ⟨h1,h2⟩:=AscM.cons.1 h;rw [putM];by_cases hlt:ltK x.1 k
  · rw [if_pos hlt,List.mem_cons,ih h2,List.mem_cons]
    have hne:=ltK_ne hlt;constructor
    · rintro (rfl | rfl | ⟨a,b⟩)
      · exact .inr ⟨.inl rfl,hne⟩
      · exact .inl rfl
      · exact .inr ⟨.inr a,b⟩
    · rintro (rfl | ⟨rfl | a,b⟩)
      · exact .inr (.inl rfl)
      · exact .inl rfl
      · exact .inr (.inr ⟨a,b⟩)
  · rw [if_neg hlt]
    by_cases he:eqK x.1 k=true
    · rw [if_pos he]
      have he':=eqK_iff.1 he;subst he';rw [List.mem_cons,List.mem_cons];constructor
      · rintro (rfl | a)
        · exact .inl rfl
        · exact .inr ⟨.inr a,(ltK_ne (h1 y a)).symm⟩
      · rintro (rfl | ⟨rfl | a,b⟩)
        · exact .inl rfl
        · exact absurd rfl b
        · exact .inr a
    · rw [if_neg he,List.mem_cons,List.mem_cons]
      have hgt:=ltK_of_not hlt (λ e=> he (eqK_iff.2 e));constructor
      · rintro (rfl | rfl | a)
        · exact .inl rfl
        · exact .inr ⟨.inl rfl,(ltK_ne hgt).symm⟩
        · exact .inr ⟨.inr a,(ltK_ne (ltK_trans hgt (h1 y a))).symm⟩
      · rintro (rfl | ⟨rfl | a,b⟩)
        · exact .inl rfl
        · exact .inr (.inl rfl)
        · exact .inr (.inr a)
end
theorem delL_length {l:LL} (h:AscI l) {k:Int} {r:Rw} (hm:(k,r)∈l):(delL k l).length+1=l.length:=by
 rcases split_id (λ e:Int×Rw=> e.1) l h k with ⟨A,e,B,rfl,he,hA,hB⟩ | ⟨A,B,rfl,hA,hB⟩
 · rw [delL_split1 hA hB he]
   simp;omega
 · rcases List.mem_append.1 hm with h | h
   · have:=hA _ h;exact absurd this (Int.lt_irrefl _)
   · have:=hB _ h;exact absurd this (Int.lt_irrefl _)
theorem putL_length {l:LL} (h:AscI l) {k:Int} (hn:∀x∈l,x.1≠k) (r:Rw):(putL' k r l).length=l.length+1:=by
 rcases split_id (λ e:Int×Rw=> e.1) l h k with ⟨A,e,B,rfl,he,hA,hB⟩ | ⟨A,B,rfl,hA,hB⟩
 · exact absurd he (hn e (by simp))
 · rw [putL_split hA hB]
   simp;omega
section
variable {κ ν:Type} [KOrd κ]
theorem delM_length {l:M κ ν} (h:AscM l) {k:κ} {v:ν} (hm:(k,v)∈l):(delM l k).length+1=l.length:=by
 induction l with
 | nil=> cases hm
 | cons x l ih=>
  obtain ⟨h1,h2⟩:=AscM.cons.1 h;rw [delM];by_cases he:eqK x.1 k=true
  · rw [if_pos he];rfl
  · rw [if_neg he]
    rcases List.mem_cons.1 hm with e | hm
    · rw [<-e] at he;exact absurd (eqK_self _) he
    · rw [List.length_cons,List.length_cons,ih h2 hm]
theorem putM_length {l:M κ ν} (h:AscM l) {k:κ} (hn:∀x∈l,x.1≠k) (v:ν):(putM l k v).length=l.length+1:=by
 induction l with
 | nil=> rfl
 | cons x l ih=>
  obtain ⟨h1,h2⟩:=AscM.cons.1 h;rw [putM];by_cases hlt:ltK x.1 k
  · rw [if_pos hlt,List.length_cons,List.length_cons,ih h2 λ y hy=> hn y (by simp [hy])]
  · have he:¬ eqK x.1 k=true:=λ e=> hn x (by simp) (eqK_iff.1 e)
    rw [if_neg hlt,if_neg he];rfl
end
structure IxOk (l:LL) (cs:List Int) (km:MM):Prop where
 mem:∀e,e∈km↔∃x∈l,e=(.str (ixKey x.1 x.2 cs), .int x.1)
 len:km.length=l.length
theorem IxOk.nil (cs:List Int):IxOk [] cs []:=⟨λ e=> by simp,rfl⟩
theorem IxOk.del {l:LL} {cs:List Int} {km:MM} (h:IxOk l cs km) (hs:AscI l) (ha:AscM km) (hi:∀x∈l,I64 x.1) {k:Int} {r:Rw} (hm:(k,r)∈l):IxOk (delL k l) cs (delM km (.str (ixKey k r cs))):=by
 refine ⟨λ e=> ?_,?_⟩
 · rw [delM_mem ha,h.mem e]
   constructor
   · rintro ⟨⟨x,hx,rfl⟩,hne⟩
     refine ⟨x,mem_delL.2 ⟨hx,λ e=> hne ?_⟩,rfl⟩;have:=asc_uniq hs hx hm e;subst this;rfl
   · rintro ⟨x,hx,rfl⟩
     obtain ⟨h1,h2⟩:=mem_delL.1 hx;refine ⟨⟨x,h1,rfl⟩,λ e=> h2 ?_⟩;exact ixKey_inj (hi x h1) (hi _ hm) (Ky.str.inj e)
 · have h1:=delL_length hs hm
   have h2:(delM km (.str (ixKey k r cs))).length+1=km.length:=delM_length ha ((h.mem _).2 ⟨(k,r),hm,rfl⟩);have:=h.len;omega
theorem IxOk.put {l:LL} {cs:List Int} {km:MM} (h:IxOk l cs km) (hs:AscI l) (ha:AscM km) (hi:∀x∈l,I64 x.1) {k:Int} (hk:I64 k) (r:Rw) (hn:∀x∈l,x.1≠k):IxOk (putL' k r l) cs (putM km (.str (ixKey k r cs)) (.int k)):=by
 have hnk:∀y∈km,y.1≠.str (ixKey k r cs):=λ y hy e=> by obtain ⟨x,hx,rfl⟩:=(h.mem y).1 hy;exact hn x hx (ixKey_inj (hi x hx) hk (Ky.str.inj e))
 refine ⟨λ e=> ?_,by rw [putM_length ha hnk,putL_length hs hn,h.len]⟩;rw [putM_mem ha,h.mem e];constructor
 · rintro (rfl | ⟨⟨x,hx,rfl⟩,hne⟩)
   · exact ⟨(k,r),mem_putL.2 (.inl rfl),rfl⟩
   · exact ⟨x,mem_putL.2 (.inr ⟨hx,hn x hx⟩),rfl⟩
 · rintro ⟨x,hx,rfl⟩
   rcases mem_putL.1 hx with rfl | ⟨h1,h2⟩
   · exact .inl rfl
   · exact .inr ⟨⟨x,h1,rfl⟩,λ e=> h2 (ixKey_inj (hi x h1) hk (Ky.str.inj e))⟩
end
section
def overA:Array Value->Nat->List Value->Array Value
 | cs,_,[]=> cs
 | cs,o,v::r=> overA (cs.setIfInBounds o v) (o+1) r
theorem heap_setCellsA (g:Nat) (t:TypeId):∀(vs:List Value) (o:Nat) (cs:Array Value) (w:World),w.heap[g]? =some (.cells cs t (0,0))->(w.setCells g o vs).heap[g]? =some (.cells (overA cs o vs) t (0,0))
 | [],_,_,_,h=> h
 | v::r,o,cs,w,h=> by rw [World.setCells];exact heap_setCellsA g t r (o+1) _ _ (heap_setCell_same w g o cs t v h)
theorem overA_size:∀(vs:List Value) (o:Nat) (cs:Array Value),(overA cs o vs).size=cs.size
 | [],_,_=> rfl
 | v::r,o,cs=> by rw [overA,overA_size r];simp
theorem overA_take:∀(vs:List Value) (o:Nat) (cs:Array Value),o+vs.length<=cs.size->(overA cs o vs).toList.take (o+vs.length)=cs.toList.take o++vs
 | [],o,cs,_=> by simp [overA]
 | v::r,o,cs,h=> by simp only [List.length_cons] at h;have h1:=overA_take r (o+1) (cs.setIfInBounds o v) (by simp;omega);rw [overA,List.length_cons,show o+(r.length+1)=o+1+r.length by omega,h1,Array.toList_setIfInBounds,List.take_add_one,List.take_set_of_le (Nat.le_refl _)];rw [List.getElem?_set_self (by simpa using (by omega:o < cs.size))];simp
theorem tr_setCells (g:Nat):∀(vs:List Value) (o:Nat) (w:World),Tr w (w.setCells g o vs) [g] [g]
 | [],_,_=> Tr.refl _ _
 | v::r,o,w=> by
  rw [World.setCells];have h1:Tr w (w.setCell ⟨g,o,none⟩ v) [g] [g]:=⟨rfl,rfl,rfl,by simp,λ k _ hk=> Below.heap_setCell w ⟨g,o,none⟩ v k (λ e=> hk (by simp [e])),λ k hk=> .inl hk⟩
  exact h1.trans (tr_setCells g r (o+1) _)
section
variable {P:Program}
theorem row_append_src (w:World) (t tx ty e:TypeId) (i:TypeInfo) (z:Value) (size bytes:Nat) (ht:P.underlying t=some (.slice e)) (hi:P.info? e=some i) (hz:i.zero=some z)
 (hsize:i.size=size) (hby:i.bytes=bytes) (hzs:z.cells.size=size) (hsz:0 < size)
 {v:Value} {n:Nat} {xs:List Value} {f:List Nat} (hown:(rowA e size v n xs).p w f) {x:Value} {m:Nat} {news:List Value} (hs:Go.Src P size tx x m news w)
 (h63:n+m<=maxLen) (hbytes:(n+m) * bytes<=140737488355328):
 ∃v' w' f',(Builtin.append_ #[t,tx] ty #[v,x]).run P w=.ok v' w'/\(rowA e size v' (n+m) (xs++news)).p w' f'/\Tr w w' f f':=by
 obtain ⟨ho,rfl⟩:=hown;subst hsize;have hxl:xs.length=n * i.size:=ho.1;have hlen:(xs++news).length=(n+m) * i.size:=by rw [List.length_append,hxl,hs.newsLen,Nat.add_mul]
 have h63':n+m<=9223372036854775807:=by unfold maxLen at h63;omega
 have grown:∀(old:Nat),old < n+m->∀fp:List Nat,
  (rowA e i.size (.slice (some ⟨w.heap.size,0,none⟩) (n+m) (grownCap w (n+m) old e)) (n+m) (xs++news)).p (w.drew.alloc (.cells ((xs++news).toArray++Builtin.zeroCells z.cells (grownCap w (n+m) old e - (n+m))) e)) [w.heap.size]/\
  Tr w (w.drew.alloc (.cells ((xs++news).toArray++Builtin.zeroCells z.cells (grownCap w (n+m) old e - (n+m))) e)) fp [w.heap.size]:=by
  intro old _ fp;have hge:=grownCap_ge w (n+m) old e;have hcm:grownCap w (n+m) old e<=maxLen:=grownCap_le_maxLen w (n+m) old e h63;refine ⟨⟨⟨hlen, .inr ⟨w.heap.size,_,_,rfl,Nat.zero_le _,heap_alloc_new w.drew _,hge,hcm,?_,?_⟩⟩,rfl⟩,⟨rfl,rfl,rfl,by simp,λ k hk _=> heap_alloc_old w.drew _ hk,λ k hk=> .inr (by rw [List.mem_singleton.1 hk];exact Nat.le_refl _)⟩⟩
  · simp only [Array.size_append,List.size_toArray,size_zeroCells,hzs,hlen]
    rw [<-Nat.add_mul];congr 1;omega
  · simp only [Array.toList_append]
    rw [<-hlen];exact List.take_left
 rcases ho.2 with ⟨rfl,rfl⟩ | ⟨g,cap,cur,rfl,hbg,hg,hnc,hcm,hcs,htake⟩
 · have hx:xs=[]:=List.eq_nil_of_length_eq_zero (by rw [hxl,Nat.zero_mul])
   subst hx;by_cases hm:m=0
   · subst hm
     have hn:news=[]:=List.eq_nil_of_length_eq_zero (by rw [hs.newsLen,Nat.zero_mul]);subst hn;refine ⟨.slice none 0 0,w,[],?_,row_nil _ _ _,Tr.refl _ _⟩;rcases hs.kind with ⟨e',hk⟩ | hk <;> simp [Builtin.append_,run_underlying ht,run_underlying hk,sizeOf,typeInfo,hi,hs.len,hs.cells]
   · have hr:=run_append_grow_src w t tx ty e i z ht hi hz none 0 0 [] (run_firstCells_none w.drew i.size 0 0 0) x m news hs (by omega) (by omega) (by rw [hby];exact growslice_fits (by omega) hbytes)
     have hgr:=grown 0 (by omega) [];exact ⟨_,_,_,hr,hgr.1,hgr.2⟩
 · by_cases hroom:n+m<=cap
   · have hfit:n * i.size+news.length<=cur.size:=by rw [hs.newsLen,hcs,<-Nat.add_mul];exact Nat.mul_le_mul_right _ hroom
     have hr:=run_append_room_src w t tx ty e i ht hi g 0 n cap x m news hs hroom (λ j hj=> by rw [Nat.zero_add,cell_of_row w g _ cur e (0,0) hg,Array.getElem?_eq_getElem (by omega)];rfl) (λ j hj=> frozen_of_row w g _ cur e hg);rw [Nat.zero_add] at hr;refine ⟨_,_,[g],hr,⟨⟨hlen, .inr ⟨g,cap,_,rfl,hbg,heap_setCellsA g e news _ cur w hg,hroom,hcm,?_,?_⟩⟩,rfl⟩,tr_setCells g news _ w⟩
     · rw [overA_size];exact hcs
     · have h1:=overA_take news (n * i.size) cur hfit
       rw [Nat.add_mul,<-hs.newsLen,h1,htake]
   · have holds:∀j u,xs[j]? =some u->w.cell? ((⟨g,0,none⟩:Addr).add j)=some u:=ho.cells (g:=g) rfl
     have hr:=run_append_grow_src w t tx ty e i z ht hi hz (some ⟨g,0,none⟩) n cap xs (run_firstCells_some w.drew i.size n ⟨g,0,none⟩ n cap xs hxl (by simpa using holds)) x m news hs (by omega) (by omega) (by rw [hby];exact growslice_fits (by omega) hbytes);have hgr:=grown cap (by omega) [g];exact ⟨_,_,_,hr,hgr.1,hgr.2⟩
def AppSrc (P:Program) (t tx e:TypeId) (size:Nat):Prop:=∀(ty:TypeId) (w:World) (v:Value) (n:Nat) (xs:List Value) (f:List Nat) (x:Value) (m:Nat) (news:List Value),(rowA e size v n xs).p w f->Go.Src P size tx x m news w->n+m < 1099511627776->
 ∃v' w' f',(Builtin.append_ #[t,tx] ty #[v,x]).run P w=.ok v' w'/\(rowA e size v' (n+m) (xs++news)).p w' f'/\Tr w w' f f'
theorem appSrc {P:Program} {t tx e:TypeId} {size bytes:Nat} {z:Value} (hi:(P.info? e).map (λ i=> (i.zero,i.size,i.bytes))=some (some z,size,bytes)) (ht:P.underlying t=some (.slice e)) (hz:z.cells.size=size) (h0:0 < size) (hb:bytes<=128):AppSrc P t tx e size:=by
 intro ty w v n xs f x m news h1 h2 h3;cases hi':P.info? e with
 | none=> rw [hi'] at hi;cases hi
 | some i0=>
  rw [hi'] at hi;simp only [Option.map_some,Option.some.injEq,Prod.mk.injEq] at hi;obtain ⟨iz0,iz1,iz2⟩:=hi;exact row_append_src w t tx ty e i0 z size bytes ht hi' iz0 iz1 iz2 hz h0 h1 h2 (by unfold maxLen;omega) (by have:(n+m) * bytes<=1099511627776 * 128:=Nat.mul_le_mul (by omega) hb;omega)
theorem SlX.src {X:List Nat} {w:World} {size n:Nat} {xs:List Value} {v:Value} {tx e':TypeId} (h:SlX X w size n xs v) (hk:P.underlying tx=some (.slice e')) (h0:0 < size) (h1:∀u∈xs,u.oneCell'=true):Go.Src P size tx v n xs w:=by
 obtain ⟨h2,h3,a,c,rfl,h4⟩:=h;cases a with
 | some ad=>
  refine Go.Src.ofSlice w hk ad n c xs h3 (λ j u hj=> ?_) h1;obtain ⟨hj1,hj2⟩:=List.getElem?_eq_some_iff.1 hj;obtain ⟨b,o,e1,_,e3⟩:=h4 j hj1;obtain rfl:=Option.some.inj e1;rw [add_plain,e3,hj2]
 | none=>
  have hn:n=0:=by
   apply Classical.byContradiction;intro hne;have hp:0 < xs.length:=by rw [h3];exact Nat.mul_pos (by omega) h0
   obtain ⟨b,o,e1,_⟩:=h4 0 hp;cases e1
  subst hn;have hx:xs=[]:=List.eq_nil_of_length_eq_zero (by rw [h3,Nat.zero_mul]);subst hx;exact Go.Src.ofNil w hk c
end
theorem St.appSrc {Pr:Program} {w0 w:World} {fp0:List Nat} {L:List Asn} {t tx e:TypeId} {size:Nat} (hC:AppSrc Pr t tx e size) (ty:TypeId) {v x:Value} {n m:Nat} {xs news:List Value} (hS:St w0 fp0 (rowA e size v n xs::L) w) (hs:Go.Src Pr size tx x m news w) (hl:n+m < 1099511627776):
 ∃v' w',(Builtin.append_ #[t,tx] ty #[v,x]).run Pr w=.ok v' w'/\St w0 fp0 (rowA e size v' (n+m) (xs++news)::L) w':=by
 obtain ⟨f,h1,h2⟩:=hS.get 0 rfl;obtain ⟨v',w',f',h3,h4,h5⟩:=hC ty w v n xs f x m news h1 hs hl;exact ⟨v',w',h3,h2 _ _ _ h4 h5⟩
end
theorem nanI_calls (a:Int) (w:World):Calls Tryz.prog 179 #[.int .i64 a] w λ e w'=> e=.returned (.bool false)/\w=w':=by
 go_enter Tryz.func179,Tryz.ntmps179;go_wp2;go_ret;exact ⟨by simp,rfl⟩
theorem cmp0I_calls (a b:Int) (w:World):Calls Tryz.prog 145 #[.int .i64 a, .int .i64 b] w λ e w'=> e=.returned (.int .i64 (KOrd.cmp a b))/\w=w':=by
 have Hres:Hid ((KOrd.cmp a b:Int)=cmpS a b):=rfl;go_enter Tryz.func145,Tryz.ntmps145;go_wp2_with fail;(with_reducible refine (nanI_calls a w).mono ?_);rintro e w1 ⟨rfl,rfl⟩;go_wp2_with fail;(with_reducible refine (nanI_calls b w).mono ?_);rintro e w1 ⟨rfl,rfl⟩;by_cases h1:a < b
 · have b1:decide (a < b)=true:=by simp [h1]
   have Hr:Hid (KOrd.cmp a b= -1):=by show _=_;rw [Hres.out];simp [cmpS,h1]
   clear h1;go_wp2;go_ret;exact ⟨by rw [Hr.out];rfl,rfl⟩
 · have b1:decide (a < b)=false:=by simp;omega
   by_cases h2:b < a
   · have b2:decide (b < a)=true:=by simp [h2]
     have Hr:Hid (KOrd.cmp a b=1):=by show _=_;rw [Hres.out];simp [cmpS,h1,h2]
     clear h1 h2;go_wp2;go_ret;exact ⟨by rw [Hr.out];rfl,rfl⟩
   · have b2:decide (b < a)=false:=by simp;omega
     have Hr:Hid (KOrd.cmp a b=0):=by show _=_;rw [Hres.out];simp [cmpS,h1,h2]
     clear h1 h2;go_wp2;go_ret;exact ⟨by rw [Hr.out];rfl,rfl⟩
theorem nanS_calls (a:ByteArray) (w:World):Calls Tryz.prog 202 #[.string a] w λ e w'=> e=.returned (.bool false)/\w=w':=by
 go_enter Tryz.func202,Tryz.ntmps202;go_wp2;go_ret;exact ⟨by simp,rfl⟩
theorem bytesLess_cmp:∀(x y:List UInt8),Op.bytesLess x y=decide (Lib.compareBytes x y < 0)
 | [],[]=> by simp [Op.bytesLess,Lib.compareBytes]
 | [],_::_=> by simp [Op.bytesLess,Lib.compareBytes]
 | _::_,[]=> by simp [Op.bytesLess,Lib.compareBytes]
 | a::x,b::y=> by
  rw [Op.bytesLess,Lib.compareBytes,bytesLess_cmp x y];by_cases h:a < b
  · simp [h]
  · by_cases h2:b < a
    · have hne:¬ a=b:=λ e=> by subst e;exact h h2
      simp [h,h2,hne]
    · have he:a=b:=by
       rw [UInt8.lt_iff_toNat_lt] at h h2;exact UInt8.toNat_inj.1 (by omega)
      subst he;simp
theorem cmp0S_calls (a b:ByteArray) (w:World):Calls Tryz.prog 184 #[.string a, .string b] w λ e w'=> e=.returned (.int .i64 (KOrd.cmp a b))/\w=w':=by
 have Hres:Hid ((KOrd.cmp a b:Int)=Lib.compareBytes (bytes a) (bytes b)):=rfl;have hl:Op.bytesLess a.toList b.toList=decide (Lib.compareBytes (bytes a) (bytes b) < 0):=by rw [bytesLess_cmp,ByteArray.toList_eq,ByteArray.toList_eq];rfl
 have he:(a.toList==b.toList)=decide (Lib.compareBytes (bytes a) (bytes b)=0):=by rw [Bool.eq_iff_iff];simp only [ByteArray.toList_eq,beq_iff_eq,decide_eq_true_iff];exact cmpB_zero.symm
 have hr:=cmpB_range (bytes a) (bytes b);generalize Lib.compareBytes (bytes a) (bytes b)=r at *;rcases hr with rfl | rfl | rfl
 all_goals
  simp only [Int.reduceNeg,Int.reduceLT,decide_true,decide_false,Int.reduceEq,Int.lt_irrefl] at hl he;go_enter Tryz.func184,Tryz.ntmps184;go_wp2_with fail;(with_reducible refine (nanS_calls a w).mono ?_);rintro e w1 ⟨rfl,rfl⟩;go_wp2_with fail;(with_reducible refine (nanS_calls b w).mono ?_);rintro e w1 ⟨rfl,rfl⟩;go_wp2;go_ret;exact ⟨by rw [Hres.out];rfl,rfl⟩
def fCmp (β:Bool):Nat:=match β with | false=> 145 | true=> 184
theorem cmp_calls (β:Bool) (a b:Ky) (ha:a.ok β) (hb:b.ok β) (w:World):Calls Tryz.prog (fCmp β) #[encK a,encK b] w λ e w'=> e=.returned (.int .i64 (KOrd.cmp a b))/\w'=w:=by
 cases β <;> cases a <;> cases b <;> first
  | exact ha.elim
  | exact hb.elim
  | exact (cmp0I_calls _ _ w).mono λ _ _ ⟨h1,h2⟩=> ⟨h1,h2.symm⟩
  | exact (cmp0S_calls _ _ w).mono λ _ _ ⟨h1,h2⟩=> ⟨h1,h2.symm⟩
section
variable {β:Bool}
def KeysA (β:Bool) (w:World) (es:MM) (v:Value):Prop:=∃f,(slA (tK β) v (keysV es)).p w f
theorem KeysA.shape {w:World} {es:MM} {v:Value} (h:KeysA β w es v):∃a c,v=.slice a es.length c/\es.length<=maxLen/\∀i (hi:i < es.length),∃g,a=some ⟨g,0,none⟩/\g < w.heap.size/\w.cell? ⟨g,i,none⟩=some (encK es[i].1):=by
 obtain ⟨f,h⟩:=h;obtain ⟨a,c,hv,h1,h2,h3⟩:=sl_get h;rw [keysV_length] at hv h1 h3;refine ⟨a,c,hv,by omega,λ i hi=> ?_⟩;rcases h3 with ⟨_,h4,_⟩ | ⟨g,h4,h5,h6,_⟩
 · have:=congrArg List.length h4;rw [keysV_length] at this;simp at this;omega
 · refine ⟨g,h4,h5,?_⟩
   rw [h6 i hi];simp [keysV,hi]
def fBsf (β:Bool):Nat:=match β with | false=> 167 | true=> 183
theorem bsf_calls (es:MM) (k:Ky) (hok:∀e∈es,e.1.ok β) (hk:k.ok β) (s:Value) (w:World) (hs:KeysA β w es s) (ha:AscM es) (hlen:es.length < 1099511627776):
 Calls Tryz.prog (fBsf β) #[s,encK k, .func (.func (fCmp β)) #[] #[]] w λ e w'=> e=.returned (.tuple #[.int .i64 (posK es k), .bool (hasK es k)])/\Below w.heap.size w w':=by
 obtain ⟨a,c,rfl,hm,Hc0⟩:=hs.shape;obtain ⟨n,hn⟩:∃n,es.length=n:=⟨_,rfl⟩
 have Hs:=Lib.hid hs;have Hn:=Lib.hid hn;have Hw:=Lib.hid ha;have Hc:Hid (∀i (hi:i < es.length),∃g,a=some ⟨g,0,none⟩/\∀w',Below w.heap.size w w'->g < w'.heap.size/\w'.cell? ⟨g,i,none⟩=some (encK es[i].1)):=by intro i hi;obtain ⟨g,h1,h2,h3⟩:=Hc0 i hi;exact ⟨g,h1,λ w' hb=> ⟨Nat.lt_of_lt_of_le h2 hb.size,(hb.cell (p:=⟨g,i,none⟩) h2).trans h3⟩⟩
 have hn40:n < 1099511627776:=by omega
 have HA:Hid (∀m (h:m < es.length) (w':World),Calls Tryz.prog (fCmp β) #[encK es[m].1,encK k] w' λ e w2=> e=.returned (.int .i64 (KOrd.cmp es[m].1 k))/\w2=w'):=λ m h w'=> cmp_calls β _ _ (hok _ (List.getElem_mem h)) hk w';obtain ⟨kk,hkk⟩:∃kk,encK k=kk:=⟨_,rfl⟩
 have Hkk:=Lib.hid hkk;rw [hn,hkk];rw [hkk] at HA;clear hs hm ha Hc0 hlen hn hkk hok hk Hkk;clear Hs;cases β <;> dsimp only [fBsf,fCmp] at HA ⊢
 case' false=> go_enter Tryz.func167,Tryz.ntmps167
 case' true=> go_enter Tryz.func183,Tryz.ntmps183
 all_goals
  go_wp2;go_loopw [9,10] (λ i j wr=> ∃(lo hi:Nat),lo<=hi/\hi<=n/\i=.int .i64 lo/\j=.int .i64 hi/\Hid (Below w.heap.size w wr)/\Hid (∀j (h:j < es.length),j < lo->ltK es[j].1 k)/\Hid (∀j (h:j < es.length),hi<=j->¬ ltK es[j].1 k)) (λ i j _=> (intOf j).toNat - (intOf i).toNat)
  case atStart=> exact ⟨0,n,Nat.zero_le _,Nat.le_refl _,rfl,rfl,Below.refl _ _,λ j h h0=> by omega,λ j h h0=> by have:=Hn.out;omega⟩
  case round=>
   obtain ⟨lo,hi,hlh,hhn,rfl,rfl,Hb,H1,H2⟩:=hrel;by_cases hlt:lo < hi
   · obtain ⟨m,hm⟩:∃m:Nat,m=(lo+hi) / 2:=⟨_,rfl⟩
     have hm1:lo<=m:=by omega
     have hm2:m < hi:=by omega
     have hk1:m < es.length:=by have:=Hn.out;omega
     have hmn:m < n:=by omega
     obtain ⟨g,rfl,hcell⟩:=Hc.out m hk1;obtain ⟨hbl,hc⟩:=hcell _ Hb.out;have HC:=Lib.hid (HA.out m hk1 wr);have Hup:Hid (ltK es[m].1 k->∀j (h:j < es.length),j < m+1->ltK es[j].1 k):=by
      intro h j hj hjm;by_cases e:j=m
      · subst e;exact h
      · exact ltK_trans ((List.pairwise_iff_getElem.1 Hw.out) j m hj hk1 (by omega)) h
     have Hdn:Hid (¬ ltK es[m].1 k->∀j (h:j < es.length),m<=j->¬ ltK es[j].1 k):=by
      intro h j hj hjm h2;by_cases e:j=m
      · subst e;exact h h2
      · exact h (ltK_trans ((List.pairwise_iff_getElem.1 Hw.out) m j hk1 hj (by omega)) h2)
     generalize es[m].1=X at *;have Hlt:Hid (ltK X k↔KOrd.cmp X k < 0):=Iff.rfl;generalize (KOrd.cmp X k:Int)=r at *;generalize encK X=ex at *;have i1:(0:Int)<=m:=by omega
     have i2:(m:Int) < n:=by omega
     clear hk1 hcell;have Hm:=Lib.hid hm;clear hm;go_upto_region 4 with (fail)
     go_cut [11] (λ z wx=> z=.int .i64 m/\wx=wr)
     case first=>
      go_wp2_with fail;go_meet;exact ⟨by have:=Hm.out;congr 1;omega,rfl⟩
     obtain ⟨rfl,rfl⟩:=hcut;go_upto_region 5 with (fail)
     go_cut [31] (λ z wx=> ∃q:Bool,z=.bool q/\Hid (q=decide (r < 0))/\Hid (Below w.heap.size w wx))
     case first=>
      go_wp2_with ((first | go_at_call 145 | go_at_call 184);(with_reducible refine HC.out.mono ?_);rintro e w1 ⟨rfl,rfl⟩)
      all_goals
       have Hb1:=Hb;go_meet;exact ⟨_,rfl,rfl,Hb1⟩
     obtain ⟨q,rfl,Hq,Hb1⟩:=hcut;clear hc hbl HC Hb;cases q
     · have Hd1:=Lib.hid (Hdn.out (by have:=Hq.out;rw [Hlt.out];simpa using this))
       clear Hup Hdn Hq;go_wp2;go_roundw
       case rel=> exact ⟨lo,m,hm1,by omega,rfl,rfl,Hb1,H1,Hd1⟩
       case measure=> simp [intOf];omega
     · have Hd1:=Lib.hid (Hup.out (by have:=Hq.out;rw [Hlt.out];simpa using this))
       clear Hup Hdn Hq;go_wp2;go_roundw
       case rel=> exact ⟨m+1,hi,by omega,hhn,by go_num,rfl,Hb1,Hd1,H2⟩
       case measure=> simp [intOf];omega
   · obtain rfl:lo=hi:=by omega
     have Hp:Hid (posK es k=lo):=posK_eq (by have:=Hn.out;omega) H1.out (λ h=> H2.out lo h (Nat.le_refl _));have Hh:=Lib.hid (hasK_at (es:=es) (k:=k) Hp.out);by_cases hlt':lo < n
     · have hk1:lo < es.length:=by have:=Hn.out;omega
       obtain ⟨g,rfl,hcell⟩:=Hc.out lo hk1;obtain ⟨hbl,hc⟩:=hcell _ Hb.out;have HC:=Lib.hid (HA.out lo hk1 wr);have Hres:Hid (hasK es k=(KOrd.cmp es[lo].1 k==0)):=by show _=_;rw [Hh.out,dif_pos hk1];rfl
       clear Hh H1 H2 hcell;generalize es[lo].1=X at *;generalize (KOrd.cmp X k:Int)=r at *;generalize encK X=ex at *;have i1:(0:Int)<=lo:=by omega
       have i2:(lo:Int) < n:=by omega
       clear hk1;go_wp2_with ((first | go_at_call 145 | go_at_call 184);(with_reducible refine HC.out.mono ?_);rintro e w1 ⟨rfl,rfl⟩)
       all_goals
        have Hb1:=Hb;exact bodyPost_ret (v:=.tuple #[.int .i64 lo, .bool (r==0)]) (by simp [results,Tryz.results167,Tryz.results183,go_sem, *]) rfl ⟨by rw [Hp.out,Hres.out],Hb1.out⟩
     · have Hres:Hid (hasK es k=false):=by show _=_;rw [Hh.out,dif_neg (by have:=Hn.out;omega)]
       clear Hh H1 H2;go_wp2;exact bodyPost_ret (v:=.tuple #[.int .i64 lo, .bool false]) (by simp [results,Tryz.results167,Tryz.results183,go_sem, *]) rfl ⟨by rw [Hp.out,Hres.out],Hb.out⟩
end
section
variable {β:Bool}
theorem find_calls (b:Nat) (ks vs ps:Value) (es:MM) (k:Ky) (hok:∀e∈es,e.1.ok β) (hkk:k.ok β) (w:World) {f:List Nat} (hb:(blkA b (tN β) #[ks,vs,ps]).p w f) (hk:KeysA β w es ks) (ha:AscM es) (hlen:es.length < 1099511627776):
 Calls Tryz.prog (fFind β) #[ptrV b,encK k] w λ e w'=> e=.returned (.tuple #[.int .i64 (posK es k), .bool (hasK es k)])/\Below w.heap.size w w':=by
 obtain ⟨c,_,hlt⟩:=blk_get hb;have c0:=c 0;simp only [List.getElem?_toArray,List.getElem?_cons_zero] at c0;have HC:=Lib.hid (bsf_calls es k hok hkk ks w hk ha hlen);obtain ⟨a,cp,rfl,_,_⟩:=hk.shape;obtain ⟨kk,hk2⟩:∃kk,encK k=kk:=⟨_,rfl⟩
 rw [hk2] at HC ⊢;clear hk2 hb hk c hlen hok hkk;unfold ptrV;cases β <;> dsimp only [fFind,fBsf,fCmp] at HC ⊢
 case' false=> go_enter Tryz.func130,Tryz.ntmps130
 case' true=> go_enter Tryz.func152,Tryz.ntmps152
 all_goals
  go_wp2_with fail;(with_reducible refine HC.out.mono ?_);rintro e w1 ⟨rfl,hb1⟩;have Hb1:=Lib.hid hb1;clear hb1 c0 hlt;go_wp2;exact bodyPost_ret (v:=.tuple #[.int .i64 (posK es k), .bool (hasK es k)]) (by simp [results,Tryz.results130,Tryz.results152,go_sem]) rfl ⟨rfl,Hb1.out⟩
theorem leaf_calls (b:Nat) (ks vs:Value) (a:Option Addr) (n c:Nat) (w:World) {f:List Nat} (hb:(blkA b (tN β) #[ks,vs, .slice a n c]).p w f):
 Calls Tryz.prog (fLeaf β) #[ptrV b] w λ e w'=> e=.returned (.bool (n==0))/\w=w':=by
 obtain ⟨cl,_,hlt⟩:=blk_get hb;have c2:=cl 2;simp only [List.getElem?_toArray,List.getElem?_cons_zero,List.getElem?_cons_succ] at c2;clear hb cl;unfold ptrV;cases β <;> dsimp only [fLeaf]
 case' false=> go_enter Tryz.func121,Tryz.ntmps121
 case' true=> go_enter Tryz.func123,Tryz.ntmps123
 all_goals
  go_wp2;go_ret;have e:((n:Int)==0)=(n==0):=by rw [Bool.eq_iff_iff];simp
  exact ⟨by rw [<-e];rfl,rfl⟩
theorem least_calls (b:Nat) (r:Value) (o:Nat) (n:Value) (w:World) {f:List Nat} (ho:3<=o) (ho':o<=1024) (hb:(blkA b (tT β) #[r, .int .i64 o,n]).p w f):
 Calls Tryz.prog (fLeast β) #[.pointer (some ⟨b,0,none⟩)] w λ e w'=> e=.returned (.int .i64 (least o))/\w=w':=by
 obtain ⟨cl,_,hlt⟩:=blk_get hb;have c1:=cl 1;simp only [List.getElem?_toArray,List.getElem?_cons_zero,List.getElem?_cons_succ] at c1;have Hl:Hid (((o:Int)+1) / 2 - 1=(least o:Nat)):=by show _=_;unfold least;omega
 have i1:(0:Int)<=(o:Int)+1:=by omega
 have i2:(0:Int)<=((o:Int)+1) / 2:=by omega
 have i3:((o:Int)+1) / 2<=1024:=by omega
 clear hb cl;cases β <;> dsimp only [fLeast]
 case' false=> go_enter Tryz.func150,Tryz.ntmps150
 case' true=> go_enter Tryz.func155,Tryz.ntmps155
 all_goals
  go_wp2;go_ret;exact ⟨by rw [<-Hl.out];rfl,rfl⟩
end
section
variable {β:Bool}
def clampO (n:Int):Nat:=(min (max n 3) 1024).toNat
theorem clampO_lo (n:Int):3<=clampO n:=by unfold clampO;omega
theorem St.new2T {w0 w:World} {fp0:List Nat} {R:List Asn} (hS:St w0 fp0 R w) (o:Nat) (_ho:3<=o) (c:Int) (hc:(o:Int)=c):
 St w0 fp0 (objA β o 0 [] (w.heap.size+1)::R) ((w.alloc (.cells #[.slice none 0 0, .slice none 0 0, .slice none 0 0] (tN β))).alloc (.cells #[.pointer (some ⟨w.heap.size,0,none⟩), .int .i64 c, .int .i64 0] (tT β))):=by
 subst hc;have h1:=St.atN (St.emp.2 hS) 0 rfl (tN β) #[.slice none 0 0, .slice none 0 0, .slice none 0 0];obtain ⟨b,e,h2⟩:=St.at_open h1;injection e with e;injection e with e;injection e with e;subst e;have h3:=St.atN (St.emp.2 h2) 0 rfl (tT β) #[.pointer (some ⟨w.heap.size,0,none⟩), .int .i64 o, .int .i64 0];obtain ⟨b,e,h4⟩:=St.at_open h3;injection e with e;injection e with e;injection e with e;have hsz:(w.alloc (.cells #[.slice none 0 0, .slice none 0 0, .slice none 0 0] (tN β) (0,0))).heap.size=w.heap.size+1:=by simp
 rw [hsz] at e;subst e;have h5:St w0 fp0 (blkA w.heap.size (tN β) #[.slice none 0 0, .slice none 0 0, .slice none 0 0]::slA (tK β) (.slice none 0 0) (YtpdlkdoogojboaaGreat.keysV [])::slA (tV β) (.slice none 0 0) (valsV [])::slA (tP β) (.slice none 0 0) (([]:List Nat).map ptrV)::starA (List.zipWith (kidA β 0) [] [])::blkA (w.heap.size+1) (tT β) #[.pointer (some ⟨w.heap.size,0,none⟩), .int .i64 o, .int .i64 0]::R)
  ((w.alloc (.cells #[.slice none 0 0, .slice none 0 0, .slice none 0 0] (tN β))).alloc (.cells #[.pointer (some ⟨w.heap.size,0,none⟩), .int .i64 o, .int .i64 0] (tT β))):=by
  have h7:St w0 fp0 (starA []::(blkA (w.heap.size+1) (tT β) #[.pointer (some ⟨w.heap.size,0,none⟩), .int .i64 o, .int .i64 0]::blkA w.heap.size (tN β) #[.slice none 0 0, .slice none 0 0, .slice none 0 0]::R)) _:=St.star.2 h4;have h6:=((h7.nilA (tP β)).nilA (tV β)).nilA (tK β);refine h6.perm ?_
  classical refine List.perm_iff_count.2 λ a=> ?_;simp only [List.count_cons,YtpdlkdoogojboaaGreat.keysV,valsV,List.map_nil,List.zipWith];omega
 refine St.shutOT (x:=.node [] []) (rb:=w.heap.size) ⟨⟨Nat.zero_le _,Nat.zero_le _,rfl⟩,List.Pairwise.nil,rfl⟩ ?_;exact St.shutNT (bs:=[]) rfl h5
theorem NewT_calls (n:Int) (w0 w:World) (fp0:List Nat) (R:List Asn) (hS:St w0 fp0 R w):
 Calls Tryz.prog (fNew β) #[.int .i64 n] w λ e w'=> ∃tb,e=.returned (ptrV tb)/\St w0 fp0 (objA β (clampO n) 0 [] tb::R) w':=by
 have HS:=Lib.hid (λ c hc=> hS.new2T (β:=β) (clampO n) (clampO_lo n) c hc);have hc:((clampO n:Nat):Int)=min (max n 3) 1024:=by unfold clampO;omega
 have Hc:=Lib.hid hc;clear hS hc;cases β <;> dsimp only [fNew,tN,tT] at HS ⊢
 case' false=> go_enter Tryz.func112,Tryz.ntmps112
 case' true=> go_enter Tryz.func141,Tryz.ntmps141
 all_goals
  go_wp2
 all_goals
  refine bodyPost_ret (results_tmp rfl _ _ _) rfl ?_;exact ⟨_,rfl,HS.out _ (by rw [Hc.out];omega)⟩
end
end
end Go.Proofs.YtpdlkdoogojboaaGreat
