/- Part 11 of the proof: So, Al, Oa, Ob, Oe, Of, Og, JtP, JtR, Jf, Jg, Jh -/
import Derived.Test.YtpdlkdoogojboaaGreatY10
import Derived.Shelf.Abstract
import Derived.Shelf.RegionOpen
import Derived.Test.YtpdlkdoogojboaaGreatY08
import Derived.Laws.MakeOwn
import Derived.Test.YtpdlkdoogojboaaGreatY07
import Derived.Test.YtpdlkdoogojboaaGreatY06
set_option maxHeartbeats 16000000
set_option maxRecDepth 100000
namespace Go.Proofs.YtpdlkdoogojboaaGreat
open Go Go.RowKit
noncomputable section
section
open Go.Shelf
attribute [local go_sem] Oper.semAt_some
theorem St.exo {w0 w:World} {fp0:List Nat} {α:Type} {F:α->List Asn} {L:List Asn}:St w0 fp0 (exA (λ a=> starA (F a))::L) w↔∃a,St w0 fp0 (F a++L) w:=by
 constructor
 · intro h
   obtain ⟨a,ha⟩:=h.unfold (L1:=F) λ f ⟨a,ha⟩=> ⟨a,ha⟩
   exact ⟨a,ha⟩
 · rintro ⟨a,ha⟩
   exact ha.fold λ f hf=> ⟨a,hf⟩
def vaA:Va->Option Addr×Nat×Nat
 | .sl a n c=> (a,n,c)
 | .int _=> (none,0,0)
def toRi (e:Re):Ri:=⟨e.id,(vaA e.va).1,(vaA e.va).2.1,(vaA e.va).2.2,e.r⟩
theorem toRi_v {e:Re} (h:∃a n c,e.va=.sl a n c):(toRi e).v=encV e.va:=by
 obtain ⟨a,n,c,h⟩:=h;unfold toRi Ri.v;rw [h];rfl
def somL (p:Re->Bool) (es:List Re):List Ri:=(es.filter p).map toRi
theorem somL_len (p:Re->Bool) (es:List Re):(somL p es).length<=es.length:=by
 rw [somL,List.length_map];exact List.length_filter_le _ _
theorem somL_snoc (p:Re->Bool) (A:List Re) (e:Re):somL p (A++[e])=somL p A++if p e then [toRi e] else []:=by
 unfold somL;rw [List.filter_append,List.map_append];cases h:p e <;> simp [h]
def outA (b:Nat) (l:List Ri):Asn:=exA λ v=> starA [blkA b 169 #[v],rowA 212 2 v l.length (riV l)]
theorem St.out {w0 w:World} {fp0:List Nat} {L:List Asn} {b:Nat} {l:List Ri}:St w0 fp0 (outA b l::L) w↔∃v,St w0 fp0 (blkA b 169 #[v]::rowA 212 2 v l.length (riV l)::L) w:=
 St.exo (F:=λ v=> [blkA b 169 #[v],rowA 212 2 v l.length (riV l)])
theorem appIT:AppSrc Tryz.prog 169 169 212 2:=appSrc (z:=.agg #[.int .i64 0, .slice none 0 0]) (bytes:=32) (by kernel_rfl) (by kernel_rfl) rfl (by decide) (by decide)
theorem riV_one (y:Ri):riV [y]=[.int .i64 y.id,y.v]:=rfl
theorem St.appIt {w0 W:World} {fp0:List Nat} {L:List Asn} {bo:Nat} {v0:Value} {l:List Ri} (ty:TypeId) (y:Ri) (hlen:l.length+1 < 1099511627776) (hS:St w0 fp0 (blkA bo 169 #[v0]::rowA 212 2 v0 l.length (riV l)::L) W):
 ∃v' w',(Builtin.append_ #[169,169] ty #[v0, .slice (some ⟨W.heap.size,0,none⟩) 1 1]).run Tryz.prog (W.alloc (.cells #[.int .i64 y.id,y.v] 212))=.ok v' w'/\(∃a c,v'=.slice a (l.length+1) c)/\
  w'.cell? ⟨bo,0,none⟩=some v0/\w'.frozen? ⟨bo,0,none⟩=false/\bo < w'.heap.size/\St w0 fp0 (blkA bo 169 #[v']::rowA 212 2 v' (l++[y]).length (riV (l++[y]))::L) (w'.setCell ⟨bo,0,none⟩ v'):=by
 have h1:=hS.newblk 212 #[.int .i64 y.id,y.v];have h1:St w0 fp0 (rowA 212 2 v0 l.length (riV l)::blkA bo 169 #[v0]::L) (W.alloc (.cells #[.int .i64 y.id,y.v] 212)):=h1.drop.perm (List.Perm.swap _ _ _);obtain ⟨v',w',hr,h2⟩:=St.appSrc appIT ty h1 (src_litk (tx:=169) (e':=212) (by kernel_rfl) _ 2 W.heap.size 1 1 212 (0,0) #[.int .i64 y.id,y.v] (heap_alloc_new W _) rfl (by intro u hu;simp only [List.mem_cons,List.not_mem_nil,or_false] at hu;rcases hu with rfl | rfl <;> rfl)) hlen;have h3:St w0 fp0 (blkA bo 169 #[v0]::rowA 212 2 v' (l.length+1) (riV l++[.int .i64 y.id,y.v])::L) w':=h2.perm (List.Perm.swap _ _ _);obtain ⟨_,ho⟩:=h2.has 0 rfl;obtain ⟨a,c,e,_⟩:=row_shape ho;obtain ⟨g,hg,hset2⟩:=h3.get 0 rfl;have hc:=(blk_get hg).1 0;have hf:=(blk_get hg).2.1 0;have hl:=(blk_get hg).2.2;obtain ⟨hb2,ht2⟩:=blk_set hg 0 v';have h4:=hset2 _ _ _ hb2 ht2;refine ⟨v',w',hr,⟨a,c,e⟩,hc,hf,hl,?_⟩;rw [riV_append,riV_one,List.length_append,List.length_singleton];exact h4
def IsC (f:Nat) (caps:Array Value) (p:Re->Bool) (S:Nat) (s:Sto) (LX:List Asn):Prop:=∀(w0:World) (fp0:List Nat) (R:List Asn) (w:World) (e:Re),e∈s.es->St w0 fp0 (stoL S s++(LX++R)) w->
 Calls Tryz.prog f (#[encV e.va]++caps) w λ ev w'=> ev=.returned (.bool (p e))/\St w0 fp0 (stoL S s++(LX++R)) w'
theorem St.slOf {w0 w:World} {fp0:List Nat} {R:List Asn} {S:Nat} {s:Sto} (h:St w0 fp0 (stoL S s++R) w):∀e∈s.es,∃a n c,e.va=.sl a n c:=by
 intro e he;obtain ⟨f,hf⟩:=h.star_of;obtain ⟨i,hi,rfl⟩:=List.mem_iff_getElem.1 he;obtain ⟨g,hg, -⟩:=Star.get (i+3) (A:=reA s.es[i]) (by show (blkA _ _ _::_::_::(s.es.map reA++s.ixs.map ixA))[i+3]? =_;simp only [List.getElem?_cons_succ];rw [List.getElem?_append_left (by simpa using hi),List.getElem?_map,List.getElem?_eq_getElem hi];rfl) hf;obtain ⟨a,c,e1, -⟩:=row_shape hg;exact encV_sl _ ⟨a,_,c,e1⟩
def stoR (S:Nat) (s:Sto):List Asn:=blkA S 113 #[.int .i64 s.cols,ptrV s.tb, .int .i64 s.next,s.iv]::rowA 152 2 s.iv s.ixs.length (ixV s.ixs)::(s.es.map reA++s.ixs.map ixA)
theorem reM_split {es:List Re} {pre rest:MM} {x:Ky×Va} (h:reM es=pre++x::rest):∃e:Re,x=(.int e.id,e.va)/\es.take (pre.length+1)=es.take pre.length++[e]/\e∈es:=by
 have hl:pre.length < es.length:=by have h1:=congrArg List.length h;rw [reM,List.length_map,List.length_append,List.length_cons] at h1;omega
 have hx:(reM es)[pre.length]? =some x:=by rw [h];simp
 rw [reM,List.getElem?_map,List.getElem?_eq_getElem hl] at hx;exact ⟨es[pre.length],(Option.some.inj hx).symm,List.take_succ_eq_append_getElem hl,List.getElem_mem hl⟩
def smI (b5 b3:Nat) (isv:Value) (p:Re->Bool) (es:List Re) (L:List Asn) (pre:MM):List Asn:=outA b5 (somL p (es.take pre.length))::blkA b3 93 #[isv]::L
theorem some_calls (f:Nat) (caps:Array Value) (p:Re->Bool) (S:Nat) (s:Sto) (LX:List Asn) (he:∀args w,(callFunc f args).run Tryz.prog w=.ok (.enter f args) w) (hlen:s.es.length+1 < 1099511627776) (his:IsC f caps p S s LX)
 (w0 w:World) (fp0:List Nat) (R:List Asn) (hS:St w0 fp0 (stoL S s++(LX++R)) w):
 Calls Tryz.prog 104 #[ptrV S, .func (.func f) #[] caps] w λ e w'=> ∃v,e=.returned v/\St w0 fp0 (rowA 212 2 v (somL p s.es).length (riV (somL p s.es))::(stoL S s++(LX++R))) w':=by
 have HSL:=Lib.hid hS.slOf;obtain ⟨tb,htb⟩:∃tb,s.tb=tb:=⟨_,rfl⟩
 have HS0:Hid (St w0 fp0 (rowA 212 2 (.slice none 0 0) 0 []::blkA (w.heap.size+1) 169 #[.slice none 0 0]::blkA w.heap.size 93 #[.func (.func f) #[] caps]::(stoL S s++(LX++R))) ((w.alloc (.cells #[.func (.func f) #[] caps] 93)).alloc (.cells #[.slice none 0 0] 169))):=by have h1:=((hS.newblk 93 #[.func (.func f) #[] caps]).newblk 169 #[.slice none 0 0]).nilR 212 2;simp only [World.size_alloc] at h1;exact h1
 have HSEQ:=Lib.hid (λ bt bl bh=> betw1_seq (β:=false) (o:=16) (h:=s.h) (by omega) none none 0 0 (by simp) (by simp) (reM s.es) (okR _) s.tb bt bl bh (by rw [reM,List.length_map];exact hlen) (2 - 1));simp only [selM_all] at HSEQ;have HIS:=Lib.hid his;have HLEN:=Lib.hid hlen;have c1:(((w.alloc (.cells #[.func (.func f) #[] caps] 93)).alloc (.cells #[.slice none 0 0] 169)).cell? ⟨S,1,none⟩)=some (ptrV tb):=by obtain ⟨_,hb⟩:=HS0.out.has 3 rfl;have:=(blk_get hb).1 1;rw [<-htb];exact this
 have hSl:S < ((w.alloc (.cells #[.func (.func f) #[] caps] 93)).alloc (.cells #[.slice none 0 0] 169)).heap.size:=World.block_lt_of_cell? _ _ c1;clear hS his hlen;rw [htb] at HSEQ;have HTB:=Lib.hid htb;clear htb;unfold ptrV at *;dsimp only [fBetw1] at HSEQ;refine calls_of_wp_m Tryz.func104 rfl ?_;simp only [Tryz.ntmps104,List.size_toArray,List.length_cons,List.length_nil,Nat.reduceAdd,Nat.reduceSub,Array.replicate_succ,Array.replicate_zero,List.push_toArray,List.append_toArray,List.nil_append,List.cons_append];go_upto_region 2 with (fail)
 generalize hWW:(w.alloc _).alloc _=W0;have HS1:=Lib.hid (show St w0 fp0 _ W0 from hWW ▸ HS0.out);have c1':W0.cell? ⟨S,1,none⟩=some (.pointer (some ⟨tb,0,none⟩)):=hWW ▸ c1;have hSl':S < W0.heap.size:=hWW ▸ hSl;clear hWW HS0 c1 hSl;obtain ⟨b3,hbm⟩:∃b3,w.heap.size=b3:=⟨_,rfl⟩
 simp only [hbm] at HS1 ⊢;clear hbm;have HA:=Lib.hid (All_calls tb w0 W0 fp0 _ HS1.out);clear HS1;go_wp2_with fail;(with_reducible refine HA.out.mono ?_);rintro e w1 ⟨bt,bl,bh,rfl,hs1⟩;have HS1:=Lib.hid hs1;clear hs1 HA c1' hSl';unfold iterF;dsimp only [fBetw1];go_wp2_with fail;have HFR:Hid (St w0 fp0 (betL false 16 s.h (reM s.es) tb bt bl bh 0 0 none none++(blkA (b3+1) 169 #[.slice none 0 0]::rowA 212 2 (.slice none 0 0) 0 []::blkA b3 93 #[.func (.func f) #[] caps]::stoR S s++(LX++R))) w1):=by have h1:St w0 fp0 (emp::emp::(iterL false tb bt bl bh 0 0 none none++(rowA 212 2 (.slice none 0 0) 0 []::blkA (b3+1) 169 #[.slice none 0 0]::blkA b3 93 #[.func (.func f) #[] caps]::(stoL S s++(LX++R))))) w1:=St.emp.2 (St.emp.2 HS1.out);refine h1.perm ?_;rw [<-HTB.out];unfold stoL stoR betL iterL optB;exact (by classical exact List.perm_iff_count.2 λ a=> by simp only [List.cons_append,List.nil_append,List.count_append,List.count_cons] <;> omega)
 obtain ⟨b5,hb5⟩:∃b5,b3+1=b5:=⟨_,rfl⟩
 rw [hb5] at HFR ⊢;clear HS1;refine wp_rangeFunc_st (n:=2) rfl (enters_of Tryz.func198 (by kernel_rfl) rfl) (HSEQ.out bt bl bh) (λ _=> rfl)
  (smI b5 b3 (.func (.func f) #[] caps) p s.es (iterL false tb bt bl bh 0 0 none none++(stoL S s++(LX++R)))) (λ _ _=> [pureA False]) _ HFR.out ?h0 ?round ?done ?stop
 case h0=>
  intro Own W hW;have h1:St w0 fp0 (emp::emp::(blkA b5 169 #[.slice none 0 0]::rowA 212 2 (.slice none 0 0) 0 []::(blkA b3 93 #[.func (.func f) #[] caps]::(iterL false tb bt bl bh 0 0 none none++(stoL S s++(LX++R)))++Own))) W:=by refine hW.perm ?_;rw [<-HTB.out];unfold stoL stoR betL iterL optB;exact (by classical exact List.perm_iff_count.2 λ a=> by simp only [List.cons_append,List.nil_append,List.count_append,List.count_cons] <;> omega)
  have h2:=St.emp.1 (St.emp.1 h1);exact St.out.2 ⟨_,h2⟩
 case round=>
  intro l0 pre x rest Own W hxs hs;obtain ⟨e,hx,het,hem⟩:=reM_split hxs;obtain ⟨PRE,hPRE⟩:∃PRE,somL p (s.es.take pre.length)=PRE:=⟨_,rfl⟩
  have hPL:PRE.length+1 < 1099511627776:=by have h1:=somL_len p (s.es.take pre.length);rw [hPRE,List.length_take] at h1;have:=HLEN.out;omega
  obtain ⟨nx,hnx⟩:∃nx,pre++[x]=nx:=⟨_,rfl⟩
  have HNX:Hid (somL p (s.es.take nx.length)=PRE++if p e then [toRi e] else []):=by show _=_;rw [<-hnx,List.length_append,show [x].length=1 from rfl,het,somL_snoc,hPRE]
  have hsm:smI b5 b3 (.func (.func f) #[] caps) p s.es (iterL false tb bt bl bh 0 0 none none++(stoL S s++(LX++R))) pre=outA b5 PRE::blkA b3 93 #[.func (.func f) #[] caps]::(iterL false tb bt bl bh 0 0 none none++(stoL S s++(LX++R))):=by rw [smI,hPRE]
  rw [hsm] at hs ⊢;rw [hnx,hx];have HV:=Lib.hid (toRi_v (HSL.out e hem));have HEM:=Lib.hid hem;clear hx het hPRE hxs hem hsm hnx;obtain ⟨va,vn,vc,hvv⟩:∃a n c,encV e.va=.slice a n c:=by obtain ⟨a,n,c,h⟩:=HSL.out e HEM.out;exact ⟨a,n,c,by rw [h];rfl⟩
  rw [hvv] at HV ⊢;dsimp only [encK]
  gi_wp2
  refine ⟨hs,λ Own2 W2 hs2=> ?_⟩;clear hs Own W;have h2:St w0 fp0 (stoL S s++(LX++(R++(outA b5 PRE::blkA b3 93 #[.func (.func f) #[] caps]::(iterL false tb bt bl bh 0 0 none none++Own2))))) W2:=by refine hs2.perm ?_;exact (by classical exact List.perm_iff_count.2 λ a=> by simp only [List.cons_append,List.count_append,List.count_cons] <;> omega)
  have HC:=Lib.hid (HIS.out w0 fp0 _ W2 e HEM.out h2);rw [hvv] at HC;clear hvv;obtain ⟨_,hb⟩:=hs2.has 1 rfl;have d0:=(blk_get hb).1 0;have dl:=(blk_get hb).2.2;simp only [List.getElem?_toArray,List.getElem?_cons_zero] at d0;clear hs2 h2 hb
  gi_wp2
  refine ⟨trivial,rfl,(CallsIn.inRound l0 (callsIn_wide.2 HC.out)).mono ?_⟩;rintro ev w3 ⟨rfl,h3⟩;clear HC d0 dl;have h4:St w0 fp0 (outA b5 PRE::(blkA b3 93 #[.func (.func f) #[] caps]::(iterL false tb bt bl bh 0 0 none none++(stoL S s++(LX++R)))++Own2)) w3:=by refine h3.perm ?_;exact (by classical exact List.perm_iff_count.2 λ a=> by simp only [List.cons_append,List.count_append,List.count_cons] <;> omega)
  obtain ⟨q,hq⟩:∃q,p e=q:=⟨_,rfl⟩
  rw [hq] at HNX ⊢;clear hq h3;cases q with
  | false=>
   have HF:Hid (St w0 fp0 (smI b5 b3 (.func (.func f) #[] caps) p s.es (iterL false tb bt bl bh 0 0 none none++(stoL S s++(LX++R))) nx++Own2) w3):=by show St _ _ _ _;unfold smI;rw [HNX.out,if_neg (by simp),List.append_nil];exact h4
   clear h4 HNX
   gi_wp2
   exact HF.out
  | true=>
   obtain ⟨v0,h5⟩:=St.out.1 h4;obtain ⟨_,hb⟩:=h5.has 0 rfl;have d0:=(blk_get hb).1 0;have dl:=(blk_get hb).2.2;simp only [List.getElem?_toArray,List.getElem?_cons_zero] at d0;obtain ⟨v',w',hr,⟨a',c',rfl⟩,e0,e1,e2,h6⟩:=h5.appIt 169 (toRi e) hPL;rw [HV.out,show (toRi e).id=e.id from rfl] at hr;have h7:=St.out.2 ⟨_,h6⟩;have HF:Hid (St w0 fp0 (smI b5 b3 (.func (.func f) #[] caps) p s.es (iterL false tb bt bl bh 0 0 none none++(stoL S s++(LX++R))) nx++Own2) (w'.setCell ⟨b5,0,none⟩ (.slice a' (PRE.length+1) c'))):=by show St _ _ _ _;unfold smI;rw [HNX.out,if_pos rfl];exact h7
   have HR:=Lib.hid hr;clear h4 HNX h5 hb h6 h7 hr
   gi_wp2_with (gi_at_builtin;refine wpListIn_append_run rfl _ _ _ rfl rfl rfl HR.out ?_)
   exact HF.out
 case done=>
  intro D W hW;have hlr:(reM s.es).length=s.es.length:=by rw [reM,List.length_map]
  have h1:St w0 fp0 (outA b5 (somL p s.es)::blkA b3 93 #[.func (.func f) #[] caps]::(iterL false tb bt bl bh 0 0 none none++(defA D::(stoL S s++(LX++R))))) W:=by refine hW.perm ?_;unfold smI;rw [hlr,List.take_length];exact (by classical exact List.perm_iff_count.2 λ a=> by simp only [List.count_append,List.count_cons] <;> omega)
  obtain ⟨v0,h2⟩:=St.out.1 h1;obtain ⟨_,hb⟩:=h2.has 0 rfl;have d0:=(blk_get hb).1 0;have dl:=(blk_get hb).2.2;simp only [List.getElem?_toArray,List.getElem?_cons_zero] at d0;have h3:St w0 fp0 (defA D::rowA 212 2 v0 (somL p s.es).length (riV (somL p s.es))::(stoL S s++(LX++R))) W:=by refine St.dropAll (A:=[blkA b5 169 #[v0],blkA b3 93 #[.func (.func f) #[] caps]]++iterL false tb bt bl bh 0 0 none none) (h2.perm ?_);exact (by classical exact List.perm_iff_count.2 λ a=> by simp only [List.cons_append,List.nil_append,List.count_append,List.count_cons] <;> omega)
  have H3:=Lib.hid h3;clear hW h1 h2 h3 hb hlr;dsimp only;go_wp2;exact bodyPostM_mark H3.out rfl λ w' hw'=> ⟨_,results_tmp rfl _ _ _,v0,rfl,hw'⟩
 case stop=>
  intro D c pre x rest W hxs hW;exact ((St.pure.1 (show St w0 fp0 (pureA False::[defA D]) W from hW.perm (List.Perm.swap _ _ _))).1).elim
end
theorem all11_isc (S:Nat) (s:Sto):IsC 105 #[] (λ _=> true) S s []:=by
 intro w0 fp0 R w e he hs;have HS:=Lib.hid hs;generalize encV e.va=v;clear hs;go_enter Tryz.func105,Tryz.ntmps105;go_wp2;go_ret;exact ⟨rfl,HS.out⟩
theorem all1_calls (bS S:Nat) (s:Sto) (hlen:s.es.length+1 < 1099511627776) (w0 w:World) (fp0:List Nat) (R:List Asn) (hS:St w0 fp0 (blkA bS 46 #[ptrV S]::(stoL S s++R)) w):
 Calls Tryz.prog 103 #[.pointer (some ⟨bS,0,none⟩)] w λ e w'=> ∃v,e=.returned v/\St w0 fp0 (rowA 212 2 v (somL (λ _=> true) s.es).length (riV (somL (λ _=> true) s.es))::blkA bS 46 #[ptrV S]::(stoL S s++R)) w':=by
 obtain ⟨_,hb⟩:=hS.has 0 rfl;have c0:=(blk_get hb).1 0;have cl:=(blk_get hb).2.2;simp only [List.getElem?_toArray,List.getElem?_cons_zero] at c0;have HC:=Lib.hid (some_calls 105 #[] (λ _=> true) S s [] (enters_own Tryz.func105 (by kernel_rfl) rfl) hlen (all11_isc S s) w0 w fp0 (blkA bS 46 #[ptrV S]::R) (hS.perm List.perm_middle.symm));clear hS hb;unfold ptrV at *;go_enter Tryz.func103,Tryz.ntmps103;go_wp2_with fail;(with_reducible refine HC.out.mono ?_);rintro e w1 ⟨v,rfl,h1⟩;have H1:=Lib.hid (show St w0 fp0 (rowA 212 2 v (somL (λ _=> true) s.es).length (riV (somL (λ _=> true) s.es))::blkA bS 46 #[.pointer (some ⟨S,0,none⟩)]::(stoL S s++R)) w1 from h1.perm (List.Perm.cons _ List.perm_middle));clear HC h1 c0 cl;go_wp2;go_ret;exact ⟨v,rfl,H1.out⟩
def allF (cb:Nat):Value:=.func (.func 133) #[] #[.pointer (some ⟨cb,0,none⟩)]
theorem each_calls (col:Value) (h1:col.oneCell'=true) (hc:∃f caps,col=.func (.func f) #[] caps) (w0 w:World) (fp0:List Nat) (R:List Asn) (hS:St w0 fp0 R w):
 Calls Tryz.prog 102 #[col] w λ e w'=> ∃cb,e=.returned (allF cb)/\St w0 fp0 (blkA cb 171 #[col]::R) w':=by
 obtain ⟨f,caps,rfl⟩:=hc;have HS:=Lib.hid (hS.newblk 171 #[.func (.func f) #[] caps]);clear hS;unfold allF;go_enter Tryz.func102,Tryz.ntmps102;go_wp2;go_ret;exact ⟨_,rfl,HS.out⟩
theorem All_store (S:Nat) (w0 w:World) (fp0:List Nat) (R:List Asn) (hS:St w0 fp0 R w):
 Calls Tryz.prog 69 #[ptrV S] w λ e w'=> ∃cb bS,e=.returned (allF cb)/\St w0 fp0 (blkA cb 171 #[.func (.func 103) #[] #[.pointer (some ⟨bS,0,none⟩)]]::blkA bS 46 #[ptrV S]::R) w':=by
 have HC:=Lib.hid (each_calls (.func (.func 103) #[] #[.pointer (some ⟨w.heap.size,0,none⟩)]) rfl ⟨_,_,rfl⟩ w0 _ fp0 _ (hS.newblk 46 #[ptrV S]));clear hS;unfold ptrV allF at *;go_enter Tryz.func69,Tryz.ntmps69;go_wp2_with fail;(with_reducible refine HC.out.mono ?_);rintro e w1 ⟨cb,rfl,h1⟩;have H1:=Lib.hid h1;clear h1 HC;go_wp2;go_ret;exact ⟨_,_,rfl,H1.out⟩
theorem somL_row {p:Re->Bool} {es:List Re} {x:Ri} (h:x∈somL p es):∃e∈es,p e=true/\x=toRi e:=by
 obtain ⟨e,he,rfl⟩:=List.mem_map.1 h;obtain ⟨h1,h2⟩:=List.mem_filter.1 he;exact ⟨e,h1,h2,rfl⟩
theorem somL_len2 {p:Re->Bool} {cols:Nat} {I:List (List Int)} {L:LL} {next:Int} {s:Sto} (hok:s.Ok cols I L next) (hc:cols<=1000000):∀x∈somL p s.es,x.r.length < 1099511627776:=by
 intro x hx;obtain ⟨e,he, -,rfl⟩:=somL_row hx;have hm:(e.id,e.r)∈L:=by rw [<-hok.rows];exact List.mem_map.2 ⟨_,he,rfl⟩
 have:e.r.length=cols:=(hok.row _ hm).2.2.1;show e.r.length < _;omega
theorem som_read {p:Re->Bool} {S cols:Nat} {I:List (List Int)} {L:LL} {next:Int} {s:Sto} (hok:s.Ok cols I L next) {w0 w:World} {fp0:List Nat} {R:List Asn} (hs:St w0 fp0 (stoL S s++R) w):∀x∈somL p s.es,ValsAt w x.r x.v:=by
 intro x hx;obtain ⟨e,he, -,rfl⟩:=somL_row hx;obtain ⟨f,hf⟩:=hs.star_of;rw [toRi_v (hs.slOf e he)];exact re_at hok hf he
theorem all_seq {S cols:Nat} {I:List (List Int)} {L:LL} {next:Int} {s:Sto} (hok:s.Ok cols I L next) (hc:cols<=1000000) (hlen:s.es.length+1 < 1099511627776) (bS cb:Nat) (n:Nat):
 SeqG n Tryz.prog 133 #[.pointer (some ⟨cb,0,none⟩)] 2 itG (λ W=> ∀x∈somL (λ _=> true) s.es,ValsAt W x.r x.v) (somL (λ _=> true) s.es) (blkA cb 171 #[.func (.func 103) #[] #[.pointer (some ⟨bS,0,none⟩)]]::(blkA bS 46 #[ptrV S]::stoL S s)):=
 each1_seq 103 #[.pointer (some ⟨bS,0,none⟩)] cb _ _ (enters_own Tryz.func103 (by kernel_rfl) rfl) (Nat.lt_of_le_of_lt (somL_len _ _) (by omega)) (somL_len2 hok hc) (λ w0 fp0 R w hs=> by have h1:St w0 fp0 (blkA bS 46 #[ptrV S]::(stoL S s++(blkA cb 171 #[.func (.func 103) #[] #[.pointer (some ⟨bS,0,none⟩)]]::R))) w:=hs.perm (by simp only [List.cons_append];exact (by classical exact List.perm_iff_count.2 λ a=> by simp only [List.count_append,List.count_cons] <;> omega));refine (all1_calls bS S s hlen w0 w fp0 _ h1).mono ?_;rintro e w' ⟨v,rfl,h2⟩;refine ⟨v,rfl,h2.perm ?_⟩;simp only [List.cons_append];exact (by classical exact List.perm_iff_count.2 λ a=> by simp only [List.count_append,List.count_cons] <;> omega)) n
def gEn5 (vb wb:Nat) (p:Value) (z:Int) (xs:List UInt8):=rgx Tryz.prog Tryz.f33 5 42 [19,20,21,22] [(3,pV vb 0),(5,p)] (Vq 0 19 [Kp wb 0,Kv p,Kv (.int .i64 z),Kv (.tuple #[])]) [Bk vb (114) [pV wb 0], .gen [3] [] λ L _g=> match L 3 with | true=> wrA wb (xs++numL z) | false=> wrA wb (xs)]
theorem rEn5 (vb wb:Nat) (p:Value) (z:Int) (xs:List UInt8) (w0:World) (fp0:List Nat) (R:List Asn) (hnext:∀L w,St w0 fp0 (L++R) w->Calls Tryz.prog 41 #[p] w λ e w'=> e=.returned (.int .i64 z)/\Below w.heap.size w w') (hnum:∀w,St w0 fp0 ([wrA wb (xs),blkA vb 114 #[.pointer (some ⟨wb,0,none⟩)]]++R) w->Calls Tryz.prog 55 #[.pointer (some ⟨wb,0,none⟩), .int .i64 z] w λ e w'=> e=.returned (.tuple #[])/\St w0 fp0 ([wrA wb (xs++numL z),blkA vb 114 #[.pointer (some ⟨wb,0,none⟩)]]++R) w') {w:World} {c:Code} {a:Act} {Q:Exit->Act->World->Prop} (c1:isReg c=true) (c2:cops c=opsR Tryz.f33 5) (c3:a.tmps.size=42) (_c4:a.defers=a.defers) (i3:a.eval (.tmp 3)=.pointer (some ⟨vb,0,none⟩)) (i5:a.eval (.tmp 5)=p)
 (hS:St w0 fp0 ([blkA vb (114) #[.pointer (some ⟨wb,0,none⟩)],wrA wb (xs)]++R) w)
 (hQ:∀(w1:World),St w0 fp0 ([blkA vb (114) #[.pointer (some ⟨wb,0,none⟩)],wrA wb (xs++numL z)]++R) w1->Q .normal (putL a [(19, .pointer (some ⟨wb,0,none⟩)),(20,p),(21, .int .i64 z),(22, .tuple #[])]) w1):c.wp Tryz.prog Q a w:=by
 have ok:(gEn5 vb wb p z xs w0 fp0 R).Ok 4:=Rg.ok _ 4 [0,2,3] ⟨.load _ 0 0 0, .askR _ 2 hnext, .callG _ 3 (f:=55) (args:=λ _=> #[.pointer (some ⟨wb,0,none⟩), .int .i64 z]) (λ _=> [blkA vb 114 #[.pointer (some ⟨wb,0,none⟩)],wrA wb (xs)]) (λ _ _=> [blkA vb 114 #[.pointer (some ⟨wb,0,none⟩)],wrA wb (xs++numL z)]) (λ g w h=> (by refine (hnum w (h.perm (List.Perm.swap _ _ _))).mono ?_;rintro e w2 ⟨e1,h2⟩;exact ⟨.tuple #[],e1,kr (by kernel_rfl),h2.perm (List.Perm.swap _ _ _)⟩)),trivial⟩;refine wp_regD ok (by kernel_rfl) ⟨c1,c2⟩ ⟨c3,λ p hp=> ?_⟩ hS λ A1 w1 N1 H1=> ?_
 · simp only [gEn5,rgx,List.map_nil,List.append_nil,List.mem_cons,List.not_mem_nil,or_false] at hp
   rcases hp with rfl | rfl
   · exact i3
   · exact i5
 exact N1.fin [] (hQ w1 H1) (by kernel_rfl)
def gEn6 (vb wb:Nat) (p:Value) (z:Int) (xs:List UInt8):=rgx Tryz.prog Tryz.f33 6 42 [23,24,25,26] [(3,pV vb 0),(5,p)] (Vq 0 23 [Kp wb 0,Kv p,Kv (.int .i64 z),Kv (.tuple #[])]) [Bk vb (114) [pV wb 0], .gen [3] [] λ L _g=> match L 3 with | true=> wrA wb (xs++numL z) | false=> wrA wb (xs)]
theorem rEn6 (vb wb:Nat) (p:Value) (z:Int) (xs:List UInt8) (w0:World) (fp0:List Nat) (R:List Asn) (hlen:∀L w,St w0 fp0 (L++R) w->Calls Tryz.prog 53 #[p] w λ e w'=> e=.returned (.int .i64 z)/\Below w.heap.size w w') (hnum:∀w,St w0 fp0 ([wrA wb (xs),blkA vb 114 #[.pointer (some ⟨wb,0,none⟩)]]++R) w->Calls Tryz.prog 55 #[.pointer (some ⟨wb,0,none⟩), .int .i64 z] w λ e w'=> e=.returned (.tuple #[])/\St w0 fp0 ([wrA wb (xs++numL z),blkA vb 114 #[.pointer (some ⟨wb,0,none⟩)]]++R) w') {w:World} {c:Code} {a:Act} {Q:Exit->Act->World->Prop} (c1:isReg c=true) (c2:cops c=opsR Tryz.f33 6) (c3:a.tmps.size=42) (_c4:a.defers=a.defers) (i3:a.eval (.tmp 3)=.pointer (some ⟨vb,0,none⟩)) (i5:a.eval (.tmp 5)=p)
 (hS:St w0 fp0 ([blkA vb (114) #[.pointer (some ⟨wb,0,none⟩)],wrA wb (xs)]++R) w)
 (hQ:∀(w1:World),St w0 fp0 ([blkA vb (114) #[.pointer (some ⟨wb,0,none⟩)],wrA wb (xs++numL z)]++R) w1->Q .normal (putL a [(23, .pointer (some ⟨wb,0,none⟩)),(24,p),(25, .int .i64 z),(26, .tuple #[])]) w1):c.wp Tryz.prog Q a w:=by
 have ok:(gEn6 vb wb p z xs w0 fp0 R).Ok 4:=Rg.ok _ 4 [0,2,3] ⟨.load _ 0 0 0, .askR _ 2 hlen, .callG _ 3 (f:=55) (args:=λ _=> #[.pointer (some ⟨wb,0,none⟩), .int .i64 z]) (λ _=> [blkA vb 114 #[.pointer (some ⟨wb,0,none⟩)],wrA wb (xs)]) (λ _ _=> [blkA vb 114 #[.pointer (some ⟨wb,0,none⟩)],wrA wb (xs++numL z)]) (λ g w h=> (by refine (hnum w (h.perm (List.Perm.swap _ _ _))).mono ?_;rintro e w2 ⟨e1,h2⟩;exact ⟨.tuple #[],e1,kr (by kernel_rfl),h2.perm (List.Perm.swap _ _ _)⟩)),trivial⟩;refine wp_regD ok (by kernel_rfl) ⟨c1,c2⟩ ⟨c3,λ p hp=> ?_⟩ hS λ A1 w1 N1 H1=> ?_
 · simp only [gEn6,rgx,List.map_nil,List.append_nil,List.mem_cons,List.not_mem_nil,or_false] at hp
   rcases hp with rfl | rfl
   · exact i3
   · exact i5
 exact N1.fin [] (hQ w1 H1) (by kernel_rfl)
theorem wp_loopI {P:Program} {c:Code} {Q:Exit->Act->World->Prop} (I:Nat->Act->World->Prop)
 (round:∀n a w,I n a w->∀K:Act->World->Prop,(∀m a' w',n=m+1->I m a' w'->K a' w')->c.wp P (Exit.then K Q) a w) (n:Nat) (a:Act) (w:World) (h0:I n a w):(Code.loop c).wp P Q a w:=by
 have key:∀n a w,I n a w->Code.rounds P c Q (n+1) a w:=by
  intro n
  induction n with
  | zero=>
   intro a w h;rw [rounds_succ];exact round 0 a w h _ λ m a' w' e _=> nomatch e
  | succ n ih=>
   intro a w h;rw [rounds_succ];refine round (n+1) a w h _ λ m a' w' e h'=> ?_;obtain rfl:n=m:=by omega
   exact ih a' w' h'
 exact wp_loop_rounds (n+1) (key n a w h0)
def markD (D:Nat):Deferred:={ target:=.collected D,args:=#[] }
theorem leaves_marks {fn:Func} {tmps:Array Value} {Rq:Ending->World->Prop} {w0:World} {fp0:List Nat} {L:List Asn} (h:∀w',St w0 fp0 L w'->∃v,(results fn tmps).run Tryz.prog w'=.ok v w'/\Rq (.returned v) w'):
 ∀(Ds:List Nat) (w:World),St w0 fp0 (Ds.map defA++L) w->LeavesInM Fence.wide 0 Tryz.prog fn tmps Rq (Ds.map markD) .returning w
 | [],w,hS=> h w hS
 | D::Ds,w,hS=> by obtain ⟨_,hk,_⟩:=St.has hS 0 rfl;exact ⟨by simp, .inl ⟨_,_,rfl,run_takeDeferred hk,leaves_marks h Ds _ (St.undef hS)⟩⟩
theorem bodyPostM_marks {fn:Func} {Rq:Ending->World->Prop} {a:Act} {w w0:World} {fp0:List Nat} {Ds:List Nat} {L:List Asn} (hS:St w0 fp0 (Ds.map defA++L) w) (hd:a.defers=Ds.map markD)
 (h:∀w',St w0 fp0 L w'->∃v,(results fn a.tmps).run Tryz.prog w'=.ok v w'/\Rq (.returned v) w'):bodyPostM Fence.wide 0 Tryz.prog fn Rq .ret a w:=by
 show LeavesInM _ _ _ _ _ _ a.defers .returning w;rw [hd];exact leaves_marks h Ds w hS
section
attribute [local go_sem] Oper.semAt_some
def encI (l:LL):List UInt8:=l.flatMap λ x=> numL x.1++rowB x.2
def encT (t:Nat×LL×Int):List UInt8:=numL t.2.2++(numL t.2.1.length++encI t.2.1)
def encD (D:Db):List UInt8:=D.flatMap encT
theorem encI_snoc (l:LL) (x:Int×Rw):encI (l++[x])=encI l++(numL x.1++rowB x.2):=by simp [encI]
theorem encD_step {D:Db} {k:Nat} (h:k < D.length):encD (D.take (k+1))=encD (D.take k)++encT (D[k]'h):=by
 rw [encD,encD,List.take_add_one,List.getElem?_eq_getElem h,List.flatMap_append];simp
theorem RowOk.enc {c:Nat} {r:Rw} (h:RowOk c r) (hc:c<=1000):(encR r).length<=41000:=by
 have key:∀r:Rw,(∀v∈r,okV v=true/\I64 v.int)->(encR r).length<=r.length * 41:=by
  intro r
  induction r with
  | nil=> intro _;simp [encR]
  | cons v r ih=>
   intro h;have e1:=encL_len v;have e2:v.text.size<=16:=by
    have h0:(ByteArray.empty).size=0:=rfl;rcases okV_cases (h v (by simp)).1 with ⟨-, -,e⟩ | ⟨-,e⟩ | ⟨-, -, -,e⟩
    · rw [e,h0];omega
    · rw [e,h0];omega
    · exact e
   have e3:=ih (λ u hu=> h u (by simp [hu]));simp only [encR,List.flatMap_cons,List.length_append,List.length_cons] at e3 ⊢;omega
 have h1:=key r h.2;have h2:=h.1;rw [h2] at h1;have:c * 41<=1000 * 41:=Nat.mul_le_mul_right _ hc;omega
theorem encI_len {c:Nat} {l:LL} (hc:c<=1000) (h:∀x∈l,RowOk c x.2):(encI l).length<=l.length * 41016:=by
 induction l with
 | nil=> simp [encI]
 | cons x l ih=>
  have h1:=(h x (by simp)).enc hc;have h2:=ih λ y hy=> h y (by simp [hy]);have e:encI (x::l)=numL x.1++rowB x.2++encI l:=rfl;rw [e];simp only [rowB,List.length_append,numL_length,List.length_cons];omega
structure EncOk (D:Db):Prop where
 n:D.length<=4
 c:∀t∈D,t.1<=1000
 l:∀t∈D,t.2.1.length < 1000000
 r:∀t∈D,∀x∈t.2.1,RowOk t.1 x.2
 i:∀t∈D,I64 t.2.2/\∀x∈t.2.1,I64 x.1
theorem RowOk.rowS {c:Nat} {r:Rw} (h1:RowOk c r):RowS r:=λ v hv=> ⟨(h1.2 v hv).2,by
 have h0:(ByteArray.empty).size=0:=rfl;rcases okV_cases (h1.2 v hv).1 with ⟨-, -,e⟩ | ⟨-,e⟩ | ⟨-, -, -,e⟩
 · rw [e,h0];omega
 · rw [e,h0];omega
 · omega⟩
theorem encT_len {t:Nat×LL×Int} (hc:t.1<=1000) (hl:t.2.1.length < 1000000) (h:∀x∈t.2.1,RowOk t.1 x.2):(encT t).length<=41016000016:=by
 have h1:=encI_len hc h;have:t.2.1.length * 41016<=1000000 * 41016:=Nat.mul_le_mul_right _ (by omega);simp only [encT,List.length_append,numL_length];omega
theorem encD_len {D:Db} (h:EncOk D) (k:Nat):(encD (D.take k)).length<=164064000064:=by
 have key:∀l:Db,(∀t∈l,t∈D)->(encD l).length<=l.length * 41016000016:=by
  intro l
  induction l with
  | nil=> intro _;simp [encD]
  | cons t l ih=>
   intro hl;have ht:=hl t (by simp);have h1:=encT_len (h.c t ht) (h.l t ht) (h.r t ht);have h2:=ih λ y hy=> hl y (by simp [hy]);have e:encD (t::l)=encT t++encD l:=rfl;rw [e,List.length_append,List.length_cons];omega
 have h1:=key (D.take k) λ t ht=> List.mem_of_mem_take ht;have h2:(D.take k).length<=4:=by rw [List.length_take];have:=h.n;omega
 have:(D.take k).length * 41016000016<=4 * 41016000016:=Nat.mul_le_mul_right _ h2;omega
def enI (vb wb:Nat) (ys:List UInt8) (L:List Asn) (pre:List Ri):List Asn:=wrA wb (ys++encI (riL pre))::blkA vb 114 #[.pointer (some ⟨wb,0,none⟩)]::L
theorem riL_snoc (l:List Ri) (x:Ri):riL (l++[x])=riL l++[(x.id,x.r)]:=by simp [riL]
def EncI (b vb wb:Nat) (ta:Option Addr) (n tc:Nat) (q:StQ) (D:Db) (w0:World) (fp0:List Nat) (R:List Asn) (g:Nat) (a:Act) (w:World):Prop:=
 ∃(k:Nat) (Ds:List Nat) (u1 u2 u4 u5 u6 u7 u8 u9 u10 u11 u12 u16 u17 u18 u19 u20 u21 u22 u23 u24 u25 u26 u27 u28 u29 u30 u31 u32 u33 u34 u35 u36 u37 u38 u39 u40 u41:Value),g+k=n/\a=⟨#[.pointer (some ⟨b,0,none⟩),u1,u2, .pointer (some ⟨vb,0,none⟩),u4,u5,u6,u7,u8,u9,u10,u11,u12, .slice ta n tc, .int .i64 n, .int .i64 k,u16,u17,u18,u19,u20,u21,u22,u23,u24,u25,u26,u27,u28,u29,u30,u31,u32,u33,u34,u35,u36,u37,u38,u39,u40,u41],Ds.map markD⟩/\Hid (St w0 fp0 (wrA wb (encD (D.take k))::blkA vb 114 #[.pointer (some ⟨wb,0,none⟩)]::(dbP b q++(q.ts.map tbA++(R++Ds.map defA)))) w)
theorem encodeQ_calls (b:Nat) (q:StQ) (D:Db) (hq:q.Ok D) (hD:EncOk D) (w0 w:World) (fp0:List Nat) (R:List Asn) (hS:St w0 fp0 (dbP b q++(q.ts.map tbA++R)) w):
 Calls Tryz.prog 33 #[.pointer (some ⟨b,0,none⟩)] w λ e w'=> ∃a m c,e=.returned (.slice a m c)/\St w0 fp0 (slA 5 (.slice a m c) ((encD D).map u8C)::(dbP b q++(q.ts.map tbA++R))) w':=by
 have hs:=hS;have HQ:=Lib.hid hq;have HD:=Lib.hid hD;obtain ⟨sa,sc,ta,tc,td,ts⟩:=q;have hS1:St w0 fp0 (wrA w.heap.size []::(dbP b ⟨sa,sc,ta,tc,td,ts⟩++(ts.map tbA++R))) (w.alloc (.cells #[.slice none 0 0] 116)):=St.wr.2 ⟨_,((hs.newblk 116 #[.slice none 0 0]).nilA 5).perm (List.Perm.swap _ _ _)⟩;have hS2:=hS1.newblk 114 #[.pointer (some ⟨w.heap.size,0,none⟩)];simp only [World.size_alloc] at hS2;obtain ⟨wb,hwb⟩:∃wb,w.heap.size=wb:=⟨_,rfl⟩
 rw [hwb] at hS2;have HS2:=Lib.hid hS2;obtain ⟨_,hb⟩:=hS2.has 2 rfl;have c1:=(blk_get hb).1 1;have cl:=(blk_get hb).2.2;simp only [List.getElem?_toArray,List.getElem?_cons_zero,List.getElem?_cons_succ] at c1;obtain ⟨n,hn⟩:∃n,ts.length=n:=⟨_,rfl⟩
 replace c1:World.cell? _ ⟨b,1,none⟩=some (.slice ta ts.length tc):=c1;rw [hn] at c1;have HN:=Lib.hid hn;have HWB:=Lib.hid hwb;clear hS hS1 hS2 hb hs hq hD hn;refine calls_of_wp_m Tryz.func33 rfl ?_;simp only [Tryz.ntmps33,List.size_toArray,List.length_cons,List.length_nil,Nat.reduceAdd,Nat.reduceSub,Array.replicate_succ,Array.replicate_zero,List.push_toArray,List.append_toArray,List.nil_append,List.cons_append];go_upto_region 3 with (fail)
 clear c1 cl;obtain ⟨vb,hvb⟩:∃vb,wb+1=vb:=⟨_,rfl⟩
 rw [hvb] at HS2 ⊢;clear hvb hwb;obtain ⟨q,hqq⟩:∃q:StQ,q=⟨sa,sc,ta,tc,td,ts⟩:=⟨_,rfl⟩
 have hts:q.ts=ts:=by rw [hqq]
 have htv:q.tv=.slice ta n tc:=by rw [hqq,<-HN.out];rfl
 rw [<-hqq] at HQ HS2;rw [<-hts] at HS2 HN;have HTV:=Lib.hid htv;have HQQ:=Lib.hid hqq;clear hqq hts htv;refine wp_loopI (EncI b vb wb ta n tc q D w0 fp0 R) ?round n _ _ ?start
 case start=>
  refine ⟨0,[],_,_,_,_,_,_,_,_,_,_,_,_,_,_,_,_,_,_,_,_,_,_,_,_,_,_,_,_,_,_,_,_,_,_,_,_,_,rfl,rfl,?_⟩;show St _ _ _ _;rw [List.map_nil,List.append_nil];exact HS2.out.perm (List.Perm.swap _ _ _)
 case round=>
  clear HS2;rintro g a w1 ⟨k,Ds,u1,u2,u4,u5,u6,u7,u8,u9,u10,u11,u12,u16,u17,u18,u19,u20,u21,u22,u23,u24,u25,u26,u27,u28,u29,u30,u31,u32,u33,u34,u35,u36,u37,u38,u39,u40,u41,hgk,rfl,Hs⟩ K hK;have HK:=Lib.hid hK;clear hK;by_cases hk:k < n
  · have hkq:k < q.ts.length:=by rw [HN.out];exact hk
    obtain ⟨_,hsl⟩:=Hs.out.has 4 rfl;rw [HTV.out] at hsl;obtain ⟨a',c',e,hxl,hxc,hx⟩:=sl_get hsl;obtain ⟨rfl, -,rfl⟩:=Value.slice.inj e;rcases hx with ⟨-,hx, -⟩ | ⟨tg,rfl,htg,hcs,hfz⟩
    · have:=congrArg List.length hx
      rw [List.length_map,List.length_nil] at this;omega
    have hck:=hcs k (by rw [List.length_map];exact hkq);rw [List.getElem?_map,List.getElem?_eq_getElem hkq,Option.map_some] at hck;have hat:=HQ.out.at k hkq;have hkD:k < D.length:=(List.getElem?_eq_some_iff.1 hat).1;have hDk:D[k]'hkD=(q.ts[k].cols,q.ts[k].L,q.ts[k].next):=(List.getElem?_eq_some_iff.1 hat).2;have hmem:(q.ts[k].cols,q.ts[k].L,q.ts[k].next)∈D:=List.mem_of_getElem? hat;have hst:=encD_step hkD;rw [hDk] at hst;have HST:=Lib.hid hst;have hle:=encD_len HD.out k;have hcols:=HD.out.c _ hmem;have hll:=HD.out.l _ hmem;have hrows:=HD.out.r _ hmem;have hp:St w0 fp0 (wrA wb (encD (D.take k))::blkA vb 114 #[.pointer (some ⟨wb,0,none⟩)]::(tbA q.ts[k]::(dbP b q++((q.ts.eraseIdx k).map tbA++(R++Ds.map defA))))) w1:=by
     have h0:St w0 fp0 (dbP b q++(q.ts.map tbA++(wrA wb (encD (D.take k))::blkA vb 114 #[.pointer (some ⟨wb,0,none⟩)]::(R++Ds.map defA)))) w1:=Hs.out.perm (by classical exact List.perm_iff_count.2 λ a=> by simp only [List.count_append,List.count_cons] <;> omega);refine (h0.pickT k hkq).perm ?_
     classical exact List.perm_iff_count.2 λ a=> by simp only [List.count_append,List.count_cons] <;> omega
    have HBACK:Hid (∀(A B:Asn) (M:List Asn) w,St w0 fp0 (A::B::(storeA q.ts[k].S q.ts[k].cols q.ts[k].I q.ts[k].L q.ts[k].next::(dbP b q++((q.ts.eraseIdx k).map tbA++(R++M))))) w->St w0 fp0 (A::B::(dbP b q++(q.ts.map tbA++(R++M)))) w):=λ A B M w h=> by
     have h1:St w0 fp0 (tbA q.ts[k]::(dbP b q++((q.ts.eraseIdx k).map tbA++(A::B::(R++M))))) w:=St.perm (show St w0 fp0 (A::B::(tbA q.ts[k]::(dbP b q++((q.ts.eraseIdx k).map tbA++(R++M))))) w from h) (by classical exact List.perm_iff_count.2 λ a=> by simp only [List.count_append,List.count_cons] <;> omega);have h2:=St.placeT (i:=k) hkq h1;rw [List.set_getElem_self] at h2;refine h2.perm ?_
     classical exact List.perm_iff_count.2 λ a=> by simp only [List.count_append,List.count_cons] <;> omega
    have HP:=Lib.hid hp;have hkn:(k:Int) < n:=by omega
    have hk4:k < 4:=by have:=HD.out.n;omega
    have Hgk:=Lib.hid hgk;obtain ⟨X,hX⟩:∃X,dbP b q++((q.ts.eraseIdx k).map tbA++(R++Ds.map defA))=X:=⟨_,rfl⟩
    have HXX:=Lib.hid hX;rw [hX] at HP;obtain ⟨xs,hxs⟩:∃xs,encD (D.take k)=xs:=⟨_,rfl⟩
    rw [hxs] at HP HST hle;unfold tbA at HP;generalize q.ts[k].S=S at *;generalize q.ts[k].cols=cols at *;generalize q.ts[k].I=I at *;generalize q.ts[k].L=L at *;generalize q.ts[k].next=next at *
    obtain ⟨s,hok, -⟩:=(HP.out.perm (List.perm_middle (l₁:=[_,_]))).openS;have hnx:I64 next:=by have:=hok.nx;unfold I64;omega
    have HIDS:Hid (∀x∈L,I64 x.1):=λ x hx=> by have:=hok.row x hx;have:=hok.nx;unfold I64;omega
    have hnext:Hid (∀(M:List Asn) w,St w0 fp0 (M++(storeA S cols I L next::X)) w->Calls Tryz.prog 41 #[ptrV S] w λ e w'=> e=.returned (.int .i64 next)/\Below w.heap.size w w'):=λ M w h=> by obtain ⟨_,hs⟩:=(h.perm List.perm_middle).has 0 rfl;exact (Next_calls hs).mono λ e w' ⟨h1,h2⟩=> ⟨h1,h2 ▸ Below.refl _ _⟩
    have hlen:Hid (∀(M:List Asn) w,St w0 fp0 (M++(storeA S cols I L next::X)) w->Calls Tryz.prog 53 #[ptrV S] w λ e w'=> e=.returned (.int .i64 (L.length:Nat))/\Below w.heap.size w w'):=λ M w h=> by obtain ⟨_,hs⟩:=(h.perm List.perm_middle).has 0 rfl;exact (SLen_calls hs).mono λ e w' ⟨h1,h2⟩=> ⟨h1,h2 ▸ Below.refl _ _⟩
    clear hp hX hxs hsl hcs hfz hat hDk hmem hst hok hxl hxc e;go_upto_region 5 with (fail)
    refine rEn5 (w0:=w0) (fp0:=fp0) (R:=storeA S cols I L next::X) vb wb (ptrV S) next xs hnext.out (λ w h=> wNumber_calls wb xs next hnx (by omega) w0 w fp0 _ h) rfl (by kernel_rfl) rfl rfl rfl rfl (HP.out.perm (List.Perm.swap _ _ _)) ?_
    intro w2 h2;have HS2:Hid (St w0 fp0 ([blkA vb 114 #[.pointer (some ⟨wb,0,none⟩)],wrA wb (xs++numL next)]++(storeA S cols I L next::X)) w2):=h2;have hll':L.length < 1000000:=hll;clear h2 hck htg;simp only [putL,List.foldl,Act.put,List.setIfInBounds_toArray,List.set_cons_succ,List.set_cons_zero];go_upto_region 6 with (fail)
    refine rEn6 (w0:=w0) (fp0:=fp0) (R:=storeA S cols I L next::X) vb wb (ptrV S) (L.length:Nat) (xs++numL next) hlen.out (λ w h=> wNumber_calls wb (xs++numL next) (L.length:Nat) (by unfold I64;omega) (by rw [List.length_append,numL_length];omega) w0 w fp0 _ h) rfl (by kernel_rfl) rfl rfl rfl rfl HS2.out ?_;intro w3 h3;obtain ⟨ys,hys⟩:∃ys,(xs++numL next)++numL (L.length:Nat)=ys:=⟨_,rfl⟩
    have HYS:=Lib.hid hys;have h3':St w0 fp0 (blkA vb 114 #[.pointer (some ⟨wb,0,none⟩)]::wrA wb ((xs++numL next)++numL (L.length:Nat))::(storeA S cols I L next::X)) w3:=h3;rw [hys] at h3';have HA:=Lib.hid (All_store S w0 w3 fp0 _ h3');have hyl:ys.length<=164064000080:=by rw [<-hys];simp only [List.length_append,numL_length];omega
    clear h3 h3' hys HS2 HP;simp only [putL,List.foldl,Act.put,List.setIfInBounds_toArray,List.set_cons_succ,List.set_cons_zero];unfold ptrV at *;go_wp2_with fail;(with_reducible refine HA.out.mono ?_);rintro e w4 ⟨cb,bS,rfl,h4⟩;clear HA;have h4':St w0 fp0 (storeA S cols I L next::blkA cb 171 #[.func (.func 103) #[] #[.pointer (some ⟨bS,0,none⟩)]]::blkA bS 46 #[.pointer (some ⟨S,0,none⟩)]::blkA vb 114 #[.pointer (some ⟨wb,0,none⟩)]::wrA wb ys::X) w4:=St_re (L:=[_,_,_,_,_]) h4 [4,0,1,2,3] [] (by kernel_rfl);obtain ⟨s,hok,h5⟩:=h4'.openS;have hrl:s.es.length=L.length:=by rw [<-hok.rows,reL,List.length_map]
    have hcm:cols<=1000000:=by have:cols<=1000:=hcols;omega
    have HSEQ:=Lib.hid (all_seq (S:=S) hok hcm (by omega) bS cb (2 - 1));have HOK:=Lib.hid hok;obtain ⟨its,hits⟩:∃its,somL (λ _=> true) s.es=its:=⟨_,rfl⟩
    have HRI:Hid (riL its=L):=by show _=_;rw [<-hits,<-hok.rows];unfold somL reL toRi riL;rw [List.map_map,List.filter_eq_self.2 (λ _ _=> rfl)];rfl
    have HRD:=Lib.hid (λ (w0 w:World) (fp0:List Nat) (R:List Asn) (h:St w0 fp0 (stoL S s++R) w)=> som_read (p:=λ _=> true) hok h);have HTX:Hid (∀x∈its,∀v∈x.r,v.text.size<=maxLen):=λ x hx=> ((HRD.out _ _ _ _ h5) x (hits ▸ hx)).2;rw [hits] at HSEQ;unfold ptrV at HSEQ;have HS5:Hid (St w0 fp0 ((blkA cb 171 #[.func (.func 103) #[] #[.pointer (some ⟨bS,0,none⟩)]]::(blkA bS 46 #[.pointer (some ⟨S,0,none⟩)]::stoL S s))++(blkA vb 114 #[.pointer (some ⟨wb,0,none⟩)]::wrA wb ys::X)) w4):=h5.perm (by classical exact List.perm_iff_count.2 λ a=> by simp only [List.cons_append,List.count_append,List.count_cons] <;> omega);have HEND:Hid (∀(R:List Asn) w,St w0 fp0 (stoL S s++R) w->St w0 fp0 (storeA S cols I L next::R) w):=λ R w h=> St.shutS HOK.out h;have HQR:Hid (∀Own W,St w0 fp0 ((blkA cb 171 #[.func (.func 103) #[] #[.pointer (some ⟨bS,0,none⟩)]]::(blkA bS 46 #[.pointer (some ⟨S,0,none⟩)]::stoL S s))++Own) W->∀x∈its,ValsAt W x.r x.v):=λ Own W h x hx=> by
     refine HRD.out w0 W fp0 (blkA cb 171 #[.func (.func 103) #[] #[.pointer (some ⟨bS,0,none⟩)]]::blkA bS 46 #[.pointer (some ⟨S,0,none⟩)]::Own) (h.perm ?_) x (hits ▸ hx)
     classical exact List.perm_iff_count.2 λ a=> by simp only [List.cons_append,List.count_append,List.count_cons] <;> omega
    have HMEM:Hid (∀x∈its,(x.id,x.r)∈L):=λ x hx=> by rw [<-HRI.out];exact List.mem_map.2 ⟨x,hx,rfl⟩
    have HILEN:Hid (∀pre x rest,its=pre++x::rest->(encI (riL pre)).length<=41016000000):=λ pre x rest e=> by
     have h1:=encI_len (c:=cols) (l:=riL pre) hcols λ y hy=> by obtain ⟨z,hz,rfl⟩:=List.mem_map.1 hy;exact hrows _ (HMEM.out z (by rw [e];exact List.mem_append_left _ hz))
     have h2:(riL pre).length<=1000000:=by have h3:=congrArg List.length HRI.out;rw [riL,List.length_map,e,List.length_append] at h3;rw [riL,List.length_map];omega
     have:(riL pre).length * 41016<=1000000 * 41016:=Nat.mul_le_mul_right _ h2;omega
    have HRW:Hid (∀x∈its,RowS x.r/\x.r.length<=1000/\I64 x.id/\(encR x.r).length<=41000):=λ x hx=> by have h1:=hrows _ (HMEM.out x hx);exact ⟨h1.rowS,by rw [h1.1];exact hcols,HIDS.out _ (HMEM.out x hx),h1.enc hcols⟩
    clear h4 h4' h5 hok hrl hits HRD HOK hnext hlen hrows hcols hll hll' hcm HIDS HMEM;obtain ⟨L0,hL0⟩:∃L0,(blkA cb 171 #[.func (.func 103) #[] #[.pointer (some ⟨bS,0,none⟩)]]::(blkA bS 46 #[.pointer (some ⟨S,0,none⟩)]::stoL S s))=L0:=⟨_,rfl⟩
    have HL0:Hid (∀(M:List Asn) w,St w0 fp0 (L0++M) w->St w0 fp0 (stoL S s++M) w):=λ M w h=> by rw [<-hL0] at h;exact St.drop (St.drop h)
    rw [hL0] at HSEQ HS5 HQR;clear hL0;unfold allF;go_wp2_with fail;refine wp_rangeFunc_g (n:=2) rfl (enters_own Tryz.func133 (by kernel_rfl) rfl) HSEQ.out (enI vb wb ys (L0++X)) (λ _ _=> [pureA False]) _ HS5.out ?h0 ?hqr ?round ?done ?stop
    case h0=>
     intro Own W hW;refine hW.perm ?_;unfold enI;have e:ys++encI (riL ([]:List Ri))=ys:=by simp [riL,encI]
     rw [e]
     classical exact List.perm_iff_count.2 λ a=> by simp only [List.cons_append,List.count_append,List.count_cons] <;> omega
    case hqr=>
     intro pre Own W hW;refine HQR.out (wrA wb (ys++encI (riL pre))::blkA vb 114 #[.pointer (some ⟨wb,0,none⟩)]::(X++Own)) W (hW.perm ?_);unfold enI
     classical exact List.perm_iff_count.2 λ a=> by simp only [List.cons_append,List.count_append,List.count_cons] <;> omega
    case stop=>
     intro Dn c pre x rest W hxs hW;exact absurd (St.pure.1 (hW.perm (List.Perm.swap _ _ _))).1 (by simp)
    case round=>
     intro l0 pre x rest args Own W hxs hsz hs;obtain ⟨xa,xc,rfl,hs'⟩:=itG_out (show St w0 fp0 (itG x args::(enI vb wb ys (L0++X) pre++Own)) W from hs);clear hs;have HS1:=Lib.hid (itG_in hs');obtain ⟨hrs,hrl,hri,hre⟩:=HRW.out x (by rw [hxs];simp);have HRS:=Lib.hid hrs;have HRL:=Lib.hid hrl;have HRID:=Lib.hid hri;have HTT:=Lib.hid (HTX.out x (by rw [hxs];simp));have Hpl:=Lib.hid (HILEN.out pre x rest hxs);have HYL:=Lib.hid hyl;clear hs' hsz hxs hrs hrl hri hre
     gi_wp2
     refine ⟨HS1.out,λ Own2 W2 hs2=> ?_⟩;clear HS1;obtain ⟨za,zc,hargs,h1⟩:=itG_out (show St w0 fp0 (itG x #[.int .i64 x.id, .slice xa x.r.length xc]::(enI vb wb ys (L0++X) pre++Own2)) W2 from hs2);have e1:Value.slice xa x.r.length xc=.slice za x.r.length zc:=by simpa using hargs
     obtain ⟨rfl, -,rfl⟩:=Value.slice.inj e1;have h2:St w0 fp0 (wrA wb (ys++encI (riL pre))::blkA vb 114 #[.pointer (some ⟨wb,0,none⟩)]::rowA 68 3 (.slice xa x.r.length xc) x.r.length (flat x.r)::((L0++X)++Own2)) W2:=h1.perm (by
      unfold enI
      classical exact List.perm_iff_count.2 λ a=> by simp only [List.cons_append,List.count_append,List.count_cons] <;> omega)
     obtain ⟨_,hb⟩:=h2.has 1 rfl;have d0:=(blk_get hb).1 0;have dl:=(blk_get hb).2.2;simp only [List.getElem?_toArray,List.getElem?_cons_zero] at d0;have HNM:=Lib.hid (wNumber_calls wb _ x.id HRID.out (by have:=Hpl.out;have:=HYL.out;rw [List.length_append];omega) w0 W2 fp0 _ h2);clear hs2 hargs e1 h1 h2 hb
     gi_wp2
     refine ⟨trivial,rfl,(CallsIn.inRound l0 (callsIn_wide.2 HNM.out)).mono ?_⟩;rintro e w5 ⟨rfl,h5⟩;obtain ⟨_,hr⟩:=h5.has 2 rfl;have hv:ValsAt w5 x.r (.slice xa x.r.length xc):=⟨SlX.of_row (X:=[]) hr (length_flat _) (by simp),HTT.out⟩
     obtain ⟨_,hb⟩:=h5.has 1 rfl;have e0:=(blk_get hb).1 0;have el:=(blk_get hb).2.2;simp only [List.getElem?_toArray,List.getElem?_cons_zero] at e0;have HRO:=Lib.hid (wRow_calls wb _ x.r (.slice xa x.r.length xc) HRS.out (by have:=HRL.out;omega) (by have:=Hpl.out;have:=HYL.out;rw [List.length_append,List.length_append,numL_length];omega) w0 w5 fp0 _ h5 hv);clear h5 hr hv hb d0 dl HNM
     gi_wp2
     refine ⟨trivial,rfl,(CallsIn.inRound l0 (callsIn_wide.2 HRO.out)).mono ?_⟩;rintro e w6 ⟨rfl,h6⟩;have H6:Hid (St w0 fp0 (enI vb wb ys (L0++X) (pre++[x])++Own2) w6):=by
      show St _ _ _ _;unfold enI;rw [riL_snoc,encI_snoc];have h7:=(St_re (L:=[_,_,_]) h6 [2,0,1] [] (by kernel_rfl)).drop;have e:ys++(encI (riL pre)++(numL x.id++rowB x.r))=ys++encI (riL pre)++numL x.id++rowB x.r:=by simp only [List.append_assoc]
      show St w0 fp0 (wrA wb (ys++(encI (riL pre)++(numL x.id++rowB x.r)))::_) w6;rw [e];exact h7
     clear HRO h6 e0 el
     gi_wp2
     exact H6.out
    case done=>
     intro Dn W hW;have H3:Hid (St w0 fp0 (wrA wb (encD (D.take (k+1)))::blkA vb 114 #[.pointer (some ⟨wb,0,none⟩)]::(dbP b q++(q.ts.map tbA++(R++(Dn::Ds).map defA)))) W):=by
      show St _ _ _ _;rw [HST.out];have h1:St w0 fp0 (L0++(wrA wb (ys++encI (riL its))::blkA vb 114 #[.pointer (some ⟨wb,0,none⟩)]::(defA Dn::X))) W:=hW.perm (by
       unfold enI
       classical exact List.perm_iff_count.2 λ a=> by simp only [List.count_append,List.count_cons] <;> omega)
      have h2:=HEND.out _ W (HL0.out _ _ h1);rw [HRI.out,<-HXX.out] at h2;have h3:St w0 fp0 (wrA wb (ys++encI L)::blkA vb 114 #[.pointer (some ⟨wb,0,none⟩)]::(storeA S cols I L next::(dbP b q++((q.ts.eraseIdx k).map tbA++(R++(Dn::Ds).map defA))))) W:=h2.perm (by classical exact List.perm_iff_count.2 λ a=> by simp only [List.map_cons,List.count_append,List.count_cons] <;> omega);have h4:=HBACK.out _ _ _ W h3;have e:xs++encT (cols,L,next)=ys++encI L:=by rw [<-HYS.out];simp only [encT,List.append_assoc]
      rw [e];exact h4
     clear hW;dsimp only;go_wp2;exact HK.out (g - 1) _ _ (by have:=Hgk.out;omega) ⟨k+1,Dn::Ds,_,_,_,_,_,_,_,_,_,_,_,_,_,_,_,_,_,_,_,_,_,_,_,_,_,_,_,_,_,_,_,_,_,_,_,_,_,by have:=Hgk.out;omega,rfl,H3⟩
  · obtain rfl:k=n:=by omega
    have hall:D.take k=D:=List.take_of_length_le (by rw [<-HQ.out.tlen,HN.out];exact Nat.le_refl _);rw [hall] at Hs;obtain ⟨v,h3⟩:=St.wr.1 Hs.out;obtain ⟨_,hr⟩:=h3.has 1 rfl;obtain ⟨ya,ym,yc,rfl⟩:=sl_shape hr;obtain ⟨_,hb1⟩:=h3.has 0 rfl;obtain ⟨_,hb2⟩:=h3.has 2 rfl;have a0:=(blk_get hb1).1 0;have al:=(blk_get hb1).2.2;have v0:=(blk_get hb2).1 0;have vl:=(blk_get hb2).2.2;simp only [List.getElem?_toArray,List.getElem?_cons_zero] at a0 v0;have HF:Hid (St w0 fp0 (Ds.map defA++(slA 5 (.slice ya ym yc) ((encD D).map u8C)::(dbP b ⟨sa,sc,ta,tc,td,ts⟩++((⟨sa,sc,ta,tc,td,ts⟩:StQ).ts.map tbA++R)))) w1):=by
     rw [<-HQQ.out];show St _ _ _ _;have h5:=((h3.drop).perm (List.Perm.swap _ _ _)).drop;refine h5.perm ?_
     classical exact List.perm_iff_count.2 λ a=> by simp only [List.count_append,List.count_cons] <;> omega
    clear h3 hr hb1 hb2 hgk Hs hall hk;go_wp2;exact bodyPostM_marks HF.out rfl λ w' hw'=> ⟨_,results_tmp rfl _ _ _,ya,ym,yc,rfl,hw'⟩
theorem encode_calls (b:Nat) (D:Db) (hD:EncOk D) (w0 w:World) (fp0:List Nat) (R:List Asn) (hS:St w0 fp0 (stA b D::R) w):
 Calls Tryz.prog 33 #[.pointer (some ⟨b,0,none⟩)] w λ e w'=> ∃a m c,e=.returned (.slice a m c)/\St w0 fp0 (slA 5 (.slice a m c) ((encD D).map u8C)::stA b D::R) w':=by
 obtain ⟨q,hq,hs⟩:=hS.openD;refine (encodeQ_calls b q D hq hD w0 w fp0 R hs).mono ?_;rintro e w' ⟨a,m,c,rfl,h⟩;exact ⟨a,m,c,rfl,(St.shutD hq h.sinkD).perm (List.Perm.swap _ _ _)⟩
end
theorem info_row:(Tryz.prog.info? 68).map (λ i=> (i.bytes,i.size,i.zero.map Value.cells))=some (32,3,some #[.int .i64 0, .int .i64 0, .string .empty]):=by kernel_rfl
theorem under_row:Tryz.prog.underlying 33=some (.slice 68):=by kernel_rfl
def zr (n:Nat):Rw:=List.replicate n ⟨0,0, .empty⟩
def mkC (n:Nat):Array Value:=madeCells #[.int .i64 0, .int .i64 0, .string .empty] (n * 3)
theorem make_row (n:Nat) (hn:n<=1000000) (w:World):Sem.run Tryz.prog (Instr.makeSlice 33 (.int .i64 (n:Int)) (.int .i64 (n:Int))) w=.ok (.slice (some ⟨w.heap.size,0,none⟩) n n) (w.alloc (.cells (mkC n) 68)):=by
 have h:=info_row;cases hi:Tryz.prog.info? 68 with
 | none=> rw [hi] at h;cases h
 | some i=>
  rw [hi] at h;simp only [Option.map_some,Option.some.injEq,Prod.mk.injEq] at h;obtain ⟨h1,h2,h3⟩:=h;cases hz:i.zero with
  | none=> rw [hz] at h3;cases h3
  | some z=>
   rw [hz] at h3;simp only [Option.map_some,Option.some.injEq] at h3;have hr:=run_make (P:=Tryz.prog) w 33 68 i z under_row hi hz .i64 .i64 n n (by omega) (by omega) (by rw [h1];omega) (by omega);simp only [Int.toNat_natCast] at hr;rw [h2,h3] at hr;exact hr
theorem mkC_flat (n:Nat):(mkC n).toList=flat (zr n):=by
 refine List.ext_getElem? λ i=> ?_;by_cases hi:i < n * 3
 · have h1:=flat_get (zr n) (i / 3) (by unfold zr;rw [List.length_replicate];omega) (i % 3) (by omega)
   rw [show i / 3 * 3+i % 3=i by omega] at h1;rw [h1];unfold mkC madeCells zr;rw [Array.getElem?_toList,Array.getElem?_map,Array.getElem?_range,if_pos hi,List.getElem_replicate];rcases (by omega:i % 3=0\/i % 3=1\/i % 3=2) with e | e | e <;> simp [e,Vl.cells]
 · rw [List.getElem?_eq_none (by unfold mkC;rw [Array.length_toList,size_madeCells];omega),List.getElem?_eq_none (by rw [length_flat];unfold zr;rw [List.length_replicate];omega)]
theorem zr_length (n:Nat):(zr n).length=n:=by unfold zr;rw [List.length_replicate]
theorem zr_stor (n:Nat):storB n (zr n)=true:=by
 unfold storB;rw [zr_length];simp only [decide_true,Bool.true_and,List.all_eq_true];intro v hv;rw [List.eq_of_mem_replicate hv];rfl
theorem zr_i64 (n:Nat):∀v∈zr n,I64 v.int:=λ v hv=> by
 rw [List.eq_of_mem_replicate hv];unfold I64;exact ⟨by decide,by decide⟩
theorem zr_vals (n:Nat) (hn:n<=1000000) {w:World} {b:Nat} {f:List Nat} (h:(blkA b 68 (mkC n)).p w f):ValsAt w (zr n) (.slice (some ⟨b,0,none⟩) n n):=by
 have e:=zr_length n;have h0:(ByteArray.empty).size=0:=rfl;refine ⟨?_,λ v hv=> by rw [List.eq_of_mem_replicate hv,h0];unfold maxLen;omega⟩;rw [e,<-mkC_flat];exact SlX.of_blk h.1 (by simp) (by unfold maxLen;omega) (by unfold mkC;rw [size_madeCells])
theorem adv_put {L:LL} {cols:Nat} {nx next:Int} (hx:∀x∈L,x.1 < nx) (h:nx < next) (h1:1<=nx) (hm:next<=4611686018427387905):putOk cols (next - 1) (zr cols)=true/\putN cols (next - 1) (zr cols) nx=next/\delL (next - 1) (putLL cols (next - 1) (zr cols) L)=L:=by
 have hp:putOk cols (next - 1) (zr cols)=true:=by unfold putOk;rw [zr_stor,decide_eq_true (by omega)];rfl
 have ha:∀a∈L,a.1 < next - 1:=λ a ha=> by have:=hx a ha;omega
 refine ⟨hp,?_,?_⟩
 · unfold putN
   rw [if_pos hp];omega
 · unfold putLL
   rw [if_pos hp];have e1:=putL_split (A:=L) (B:=[]) ha (by simp) (zr cols);rw [List.append_nil] at e1;rw [e1];have e2:=delL_split1 (A:=L) (B:=[]) ha (by simp) (e:=(next - 1,zr cols)) rfl;rw [List.append_nil] at e2;exact e2
theorem advance_calls (b k:Nat) (q:StQ) (D:Db) (hq:q.Ok D) (hk:k < q.ts.length) (L:LL) (nx next:Int) (hle:nx<=next) (hmx:next<=4611686018427387905) (hlen:L.length < 1000000000) (w0 w:World) (fp0:List Nat) (R:List Asn)
 (hS:St w0 fp0 (storeA q.ts[k].S q.ts[k].cols q.ts[k].I L nx::(dbP b q++((q.ts.eraseIdx k).map tbA++R))) w):
 Calls Tryz.prog 107 #[.pointer (some ⟨b,0,none⟩), .int .i64 k, .int .i64 next] w λ e w'=> e=.returned (.bool true)/\St w0 fp0 (storeA q.ts[k].S q.ts[k].cols q.ts[k].I L next::(dbP b q++((q.ts.eraseIdx k).map tbA++R))) w':=by
 have hkd:k < q.td.length:=by rw [hq.dlen,<-hq.tlen];exact hk
 have htd:=hq.tdn k hk hkd;have hcl:q.ts[k].cols<=1000000:=by have:=(hq.sm _ (List.getElem_mem hkd)).n;rw [htd] at this;omega
 obtain ⟨_,hst⟩:=hS.has 0 rfl;have hok:=storeA_ok hst;obtain ⟨d0,d1,dl,dsc,dsl⟩:=db_get hS.drop;obtain ⟨b',o,tc,etv,p0⟩:=dsl.some (j:=k) (u:=ptrV q.ts[k].S) (by rw [List.getElem?_map,List.getElem?_eq_getElem hk];rfl);rw [etv,List.length_map] at d1;have pl:=World.block_lt_of_cell? w _ p0;have hk':(k:Int) < q.ts.length:=by omega
 have hkt:(k:Int) < q.td.length:=by omega
 have hkz:(0:Int)<=k:=by omega
 have HP:=λ h=> Lib.hid (adv_put (cols:=q.ts[k].cols) (λ x hx=> (hok.2.2 x hx).2.1) (nx:=nx) (next:=next) h hok.2.1.1 hmx);have HNX:∀w',Below w.heap.size w w'->Calls Tryz.prog 41 #[ptrV q.ts[k].S] w' λ e w2=> e=.returned (.int .i64 nx)/\w'=w2:=λ w' hb=> by obtain ⟨_,hst⟩:=(hS.mono hb).has 0 rfl;exact Next_calls hst
 have HN:=Lib.hid (HNX w (Below.refl _ _));have HN3:Hid (∀w',St w0 fp0 (storeA q.ts[k].S q.ts[k].cols q.ts[k].I L next::(dbP b q++((q.ts.eraseIdx k).map tbA++R))) w'->Calls Tryz.prog 41 #[ptrV q.ts[k].S] w' λ e w2=> e=.returned (.int .i64 next)/\w'=w2):=λ w' hs=> by obtain ⟨_,hst⟩:=hs.has 0 rfl;exact Next_calls hst
 have HS:=Lib.hid hS;obtain ⟨sb,so,sc,esv,sbl, -,p1, -⟩:=dsc.cells k hkd;rw [esv] at d0;rw [htd] at p1;have hmk:=make_row q.ts[k].cols hcl;have HCL:=Lib.hid hcl;have HID:Hid (nx < next->I64 (next - 1)):=λ h=> by have:=hok.2.1.1;unfold I64;omega
 clear hS hst hok dsc dsl etv esv htd hq hcl HNX;unfold ptrV at *;generalize q.td[k].ca=ca at *;generalize q.td[k].cc=cc at *;generalize q.td.length=m at *;generalize q.ts[k]=T at *;generalize dbP b q++((q.ts.eraseIdx k).map tbA++R)=F at *;clear hkd hk;generalize q.ts.length=n at *;go_enter Tryz.func107,Tryz.ntmps107;go_upto_region 2 with (fail)
 by_cases hlt:nx < next
 · have HPP:=HP hlt
   have hid:=HID.out hlt;go_wp2_with fail;(with_reducible refine HN.out.mono ?_);rintro e w1 ⟨rfl,rfl⟩;have hw:wrap64 (next - 1)=next - 1:=by unfold I64 at hid;unfold wrap64;omega
   have HSP:Hid (Calls Tryz.prog 52 #[.pointer (some ⟨T.S,0,none⟩), .int .i64 (next - 1), .slice (some ⟨w.heap.size,0,none⟩) T.cols T.cols] (w.alloc (.cells (mkC T.cols) 68)) λ e w'=> e=.returned (errV true)/\St w0 fp0 (storeA T.S T.cols T.I (putLL T.cols (next - 1) (zr T.cols) L) next::(blkA w.heap.size 68 (mkC T.cols)::F)) w'):=by have h:=SPut_calls T.S T.cols T.I L nx (next - 1) (zr T.cols) (.slice (some ⟨w.heap.size,0,none⟩) T.cols T.cols) hid (zr_i64 _) HCL.out (by omega) w0 (w.alloc (.cells (mkC T.cols) 68)) fp0 (blkA w.heap.size 68 (mkC T.cols)::F) (Rd.of_piece 0 rfl λ w f hf=> zr_vals _ HCL.out hf) ((HS.out.newblk 68 (mkC T.cols)).perm (List.Perm.swap _ _ _));rw [HPP.out.1,HPP.out.2.1] at h;exact h
   unfold errV at HSP;go_upto_region 3 with (fail)
   go_wp2_with fail;rw [hw];(with_reducible refine HSP.out.mono ?_);rintro e w2 ⟨rfl,h2⟩;have HSD:=Lib.hid (SDelete_calls T.S T.cols T.I _ next (next - 1) hid HCL.out (by
    unfold putLL;rw [if_pos HPP.out.1];have e1:(putL' (next - 1) (zr T.cols) L).length<=L.length+L.length+1:=by unfold putL';have h1:=List.length_filter_le (λ e:Int×Rw=> decide (e.1 < next - 1)) L;have h2:=List.length_filter_le (λ e:Int×Rw=> decide (next - 1 < e.1)) L;simp only [List.length_append,List.length_cons];omega
    omega) w0 w2 fp0 _ h2)
   clear h2 HS HSP p0 p1 d0 d1 dl pl sbl;unfold ptrV at HSD;go_wp2_with fail;rw [hw];(with_reducible refine HSD.out.mono ?_);rintro e w3 ⟨dv,rfl,h3⟩;rw [HPP.out.2.2] at h3;have H3:=Lib.hid (h3.drop.perm (List.Perm.swap _ _ _)).drop;have HN4:=Lib.hid (HN3.out _ H3.out);clear h3 HSD HN3;go_wp2_with fail;(with_reducible refine HN4.out.mono ?_);rintro e w4 ⟨rfl,rfl⟩;clear HN4;go_wp2;go_ret;exact ⟨rfl,H3.out⟩
 · have he:nx=next:=by omega
   subst he;go_wp2_with fail;(with_reducible refine HN.out.mono ?_);rintro e w1 ⟨rfl,rfl⟩;clear HN3 HP HID;go_upto_region 5 with (fail)
   go_wp2_with fail;(with_reducible refine HN.out.mono ?_);rintro e w1 ⟨rfl,rfl⟩;go_wp2;go_ret;exact ⟨rfl,HS.out⟩
section
structure ItOk (c:Nat) (next:Int) (x:Int×Rw):Prop where
 lo:1<=x.1
 hi:x.1 < next
 row:RowOk c x.2
 len:I64 (encR x.2).length
structure TabOk (t:Nat×LL×Int):Prop where
 lo:1<=t.2.2
 hi:t.2.2<=4611686018427387905
 n:I64 (t.2.1.length:Nat)
 a:AscI t.2.1
 r:∀x∈t.2.1,ItOk t.1 t.2.2 x
theorem ItOk.i64 {c:Nat} {next:Int} {x:Int×Rw} (h:ItOk c next x) (hn:next<=4611686018427387905):I64 x.1:=by
 have:=h.lo;have:=h.hi;unfold I64;omega
def TabG (l:List UInt8) (t:Nat×LL×Int) (m:List UInt8):Prop:=TabOk t/\l=encT t++m
theorem encI_pre {P:Int×Rw->Prop} (hP:∀x,P x->I64 x.1/\RowV x.2/\I64 (encR x.2).length):∀{d l:LL} {m m':List UInt8},(∀x∈d,P x)->(∀x∈l,P x)->d.length<=l.length->encI l++m'=encI d++m->∃l',l=d++l'/\encI l'++m'=m
 | [],l,m,m',_,_,_,h=> ⟨l,rfl,h⟩
 | x::d,[],m,m',_,_,hl,_=> absurd hl (by simp)
 | x::d,y::l,m,m',hd,hl,hn,h=> by have e1:encI (x::d)=numL x.1++rowB x.2++encI d:=rfl;have e2:encI (y::l)=numL y.1++rowB y.2++encI l:=rfl;rw [e1,e2] at h;simp only [List.append_assoc] at h;obtain ⟨x1,x2,x3⟩:=hP x (hd x (by simp));obtain ⟨y1,y2,y3⟩:=hP y (hl y (by simp));obtain ⟨f1,f2⟩:=NumG.uniq (l:=numL y.1++(rowB y.2++(encI l++m'))) ⟨y1,rfl⟩ ⟨x1,h⟩;obtain ⟨f3,f4⟩:=RowG.uniq (l:=rowB y.2++(encI l++m')) ⟨y2,y3,rfl⟩ ⟨x2,x3,f2⟩;obtain ⟨l',g1,g2⟩:=encI_pre hP (d:=d) (l:=l) (λ z hz=> hd z (by simp [hz])) (λ z hz=> hl z (by simp [hz])) (by simpa using hn) f4;exact ⟨l',by rw [g1];cases x;cases y;simp only at f1 f3;rw [f1,f3];rfl,g2⟩
structure TMid (b:List UInt8) (c:Nat) (next cnt:Int) (L:LL) (last:Int) (l:List UInt8):Prop where
 lo:1<=next
 hi:next<=4611686018427387905
 n:0<=cnt
 i:I64 (L.length+cnt)
 e:b=numL next++(numL (L.length+cnt)++(encI L++l))
 a:AscI L
 r:∀x∈L,ItOk c next x
 q:∀x∈L,x.1<=last
 la:(L=[]/\last=0)\/∃r,(last,r)∈L
 lt:0<=last/\last < next
section
variable {b l m:List UInt8} {c:Nat} {next cnt last:Int} {L:LL}
def NoTab (b:List UInt8) (c:Nat):Prop:=∀t m,t.1=c->¬ TabG b t m
theorem NoTab.num1 (h:∀n m,¬ NumG b n m):NoTab b c:=λ t m _ ⟨g,e⟩=> by
 refine h t.2.2 _ ⟨?_,by rw [e,encT,List.append_assoc]⟩;have:=g.lo;have:=g.hi;unfold I64;omega
theorem TabG.nums {t:Nat×LL×Int} (h:TabG b t m):NumG b t.2.2 (numL t.2.1.length++(encI t.2.1++m))/\NumG (numL t.2.1.length++(encI t.2.1++m)) (t.2.1.length:Nat) (encI t.2.1++m):=by
 obtain ⟨g,e⟩:=h;refine ⟨⟨?_,by rw [e,encT];simp only [List.append_assoc]⟩,g.n,rfl⟩;have:=g.lo;have:=g.hi;unfold I64;omega
theorem NoTab.num2 {x:List UInt8} (h1:NumG b next x) (h:∀n m,¬ NumG x n m):NoTab b c:=λ t m _ g=> by
 obtain ⟨g1,g2⟩:=g.nums;obtain ⟨-,rfl⟩:=h1.uniq g1;exact h _ _ g2
theorem NoTab.range {x:List UInt8} (h1:NumG b next x) (h2:NumG x cnt l) (h:¬ (1<=next/\next<=4611686018427387905/\0<=cnt)):NoTab b c:=λ t m _ g=> by
 obtain ⟨g1,g2⟩:=g.nums;obtain ⟨e1,rfl⟩:=h1.uniq g1;obtain ⟨e2, -⟩:=h2.uniq g2;refine h ⟨e1 ▸ g.1.lo,e1 ▸ g.1.hi,?_⟩;omega
theorem TMid.start {x:List UInt8} (h1:NumG b next x) (h2:NumG x cnt l) (hlo:1<=next) (hhi:next<=4611686018427387905) (hn:0<=cnt):TMid b c next cnt [] 0 l:=
 ⟨hlo,hhi,hn,by have:=h2.1;simp only [List.length_nil];unfold I64 at *;omega,by
  have e:(((([]:LL).length:Nat):Int)+cnt)=cnt:=by simp
  rw [e,h1.2,h2.2];rfl, .nil,(λ x hx=> nomatch hx),(λ x hx=> nomatch hx), .inl ⟨rfl,rfl⟩,by omega⟩
theorem TMid.step {id:Int} {r:Rw} {m1 m2:List UInt8} (h:TMid b c next cnt L last l) (hc:0 < cnt) (h1:NumG l id m1) (h2:RowG m1 r m2) (hl:last < id) (hn:id < next) (hr:RowOk c r):TMid b c next (cnt - 1) (L++[(id,r)]) id m2:=by
 have e:(((L++[(id,r)]).length:Nat):Int)+(cnt - 1)=L.length+cnt:=by rw [List.length_append,List.length_singleton];omega
 have hlt:=h.lt;have hit:ItOk c next (id,r):=⟨by simp only;omega,hn,hr,h2.2.1⟩
 refine ⟨h.lo,h.hi,by omega,by rw [e];exact h.i,?_,?_,?_,?_, .inr ⟨r,by simp⟩,by omega⟩
 · rw [e,h.e,h1.2,h2.2.2,encI_snoc]
   simp only [List.append_assoc]
 · refine List.pairwise_append.2 ⟨h.a,List.pairwise_singleton _ _,λ x hx y hy=> ?_⟩
   rw [List.mem_singleton.1 hy];have:=h.q x hx;simp only;omega
 · intro x hx
   rcases List.mem_append.1 hx with hx | hx
   · exact h.r x hx
   · rw [List.mem_singleton.1 hx]
     exact hit
 · intro x hx
   rcases List.mem_append.1 hx with hx | hx
   · have:=h.q x hx
     omega
   · rw [List.mem_singleton.1 hx]
     exact Int.le_refl _
theorem it_wf (next:Int) (hn:next<=4611686018427387905) (c:Nat):∀x,ItOk c next x->I64 x.1/\RowV x.2/\I64 (encR x.2).length:=λ _ h=> ⟨h.i64 hn,h.row.2,h.len⟩
theorem TMid.all (h:TMid b c next cnt L last l) {t:Nat×LL×Int} (ht:t.1=c) (g:TabG b t m):t.2.2=next/\∃l',t.2.1=L++l'/\(l'.length:Int)=cnt/\encI l'++m=l:=by
 obtain ⟨g1,g2⟩:=g.nums;have hn:I64 next:=by have:=h.lo;have:=h.hi;unfold I64;omega
 obtain ⟨e1,e2⟩:=NumG.uniq (l:=b) ⟨hn,h.e⟩ g1;obtain ⟨e3,e4⟩:=NumG.uniq (l:=numL t.2.1.length++(encI t.2.1++m)) ⟨h.i,e2.symm⟩ g2;have hr:=g.1.r;rw [ht,<-e1] at hr;obtain ⟨l',f1,f2⟩:=encI_pre (it_wf next h.hi c) h.r hr (by have:=h.n;omega) e4.symm;refine ⟨e1.symm,l',f1,?_,f2⟩;have:=congrArg List.length f1;rw [List.length_append] at this;omega
theorem TMid.bad (h:TMid b c next cnt L last l) (hc:0 < cnt) (hb:∀id r m1 m2,NumG l id m1->RowG m1 r m2->last < id->id < next->RowOk c r->False):NoTab b c:=λ t m ht g=> by
 obtain ⟨e1,l',e2,e3,e4⟩:=h.all ht g;cases l' with
 | nil=> simp at e3;omega
 | cons x l'=>
  have hx:=g.1.r x (by rw [e2];simp);rw [ht,e1] at hx;have e5:encI (x::l')=numL x.1++rowB x.2++encI l':=rfl;rw [e5] at e4;simp only [List.append_assoc] at e4;refine hb x.1 x.2 _ (encI l'++m) ⟨hx.i64 h.hi,e4.symm⟩ ⟨hx.row.2,hx.len,rfl⟩ ?_ hx.hi hx.row;rcases h.la with ⟨-,e⟩ | ⟨r,hr⟩
  · have:=hx.lo
    omega
  · have ha:=g.1.a
    rw [e2] at ha;exact (List.pairwise_append.1 ha).2.2 _ hr x (by simp)
theorem TMid.done (h:TMid b c next 0 L last l):TabG b (c,L,next) l:=by
 have e:((L.length:Nat):Int)+0=L.length:=by omega
 have hi:=h.i;have he:=h.e;rw [e] at hi he;refine ⟨⟨h.lo,h.hi,hi,h.a,h.r⟩,?_⟩;rw [he,encT];simp only [List.append_assoc]
theorem TabOk.mid {t:Nat×LL×Int} (h:TabG b t m):∃last,TMid b t.1 t.2.2 0 t.2.1 last m:=by
 have hn:((t.2.1.length:Nat):Int)+0=t.2.1.length:=by omega
 have key:∃last,(∀x∈t.2.1,x.1<=last)/\((t.2.1=[]/\last=0)\/∃r,(last,r)∈t.2.1):=by
  rcases List.eq_nil_or_concat t.2.1 with e | ⟨d,x,e⟩
  · exact ⟨0,by rw [e];exact (λ x hx=> nomatch hx), .inl ⟨e,rfl⟩⟩
  · rw [List.concat_eq_append] at e
    refine ⟨x.1,λ y hy=> ?_, .inr ⟨x.2,by rw [e];simp⟩⟩;rw [e] at hy;rcases List.mem_append.1 hy with hy | hy
    · have ha:=h.1.a
      rw [e] at ha;exact Int.le_of_lt ((List.pairwise_append.1 ha).2.2 y hy x (by simp))
    · rw [List.mem_singleton.1 hy]
      exact Int.le_refl _
 obtain ⟨last,h1,h2⟩:=key;refine ⟨last,h.1.lo,h.1.hi,Int.le_refl _,by rw [hn];exact h.1.n,by rw [hn,h.2,encT];simp only [List.append_assoc],h.1.a,h.1.r,h1,h2,?_⟩;have:=h.1.lo;rcases h2 with ⟨-,rfl⟩ | ⟨r,hr⟩
 · omega
 · have g:=h.1.r _ hr
   have:=g.lo;have:=g.hi;simp only at *;omega
theorem TabG.uniq {t t':Nat×LL×Int} {m':List UInt8} (h:TabG b t m) (h':TabG b t' m') (hc:t.1=t'.1):t=t'/\m=m':=by
 obtain ⟨last,g⟩:=TabOk.mid h;obtain ⟨e1,l',e2,e3,e4⟩:=g.all hc.symm h';have:l'=[]:=List.length_eq_zero_iff.1 (by omega);subst this;rw [List.append_nil] at e2;refine ⟨?_,e4.symm⟩;obtain ⟨c,L,n⟩:=t;obtain ⟨c',L',n'⟩:=t';simp only at *;rw [hc,e1,e2]
theorem TMid.lens (h:TMid b c next cnt L last l):L.length+l.length<=b.length:=by
 have h1:∀L:LL,L.length<=(encI L).length:=by
  intro L
  induction L with
  | nil=> simp
  | cons x L ih=>
   have e:encI (x::L)=numL x.1++rowB x.2++encI L:=rfl;rw [e];simp only [List.length_append,numL_length,List.length_cons];omega
 have h2:=congrArg List.length h.e;have:=h1 L;simp only [List.length_append] at h2;omega
end
def TabS (c:Nat):Option (List UInt8)->Nat×LL×Int->Option (List UInt8)->Prop
 | none,_,o=> o=none
 | some l,t,o=> (∃m,TabG l t m/\o=some m)\/(o=none/\NoTab l c)
def DecD (ns:List Nat) (l:List UInt8):Option Db->Prop
 | some D=> D.map (·.1)=ns/\(∀t∈D,TabOk t)/\l=encD D
 | none=> ∀D:Db,D.map (·.1)=ns->(∀t∈D,TabOk t)->l≠encD D
theorem encD_cons (t:Nat×LL×Int) (D:Db):encD (t::D)=encT t++encD D:=rfl
theorem encD_app (D E:Db):encD (D++E)=encD D++encD E:=List.flatMap_append
theorem encD_pre:∀{d D:Db} {m m':List UInt8},(∀t∈d,TabOk t)->(∀t∈D,TabOk t)->d.map (·.1)=(D.map (·.1)).take d.length->encD D++m'=encD d++m->∃D',D=d++D'/\encD D'++m'=m
 | [],D,m,m',_,_,_,h=> ⟨D,rfl,h⟩
 | t::d,[],m,m',_,_,hl,_=> absurd hl (by simp)
 | t::d,u::D,m,m',hd,hD,hn,h=> by rw [encD_cons,encD_cons,List.append_assoc,List.append_assoc] at h;simp only [List.map_cons,List.length_cons,List.take_succ_cons,List.cons.injEq] at hn;obtain ⟨e1,e2⟩:=TabG.uniq (b:=encT u++(encD D++m')) ⟨hD u (by simp),rfl⟩ ⟨hd t (by simp),h⟩ hn.1.symm;obtain ⟨D',g1,g2⟩:=encD_pre (d:=d) (D:=D) (λ z hz=> hd z (by simp [hz])) (λ z hz=> hD z (by simp [hz])) hn.2 e2;exact ⟨D',by rw [g1,e1];rfl,g2⟩
theorem DecD.uniq {ns:List Nat} {l:List UInt8} {p q:Option Db} (hp:DecD ns l p) (hq:DecD ns l q):p=q:=by
 cases p with
 | none=> cases q with
  | none=> rfl
  | some r=> exact absurd hq.2.2 (hp r hq.1 hq.2.1)
 | some d=> cases q with
  | none=> exact absurd hp.2.2 (hq d hp.1 hp.2.1)
  | some D=>
   obtain ⟨h1,h2,h3⟩:=hp;obtain ⟨g1,g2,g3⟩:=hq;have hl:d.length=D.length:=by rw [<-List.length_map (f:=λ t:Nat×LL×Int=> t.1),h1,<-g1,List.length_map]
   obtain ⟨D',e1, -⟩:=encD_pre (d:=d) (D:=D) (m:=[]) (m':=[]) h2 g2 (by rw [h1,<-g1,List.take_of_length_le (by rw [List.length_map];omega)]) (by rw [<-g3,<-h3]);have:=congrArg List.length e1;rw [List.length_append] at this;have:D'=[]:=List.length_eq_zero_iff.1 (by omega);rw [e1,this,List.append_nil]
end
theorem take_callsP (p:Nat) (v:Value) (o:Option (List UInt8)) (n:Int) (hn:I64 n) (w0 w:World) (fp0:List Nat) (R B:List Asn) (hS:St w0 fp0 (rdrA p 126 v o::R) w) (hR:RdrP w0 fp0 B v o):
 Calls Tryz.prog 98 #[.pointer (some ⟨p,0,none⟩), .int .i64 n] w λ e w'=> TakeP w0 fp0 R B p 126 o n e w':=by
 obtain ⟨_,hp⟩:=hS.has 0 rfl;have c0:=(blk_get hp).1 0;have c1:=(blk_get hp).1 1;have cl:=(blk_get hp).2.2;simp only [List.getElem?_toArray,List.getElem?_cons_zero,List.getElem?_cons_succ] at c0 c1;have f0:=(blk_get hp).2.1 0;have f1:=(blk_get hp).2.1 1;have HSET:=Lib.hid (λ i hi u=> St.setB hS i hi u);clear hp;cases o with
 | none=>
  have c1:w.cell? ⟨p,1,none⟩=some (.bool true):=c1;have HF:Hid (TakeP w0 fp0 R B p 126 none n (.returned (.slice none 0 0)) (w.setCell ⟨p,1,none⟩ (.bool true))):=TakeP.none' (HSET.out 1 (by simp) (.bool true)) ⟨rfl,rfl⟩;clear HSET hS hR;go_enter Tryz.func98,Tryz.ntmps98;go_wp2;go_ret;exact HF.out
 | some l=>
  have c1:w.cell? ⟨p,1,none⟩=some (.bool false):=c1;obtain ⟨⟨a,c,rfl,hcap,hcm⟩,hR⟩:=hR;unfold maxLen at hcm;by_cases h0:0<=n
  · by_cases h1:n<=l.length
    · obtain ⟨k,rfl⟩:∃k:Nat,n=k:=⟨n.toNat,by omega⟩
      have hk:k<=l.length:=by omega
      have hkc:k<=c:=by omega
      have HF:Hid (∀b,(b=(a.map λ x=> x.add k)\/k=l.length)->TakeP w0 fp0 R B p 126 (some l) k (.returned (.slice a k c)) (w.setCell ⟨p,0,none⟩ (.slice b (l.length - k) (c - k)))):=
       λ b hb=> TakeP.some' hR hk hcap hcm hb (HSET.out 0 (by simp) _)
      clear HSET hS hR;go_enter Tryz.func98,Tryz.ntmps98;by_cases hck:c=k
      · obtain rfl:k=l.length:=by omega
        subst hck;go_wp2;go_ret;have h:=HF.out a (by simp)
        first | exact h | (rw [Nat.sub_self] at h;exact h)
      · go_wp2
        go_ret;exact HF.out _ (.inl rfl)
    · have HF:Hid (TakeP w0 fp0 R B p 126 (some l) n (.returned (.slice none 0 0)) (w.setCell ⟨p,1,none⟩ (.bool true))):=TakeP.none' (HSET.out 1 (by simp) (.bool true)) (.inr ⟨by omega,rfl,rfl⟩)
      clear HSET hS hR;have h2:(l.length:Int) < n:=by omega
      go_enter Tryz.func98,Tryz.ntmps98;go_wp2;go_ret;exact HF.out
  · have HF:Hid (TakeP w0 fp0 R B p 126 (some l) n (.returned (.slice none 0 0)) (w.setCell ⟨p,1,none⟩ (.bool true))):=TakeP.none' (HSET.out 1 (by simp) (.bool true)) (.inr ⟨by omega,rfl,rfl⟩)
    clear HSET hS hR;have h2:n < 0:=by omega
    go_enter Tryz.func98,Tryz.ntmps98;go_wp2;go_ret;exact HF.out
theorem take_callsR (p:Nat) (v:Value) (o:Option (List UInt8)) (n:Int) (hn:I64 n) (w0 w:World) (fp0:List Nat) (R B:List Asn) (hS:St w0 fp0 (rdrA p 130 v o::R) w) (hR:RdrP w0 fp0 B v o):
 Calls Tryz.prog 100 #[.pointer (some ⟨p,0,none⟩), .int .i64 n] w λ e w'=> TakeP w0 fp0 R B p 130 o n e w':=by
 obtain ⟨_,hp⟩:=hS.has 0 rfl;have c0:=(blk_get hp).1 0;have c1:=(blk_get hp).1 1;have cl:=(blk_get hp).2.2;simp only [List.getElem?_toArray,List.getElem?_cons_zero,List.getElem?_cons_succ] at c0 c1;have f0:=(blk_get hp).2.1 0;have f1:=(blk_get hp).2.1 1;have HSET:=Lib.hid (λ i hi u=> St.setB hS i hi u);clear hp;cases o with
 | none=>
  have c1:w.cell? ⟨p,1,none⟩=some (.bool true):=c1;have HF:Hid (TakeP w0 fp0 R B p 130 none n (.returned (.slice none 0 0)) (w.setCell ⟨p,1,none⟩ (.bool true))):=TakeP.none' (HSET.out 1 (by simp) (.bool true)) ⟨rfl,rfl⟩;clear HSET hS hR;go_enter Tryz.func100,Tryz.ntmps100;go_wp2;go_ret;exact HF.out
 | some l=>
  have c1:w.cell? ⟨p,1,none⟩=some (.bool false):=c1;obtain ⟨⟨a,c,rfl,hcap,hcm⟩,hR⟩:=hR;unfold maxLen at hcm;by_cases h0:0<=n
  · by_cases h1:n<=l.length
    · obtain ⟨k,rfl⟩:∃k:Nat,n=k:=⟨n.toNat,by omega⟩
      have hk:k<=l.length:=by omega
      have hkc:k<=c:=by omega
      have HF:Hid (∀b,(b=(a.map λ x=> x.add k)\/k=l.length)->TakeP w0 fp0 R B p 130 (some l) k (.returned (.slice a k c)) (w.setCell ⟨p,0,none⟩ (.slice b (l.length - k) (c - k)))):=
       λ b hb=> TakeP.some' hR hk hcap hcm hb (HSET.out 0 (by simp) _)
      clear HSET hS hR;go_enter Tryz.func100,Tryz.ntmps100;by_cases hck:c=k
      · obtain rfl:k=l.length:=by omega
        subst hck;go_wp2;go_ret;have h:=HF.out a (by simp)
        first | exact h | (rw [Nat.sub_self] at h;exact h)
      · go_wp2
        go_ret;exact HF.out _ (.inl rfl)
    · have HF:Hid (TakeP w0 fp0 R B p 130 (some l) n (.returned (.slice none 0 0)) (w.setCell ⟨p,1,none⟩ (.bool true))):=TakeP.none' (HSET.out 1 (by simp) (.bool true)) (.inr ⟨by omega,rfl,rfl⟩)
      clear HSET hS hR;have h2:(l.length:Int) < n:=by omega
      go_enter Tryz.func100,Tryz.ntmps100;go_wp2;go_ret;exact HF.out
  · have HF:Hid (TakeP w0 fp0 R B p 130 (some l) n (.returned (.slice none 0 0)) (w.setCell ⟨p,1,none⟩ (.bool true))):=TakeP.none' (HSET.out 1 (by simp) (.bool true)) (.inr ⟨by omega,rfl,rfl⟩)
    clear HSET hS hR;have h2:n < 0:=by omega
    go_enter Tryz.func100,Tryz.ntmps100;go_wp2;go_ret;exact HF.out
theorem conv_bytes {w:World} {x:List UInt8} {u:Value} (h:BytesX [] w x u):(convert 52 9 u).run Tryz.prog w=.ok (.string (textOf x)) w:=by
 obtain ⟨h1,h2,a,c,rfl,h4⟩:=h;cases a with
 | none=>
  have hx:x=[]:=by
   cases x with
   | nil=> rfl
   | cons b x=>
    obtain ⟨_,_,e, -⟩:=h4 0 (by simp);cases e
  subst hx;rw [List.length_nil,run_convert_bytes_string w 52 9 5 none _ c (by kernel_rfl) (by kernel_rfl) (by kernel_rfl)];rfl
 | some ad=>
  refine run_convert_bytes_back w 52 9 5 ad c x (by kernel_rfl) (by kernel_rfl) (by kernel_rfl) λ j hj=> ?_;obtain ⟨b,o,e1, -,e3⟩:=h4 j (by rw [List.length_map];exact hj);obtain rfl:=Option.some.inj e1;rw [add_plain,e3];simp [u8C]
theorem parse0_calls (w:World):Calls Tryz.prog 97 #[.string ⟨#[]⟩] w λ e w'=> e=.returned (.tuple #[.int .i64 0, .int .i64 2])/\w=w':=by
 go_enter Tryz.func97,Tryz.ntmps97;go_wp2;refine bodyPost_ret (v:=.tuple #[.int .i64 0, .int .i64 2]) (by simp [results,Tryz.results97,go_sem]) rfl ⟨rfl,rfl⟩
def NumP (w0:World) (fp0:List Nat) (R B:List Asn) (p:Nat) (t:TypeId) (o:Option (List UInt8)) (e:Ending) (w':World):Prop:=
 ∃n v o2,e=.returned (.int .i64 n)/\I64 n/\St w0 fp0 (rdrA p t v o2::R) w'/\RdrP w0 fp0 B v o2/\NumS o n o2
theorem TakeS.num {o o2:Option (List UInt8)} {x:List UInt8} (h:TakeS o 8 x o2):(x.length=8/\(∃m,o2=some m)/\NumS o (unL x) o2)\/(x=[]/\o2=none/\∀n,NumS o n none):=by
 cases o with
 | none=> exact .inr ⟨h.1,h.2,λ _=> rfl⟩
 | some l=>
  rcases h with ⟨k,e,hk,rfl,rfl⟩ | ⟨hl,rfl,rfl⟩
  · obtain rfl:k=8:=by omega
    exact .inl ⟨by rw [List.length_take];omega,⟨_,rfl⟩, .inl ⟨_,NumG.of hk,rfl⟩⟩
  · refine .inr ⟨rfl,rfl,λ n=> .inr ⟨rfl,λ n m g=> ?_⟩⟩
    have:=g.len;omega
theorem rdNumber_calls (p:Nat) (v:Value) (o:Option (List UInt8)) (w0 w:World) (fp0:List Nat) (R B:List Asn) (hB:∃M,R=M++B) (hS:St w0 fp0 (rdrA p 126 v o::R) w) (hR:RdrP w0 fp0 B v o):
 Calls Tryz.prog 64 #[.pointer (some ⟨p,0,none⟩)] w λ e w'=> NumP w0 fp0 R B p 126 o e w':=by
 have HT:=Lib.hid (take_callsP p v o 8 (by unfold I64;omega) w0 w fp0 R B hS hR);obtain ⟨M,hB⟩:=hB;clear hS hR;go_enter Tryz.func64,Tryz.ntmps64;go_wp2_with fail;(with_reducible refine HT.out.mono ?_);rintro e w1 ⟨u,v2,o2,x,rfl,h1,h2,h3,h4, -⟩;clear HT;have h3:BytesX [] w1 x u:=by rw [hB] at h1;exact h3 (_::M) w1 h1
 have hx:=conv_bytes h3;obtain ⟨ua,n,uc,rfl,hn0⟩:=h3.shape;obtain ⟨_,hp⟩:=h1.has 0 rfl;have c1:=(blk_get hp).1 1;have cl:=(blk_get hp).2.2;simp only [List.getElem?_toArray,List.getElem?_cons_zero,List.getElem?_cons_succ] at c1;have f1:=(blk_get hp).2.1 1;have HSET:=Lib.hid (λ i hi u=> St.setB h1 i hi u);have HR2:=Lib.hid h2;rcases h4.num with ⟨e8,⟨m,rfl⟩,hn⟩ | ⟨rfl,rfl,hn⟩
 · have c1:w1.cell? ⟨p,1,none⟩=some (.bool false):=c1
   obtain rfl:n=8:=by omega
   have HP:=Lib.hid (parse_calls x e8);have HF:Hid (NumP w0 fp0 R B p 126 o (.returned (.int .i64 (unL x))) (w1.setCell ⟨p,1,none⟩ (.bool false))):=⟨unL x,v2,some m,rfl,unL_i64 e8,HSET.out 1 (by simp) _,h2,hn⟩
   clear h1 h2 h3 h4 hp HSET HR2 hn e8 hn0;go_wp2_with fail;(with_reducible refine (HP.out _).mono ?_);rintro e w2 ⟨rfl,rfl⟩;clear HP hx;generalize unL x=z at *;go_wp2;go_ret;exact HF.out
 · have c1:w1.cell? ⟨p,1,none⟩=some (.bool true):=c1
   have HP:=Lib.hid parse0_calls;obtain rfl:n=0:=hn0;replace hx:(convert 52 9 (.slice ua 0 uc)).run Tryz.prog w1=.ok (.string ⟨#[]⟩) w1:=hx;have HF:Hid (NumP w0 fp0 R B p 126 o (.returned (.int .i64 0)) (w1.setCell ⟨p,1,none⟩ (.bool true))):=⟨0,v2,none,rfl,i64_0,HSET.out 1 (by simp) _,trivial,hn 0⟩
   clear h1 h2 h3 h4 hp HSET HR2 hn;go_wp2_with fail;(with_reducible refine (HP.out _).mono ?_);rintro e w2 ⟨rfl,rfl⟩;clear HP hx;go_wp2;go_ret;exact HF.out
theorem RdNumber_calls (p:Nat) (v:Value) (o:Option (List UInt8)) (w0 w:World) (fp0:List Nat) (R B:List Asn) (hB:∃M,R=M++B) (hS:St w0 fp0 (rdrA p 130 v o::R) w) (hR:RdrP w0 fp0 B v o):
 Calls Tryz.prog 66 #[.pointer (some ⟨p,0,none⟩)] w λ e w'=> NumP w0 fp0 R B p 130 o e w':=by
 have HT:=Lib.hid (take_callsR p v o 8 (by unfold I64;omega) w0 w fp0 R B hS hR);obtain ⟨M,hB⟩:=hB;clear hS hR;go_enter Tryz.func66,Tryz.ntmps66;go_wp2_with fail;(with_reducible refine HT.out.mono ?_);rintro e w1 ⟨u,v2,o2,x,rfl,h1,h2,h3,h4, -⟩;clear HT;have hb:BytesX [] w1 x u:=by rw [hB] at h1;exact h3 (_::M) w1 h1
 obtain ⟨ua,n,uc,rfl,hn⟩:=hb.shape;have HN:=Lib.hid hn;have HB:=Lib.hid hb;have HD:Hid ((n=8/\NumP w0 fp0 R B p 130 o (.returned (.int .i64 (unL x))) w1)\/(n=0/\NumP w0 fp0 R B p 130 o (.returned (.int .i64 (-9223372036854775808))) w1)):=by
  rcases h4.num with ⟨e8,⟨m,rfl⟩,hn'⟩ | ⟨rfl,rfl,hn'⟩
  · exact .inl ⟨hn.trans e8,unL x,v2,_,rfl,unL_i64 e8,h1,h2,hn'⟩
  · exact .inr ⟨hn, -9223372036854775808,v2,_,rfl,by unfold I64;omega,h1,h2,hn' _⟩
 have hn8:n<=8:=by rcases HD.out with h | h <;> omega
 clear h1 h2 h3 h4 hb hn;have h0:(0:Int)=((unN (x.take 0):Nat):Int):=rfl;go_upto_region 4 with (fail)
 go_loopg [3,5] n (λ g z3 z5 wr=> ∃k:Nat,z5=.int .i64 k/\z3=.int .u64 (unN (x.take k):Nat)/\g+k=n/\wr=w1)
 case atStart=> exact ⟨0,rfl,rfl,rfl,rfl⟩
 case round=>
  obtain ⟨k,rfl,rfl,hgk,rfl⟩:=hrel;clear h0;by_cases hk:k < n
  · have hkx:k < x.length:=by rw [<-HN.out];exact hk
    obtain ⟨b,o,rfl,hbl⟩:=HB.out.has (by omega);have hc:=HB.out.cell k hkx;have hkn:(k:Int) < n:=by omega
    have hu:unN (x.take k) < 2 ^ 56:=by have:=unN_lt (x.take k);rw [List.length_take] at this;refine Nat.lt_of_lt_of_le this ?_;have:(256:Nat) ^ min k x.length<=256 ^ 7:=Nat.pow_le_pow_right (by decide) (by omega);exact this
    have HST:=Lib.hid (unN_step hkx);have hy:=(x[k]'hkx).toNat_lt;generalize (x[k]'hkx).toNat=y at *;have h1:IntKind.u64.wrap (y:Int)=(y:Int):=by simp only [IntKind.wrap,IntKind.bits,IntKind.signed];simp;omega
    have Hgk:=Lib.hid hgk;generalize unN (x.take k)=s at *;have h2:IntKind.u64.wrap ((s:Int) * 256)=((s * 256:Nat):Int):=by simp only [IntKind.wrap,IntKind.bits,IntKind.signed];simp;omega
    have h3:IntKind.u64.wrap (((s * 256:Nat):Int)+(y:Int))=((s * 256+y:Nat):Int):=by simp only [IntKind.wrap,IntKind.bits,IntKind.signed];simp;omega
    clear hgk hkx;go_wp2;go_roundg (gk - 1)
    case rel=> exact ⟨k+1,by go_num,by rw [HST.out];first | rfl | (rw [<-h3];rfl),by have:=Hgk.out;omega,rfl⟩
    case measure=> have:=Hgk.out;omega
  · obtain rfl:k=n:=by omega
    have hl:x.take k=x:=List.take_of_length_le (by rw [<-HN.out];exact Nat.le_refl _);rw [hl];have hu:unN x < 2 ^ 64:=by have:=unN_lt x;refine Nat.lt_of_lt_of_le this ?_;have:(256:Nat) ^ x.length<=256 ^ 8:=Nat.pow_le_pow_right (by decide) (by rw [<-HN.out];exact hn8);exact this
    have hx:=xor_un _ hu;have HR:Hid (NumP w0 fp0 R B p 130 o (.returned (.int .i64 ((unN x:Int) - 9223372036854775808))) wr):=by
     rcases HD.out with ⟨-,h⟩ | ⟨h0,h⟩
     · exact h
     · have:x=[]:=List.length_eq_zero_iff.1 (by rw [<-HN.out];exact h0)
       subst this;exact h
    rw [wrapEq] at hx;rw [<-hx] at HR;clear hx;generalize unN x=u at *;go_wp2;go_ret;exact HR.out
def rgxq (P:Program) (F:Func) (id nt:Nat) (ks:List Nat) (inp:List (Nat×Value)) (inq:List (Nat×Value×Nat)) (vals:List Vf) (pcs:List Pc) (w0:World) (fp0:List Nat) (R:List Asn):Rg:=⟨P,opsR F id,nt,ks,inp,inq,vals,pcs,w0,fp0,R⟩
theorem Rg.Ob.substr (G:Rg) (i:Nat) (s s2:ByteArray) (n:Nat) (hn:n<=s.size) (hs:s.extract n s.size=s2) {ty:TypeId} {x y:Operand} (ht:G.P.underlying ty=some .string:=by kernel_rfl) (hop:(opAt G.ops i).op=.slice ty x (some y) none none:=by rfl) (hx:∀a,G.env i a x=.string s:=by intro _;exact kr (by kernel_rfl)) (hy:∀a,G.env i a y=.int .i64 (n:Int):=by intro _;exact kr (by kernel_rfl)) (hv:∀g,G.valD i g=.string s2:=by intro _;exact kr (by kernel_rfl))
 (hq:(G.quiet i G.pcs.length && G.okV i)=true:=by exact kr (by kernel_rfl)) (hw:∀a,wantE G.ops (opAt G.ops i) (G.env i a)=some true:=by intro _;exact kr (by kernel_rfl)):G.Ob i:=Rg.Ob.read G i hq hw λ _ a w _ _=> by
 have h1:(n:Int)<=s.size:=by omega
 have h2:¬ (s.size:Int) < n:=by omega
 rw [hv,<-hs];simp [execOp,hop,hx,hy,go_sem,h1,ht]
 try omega
def gDr7 (pv n m:Nat) (z:Value) (s s2 T:ByteArray) (K I:Int) (XS:List Value):=rgxq Tryz.prog Tryz.f99 7 32 [24,25,26,27,28,29,30,4,5] [(6,pV pv 0),(7, .int .i64 (m:Int))] [(4,z,7),(5, .string s,8)] (Vq 0 24 [Kv z,Kv (.agg #[.int .i64 K, .int .i64 I, .string T]),Vf.box,Vf.slice,Kv (.string s),Kv (.int .i64 (m:Int)),Kv (.string s2)]++Vq 7 4 [Fv [27] λ g=> .slice (sa (g 27)) (sn (g 27)) (sc (g 27)),Kv (.string s2)]) [Bk pv (68) [.int .i64 K, .int .i64 I, .string T], .new 2 [26] λ g=> boxsA 68 (g 26) #[.int .i64 K, .int .i64 I, .string T], .gen [3] [27] λ L g=> match L 3 with | true=> rowA 68 3 (g 27) (n+1) (XS++[.int .i64 K, .int .i64 I, .string T]) | false=> rowA 68 3 (z) n XS]
theorem rDr7 (pv n m:Nat) (z:Value) (s s2 T:ByteArray) (K I:Int) (XS:List Value) (w0:World) (fp0:List Nat) (R:List Asn) (hl:n+1 < 1099511627776) (hm:m<=s.size) (hs:s.extract m s.size=s2) {w:World} {c:Code} {a:Act} {Q:Exit->Act->World->Prop} (c1:isReg c=true) (c2:cops c=opsR Tryz.f99 7) (c3:a.tmps.size=32) (_c4:a.defers=a.defers) (i6:a.eval (.tmp 6)=.pointer (some ⟨pv,0,none⟩)) (i7:a.eval (.tmp 7)=.int .i64 (m:Int)) (i4:a.eval (.tmp 4)=z) (i5:a.eval (.tmp 5)=.string s)
 (hS:St w0 fp0 ([blkA pv (68) #[.int .i64 K, .int .i64 I, .string T],emp,rowA 68 3 (z) n XS]++R) w)
 (hQ:∀(u4 u26 u27:Value) (w1:World),(∃b,u26=.slice (some ⟨b,0,none⟩) 1 1)->(∃a n c,u27=.slice a n c)->u4=.slice (sa (u27)) (sn (u27)) (sc (u27))->St w0 fp0 ([blkA pv (68) #[.int .i64 K, .int .i64 I, .string T],boxsA 68 (u26) #[.int .i64 K, .int .i64 I, .string T],rowA 68 3 (u27) (n+1) (XS++[.int .i64 K, .int .i64 I, .string T])]++R) w1->Q .normal (putL a [(24,z),(25, .agg #[.int .i64 K, .int .i64 I, .string T]),(26,u26),(27,u27),(28, .string s),(29, .int .i64 (m:Int)),(30, .string s2),(4,u4),(5, .string s2)]) w1):c.wp Tryz.prog Q a w:=by
 have ok:(gDr7 pv n m z s s2 T K I XS w0 fp0 R).Ok 9:=Rg.ok _ 9 [1,2,3,6] ⟨.run1 _ 1 0 (λ _=> blkA pv 68 #[.int .i64 K, .int .i64 I, .string T]) (λ _ _=> blkA pv 68 #[.int .i64 K, .int .i64 I, .string T]) (λ L a w fp _ hp=> (by obtain ⟨h1, -, -⟩:=blk_get hp;exact ⟨.agg #[.int .i64 K, .int .i64 I, .string T],w,fp,exec_loads (cs:=[.int .i64 K, .int .i64 I, .string T]) (off:=0) rfl (kr (by kernel_rfl)) (kr (by kernel_rfl)) (kr (by kernel_rfl)) (λ j u hj=> (by rw [Nat.zero_add,h1 j];simpa using hj)),kr (by kernel_rfl),hp,Tr.refl _ _⟩)), .boxs _ 2 1, .appG _ 3 (λ g=> [blkA pv 68 #[.int .i64 K, .int .i64 I, .string T],boxsA 68 (g 26) #[.int .i64 K, .int .i64 I, .string T],rowA 68 3 (z) n XS]) (λ g v=> [blkA pv 68 #[.int .i64 K, .int .i64 I, .string T],boxsA 68 (g 26) #[.int .i64 K, .int .i64 I, .string T],rowA 68 3 (v) (n+1) (XS++[.int .i64 K, .int .i64 I, .string T])]) (λ ty g w h=> (by obtain ⟨fb,hfb⟩:=h.has 1 rfl;obtain ⟨v,w2,h1,h2⟩:=St.appSrc appW ty (St_re (L:=[_,_,_]) h [2,0,1] [] (by kernel_rfl)) (boxs_src (tx:=33) (e':=68) (by kernel_rfl) hfb rfl (by intro u hu;simp only [List.mem_cons,List.not_mem_nil,or_false] at hu;rcases hu with rfl | rfl | rfl <;> rfl)) (by omega);obtain ⟨_,hr⟩:=h2.has 0 rfl;obtain ⟨a,c,rfl, -⟩:=row_shape hr;exact ⟨_,w2,h1,kr (by kernel_rfl),St_re (L:=[_,_,_]) h2 [1,2,0] [] (by kernel_rfl)⟩)), .substr _ 6 s s2 m hm hs,trivial⟩;refine wp_regD ok (by kernel_rfl) ⟨c1,c2⟩ ⟨c3,λ p hp=> ?_⟩ hS λ A1 w1 N1 H1=> ?_
 · simp only [gDr7,rgxq,List.map_cons,List.map_nil,List.cons_append,List.nil_append,List.mem_cons,List.not_mem_nil,or_false] at hp
   rcases hp with rfl | rfl | rfl | rfl
   · exact i6
   · exact i7
   · exact i4
   · exact i5
 exact N1.fin [26,27,4] (hQ (slots A1 4) (slots A1 26) (slots A1 27) w1 ⟨_,(N1.val 2 rfl)⟩ ⟨_,_,_,(N1.val 3 rfl)⟩ (N1.val 7 rfl) H1) (by kernel_rfl)
end
end Go.Proofs.YtpdlkdoogojboaaGreat
