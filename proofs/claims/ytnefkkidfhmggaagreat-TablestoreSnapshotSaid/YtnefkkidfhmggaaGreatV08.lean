/- Part 8 of the proof: P4, Cq, Bu, Bt, It, Iu, So, Al, Tk7, Rs2, Tz, Ik -/
import Derived.Test.YtnefkkidfhmggaaGreatV02
import Derived.Test.YtnefkkidfhmggaaGreatV07
import Derived.Test.YtnefkkidfhmggaaGreatV05
import Derived.Test.YtnefkkidfhmggaaGreatV01
import Derived.OwnWalkIn
import Derived.TacticsInMore
import Derived.LoopIn
import Derived.LoopNIn
import Derived.Shelf.Abstract
import Derived.Shelf.RegionOpen
import Derived.Deep.QuietTactic
import Derived.BigQuiet
set_option maxHeartbeats 16000000
set_option maxRecDepth 100000
noncomputable section
namespace Go.Proofs.YtnefkkidfhmggaaGreat
open T
section
variable {κ ν:Type}
def kidL:Nat->T κ ν->Nat->M κ ν
 | 0,_,_=> []
 | h+1,x,i=> match x.cs[i]? with
  | some c=> toL h c
  | none=> []
def partL:Nat->T κ ν->Nat->M κ ν
 | 0,x,i=> x.es.take i
 | h+1,x,i=> pre (toL h) (x.es.take i) (x.cs.take i)
theorem pre_snoc (f:T κ ν->M κ ν):∀(A:M κ ν) (C:List (T κ ν)) (a:κ×ν) (c:T κ ν),A.length=C.length->pre f (A++[a]) (C++[c])=pre f A C++f c++[a]
 | [],[],a,c,_=> by simp [pre]
 | x::A,y::C,a,c,h=> by rw [List.cons_append,List.cons_append,pre,pre,pre_snoc f A C a c (by simpa using h)];simp
 | [],_::_,_,_,h=> by simp at h
 | _::_,[],_,_,h=> by simp at h
theorem part_zero (h:Nat) (x:T κ ν):partL h x 0=[]:=by
 cases h <;> simp [partL,pre]
theorem part_succ {o h lo hi:Nat} {x:T κ ν} (hb:Body o h lo hi x) {i:Nat} {y:κ×ν} (hy:x.es[i]? =some y):partL h x (i+1)=partL h x i++kidL h x i++[y]:=by
 obtain ⟨hi',hy'⟩:=List.getElem?_eq_some_iff.1 hy;cases h with
 | zero=> simp only [partL,kidL,List.append_nil];rw [List.take_succ_eq_append_getElem hi',hy']
 | succ h=>
  have h3:=hb.2.2.1;have hc:i < x.cs.length:=by omega
  simp only [partL,kidL,List.getElem?_eq_getElem hc];rw [List.take_succ_eq_append_getElem hi',List.take_succ_eq_append_getElem hc,hy',pre_snoc _ _ _ _ _ (by simp;omega)]
theorem part_rest {o h lo hi:Nat} {x:T κ ν} (hb:Body o h lo hi x) {i:Nat} {y:κ×ν} (hy:x.es[i]? =some y):∃rest,toL h x=partL h x i++kidL h x i++y::rest:=by
 obtain ⟨hi',hy'⟩:=List.getElem?_eq_some_iff.1 hy;cases h with
 | zero=> exact ⟨x.es.drop (i+1),by simp only [partL,kidL,List.append_nil,toL];exact split_at hy⟩
 | succ h=>
  have h3:=hb.2.2.1;obtain ⟨c,hc⟩:∃c,x.cs[i]? =some c:=⟨_,List.getElem?_eq_getElem (by omega)⟩
  obtain ⟨d,hd⟩:∃d,x.cs[i+1]? =some d:=⟨_,List.getElem?_eq_getElem (by omega)⟩
  obtain ⟨t1,t2,t3⟩:=two_at hc hd hy;refine ⟨toL h d++post (toL h) (x.es.drop (i+1)) (x.cs.drop (i+2)),?_⟩;simp only [partL,kidL,hc]
  conv=> lhs;rw [<-T.eta x,t1,t2]
  rw [toL_two h _ _ _ _ _ _ _ t3];simp
theorem part_end {o h lo hi:Nat} {x:T κ ν} (hb:Body o h lo hi x):toL h x=partL h x x.es.length++kidL h x x.es.length:=by
 cases h with
 | zero=> simp [partL,kidL,toL]
 | succ h=>
  have h3:=hb.2.2.1;obtain ⟨es,cs⟩:=x;simp only [es_node,cs_node] at h3;obtain ⟨C,c,rfl⟩:=snoc_of (ne_nil (l:=cs) (by omega));have hl:es.length=C.length:=by simp at h3;omega
  rw [toL_last h _ _ _ hl];have e1:(C++[c])[es.length]? =some c:=by rw [hl];simp
  have e2:(C++[c]).take es.length=C:=by rw [hl];simp
  simp only [partL,kidL,es_node,cs_node,e1,e2,List.take_length]
end
section
variable {κ ν:Type} [KOrd κ]
def inR (lo hi:Option κ) (e:κ×ν):Bool:=(match lo with | none=> true | some k=> !decide (ltK e.1 k)) && (match hi with | none=> true | some k=> decide (ltK e.1 k))
def selM (lo hi:Option κ) (l:M κ ν):M κ ν:=l.filter (inR lo hi)
theorem selM_append (lo hi:Option κ) (l m:M κ ν):selM lo hi (l++m)=selM lo hi l++selM lo hi m:=List.filter_append _ _
theorem selM_all (l:M κ ν):selM none none l=l:=by
 unfold selM;rw [List.filter_eq_self];intro a _;rfl
def startI (lo:Option κ) (es:M κ ν):Nat:=match lo with | none=> 0 | some k=> posK es k
theorem startI_le (lo:Option κ) (es:M κ ν):startI lo es<=es.length:=by
 unfold startI;cases lo with
 | none=> exact Nat.zero_le _
 | some k=> exact posK_le es k
theorem posK_ge {es:M κ ν} (ha:AscM es) {k:κ} {i:Nat} (h:posK es k<=i) {y:κ×ν} (hy:es[i]? =some y):¬ ltK y.1 k:=by
 obtain ⟨hi,hy'⟩:=List.getElem?_eq_some_iff.1 hy;have hp:posK es k < es.length:=by omega
 have h0:=posK_head (es:=es) (k:=k) (List.drop_eq_getElem_cons hp);by_cases e:posK es k=i
 · subst e;rw [<-hy'];exact h0
 · intro hlt
   apply h0;have:=(List.pairwise_iff_getElem.1 ha) (posK es k) i hp hi (by omega);rw [hy'] at this;exact ltK_trans this hlt
theorem sel_start {o h lob hib:Nat} {x:T κ ν} (hb:Body o h lob hib x) (ha:AscM (toL h x)) (lo hi:Option κ):selM lo hi (partL h x (startI lo x.es))=[]:=by
 cases lo with
 | none=> rw [show startI none x.es=0 from rfl,part_zero];rfl
 | some k=>
  have hle:=posK_le x.es k;have hall:AllLt (partL h x (posK x.es k)) k:=by
   cases h with
   | zero=> exact posK_lt x.es k
   | succ h=>
    refine pre_lt (posK_lt x.es k) ?_;have h3:=hb.2.2.1;obtain ⟨c,hc⟩:∃c,x.cs[posK x.es k]? =some c:=⟨_,List.getElem?_eq_getElem (by omega)⟩
    have hl1:(x.es.take (posK x.es k)).length=(x.cs.take (posK x.es k)).length:=by simp;omega
    have hxe:toL (h+1) x=pre (toL h) (x.es.take (posK x.es k)) (x.cs.take (posK x.es k))++toL h c++post (toL h) (x.es.drop (posK x.es k)) (x.cs.drop (posK x.es k+1)):=by rw [<-toL_split h _ _ _ _ _ hl1,List.take_append_drop,<-split_at hc,T.eta]
    rw [hxe] at ha;exact (AscM.append.1 (AscM.append.1 ha).1).1
  unfold selM;rw [List.filter_eq_nil_iff];intro a ha';have:=hall a ha';simp [inR,this]
theorem sel_stop {l:M κ ν} {y:κ×ν} {rest:M κ ν} (ha:AscM (l++y::rest)) {lo:Option κ} {k:κ} (hk:¬ ltK y.1 k):selM lo (some k) (l++y::rest)=selM lo (some k) l:=by
 obtain ⟨_,_,_,h4,_⟩:=ha.mid;rw [selM_append];have:selM lo (some k) (y::rest)=[]:=by
  unfold selM;rw [List.filter_eq_nil_iff];intro a hm;have hn:¬ ltK a.1 k:=by
   rcases List.mem_cons.1 hm with rfl | hm
   · exact hk
   · exact λ h=> hk (ltK_trans (h4 a hm) h)
  simp [inR,hn]
 rw [this,List.append_nil]
theorem sel_take {es:M κ ν} (ha:AscM es) {lo hi:Option κ} {i:Nat} (h:startI lo es<=i) {y:κ×ν} (hy:es[i]? =some y) (hh:∀k,hi=some k->ltK y.1 k):selM lo hi [y]=[y]:=by
 have h1:inR lo hi y=true:=by
  unfold inR;cases lo with
  | none=>
   cases hi with
   | none=> rfl
   | some k=> simp [hh k rfl]
  | some k0=>
   have:=posK_ge ha (show posK es k0<=i from h) hy;cases hi with
   | none=> simp [this]
   | some k=> simp [this,hh k rfl]
 unfold selM;rw [List.filter_cons,if_pos h1];rfl
end
end Go.Proofs.YtnefkkidfhmggaaGreat
end
namespace Go.Proofs.YtnefkkidfhmggaaGreat
open Go Go.RowKit
noncomputable section
section
variable {β:Bool} [OkI β]
def entsV (l:MM):List Value:=l.flatMap λ e=> [encK e.1,encV e.2]
def entA (β:Bool) (v:Value) (l:MM):Asn:=rowA (tE β) 2 v l.length (entsV l)
theorem entsV_snoc (l:MM) (e:Ky×Va):entsV (l++[e])=entsV l++[encK e.1,encV e.2]:=by simp [entsV]
def optP (b:Nat):Option Ky->Value
 | none=> .pointer none
 | some _=> .pointer (some ⟨b,0,none⟩)
def optB (β:Bool) (b:Nat):Option Ky->Asn
 | none=> emp
 | some k=> blkA b (tK β) #[encK k]
def ColT (β:Bool) (lo hi:Option Ky) (lb hb h:Nat) (x:TT) (b:Nat):Prop:=∀(v0:Value) (l:MM) (w0 w:World) (fp0:List Nat) (R:List Asn),l.length+(toL h x).length+1 < 1099511627776->St w0 fp0 ([entA β v0 l,treeA β h x b,optB β lb lo,optB β hb hi]++R) w->
 Calls Tryz.prog (fCollect β) #[ptrV b,v0,optP lb lo,optP hb hi] w λ e w'=> ∃a n c,e=.returned (.slice a n c)/\St w0 fp0 ([entA β (.slice a n c) (l++selM lo hi (toL h x)),treeA β h x b,optB β lb lo,optB β hb hi]++R) w'
theorem part_len {o h lo hi:Nat} {x:TT} (hb:Body o h lo hi x) {i:Nat} (hi':i<=x.es.length):(partL h x i).length+(kidL h x i).length<=(toL h x).length:=by
 by_cases e:i < x.es.length
 · obtain ⟨rest,hr⟩:=part_rest hb (List.getElem?_eq_getElem e)
   rw [hr];simp only [List.length_append];omega
 · have e2:i=x.es.length:=by omega
   rw [part_end hb,e2,List.length_append];exact Nat.le_refl _
theorem col_loop {o h:Nat} (ho':o<=1024) (x:TT) (b:Nat) (lo hi:Option Ky) (lb hb:Nat) (hokh:∀k,hi=some k->k.ok β) (l:MM) (lob:Nat) (hbd:Body o h lob (o - 1) x) (ha:AscM (toL h x)) (hok:OkL β (toL h x)) (hlen:l.length+(toL h x).length+1 < 1099511627776) (bs:List Nat) (hl:bs.length=x.cs.length) (ks vs ps:Value) (w0:World) (fp0:List Nat) (R:List Asn)
 (HREC:∀(h' i:Nat) (c:TT) (cb:Nat),h=h'+1->x.cs[i]? =some c->bs[i]? =some cb->ColT β lo hi lb hb h' c cb) (Q:Exit->Act->World->Prop)
 (hQ:∀(v1:Value) (A:Act) (w:World),Knows 88 A [(8,v1)]->St w0 fp0 ([entA β v1 (l++selM lo hi (toL h x)),blkA b (tN β) #[ks,vs,ps],slA (tK β) ks (keysV x.es),slA (tV β) vs (valsV x.es),slA (tP β) ps (bs.map ptrV),starA (List.zipWith (kidA β h) x.cs bs),optB β lb lo,optB β hb hi]++R) w->Q .ret A w):
 ∀(g i:Nat) (v0:Value) (A:Act) (w:World),g+i=x.es.length->startI lo x.es<=i->Knows 88 A [(0, .pointer (some ⟨b,0,none⟩)),(1,v0),(2,optP lb lo),(3,optP hb hi),(9, .int .i64 i)]->
  St w0 fp0 ([entA β v0 (l++selM lo hi (partL h x i)),blkA b (tN β) #[ks,vs,ps],slA (tK β) ks (keysV x.es),slA (tV β) vs (valsV x.es),slA (tP β) ps (bs.map ptrV),starA (List.zipWith (kidA β h) x.cs bs),optB β lb lo,optB β hb hi]++R) w->
  Code.rounds Tryz.prog (cbody (cbody (cfst (csnd (csnd (csnd (bodyC (BCollect β)))))))) Q (g+1) A w
 | g,i,v0,A,w,hg,hsi,K,hS=> by
  rw [rounds_succ];obtain ⟨_,q1⟩:=hS.has 2 rfl;obtain ⟨_,q3⟩:=hS.has 4 rfl;obtain ⟨ak,ck,rfl, -⟩:=sl_get q1;obtain ⟨pa,pc,rfl, -⟩:=sl_get q3;have hes:x.es.length<=1023:=by have:=hbd.hi;omega
  have hae:AscM x.es:=asc_es ha;obtain ⟨y,hy,hyo⟩:∃y:Ky×Va,(i < x.es.length->x.es[i]? =some y)/\∀kh,hi=some kh->y.1.ok β:=by
   by_cases e:i < x.es.length
   · exact ⟨x.es[i],λ _=> List.getElem?_eq_getElem e,λ _ _=> hok.es _ (List.getElem_mem e)⟩
   · cases hi with
     | none=> exact ⟨(.int 0, .int 0),λ h=> absurd h e,λ _ h=> nomatch h⟩
     | some kh=> exact ⟨(kh, .int 0),λ h=> absurd h e,λ _ _=> hokh kh rfl⟩
  obtain ⟨r,hr⟩:∃r:Int,∀kh,hi=some kh->r=KOrd.cmp y.1 kh:=by
   cases hi with
   | none=> exact ⟨0,λ _ h=> nomatch h⟩
   | some kh=> exact ⟨KOrd.cmp y.1 kh,λ _ e=> by cases e;rfl⟩
  obtain ⟨hh,hhh⟩:∃hh:Value,∀kh,hi=some kh->hh=encK kh:=by
   cases hi with
   | none=> exact ⟨.int .i64 0,λ _ h=> nomatch h⟩
   | some kh=> exact ⟨encK kh,λ _ e=> by cases e;rfl⟩
  obtain ⟨cb,hcb⟩:∃cb,bs.length≠0->bs[i]? =some cb:=by
   by_cases h0:bs.length=0
   · exact ⟨0,λ hh=> absurd h0 hh⟩
   · have:i < bs.length:=by
      rcases hbd.kids with ⟨_,e⟩ | ⟨_,_,e,_⟩
      · rw [hl,e] at h0;exact absurd rfl h0
      · omega
     exact ⟨_,λ _=> List.getElem?_eq_getElem this⟩
  have hpl:=part_len hbd (i:=i) (by omega);have hsl:(l++selM lo hi (partL h x i++kidL h x i)).length<=l.length+(toL h x).length:=by rw [List.length_append];have:(selM lo hi (partL h x i++kidL h x i)).length<=(partL h x i++kidL h x i).length:=List.length_filter_le _ _;rw [List.length_append] at this;omega
  have hbl:bs.length<=1025:=by
   rcases hbd.kids with ⟨_,e⟩ | ⟨_,_,e,_⟩
   · rw [hl,e];simp
   · omega
  refine col_round β b i _ ck _ pc cb _ (l++selM lo hi (partL h x i++kidL h x i)).length vs v0 (optP lb lo) (optP hb hi) hh r y.1 y.2 ak pa (keysV x.es) (valsV x.es) (bs.map ptrV) _ (entsV (l++selM lo hi (partL h x i++kidL h x i))) _ (optB β lb lo) (optB β hb hi) rfl (by rw [keysV_length,valsV_length]) (by rw [keysV_length];omega) rfl (by rw [List.length_map];omega) (by omega) (by rw [keysV_length];omega)
   (λ e=> by rw [keysV_length] at e;simp [keysV,hy e]) (λ e=> by rw [keysV_length] at e;simp [valsV,hy e]) (λ e=> by rw [List.length_map] at e;rw [List.getElem?_map,hcb e];rfl)
   (λ e=> ?_) (λ e w0 fp0 R w hs=> ?_) ?_ (λ e w=> ?_) w0 w fp0 R A _ (λ hst v1 A w' K' h2=> ?_) (λ hin hgo v2 A w' K' h2=> ?_) K hS
  · rw [List.length_map] at e
    have hk:kidL h x i=[]:=by
     rcases hbd.kids with ⟨rfl,_⟩ | ⟨_,rfl,e2,_⟩
     · rfl
     · omega
    rw [hk,List.append_nil];exact ⟨rfl,rfl⟩
  · rw [List.length_map] at e
    rcases hbd.kids with ⟨_,e2⟩ | ⟨h',rfl,e2,hk⟩
    · rw [hl,e2] at e;exact absurd rfl e
    · obtain ⟨c,hc⟩:∃c,x.cs[i]? =some c:=⟨_,List.getElem?_eq_getElem (by omega)⟩
      have hkl:kidL (h'+1) x i=toL h' c:=by simp only [kidL,hc]
      rw [hkl] at hpl;have hpf:(selM lo hi (partL (h'+1) x i)).length<=(partL (h'+1) x i).length:=List.length_filter_le _ _;have h3:=(St.kidout hl hc (hcb e)).1 (St_re (L:=[_,_,_,_]) hs [1,0,2,3] [] (by kernel_rfl));refine (HREC h' i c cb rfl hc (hcb e) v0 (l++selM lo hi (partL (h'+1) x i)) w0 w fp0 (restA β h' i (i+1) x.cs bs::R) (by rw [List.length_append];omega) (St_re (L:=[_,_,_,_,_]) h3 [2,0,3,4,1] [] (by kernel_rfl))).mono λ e9 w' ⟨a,n,c',h4,h5⟩=> ⟨a,n,c',h4,?_⟩
      rw [hkl,selM_append,<-List.append_assoc];have h6:=(St.kidout hl hc (hcb e)).2 (St_re (L:=[_,_,_,_,_]) h5 [1,4,0,2,3] [] (by kernel_rfl));exact St_re (L:=[_,_,_,_]) h6 [1,0,2,3] [] (by kernel_rfl)
  · cases hi with
    | none=> exact .inl rfl
    | some kh=> exact .inr ⟨hb,rfl,by rw [hhh kh rfl];rfl⟩
  · cases hi with
    | none=> exact absurd rfl e
    | some kh=>
     rw [hhh kh rfl,hr kh rfl];exact (cmp_calls β y.1 kh (hyo kh rfl) (hokh kh rfl) w).mono λ e w' ⟨h1,h2⟩=> ⟨h1,h2 ▸ Below.refl _ _⟩
  · refine hQ v1 A w' K' ?_
    have hE:l++selM lo hi (partL h x i++kidL h x i)=l++selM lo hi (toL h x):=by
     rw [keysV_length] at hst;rcases hst with e | ⟨e,e2,e3⟩
     · rw [part_end hbd,<-e]
     · cases hi with
       | none=> exact absurd rfl e2
       | some kh=>
        obtain ⟨rest,hr2⟩:=part_rest hbd (hy e);rw [hr kh rfl] at e3;rw [hr2] at ha ⊢;rw [sel_stop ha (λ hlt=> by have hlt2:KOrd.cmp y.1 kh < 0:=hlt;omega)]
    rw [hE] at h2;exact h2
  · rw [keysV_length] at hin
    obtain ⟨g',rfl⟩:∃g',g=g'+1:=⟨g - 1,by omega⟩
    refine col_loop ho' x b lo hi lb hb hokh l lob hbd ha hok hlen bs hl _ vs _ w0 fp0 R HREC Q hQ g' (i+1) v2 A w' (by omega) (by omega) K' ?_;have hE:l++selM lo hi (partL h x (i+1))=(l++selM lo hi (partL h x i++kidL h x i))++[y]:=by
     rw [part_succ hbd (hy hin),selM_append,<-List.append_assoc];congr 1;refine sel_take hae hsi (hy hin) λ kh e=> ?_;subst e;rcases hgo with e2 | ⟨_,e3⟩
     · exact absurd e2 (by simp [optP])
     · have:=hr kh rfl
       rw [this] at e3;exact e3
    rw [hE];unfold entA;rw [entsV_snoc,List.length_append];exact h2
theorem lpCo (β:Bool) [OkI β]:isBlk (cfst (csnd (csnd (csnd (bodyC (BCollect β))))))=true/\isLoop (cbody (cfst (csnd (csnd (csnd (bodyC (BCollect β)))))))=true:=by cases β <;> first | (exact absurd (OkI.ok (β:=true)) (by decide)) | exact ⟨kr (by kernel_rfl),kr (by kernel_rfl)⟩
theorem collect_calls {o:Nat} (ho':o<=1024) (lo hi:Option Ky) (lb hb:Nat) (hokl:∀k,lo=some k->k.ok β) (hokh:∀k,hi=some k->k.ok β):∀(h lob:Nat) (x:TT) (b:Nat),Body o h lob (o - 1) x->AscM (toL h x)->OkL β (toL h x)->ColT β lo hi lb hb h x b
 | h,lob,x,b,hbd,ha,hok=> by
  intro v0 l w0 w fp0 R hlen hS;obtain ⟨p1,p2⟩:=lpCo β;have hes:x.es.length<=o - 1:=hbd.hi;have hae:AscM x.es:=asc_es ha;obtain ⟨ks,vs,ps,bs,hl,h1⟩:=St.openNT (St_re (L:=[_,_,_,_]) hS [1,0,2,3] [] (by kernel_rfl));have h2:=St_re (L:=[_,_,_,_,_,_,_,_]) h1 [0,1,6] [5,2,3,4,7] (by kernel_rfl);obtain ⟨kk,q,hkq⟩:∃(kk:Value) (q:Bool),∀k,lo=some k->kk=encK k/\q=hasK x.es k:=by
   cases lo with
   | none=> exact ⟨.int .i64 0,false,λ _ h=> nomatch h⟩
   | some k=> exact ⟨encK k,hasK x.es k,λ _ e=> by cases e;exact ⟨rfl,rfl⟩⟩
  refine col_flat β b (startI lo x.es) lb ks vs ps v0 (optP lb lo) (optP hb hi) kk q (keysV x.es) (optB β lb lo) emp (λ _=> pureA False) ?_ (λ hne=> ?_) w0 w fp0 _ _ (λ Q A w K S hQn hQr=> ?_) (λ v1 w' h3=> absurd (St.pure.1 h3).1 id) (St_re (L:=[_,_,_,_]) (St.emp.2 h2) [1,2,3,0] [] (by kernel_rfl))
  · cases lo with
    | none=> exact .inl ⟨rfl,rfl⟩
    | some k=> exact .inr ⟨rfl,by rw [(hkq k rfl).1];rfl⟩
  · cases lo with
    | none=> exact absurd rfl hne
    | some k=>
     obtain ⟨rfl,rfl⟩:=hkq k rfl;exact λ w fp fp' hbk hkk'=> find_calls b ks vs _ x.es k hok.es (hokl k rfl) w hbk ⟨_,hkk'⟩ hae (by omega)
  · refine wp_blkT p1 (wp_loopT (x.es.length - startI lo x.es+1) p2 (col_loop ho' x b lo hi lb hb hokh l lob hbd ha hok hlen bs hl ks vs ps w0 fp0 R ?_ _ (λ v1 A w' K' h3=> ?_) _ (startI lo x.es) v0 A w (by have:=startI_le lo x.es;omega) (Nat.le_refl _) K ?_))
    · intro h' i c cb e hc hcb
      subst e;obtain ⟨_,_,k3,k4⟩:=hbd;exact collect_calls ho' lo hi lb hb hokl hokh h' _ c cb (k4 c (List.mem_of_getElem? hc)) (asc_kid1 k3 hc ha) (hok.kid k3 hc)
    · refine hQr v1 A w' K' ?_
      obtain ⟨_,hr⟩:=h3.has 0 rfl;obtain ⟨a,c,rfl,_⟩:=row_shape hr;refine ⟨a,_,c,rfl,?_⟩;have h4:=St.shutNT (es:=x.es) (cs:=x.cs) (bs:=bs) (ks:=ks) (vs:=vs) (ps:=ps) hl (St_re (L:=[_,_,_,_,_,_,_,_]) h3 [1,2,3,4,5,0,6,7] [] (by kernel_rfl));rw [T.eta] at h4;exact St_re (L:=[_,_,_,_]) h4 [1,0,2,3] [] (by kernel_rfl)
    · rw [sel_start hbd ha,List.append_nil]
      exact St_re (L:=[_,_,_,_,_,_,_,_]) (St.emp.1 (St_re (L:=[_,_,_,_]) S [3,0,1,2] [] (by kernel_rfl))) [3,0,1,4,5,6,2,7] [] (by kernel_rfl)
end
def tTP (β:Bool):Nat:=match β with | false=> 116 | true=> 95
def tKP (β:Bool):Nat:=match β with | false=> 202 | true=> 146
def gBt0 (β:Bool) (bt bl bh tb rb N:Nat) (pl ph oo nn:Value) (X1:Value->Asn) (T0 OL OH:Asn) (w0:World) (fp0:List Nat) (R:List Asn):Rg where
 P:=Tryz.prog
 ops:=opsR (BBetw1 β) 0
 nt:=27
 ks:=[7,8,9,10,11,12,13,14,15]
 inp:=[(1, .pointer (some ⟨bt,0,none⟩)),(2, .pointer (some ⟨bl,0,none⟩)),(3, .pointer (some ⟨bh,0,none⟩))]
 vals:=[.is 0 7 (.pointer (some ⟨tb,0,none⟩)), .is 1 8 (.pointer (some ⟨tb,0,none⟩)), .is 2 9 (.pointer (some ⟨tb,0,none⟩)), .is 3 10 (.pointer (some ⟨rb,0,none⟩)), .is 4 11 (pl), .is 5 12 (ph),⟨6,13,[13],λ g=> .slice (sa (g 13)) N (sc (g 13))⟩, .is 7 14 (.int .i64 N), .is 8 15 (.int .i64 ((0:Nat):Int))]
 pcs:=[.gen [6] [13] λ L g=> match L 6 with | true=> X1 (g 13) | false=> emp, .blk bt (tTP β) [⟨.pointer (some ⟨tb,0,none⟩),[]⟩], .blk bl (tKP β) [⟨pl,[]⟩], .blk bh (tKP β) [⟨ph,[]⟩], .blk tb (tT β) [⟨.pointer (some ⟨rb,0,none⟩),[]⟩,⟨oo,[]⟩,⟨nn,[]⟩], .all (T0), .all (OL), .all (OH)]
 w0:=w0
 fp0:=fp0
 R:=R
theorem obBt0 (β:Bool) [OkI β] (bt bl bh tb rb N:Nat) (pl ph oo nn:Value) (X1:Value->Asn) (T0 OL OH:Asn) (hrec:∀(w0:World) (fp0:List Nat) (R:List Asn) (w:World),St w0 fp0 ([T0,OL,OH]++R) w->Calls Tryz.prog (fCollect β) #[ptrV rb, .slice none 0 0,pl,ph] w λ e w'=> ∃v a c,v=.slice a N c/\e=.returned v/\St w0 fp0 ([X1 v,T0,OL,OH]++R) w') (w0:World) (fp0:List Nat) (R:List Asn):(gBt0 β bt bl bh tb rb N pl ph oo nn X1 T0 OL OH w0 fp0 R).Ok 9:=by
 have h6:∀w,St w0 fp0 ([emp,blkA bt (tTP β) #[.pointer (some ⟨tb,0,none⟩)],blkA bl (tKP β) #[pl],blkA bh (tKP β) #[ph],blkA tb (tT β) #[.pointer (some ⟨rb,0,none⟩),oo,nn],T0,OL,OH]++R) w->Calls Tryz.prog (fCollect β) #[ptrV rb, .slice none 0 0,pl,ph] w λ e w'=> ∃v a c,v=.slice a N c/\e=.returned v/\St w0 fp0 ([X1 v,blkA bt (tTP β) #[.pointer (some ⟨tb,0,none⟩)],blkA bl (tKP β) #[pl],blkA bh (tKP β) #[ph],blkA tb (tT β) #[.pointer (some ⟨rb,0,none⟩),oo,nn],T0,OL,OH]++R) w':=λ w h=> (hrec _ _ _ w (St_re (L:=[_,_,_,_,_,_,_]) (St.emp.1 h) [4,5,6] [0,1,2,3] (by kernel_rfl))).mono λ e w' ⟨v,a,c,h0,h1,h2⟩=> ⟨v,a,c,h0,h1,St_re (L:=[_,_,_,_,_,_,_,_]) h2 [0,4,5,6,7,1,2,3] [] (by kernel_rfl)⟩
 cases β <;> first | (exact absurd (OkI.ok (β:=true)) (by decide)) | exact ⟨kr (by kernel_rfl),kr (by kernel_rfl), .load _ 0 1 0, .pure _ 1, .pure _ 2, .load _ 3 4 0, .load _ 4 2 0, .load _ 5 3 0, .callN _ 6 N _ _ h6, .pure _ 7, .pure _ 8,trivial⟩
section
variable {β:Bool} [OkI β]
theorem entsV_at (l:MM) (i:Nat) (h:i < l.length):(entsV l)[i * 2]? =some (encK l[i].1)/\(entsV l)[i * 2+1]? =some (encV l[i].2):=by
 induction l generalizing i with
 | nil=> simp at h
 | cons x l ih=>
  have e:entsV (x::l)=encK x.1::encV x.2::entsV l:=rfl;cases i with
  | zero=> exact ⟨rfl,rfl⟩
  | succ i=>
   have:=ih i (by simpa using h);rw [e,show (i+1) * 2=i * 2+1+1 by omega,show i * 2+1+1+1=(i * 2+1)+1+1 by omega];simpa using this
def betL (β:Bool) (o h:Nat) (l:MM) (tb bt bl bh lb hb:Nat) (lo hi:Option Ky):List Asn:=
 [objA β o h l tb,blkA bt (tTP β) #[.pointer (some ⟨tb,0,none⟩)],blkA bl (tKP β) #[optP lb lo],blkA bh (tKP β) #[optP hb hi],optB β lb lo,optB β hb hi]
theorem betw1_seq {o h:Nat} (ho':o<=1024) (lo hi:Option Ky) (lb hb:Nat) (hokl:∀k,lo=some k->k.ok β) (hokh:∀k,hi=some k->k.ok β) (l:MM) (hok:OkL β l) (tb bt bl bh:Nat) (hlen:l.length+1 < 1099511627776) (n:Nat):
 SeqSt n Tryz.prog (fBetw1 β) #[.pointer (some ⟨bt,0,none⟩), .pointer (some ⟨bl,0,none⟩), .pointer (some ⟨bh,0,none⟩)] (λ e:Ky×Va=> #[encK e.1,encV e.2]) (selM lo hi l) (betL β o h l tb bt bl bh lb hb lo hi):=by
 intro y R J Jx w0 fp0 W hS h0 hY;refine callsIn_wide.2 ?_;obtain ⟨x,rb,hg,hS1⟩:=St.openOT (show St w0 fp0 (objA β o h l tb::(blkA bt (tTP β) #[.pointer (some ⟨tb,0,none⟩)]::blkA bl (tKP β) #[optP lb lo]::blkA bh (tKP β) #[optP hb hi]::optB β lb lo::optB β hb hi::R)) W from hS);obtain ⟨g1,g2,g3⟩:=hg;have hsel:(selM lo hi l).length < 1099511627776:=Nat.lt_of_le_of_lt (List.length_filter_le _ _) (by omega);obtain ⟨sel,hsl⟩:∃sel,selM lo hi l=sel:=⟨_,rfl⟩
 have hcol:=collect_calls (β:=β) ho' lo hi lb hb hokl hokh h _ x rb g1 g2 (by rw [g3];exact hok);have HREG:=Lib.hid (obBt0 β bt bl bh tb rb sel.length (optP lb lo) (optP hb hi) (.int .i64 o) (.int .i64 l.length) (λ v=> entA β v sel) (treeA β h x rb) (optB β lb lo) (optB β hb hi) (λ w0 fp0 R w hs=> by refine (hcol (.slice none 0 0) [] w0 w fp0 R (by rw [g3];simp;omega) (St.nilR (tE β) 2 hs)).mono λ e w' ⟨a,n,c,h1,h2⟩=> ?_;rw [g3,List.nil_append,hsl] at h2;obtain ⟨_,hr⟩:=h2.has 0 rfl;obtain ⟨a',c',e1,_⟩:=row_shape hr;obtain ⟨rfl,rfl,rfl⟩:=Value.slice.inj e1;exact ⟨_,_,_,rfl,h1,h2⟩) w0 fp0 R);have HS1:=Lib.hid (St.emp.2 (St_re (L:=[_,_,_,_,_,_,_]) hS1 [2,3,4,1,0,5,6] [] (by kernel_rfl)));have H0:Hid (∀v W,St w0 fp0 ([entA β v sel,blkA bt (tTP β) #[.pointer (some ⟨tb,0,none⟩)],blkA bl (tKP β) #[optP lb lo],blkA bh (tKP β) #[optP hb hi],blkA tb (tT β) #[.pointer (some ⟨rb,0,none⟩), .int .i64 o, .int .i64 l.length],treeA β h x rb,optB β lb lo,optB β hb hi]++R) W->St w0 fp0 (J []++[entA β v sel]) W):=by intro v W hs;refine h0 _ _ ?_;have h1:=St.shutOT ⟨g1,g2,g3⟩ (St_re (L:=[_,_,_,_,_,_,_,_]) hs [5,4,1,2,3,6,7,0] [] (by kernel_rfl));have h2:=St_re (L:=[_,_,_,_,_,_,_]) h1 [6,0,1,2,3,4,5] [] (by kernel_rfl);exact St.comm (A:=[entA β v sel]) h2
 have HOK:Hid (∀e∈sel,e.1.ok β):=by intro e he;rw [<-hsl] at he;exact hok e (List.mem_filter.1 he).1
 have HY:=Lib.hid hY;rw [hsl] at HY hsel ⊢;clear hS hS1 g1 g2 g3 hlen ho' hsl hY h0 hcol hokl hokh hok;have HW:Hid (∀(c:Code) (a:Act) (Q:Exit->Act->World->Prop),isReg c=true->cops c=opsR (BBetw1 β) 0->a.tmps.size=27->a.defers=[]->a.eval (.tmp 1)=.pointer (some ⟨bt,0,none⟩)->a.eval (.tmp 2)=.pointer (some ⟨bl,0,none⟩)->a.eval (.tmp 3)=.pointer (some ⟨bh,0,none⟩)->
  (∀(u7 u8 u9 u10 u11 u12:Value) (ga:Option Addr) (gc:Nat) (w1:World),St w0 fp0 (J []++[entA β (.slice ga sel.length gc) sel]) w1->Q .normal (putL a [(7,u7),(8,u8),(9,u9),(10,u10),(11,u11),(12,u12),(13, .slice ga sel.length gc),(14, .int .i64 sel.length),(15, .int .i64 0)]) w1)->c.wp Tryz.prog Q a W):=by
  intro c a Q c1 c2 c3 c4 c5 c6 c7 hQ;refine wp_regT HREG.out (by kernel_rfl) ⟨c1,c2⟩ ⟨c3,c4,λ p hp=> ?_⟩ HS1.out λ A1 w1 N1 H1=> ?_
  · simp only [gBt0,List.map_nil,List.append_nil,List.mem_cons,List.not_mem_nil,or_false] at hp
    rcases hp with rfl | rfl | rfl
    · exact c5
    · exact c6
    · exact c7
  have e13:slots A1 13=.slice (sa (slots A1 13)) sel.length (sc (slots A1 13)):=N1.val 6 rfl;have e14:slots A1 14=.int .i64 sel.length:=N1.val 7 rfl;have e15:slots A1 15=.int .i64 0:=N1.val 8 rfl;have H1':St w0 fp0 ([entA β (slots A1 13) sel,blkA bt (tTP β) #[.pointer (some ⟨tb,0,none⟩)],blkA bl (tKP β) #[optP lb lo],blkA bh (tKP β) #[optP hb hi],blkA tb (tT β) #[.pointer (some ⟨rb,0,none⟩), .int .i64 o, .int .i64 l.length],treeA β h x rb,optB β lb lo,optB β hb hi]++R) w1:=H1;have h2:=H0.out _ _ H1';rw [e13] at h2;have:=hQ (slots A1 7) (slots A1 8) (slots A1 9) (slots A1 10) (slots A1 11) (slots A1 12) _ _ w1 h2;rw [<-e13,<-e14,<-e15] at this;rw [show A1=putL a [(7,slots A1 7),(8,slots A1 8),(9,slots A1 9),(10,slots A1 10),(11,slots A1 11),(12,slots A1 12),(13,slots A1 13),(14,slots A1 14),(15,slots A1 15)] from N1.frame.eq];exact this
 clear HREG HS1 H0;obtain ⟨E,hE⟩:∃E:Value->Asn,(λ v=> entA β v sel)=E:=⟨_,rfl⟩
 have HROW:Hid (∀v w f,(E v).p w f->∃a c,v=.slice a sel.length c/\∀i,i < sel.length * 2->∃g,a=some ⟨g,0,none⟩/\g < w.heap.size/\w.cell? ⟨g,i,none⟩=(entsV sel)[i]? /\∀j,w.frozen? ⟨g,j,none⟩=false):=by intro v w f hf;rw [<-hE] at hf;obtain ⟨a,c,e1, -, -,e2⟩:=row_shape (show (rowA (tE β) 2 v sel.length (entsV sel)).p w f from hf);exact ⟨a,c,e1,e2⟩
 replace HW:Hid (∀(c:Code) (a:Act) (Q:Exit->Act->World->Prop),isReg c=true->cops c=opsR (BBetw1 β) 0->a.tmps.size=27->a.defers=[]->a.eval (.tmp 1)=.pointer (some ⟨bt,0,none⟩)->a.eval (.tmp 2)=.pointer (some ⟨bl,0,none⟩)->a.eval (.tmp 3)=.pointer (some ⟨bh,0,none⟩)->
  (∀(u7 u8 u9 u10 u11 u12:Value) (ga:Option Addr) (gc:Nat) (w1:World),St w0 fp0 (J []++[E (.slice ga sel.length gc)]) w1->Q .normal (putL a [(7,u7),(8,u8),(9,u9),(10,u10),(11,u11),(12,u12),(13, .slice ga sel.length gc),(14, .int .i64 sel.length),(15, .int .i64 0)]) w1)->c.wp Tryz.prog Q a W):=by
  rw [<-hE];exact HW
 clear hE HOK;cases β
 case' false=> go_enter Tryz.func137,Tryz.ntmps137
 case' true=> first | (exact absurd (OkI.ok (β:=true)) (by decide)) | go_enter Tryz.func110,Tryz.ntmps110
 all_goals
  go_upto_region 0 with (fail)
  refine HW.out _ _ _ rfl (by kernel_rfl) rfl rfl rfl rfl rfl λ u7 u8 u9 u10 u11 u12 ga gc w1 h2=> ?_;have H2:=Lib.hid h2;clear h2 HW;simp only [putL,List.foldl,Act.put,List.setIfInBounds_toArray,List.set_cons_succ,List.set_cons_zero];obtain ⟨N,hN⟩:∃N,sel.length=N:=⟨_,rfl⟩
  have HN:=Lib.hid hN;rw [hN] at H2 hsel HROW ⊢;clear hN;go_wp2;go_loopg [15] N (λ g z wr=> ∃k:Nat,z=.int .i64 k/\g+k=N/\Hid (∃pre rest,sel=pre++rest/\pre.length=k/\St w0 fp0 (J pre++[E (.slice ga N gc)]) wr))
  case atStart=> exact ⟨0,rfl,rfl,⟨[],sel,rfl,rfl,H2.out⟩⟩
  case round=>
   obtain ⟨k,rfl,hgk,Hr⟩:=hrel;by_cases hk:k < N
   · obtain ⟨pre,rest,hxs,hpl,hs⟩:=Hr.out
     cases rest with
     | nil=>
      exfalso;have:=congrArg List.length hxs;rw [HN.out,List.append_nil] at this;omega
     | cons x rest=>
      obtain ⟨_,hrw⟩:=St.has (i:=0) (A:=E (.slice ga N gc)) hs.comm rfl;have hkl:k < sel.length:=by rw [HN.out];exact hk
      have hxk:sel[k]=x:=by
       have:sel[k]? =some x:=by rw [hxs,<-hpl];simp
       rw [List.getElem?_eq_getElem hkl] at this;exact Option.some.inj this
      obtain ⟨ga',gc',e0,hcell⟩:=HROW.out _ _ _ hrw;injection e0 with e1 e2 e3;subst e1;obtain ⟨gb,hga,hgl,hc0, -⟩:=hcell (k * 2) (by omega);obtain ⟨gb',hga', -,hc1, -⟩:=hcell (k * 2+1) (by omega);subst hga;obtain rfl:gb'=gb:=by injection hga' with h;injection h with h;exact h.symm
      rw [(entsV_at sel k hkl).1,hxk] at hc0;rw [(entsV_at sel k hkl).2,hxk] at hc1;have HYx:Hid (∀W',St w0 fp0 (J pre++[E (.slice (some ⟨gb',0,none⟩) N gc)]) W'->YieldAt Fence.wide (n - 1) Tryz.prog y #[encK x.1,encV x.2] W' λ e W'=>
       (e=.returned (.bool true)/\St w0 fp0 (J (pre++[x])++[E (.slice (some ⟨gb',0,none⟩) N gc)]) W')\/(e=.returned (.bool false)/\St w0 fp0 (Jx (pre++[x])++[E (.slice (some ⟨gb',0,none⟩) N gc)]) W')):=
       λ W' h=> HY.out pre x rest _ W' hxs h
      have Hs:=Lib.hid hs;have Hxs:=Lib.hid hxs;have Hpl:=Lib.hid hpl;have hkn:(k:Int) < N:=by omega
      clear hs hxs hpl hrw hkl hxk hcell hga' Hr e2 e3;have Hgk:=Lib.hid hgk;clear hgk;obtain ⟨xk,exk⟩:∃xk,x.1=xk:=⟨_,rfl⟩
      obtain ⟨xv,exv⟩:∃xv,x.2=xv:=⟨_,rfl⟩
      rw [exk] at hc0;rw [exv] at hc1;rw [exk,exv] at HYx;clear exk exv;cases xk <;> cases xv
      all_goals
       simp only [encK,encV] at hc0 hc1 HYx;go_upto_region 3 with (fail)
       generalize hW2:wr.alloc _=W2;have hb2:Below wr.heap.size wr W2:=by rw [<-hW2];exact (Below.refl _ _).alloc (Nat.le_refl _) _
       have d0:=World.cell?_alloc_new wr _ _ 0 |>.symm.trans (congrArg (λ w=> World.cell? w ⟨wr.heap.size,0,none⟩) hW2) |>.symm
       have d1:=World.cell?_alloc_new wr _ _ 1 |>.symm.trans (congrArg (λ w=> World.cell? w ⟨wr.heap.size,1,none⟩) hW2) |>.symm
       simp only [List.getElem?_toArray,List.getElem?_cons_zero,List.getElem?_cons_succ] at d0 d1;have dl:wr.heap.size < W2.heap.size:=by rw [<-hW2];simp
       have HSo:Hid (∀W' A,St w0 fp0 (A++[E (.slice (some ⟨gb',0,none⟩) N gc)]) W'->St w0 fp0 A W'):=λ W' A h=> St.dropAll (A:=[E (.slice (some ⟨gb',0,none⟩) N gc)]) h.comm;obtain ⟨fn,tmps,assign,body,hy,hR⟩:=HYx.out W2 (Hs.out.mono hb2);have HR:=Lib.hid hR;clear hb2 hR hW2 hc0 hc1 hgl H2 HYx Hs HY;generalize wr.heap.size=eb at *;refine (wpIn_wide (n:=n)).1 ?_
       gi_wp2
       refine ⟨λ h=> (by cases h),HR.out.mono ?_⟩;rintro e W' (⟨rfl,hs'⟩ | ⟨rfl,hs'⟩)
       · have Hs':=Lib.hid hs'
         clear hs' HR hy d0 d1 dl
         gi_wp2
         go_wp2;go_roundg (N - (k+1))
         case rel=> exact ⟨k+1,by go_num,by omega,⟨pre++[x],rest,by rw [Hxs.out];simp,by rw [List.length_append,Hpl.out];rfl,Hs'.out⟩⟩
         case measure=> have:=Hgk.out;omega
       · have Hs':=Lib.hid (HSo.out _ _ hs')
         clear hs' HR hy d0 d1 dl HSo
         gi_wp2
         go_wp2;refine bodyPost_ret (results_none rfl _ _ _) rfl ?_;exact ⟨⟨_,rfl⟩, .inr ⟨pre,x,rest,Hxs.out,Hs'.out⟩⟩
   · have hnk:k=N:=by omega
     have Hend:Hid (St w0 fp0 (J sel) wr):=by
      obtain ⟨pre,rest,hxs,hpl,hs⟩:=Hr.out;have:rest=[]:=by have:=congrArg List.length hxs;rw [HN.out,List.length_append] at this;exact List.length_eq_zero_iff.1 (by omega)
      subst this;rw [List.append_nil] at hxs;rw [hxs];exact St.dropAll (A:=[E (.slice ga N gc)]) (by rw [<-hxs] at hs ⊢;exact hs.comm)
     clear Hr HY H2 hgk hk HN hsel;subst hnk;go_wp2;go_end0;exact ⟨⟨_,rfl⟩, .inl Hend.out⟩
end
section
variable {β:Bool} [OkI β]
def iterL (β:Bool) (tb bt bl bh lb hb:Nat) (lo hi:Option Ky):List Asn:=
 [blkA bt (tTP β) #[.pointer (some ⟨tb,0,none⟩)],blkA bl (tKP β) #[optP lb lo],blkA bh (tKP β) #[optP hb hi]]
def iterF (β:Bool) (bt bl bh:Nat):Value:=.func (.func (fBetw1 β)) #[] #[.pointer (some ⟨bt,0,none⟩), .pointer (some ⟨bl,0,none⟩), .pointer (some ⟨bh,0,none⟩)]
theorem between_calls (tb lb hb:Nat) (lo hi:Option Ky) (w0 w:World) (fp0:List Nat) (R:List Asn) (hS:St w0 fp0 R w):
 Calls Tryz.prog (fBetween β) #[.pointer (some ⟨tb,0,none⟩),optP lb lo,optP hb hi] w λ e w'=> ∃bt bl bh,e=.returned (iterF β bt bl bh)/\St w0 fp0 (iterL β tb bt bl bh lb hb lo hi++R) w':=by
 have HS:Hid (St w0 fp0 (iterL β tb w.heap.size (w.heap.size+1) (w.heap.size+1+1) lb hb lo hi++R) (((w.alloc (.cells #[.pointer (some ⟨tb,0,none⟩)] (tTP β))).alloc (.cells #[optP lb lo] (tKP β))).alloc (.cells #[optP hb hi] (tKP β)))):=by have h1:=((hS.newblk (tTP β) #[.pointer (some ⟨tb,0,none⟩)]).newblk (tKP β) #[optP lb lo]).newblk (tKP β) #[optP hb hi];simp only [World.size_alloc] at h1;exact St_re (L:=[_,_,_]) h1 [2,1,0] [] (by kernel_rfl)
 clear hS;cases lo <;> cases hi
 all_goals
  cases β
  case' false=> go_enter Tryz.func109,Tryz.ntmps109
  case' true=> first | (exact absurd (OkI.ok (β:=true)) (by decide)) | go_enter Tryz.func90,Tryz.ntmps90
  all_goals
   dsimp only [optP,tTP,tKP] at HS ⊢;go_wp2;go_ret;exact ⟨_,_,_,rfl,HS.out⟩
end
theorem All_calls (tb:Nat) (w0 w:World) (fp0:List Nat) (R:List Asn) (hS:St w0 fp0 R w):
 Calls Tryz.prog 88 #[.pointer (some ⟨tb,0,none⟩)] w λ e w'=> ∃bt bl bh,e=.returned (iterF false bt bl bh)/\St w0 fp0 (iterL false tb bt bl bh 0 0 none none++R) w':=by
 have HC:=Lib.hid (between_calls (β:=false) tb 0 0 none none w0 w fp0 R hS);clear hS;unfold iterF at *;dsimp only [fBetween,optP] at HC;go_enter Tryz.func88,Tryz.ntmps88;go_wp2_with fail;(with_reducible refine HC.out.mono ?_);rintro e w1 ⟨bt,bl,bh,rfl,hs⟩;have HS:=Lib.hid hs;clear hs HC;go_wp2;go_ret;exact ⟨_,_,_,rfl,HS.out⟩
section
open Go.Shelf
attribute [local go_sem] Oper.semAt_some
theorem St.exo {w0 w:World} {fp0:List Nat} {α:Type} {F:α->List Asn} {L:List Asn}:St w0 fp0 (exA (λ a=> starA (F a))::L) w↔∃a,St w0 fp0 (F a++L) w:=by
 constructor
 · intro h
   obtain ⟨a,ha⟩:=h.unfold (L1:=F) λ f ⟨a,ha⟩=> ⟨a,ha⟩
   exact ⟨a,ha⟩
 · rintro ⟨a,ha⟩
   exact ha.fold λ f hf=> ⟨a,hf⟩
def vaA:Va->Option Addr×Nat×Nat
 | .sl a n c=> (a,n,c)
 | .int _=> (none,0,0)
def toRi (e:Re):Ri:=⟨e.id,(vaA e.va).1,(vaA e.va).2.1,(vaA e.va).2.2,e.r⟩
theorem toRi_v {e:Re} (h:∃a n c,e.va=.sl a n c):(toRi e).v=encV e.va:=by
 obtain ⟨a,n,c,h⟩:=h;unfold toRi Ri.v;rw [h];rfl
def somL (p:Re->Bool) (es:List Re):List Ri:=(es.filter p).map toRi
theorem somL_len (p:Re->Bool) (es:List Re):(somL p es).length<=es.length:=by
 rw [somL,List.length_map];exact List.length_filter_le _ _
theorem somL_snoc (p:Re->Bool) (A:List Re) (e:Re):somL p (A++[e])=somL p A++if p e then [toRi e] else []:=by
 unfold somL;rw [List.filter_append,List.map_append];cases h:p e <;> simp [h]
def outA (b:Nat) (l:List Ri):Asn:=exA λ v=> starA [blkA b 94 #[v],rowA 114 2 v l.length (riV l)]
theorem St.out {w0 w:World} {fp0:List Nat} {L:List Asn} {b:Nat} {l:List Ri}:St w0 fp0 (outA b l::L) w↔∃v,St w0 fp0 (blkA b 94 #[v]::rowA 114 2 v l.length (riV l)::L) w:=
 St.exo (F:=λ v=> [blkA b 94 #[v],rowA 114 2 v l.length (riV l)])
theorem appIT:AppSrc Tryz.prog 94 94 114 2:=appSrc (z:=.agg #[.int .i64 0, .slice none 0 0]) (bytes:=32) (by kernel_rfl) (by kernel_rfl) rfl (by decide) (by decide)
theorem riV_one (y:Ri):riV [y]=[.int .i64 y.id,y.v]:=rfl
theorem St.appIt {w0 W:World} {fp0:List Nat} {L:List Asn} {bo:Nat} {v0:Value} {l:List Ri} (ty:TypeId) (y:Ri) (hlen:l.length+1 < 1099511627776) (hS:St w0 fp0 (blkA bo 94 #[v0]::rowA 114 2 v0 l.length (riV l)::L) W):
 ∃v' w',(Builtin.append_ #[94,94] ty #[v0, .slice (some ⟨W.heap.size,0,none⟩) 1 1]).run Tryz.prog (W.alloc (.cells #[.int .i64 y.id,y.v] 114))=.ok v' w'/\(∃a c,v'=.slice a (l.length+1) c)/\
  w'.cell? ⟨bo,0,none⟩=some v0/\w'.frozen? ⟨bo,0,none⟩=false/\bo < w'.heap.size/\St w0 fp0 (blkA bo 94 #[v']::rowA 114 2 v' (l++[y]).length (riV (l++[y]))::L) (w'.setCell ⟨bo,0,none⟩ v'):=by
 have h1:=hS.newblk 114 #[.int .i64 y.id,y.v];have h1:St w0 fp0 (rowA 114 2 v0 l.length (riV l)::blkA bo 94 #[v0]::L) (W.alloc (.cells #[.int .i64 y.id,y.v] 114)):=h1.drop.perm (List.Perm.swap _ _ _);obtain ⟨v',w',hr,h2⟩:=St.appSrc appIT ty h1 (src_litk (tx:=94) (e':=114) (by kernel_rfl) _ 2 W.heap.size 1 1 114 (0,0) #[.int .i64 y.id,y.v] (heap_alloc_new W _) rfl (by intro u hu;simp only [List.mem_cons,List.not_mem_nil,or_false] at hu;rcases hu with rfl | rfl <;> rfl)) hlen;have h3:St w0 fp0 (blkA bo 94 #[v0]::rowA 114 2 v' (l.length+1) (riV l++[.int .i64 y.id,y.v])::L) w':=h2.perm (List.Perm.swap _ _ _);obtain ⟨_,ho⟩:=h2.has 0 rfl;obtain ⟨a,c,e,_⟩:=row_shape ho;obtain ⟨g,hg,hset2⟩:=h3.get 0 rfl;have hc:=(blk_get hg).1 0;have hf:=(blk_get hg).2.1 0;have hl:=(blk_get hg).2.2;obtain ⟨hb2,ht2⟩:=blk_set hg 0 v';have h4:=hset2 _ _ _ hb2 ht2;refine ⟨v',w',hr,⟨a,c,e⟩,hc,hf,hl,?_⟩;rw [riV_append,riV_one,List.length_append,List.length_singleton];exact h4
def IsC (f:Nat) (caps:Array Value) (p:Re->Bool) (S:Nat) (s:Sto) (LX:List Asn):Prop:=∀(w0:World) (fp0:List Nat) (R:List Asn) (w:World) (e:Re),e∈s.es->St w0 fp0 (stoL S s++(LX++R)) w->
 Calls Tryz.prog f (#[encV e.va]++caps) w λ ev w'=> ev=.returned (.bool (p e))/\St w0 fp0 (stoL S s++(LX++R)) w'
theorem St.slOf {w0 w:World} {fp0:List Nat} {R:List Asn} {S:Nat} {s:Sto} (h:St w0 fp0 (stoL S s++R) w):∀e∈s.es,∃a n c,e.va=.sl a n c:=by
 intro e he;obtain ⟨f,hf⟩:=h.star_of;obtain ⟨i,hi,rfl⟩:=List.mem_iff_getElem.1 he;obtain ⟨g,hg, -⟩:=Star.get (i+3) (A:=reA s.es[i]) (by show (blkA _ _ _::_::_::(s.es.map reA++s.ixs.map ixA))[i+3]? =_;simp only [List.getElem?_cons_succ];rw [List.getElem?_append_left (by simpa using hi),List.getElem?_map,List.getElem?_eq_getElem hi];rfl) hf;obtain ⟨a,c,e1, -⟩:=row_shape hg;exact encV_sl _ ⟨a,_,c,e1⟩
def stoR (S:Nat) (s:Sto):List Asn:=blkA S 119 #[.int .i64 s.cols,ptrV s.tb, .int .i64 s.next,s.iv]::rowA 97 2 s.iv s.ixs.length (ixV s.ixs)::(s.es.map reA++s.ixs.map ixA)
theorem reM_split {es:List Re} {pre rest:MM} {x:Ky×Va} (h:reM es=pre++x::rest):∃e:Re,x=(.int e.id,e.va)/\es.take (pre.length+1)=es.take pre.length++[e]/\e∈es:=by
 have hl:pre.length < es.length:=by have h1:=congrArg List.length h;rw [reM,List.length_map,List.length_append,List.length_cons] at h1;omega
 have hx:(reM es)[pre.length]? =some x:=by rw [h];simp
 rw [reM,List.getElem?_map,List.getElem?_eq_getElem hl] at hx;exact ⟨es[pre.length],(Option.some.inj hx).symm,List.take_succ_eq_append_getElem hl,List.getElem_mem hl⟩
def smI (b5 b3:Nat) (isv:Value) (p:Re->Bool) (es:List Re) (L:List Asn) (pre:MM):List Asn:=outA b5 (somL p (es.take pre.length))::blkA b3 88 #[isv]::L
theorem some_calls (f:Nat) (caps:Array Value) (p:Re->Bool) (S:Nat) (s:Sto) (LX:List Asn) (he:∀args w,(callFunc f args).run Tryz.prog w=.ok (.enter f args) w) (hlen:s.es.length+1 < 1099511627776) (his:IsC f caps p S s LX)
 (w0 w:World) (fp0:List Nat) (R:List Asn) (hS:St w0 fp0 (stoL S s++(LX++R)) w):
 Calls Tryz.prog 48 #[ptrV S, .func (.func f) #[] caps] w λ e w'=> ∃v,e=.returned v/\St w0 fp0 (rowA 114 2 v (somL p s.es).length (riV (somL p s.es))::(stoL S s++(LX++R))) w':=by
 have HSL:=Lib.hid hS.slOf;obtain ⟨tb,htb⟩:∃tb,s.tb=tb:=⟨_,rfl⟩
 have HS0:Hid (St w0 fp0 (rowA 114 2 (.slice none 0 0) 0 []::blkA (w.heap.size+1) 94 #[.slice none 0 0]::blkA w.heap.size 88 #[.func (.func f) #[] caps]::(stoL S s++(LX++R))) ((w.alloc (.cells #[.func (.func f) #[] caps] 88)).alloc (.cells #[.slice none 0 0] 94))):=by have h1:=((hS.newblk 88 #[.func (.func f) #[] caps]).newblk 94 #[.slice none 0 0]).nilR 114 2;simp only [World.size_alloc] at h1;exact h1
 have HSEQ:=Lib.hid (λ bt bl bh=> betw1_seq (β:=false) (o:=16) (h:=s.h) (by omega) none none 0 0 (by simp) (by simp) (reM s.es) (okR _) s.tb bt bl bh (by rw [reM,List.length_map];exact hlen) (2 - 1));simp only [selM_all] at HSEQ;have HIS:=Lib.hid his;have HLEN:=Lib.hid hlen;have c1:(((w.alloc (.cells #[.func (.func f) #[] caps] 88)).alloc (.cells #[.slice none 0 0] 94)).cell? ⟨S,1,none⟩)=some (ptrV tb):=by obtain ⟨_,hb⟩:=HS0.out.has 3 rfl;have:=(blk_get hb).1 1;rw [<-htb];exact this
 have hSl:S < ((w.alloc (.cells #[.func (.func f) #[] caps] 88)).alloc (.cells #[.slice none 0 0] 94)).heap.size:=World.block_lt_of_cell? _ _ c1;clear hS his hlen;rw [htb] at HSEQ;have HTB:=Lib.hid htb;clear htb;unfold ptrV at *;dsimp only [fBetw1] at HSEQ;refine calls_of_wp_m Tryz.func48 rfl ?_;simp only [Tryz.ntmps48,List.size_toArray,List.length_cons,List.length_nil,Nat.reduceAdd,Nat.reduceSub,Array.replicate_succ,Array.replicate_zero,List.push_toArray,List.append_toArray,List.nil_append,List.cons_append];go_upto_region 2 with (fail)
 generalize hWW:(w.alloc _).alloc _=W0;have HS1:=Lib.hid (show St w0 fp0 _ W0 from hWW ▸ HS0.out);have c1':W0.cell? ⟨S,1,none⟩=some (.pointer (some ⟨tb,0,none⟩)):=hWW ▸ c1;have hSl':S < W0.heap.size:=hWW ▸ hSl;clear hWW HS0 c1 hSl;obtain ⟨b3,hbm⟩:∃b3,w.heap.size=b3:=⟨_,rfl⟩
 simp only [hbm] at HS1 ⊢;clear hbm;have HA:=Lib.hid (All_calls tb w0 W0 fp0 _ HS1.out);clear HS1;go_wp2_with fail;(with_reducible refine HA.out.mono ?_);rintro e w1 ⟨bt,bl,bh,rfl,hs1⟩;have HS1:=Lib.hid hs1;clear hs1 HA c1' hSl';unfold iterF;dsimp only [fBetw1];go_wp2_with fail;have HFR:Hid (St w0 fp0 (betL false 16 s.h (reM s.es) tb bt bl bh 0 0 none none++(blkA (b3+1) 94 #[.slice none 0 0]::rowA 114 2 (.slice none 0 0) 0 []::blkA b3 88 #[.func (.func f) #[] caps]::stoR S s++(LX++R))) w1):=by have h1:St w0 fp0 (emp::emp::(iterL false tb bt bl bh 0 0 none none++(rowA 114 2 (.slice none 0 0) 0 []::blkA (b3+1) 94 #[.slice none 0 0]::blkA b3 88 #[.func (.func f) #[] caps]::(stoL S s++(LX++R))))) w1:=St.emp.2 (St.emp.2 HS1.out);refine h1.perm ?_;rw [<-HTB.out];unfold stoL stoR betL iterL optB;exact (by classical exact List.perm_iff_count.2 λ a=> by simp only [List.cons_append,List.nil_append,List.count_append,List.count_cons] <;> omega)
 obtain ⟨b5,hb5⟩:∃b5,b3+1=b5:=⟨_,rfl⟩
 rw [hb5] at HFR ⊢;clear HS1;refine wp_rangeFunc_st (n:=2) rfl (enters_of Tryz.func137 (by kernel_rfl) rfl) (HSEQ.out bt bl bh) (λ _=> rfl)
  (smI b5 b3 (.func (.func f) #[] caps) p s.es (iterL false tb bt bl bh 0 0 none none++(stoL S s++(LX++R)))) (λ _ _=> [pureA False]) _ HFR.out ?h0 ?round ?done ?stop
 case h0=>
  intro Own W hW;have h1:St w0 fp0 (emp::emp::(blkA b5 94 #[.slice none 0 0]::rowA 114 2 (.slice none 0 0) 0 []::(blkA b3 88 #[.func (.func f) #[] caps]::(iterL false tb bt bl bh 0 0 none none++(stoL S s++(LX++R)))++Own))) W:=by refine hW.perm ?_;rw [<-HTB.out];unfold stoL stoR betL iterL optB;exact (by classical exact List.perm_iff_count.2 λ a=> by simp only [List.cons_append,List.nil_append,List.count_append,List.count_cons] <;> omega)
  have h2:=St.emp.1 (St.emp.1 h1);exact St.out.2 ⟨_,h2⟩
 case round=>
  intro l0 pre x rest Own W hxs hs;obtain ⟨e,hx,het,hem⟩:=reM_split hxs;obtain ⟨PRE,hPRE⟩:∃PRE,somL p (s.es.take pre.length)=PRE:=⟨_,rfl⟩
  have hPL:PRE.length+1 < 1099511627776:=by have h1:=somL_len p (s.es.take pre.length);rw [hPRE,List.length_take] at h1;have:=HLEN.out;omega
  obtain ⟨nx,hnx⟩:∃nx,pre++[x]=nx:=⟨_,rfl⟩
  have HNX:Hid (somL p (s.es.take nx.length)=PRE++if p e then [toRi e] else []):=by show _=_;rw [<-hnx,List.length_append,show [x].length=1 from rfl,het,somL_snoc,hPRE]
  have hsm:smI b5 b3 (.func (.func f) #[] caps) p s.es (iterL false tb bt bl bh 0 0 none none++(stoL S s++(LX++R))) pre=outA b5 PRE::blkA b3 88 #[.func (.func f) #[] caps]::(iterL false tb bt bl bh 0 0 none none++(stoL S s++(LX++R))):=by rw [smI,hPRE]
  rw [hsm] at hs ⊢;rw [hnx,hx];have HV:=Lib.hid (toRi_v (HSL.out e hem));have HEM:=Lib.hid hem;clear hx het hPRE hxs hem hsm hnx;obtain ⟨va,vn,vc,hvv⟩:∃a n c,encV e.va=.slice a n c:=by obtain ⟨a,n,c,h⟩:=HSL.out e HEM.out;exact ⟨a,n,c,by rw [h];rfl⟩
  rw [hvv] at HV ⊢;dsimp only [encK]
  gi_wp2
  refine ⟨hs,λ Own2 W2 hs2=> ?_⟩;clear hs Own W;have h2:St w0 fp0 (stoL S s++(LX++(R++(outA b5 PRE::blkA b3 88 #[.func (.func f) #[] caps]::(iterL false tb bt bl bh 0 0 none none++Own2))))) W2:=by refine hs2.perm ?_;exact (by classical exact List.perm_iff_count.2 λ a=> by simp only [List.cons_append,List.count_append,List.count_cons] <;> omega)
  have HC:=Lib.hid (HIS.out w0 fp0 _ W2 e HEM.out h2);rw [hvv] at HC;clear hvv;obtain ⟨_,hb⟩:=hs2.has 1 rfl;have d0:=(blk_get hb).1 0;have dl:=(blk_get hb).2.2;simp only [List.getElem?_toArray,List.getElem?_cons_zero] at d0;clear hs2 h2 hb
  gi_wp2
  refine ⟨trivial,rfl,(CallsIn.inRound l0 (callsIn_wide.2 HC.out)).mono ?_⟩;rintro ev w3 ⟨rfl,h3⟩;clear HC d0 dl;have h4:St w0 fp0 (outA b5 PRE::(blkA b3 88 #[.func (.func f) #[] caps]::(iterL false tb bt bl bh 0 0 none none++(stoL S s++(LX++R)))++Own2)) w3:=by refine h3.perm ?_;exact (by classical exact List.perm_iff_count.2 λ a=> by simp only [List.cons_append,List.count_append,List.count_cons] <;> omega)
  obtain ⟨q,hq⟩:∃q,p e=q:=⟨_,rfl⟩
  rw [hq] at HNX ⊢;clear hq h3;cases q with
  | false=>
   have HF:Hid (St w0 fp0 (smI b5 b3 (.func (.func f) #[] caps) p s.es (iterL false tb bt bl bh 0 0 none none++(stoL S s++(LX++R))) nx++Own2) w3):=by show St _ _ _ _;unfold smI;rw [HNX.out,if_neg (by simp),List.append_nil];exact h4
   clear h4 HNX
   gi_wp2
   exact HF.out
  | true=>
   obtain ⟨v0,h5⟩:=St.out.1 h4;obtain ⟨_,hb⟩:=h5.has 0 rfl;have d0:=(blk_get hb).1 0;have dl:=(blk_get hb).2.2;simp only [List.getElem?_toArray,List.getElem?_cons_zero] at d0;obtain ⟨v',w',hr,⟨a',c',rfl⟩,e0,e1,e2,h6⟩:=h5.appIt 94 (toRi e) hPL;rw [HV.out,show (toRi e).id=e.id from rfl] at hr;have h7:=St.out.2 ⟨_,h6⟩;have HF:Hid (St w0 fp0 (smI b5 b3 (.func (.func f) #[] caps) p s.es (iterL false tb bt bl bh 0 0 none none++(stoL S s++(LX++R))) nx++Own2) (w'.setCell ⟨b5,0,none⟩ (.slice a' (PRE.length+1) c'))):=by show St _ _ _ _;unfold smI;rw [HNX.out,if_pos rfl];exact h7
   have HR:=Lib.hid hr;clear h4 HNX h5 hb h6 h7 hr
   gi_wp2_with (gi_at_builtin;refine wpListIn_append_run rfl _ _ _ rfl rfl rfl HR.out ?_)
   exact HF.out
 case done=>
  intro D W hW;have hlr:(reM s.es).length=s.es.length:=by rw [reM,List.length_map]
  have h1:St w0 fp0 (outA b5 (somL p s.es)::blkA b3 88 #[.func (.func f) #[] caps]::(iterL false tb bt bl bh 0 0 none none++(defA D::(stoL S s++(LX++R))))) W:=by refine hW.perm ?_;unfold smI;rw [hlr,List.take_length];exact (by classical exact List.perm_iff_count.2 λ a=> by simp only [List.count_append,List.count_cons] <;> omega)
  obtain ⟨v0,h2⟩:=St.out.1 h1;obtain ⟨_,hb⟩:=h2.has 0 rfl;have d0:=(blk_get hb).1 0;have dl:=(blk_get hb).2.2;simp only [List.getElem?_toArray,List.getElem?_cons_zero] at d0;have h3:St w0 fp0 (defA D::rowA 114 2 v0 (somL p s.es).length (riV (somL p s.es))::(stoL S s++(LX++R))) W:=by refine St.dropAll (A:=[blkA b5 94 #[v0],blkA b3 88 #[.func (.func f) #[] caps]]++iterL false tb bt bl bh 0 0 none none) (h2.perm ?_);exact (by classical exact List.perm_iff_count.2 λ a=> by simp only [List.cons_append,List.nil_append,List.count_append,List.count_cons] <;> omega)
  have H3:=Lib.hid h3;clear hW h1 h2 h3 hb hlr;dsimp only;go_wp2;exact bodyPostM_mark H3.out rfl λ w' hw'=> ⟨_,results_tmp rfl _ _ _,v0,rfl,hw'⟩
 case stop=>
  intro D c pre x rest W hxs hW;exact ((St.pure.1 (show St w0 fp0 (pureA False::[defA D]) W from hW.perm (List.Perm.swap _ _ _))).1).elim
end
theorem all11_isc (S:Nat) (s:Sto):IsC 54 #[] (λ _=> true) S s []:=by
 intro w0 fp0 R w e he hs;have HS:=Lib.hid hs;generalize encV e.va=v;clear hs;go_enter Tryz.func54,Tryz.ntmps54;go_wp2;go_ret;exact ⟨rfl,HS.out⟩
theorem all1_calls (bS S:Nat) (s:Sto) (hlen:s.es.length+1 < 1099511627776) (w0 w:World) (fp0:List Nat) (R:List Asn) (hS:St w0 fp0 (blkA bS 34 #[ptrV S]::(stoL S s++R)) w):
 Calls Tryz.prog 53 #[.pointer (some ⟨bS,0,none⟩)] w λ e w'=> ∃v,e=.returned v/\St w0 fp0 (rowA 114 2 v (somL (λ _=> true) s.es).length (riV (somL (λ _=> true) s.es))::blkA bS 34 #[ptrV S]::(stoL S s++R)) w':=by
 obtain ⟨_,hb⟩:=hS.has 0 rfl;have c0:=(blk_get hb).1 0;have cl:=(blk_get hb).2.2;simp only [List.getElem?_toArray,List.getElem?_cons_zero] at c0;have HC:=Lib.hid (some_calls 54 #[] (λ _=> true) S s [] (enters_own Tryz.func54 (by kernel_rfl) rfl) hlen (all11_isc S s) w0 w fp0 (blkA bS 34 #[ptrV S]::R) (hS.perm List.perm_middle.symm));clear hS hb;unfold ptrV at *;go_enter Tryz.func53,Tryz.ntmps53;go_wp2_with fail;(with_reducible refine HC.out.mono ?_);rintro e w1 ⟨v,rfl,h1⟩;have H1:=Lib.hid (show St w0 fp0 (rowA 114 2 v (somL (λ _=> true) s.es).length (riV (somL (λ _=> true) s.es))::blkA bS 34 #[.pointer (some ⟨S,0,none⟩)]::(stoL S s++R)) w1 from h1.perm (List.Perm.cons _ List.perm_middle));clear HC h1 c0 cl;go_wp2;go_ret;exact ⟨v,rfl,H1.out⟩
def allF (cb:Nat):Value:=.func (.func 84) #[] #[.pointer (some ⟨cb,0,none⟩)]
theorem each_calls (col:Value) (h1:col.oneCell'=true) (hc:∃f caps,col=.func (.func f) #[] caps) (w0 w:World) (fp0:List Nat) (R:List Asn) (hS:St w0 fp0 R w):
 Calls Tryz.prog 45 #[col] w λ e w'=> ∃cb,e=.returned (allF cb)/\St w0 fp0 (blkA cb 109 #[col]::R) w':=by
 obtain ⟨f,caps,rfl⟩:=hc;have HS:=Lib.hid (hS.newblk 109 #[.func (.func f) #[] caps]);clear hS;unfold allF;go_enter Tryz.func45,Tryz.ntmps45;go_wp2;go_ret;exact ⟨_,rfl,HS.out⟩
theorem All_store (S:Nat) (w0 w:World) (fp0:List Nat) (R:List Asn) (hS:St w0 fp0 R w):
 Calls Tryz.prog 16 #[ptrV S] w λ e w'=> ∃cb bS,e=.returned (allF cb)/\St w0 fp0 (blkA cb 109 #[.func (.func 53) #[] #[.pointer (some ⟨bS,0,none⟩)]]::blkA bS 34 #[ptrV S]::R) w':=by
 have HC:=Lib.hid (each_calls (.func (.func 53) #[] #[.pointer (some ⟨w.heap.size,0,none⟩)]) rfl ⟨_,_,rfl⟩ w0 _ fp0 _ (hS.newblk 34 #[ptrV S]));clear hS;unfold ptrV allF at *;go_enter Tryz.func16,Tryz.ntmps16;go_wp2_with fail;(with_reducible refine HC.out.mono ?_);rintro e w1 ⟨cb,rfl,h1⟩;have H1:=Lib.hid h1;clear h1 HC;go_wp2;go_ret;exact ⟨_,_,rfl,H1.out⟩
theorem somL_row {p:Re->Bool} {es:List Re} {x:Ri} (h:x∈somL p es):∃e∈es,p e=true/\x=toRi e:=by
 obtain ⟨e,he,rfl⟩:=List.mem_map.1 h;obtain ⟨h1,h2⟩:=List.mem_filter.1 he;exact ⟨e,h1,h2,rfl⟩
theorem somL_len2 {p:Re->Bool} {cols:Nat} {I:List (List Int)} {L:LL} {next:Int} {s:Sto} (hok:s.Ok cols I L next) (hc:cols<=1000000):∀x∈somL p s.es,x.r.length < 1099511627776:=by
 intro x hx;obtain ⟨e,he, -,rfl⟩:=somL_row hx;have hm:(e.id,e.r)∈L:=by rw [<-hok.rows];exact List.mem_map.2 ⟨_,he,rfl⟩
 have:e.r.length=cols:=(hok.row _ hm).2.2.1;show e.r.length < _;omega
theorem all_seq {S cols:Nat} {I:List (List Int)} {L:LL} {next:Int} {s:Sto} (hok:s.Ok cols I L next) (hc:cols<=1000000) (hlen:s.es.length+1 < 1099511627776) (bS cb:Nat) (n:Nat):
 SeqG n Tryz.prog 84 #[.pointer (some ⟨cb,0,none⟩)] 2 itG (λ W=> ∀x∈somL (λ _=> true) s.es,ValsAt W x.r x.v) (somL (λ _=> true) s.es) (blkA cb 109 #[.func (.func 53) #[] #[.pointer (some ⟨bS,0,none⟩)]]::(blkA bS 34 #[ptrV S]::stoL S s)):=
 each1_seq 53 #[.pointer (some ⟨bS,0,none⟩)] cb _ _ (enters_own Tryz.func53 (by kernel_rfl) rfl) (Nat.lt_of_le_of_lt (somL_len _ _) (by omega)) (somL_len2 hok hc) (λ w0 fp0 R w hs=> by have h1:St w0 fp0 (blkA bS 34 #[ptrV S]::(stoL S s++(blkA cb 109 #[.func (.func 53) #[] #[.pointer (some ⟨bS,0,none⟩)]]::R))) w:=hs.perm (by simp only [List.cons_append];exact (by classical exact List.perm_iff_count.2 λ a=> by simp only [List.count_append,List.count_cons] <;> omega));refine (all1_calls bS S s hlen w0 w fp0 _ h1).mono ?_;rintro e w' ⟨v,rfl,h2⟩;refine ⟨v,rfl,h2.perm ?_⟩;simp only [List.cons_append];exact (by classical exact List.perm_iff_count.2 λ a=> by simp only [List.count_append,List.count_cons] <;> omega)) n
theorem St.emptyV {w0 w:World} {fp0:List Nat} {L:List Asn} (h:St w0 fp0 L w):St w0 fp0 (rowA 29 3 (.slice (some ⟨w.heap.size,0,none⟩) 0 0) 0 []::L) (w.alloc (.cells #[] 29)):=
 (h.newblk 29 #[]).fold (L1:=[blkA w.heap.size 29 #[]]) λ f ⟨f1,f2,hf,h3,_,e⟩=> by obtain rfl:=h3;rw [List.append_nil] at e;subst e;exact row_empty hf
theorem appVS:AppSrc Tryz.prog 27 27 29 3:=appSrc (z:=.agg #[.int .i64 0, .int .i64 0, .string ⟨#[]⟩]) (bytes:=32) (by kernel_rfl) (by kernel_rfl) rfl (by decide) (by decide)
def gTk7 (b5:Nat) (lv:Value) (id:Int) (xa:Option Addr) (xn xc m:Nat) (XS V:List Value):=rgx Tryz.prog Tryz.f14 7 30 [17,18,19,20,21,22,23,24] [(5,pV b5 0),(6, .int .i64 id),(7, .slice xa xn xc)] (Vq 0 17 [Kv lv,Kv (.int .i64 id)]++Vq 3 20 [Kv (.slice xa xn xc),Vf.slice,Fv [21] λ g=> .agg #[.int .i64 id, .slice (sa (g 21)) (sn (g 21)) (sc (g 21))],Vf.box,Vf.slice]) [.blk b5 (35) [⟨lv,[(8, .s 24)]⟩], .all (rowA 29 3 (.slice xa xn xc) xn XS), .gen [2,4] [19,21] λ L g=> match L 4 with | true=> rowA 29 3 (g 21) xn XS | false=> match L 2 with | true=> rowA 29 3 (g 19) 0 [] | false=> emp, .new 6 [23,21] λ g=> boxsA 56 (g 23) #[.int .i64 id, .slice (sa (g 21)) (sn (g 21)) (sc (g 21))], .gen [7] [24,21] λ L g=> match L 7 with | true=> rowA 56 2 (g 24) (m+1) (V++[Value.int .i64 id,Value.slice (sa (g 21)) (sn (g 21)) (sc (g 21))]) | false=> rowA 56 2 lv m V]
theorem rTk7 (b5:Nat) (lv:Value) (id:Int) (xa:Option Addr) (xn xc m:Nat) (XS V:List Value) (w0:World) (fp0:List Nat) (R:List Asn) (hx:XS.length=xn * 3) (hx1:∀u∈XS,u.oneCell'=true) (hn:xn < 1099511627776) (hl:m+1 < 1099511627776) {w:World} {c:Code} {a:Act} {l0 n0:Nat} {Q:Exit->Act->World->Prop} (c1:isDrw c=true) (c2:cops c=opsR Tryz.f14 7) (c3:a.tmps.size=30) (c4:a.defers=[]) (i5:a.eval (.tmp 5)=.pointer (some ⟨b5,0,none⟩)) (i6:a.eval (.tmp 6)=.int .i64 id) (i7:a.eval (.tmp 7)=.slice xa xn xc)
 (hS:St w0 fp0 ([blkA b5 (35) #[lv],rowA 29 3 (.slice xa xn xc) xn XS,emp,emp,rowA 56 2 lv m V]++R) w)
 (hq:∀a w,¬ Q .outgrown a w) (hQ:∀(u19 u21 u22 u23 u24:Value) (w1:World),(∃a n c,u21=.slice a n c)->u22=.agg #[.int .i64 id, .slice (sa (u21)) (sn (u21)) (sc (u21))]->(∃b,u23=.slice (some ⟨b,0,none⟩) 1 1)->(∃a n c,u24=.slice a n c)->St w0 fp0 ([blkA b5 (35) #[u24],rowA 29 3 (.slice xa xn xc) xn XS,rowA 29 3 (u21) xn XS,boxsA 56 (u23) #[.int .i64 id, .slice (sa (u21)) (sn (u21)) (sc (u21))],rowA 56 2 (u24) (m+1) (V++[Value.int .i64 id,Value.slice (sa (u21)) (sn (u21)) (sc (u21))])]++R) w1->Q .normal (putL a [(17,lv),(18, .int .i64 id),(19,u19),(20, .slice xa xn xc),(21,u21),(22,u22),(23,u23),(24,u24)]) w1):c.wpIn (Fence.wide.inRound l0) n0 Tryz.prog Q a w:=by
 have ok:(gTk7 b5 lv id xa xn xc m XS V w0 fp0 R).Ok 9:=Rg.ok _ 9 [0,2,4,6,7,8] ⟨.load _ 0 0 0, .runG _ 2 (λ g=> [blkA b5 35 #[lv],rowA 29 3 (.slice xa xn xc) xn XS,emp,emp,rowA 56 2 lv m V]) (λ g v=> [blkA b5 35 #[lv],rowA 29 3 (.slice xa xn xc) xn XS,rowA 29 3 v 0 [],emp,rowA 56 2 lv m V]) (λ a w h=> ⟨.slice (some ⟨w.heap.size,0,none⟩) 0 0,w.alloc (.cells #[] 29),kr (by kernel_rfl),kr (by kernel_rfl),St.emp.1 (St_re (L:=[_,_,_,_,_,_]) h.emptyV [3,1,2,0,4,5] [] (by kernel_rfl))⟩), .appG _ 4 (λ g=> [blkA b5 35 #[lv],rowA 29 3 (.slice xa xn xc) xn XS,rowA 29 3 (g 19) 0 [],emp,rowA 56 2 lv m V]) (λ g v=> [blkA b5 35 #[lv],rowA 29 3 (.slice xa xn xc) xn XS,rowA 29 3 v xn XS,emp,rowA 56 2 lv m V]) (λ ty g w h=> (by obtain ⟨fa,hfa⟩:=h.has 1 rfl;obtain ⟨v,w2,h1,h2⟩:=St.appSrc appVS ty (St_re (L:=[_,_,_,_,_]) h [2,0,1,3,4] [] (by kernel_rfl)) ((SlX.of_row (X:=[]) hfa hx (by simp)).src (tx:=27) (e':=29) (by kernel_rfl) (by decide) hx1) (by omega);rw [Nat.zero_add,List.nil_append] at h2;obtain ⟨_,hr⟩:=h2.has 0 rfl;obtain ⟨a,c,rfl, -⟩:=row_shape hr;exact ⟨_,w2,h1,kr (by kernel_rfl),St_re (L:=[_,_,_,_,_]) h2 [1,2,0,3,4] [] (by kernel_rfl)⟩)), .boxsG _ 6 3, .appG _ 7 (λ g=> [blkA b5 35 #[lv],rowA 29 3 (.slice xa xn xc) xn XS,rowA 29 3 (g 21) xn XS,boxsA 56 (g 23) #[.int .i64 id, .slice (sa (g 21)) (sn (g 21)) (sc (g 21))],rowA 56 2 lv m V]) (λ g v=> [blkA b5 35 #[lv],rowA 29 3 (.slice xa xn xc) xn XS,rowA 29 3 (g 21) xn XS,boxsA 56 (g 23) #[.int .i64 id, .slice (sa (g 21)) (sn (g 21)) (sc (g 21))],rowA 56 2 v (m+1) (V++[Value.int .i64 id,Value.slice (sa (g 21)) (sn (g 21)) (sc (g 21))])]) (λ ty g w h=> (by obtain ⟨fb,hfb⟩:=h.has 3 rfl;obtain ⟨v,w2,h1,h2⟩:=St.appSrc appRI ty (St_re (L:=[_,_,_,_,_]) h [4,0,1,2,3] [] (by kernel_rfl)) (boxs_src (tx:=35) (e':=56) (by kernel_rfl) hfb rfl (by simp;exact ⟨rfl,rfl⟩)) hl;obtain ⟨_,hr⟩:=h2.has 0 rfl;obtain ⟨a,c,rfl, -⟩:=row_shape hr;exact ⟨_,w2,h1,kr (by kernel_rfl),St_re (L:=[_,_,_,_,_]) h2 [1,2,3,4,0] [] (by kernel_rfl)⟩)), .store _ 8 0 0,trivial⟩;refine wpIn_regT hq ok (by kernel_rfl) ⟨c1,c2⟩ ⟨c3,c4,λ p hp=> ?_⟩ hS λ A1 w1 N1 H1=> ?_
 · simp only [gTk7,rgx,List.map_nil,List.append_nil,List.mem_cons,List.not_mem_nil,or_false] at hp
   rcases hp with rfl | rfl | rfl
   · exact i5
   · exact i6
   · exact i7
 exact N1.fin [19,21,22,23,24] (hQ (slots A1 19) (slots A1 21) (slots A1 22) (slots A1 23) (slots A1 24) w1 ⟨_,_,_,(N1.val 3 rfl)⟩ (N1.val 4 rfl) ⟨_,(N1.val 5 rfl)⟩ ⟨_,_,_,(N1.val 6 rfl)⟩ H1) (by kernel_rfl)
theorem riL_drop_eq {l m:List Ri} {k:Nat} (h1:k < l.length) (h2:k < m.length):riL (l.drop k)=riL (m.drop k)↔(l[k].id=m[k].id/\l[k].r=m[k].r)/\riL (l.drop (k+1))=riL (m.drop (k+1)):=by
 rw [List.drop_eq_getElem_cons h1,List.drop_eq_getElem_cons h2];simp only [riL,List.map_cons,List.cons.injEq,Prod.mk.injEq]
theorem RSameI_calls (l m:List Ri) (v u:Value) (w:World) (hl:RiX w l v) (hm:RiX w m u):Calls Tryz.prog 13 #[v,u] w λ e w'=> e=.returned (.bool (decide (riL l=riL m)))/\Below w.heap.size w w':=by
 obtain ⟨a,c,rfl⟩:=hl.sl.shape;obtain ⟨a2,c2,rfl⟩:=hm.sl.shape;obtain ⟨n,hn⟩:∃n,l.length=n:=⟨_,rfl⟩
 obtain ⟨n2,hn2⟩:∃n2,m.length=n2:=⟨_,rfl⟩
 have hb1:n<=9223372036854775807:=by have:=hl.sl.1;unfold maxLen at this;omega
 have HV:=Lib.hid hl;have HU:=Lib.hid hm;obtain ⟨q,hq⟩:∃q,decide (riL l=riL m)=q:=⟨_,rfl⟩
 have HQ:=Lib.hid hq;have HN:=Lib.hid hn;have HN2:=Lib.hid hn2;rw [hq];clear hl hm hq;by_cases he:n=n2
 · have HE:Hid (riL (l.drop 0)=riL (m.drop 0)↔riL l=riL m):=by show _↔_;simp
   rw [hn2,hn];rw [hn] at HV;rw [hn2] at HU;clear hn hn2;subst he;have he':((n:Int) !=n)=false:=by simp
   go_enter Tryz.func13,Tryz.ntmps13;go_wp2;go_loopg [5] n (λ g z wr=> ∃k:Nat,z=.int .i64 k/\g+k=n/\Hid (riL (l.drop k)=riL (m.drop k)↔riL l=riL m)/\Hid (Below w.heap.size w wr))
   case atStart=> exact ⟨0,rfl,rfl,HE,Below.refl _ _⟩
   case round=>
    clear HE;obtain ⟨k,rfl,hgk,He,Hb⟩:=hrel;by_cases hk:k < n
    · have hkl:k < l.length:=by rw [HN.out];exact hk
      have hkm:k < m.length:=by rw [HN2.out];exact hk
      have hv:=HV.out.mono Hb.out;have hu:=HU.out.mono Hb.out;obtain ⟨b,o,c',e1,p1,p2⟩:=ri_cells hv.sl k hkl;obtain ⟨b2,o2,c2',e2,r1,r2⟩:=ri_cells hu.sl k hkm;obtain ⟨rfl, -, -⟩:=Value.slice.inj e1;obtain ⟨rfl, -, -⟩:=Value.slice.inj e2;have hpl:=World.block_lt_of_cell? wr _ p1;have hrl:=World.block_lt_of_cell? wr _ r1;have hk':(k:Int) < n:=by omega
      have HD:=Lib.hid (riL_drop_eq hkl hkm);have HS:=Lib.hid (λ w' (hb:Below wr.heap.size wr w')=> rsame_calls l[k].r m[k].r l[k].v m[k].v w' ((hv.row _ (List.getElem_mem hkl)).mono hb) ((hu.row _ (List.getElem_mem hkm)).mono hb));have Hgk:=Lib.hid hgk;clear hgk e1 e2 hv hu;generalize l[k]=x at *;generalize m[k]=y at *;clear hkl hkm;obtain ⟨xid,xa,xn,xc,xr⟩:=x;obtain ⟨yid,ya,yn,yc,yr⟩:=y;unfold Ri.v at *;simp only at *;by_cases hxy:xid=yid
      · subst hxy
        have hne:(xid !=xid)=false:=by simp
        obtain ⟨t,ht⟩:∃t,decide (xr=yr)=t:=⟨_,rfl⟩
        have HT:=Lib.hid ht;rw [ht] at HS;clear ht;go_upto_region 6 with (fail)
        go_region_held3 (λ w'=> Below wr.heap.size wr w'/\∀b o,b < wr.heap.size->w'.cell? ⟨b,o,none⟩=wr.cell? ⟨b,o,none⟩)
         (first | assumption | exact S_of (Below.drew (Below.refl _ _)) | exact S_step (by assumption) (by assumption))
         (first | (go_at_call 29;(with_reducible refine (HS.out _ (And.left (by assumption))).mono ?_);rintro e w1 ⟨rfl,hb1⟩))
        all_goals
         rename_i hH
         have Hb1:=Lib.hid (Hb.out.trans (hH.1.mono Hb.out.size));clear hH;cases t
         · have HF:Hid (q=false):=by
            have:¬ riL l=riL m:=λ h=> of_decide_eq_false HT.out (HD.out.1 (He.out.2 h)).1.2;show _=_;rw [<-HQ.out,decide_eq_false this]
           obtain rfl:=HF.out;go_wp2;go_ret;exact ⟨rfl,Hb1.out⟩
         · go_wp2
           go_roundg (gk - 1)
           case rel=>
            refine ⟨k+1,by go_num,by have:=Hgk.out;omega,?_,Hb1⟩;show _↔_;rw [<-He.out,HD.out];simp only [true_and];exact ⟨λ h=> ⟨of_decide_eq_true HT.out,h⟩,λ h=> h.2⟩
           case measure=> have:=Hgk.out;omega
      · have hne:(xid !=yid)=true:=by simp [hxy]
        have HF:Hid (q=false):=by have:¬ riL l=riL m:=λ h=> hxy (HD.out.1 (He.out.2 h)).1.1;show _=_;rw [<-HQ.out,decide_eq_false this]
        obtain rfl:=HF.out;clear hxy HS;go_upto_region 6 with (fail)
        go_quiet (fail);go_wp2;go_ret;exact ⟨rfl,Hb.out.trans ((below_drewN _ _).mono Hb.out.size)⟩
    · obtain rfl:k=n:=by omega
      have HR:Hid (q=true):=by have:riL l=riL m:=He.out.1 (by rw [List.drop_of_length_le (by rw [HN.out];exact Nat.le_refl _),List.drop_of_length_le (by rw [HN2.out];exact Nat.le_refl _)]);show _=_;rw [<-HQ.out,decide_eq_true this]
      obtain rfl:=HR.out;clear hgk hk;go_wp2;go_ret;exact ⟨rfl,Hb.out⟩
 · have he':((n:Int) !=n2)=true:=by simp;omega
   have HF:Hid (q=false):=by
    have:¬ riL l=riL m:=λ h=> by have:=congrArg List.length h;simp only [riL,List.length_map] at this;omega
    show _=_;rw [<-HQ.out,decide_eq_false this]
   obtain rfl:=HF.out;rw [hn,hn2];rw [hn] at HV;rw [hn2] at HU;clear he hn hn2;go_enter Tryz.func13,Tryz.ntmps13;go_wp2;go_ret;exact ⟨rfl,Below.refl _ _⟩
section
open Go.Shelf
attribute [local go_sem] Oper.semAt_some
def rowP (x:Ri):Asn:=rowA 29 3 x.v x.r.length (flat x.r)
def itsL (v:Value) (out:List Ri):List Asn:=riA v out::out.map rowP
def tkA (b5:Nat) (pre:List Ri):Asn:=exA λ q:Value×List Ri=> starA (pureA (riL q.2=riL pre)::blkA b5 35 #[q.1]::itsL q.1 q.2)
theorem St.tk {w0 w:World} {fp0:List Nat} {L:List Asn} {b5:Nat} {pre:List Ri}:St w0 fp0 (tkA b5 pre::L) w↔∃v out,riL out=riL pre/\St w0 fp0 (blkA b5 35 #[v]::(itsL v out++L)) w:=by
 unfold tkA;rw [St.exo (F:=λ q:Value×List Ri=> pureA (riL q.2=riL pre)::blkA b5 35 #[q.1]::itsL q.1 q.2)];constructor
 · rintro ⟨⟨v,out⟩,h⟩
   exact ⟨v,out,St.pure.1 h⟩
 · rintro ⟨v,out,h⟩
   exact ⟨⟨v,out⟩,St.pure.2 h⟩
def takeR (most:Int) (l:List Ri):List Ri:=if most < 1 then [] else l.take most.toNat
def tzI (b5 b3:Nat) (most:Int) (L:List Asn) (pre:List Ri):List Asn:=pureA ((pre.length:Int) < most)::tkA b5 pre::blkA b3 3 #[.int .i64 most]::L
def tzX (b5:Nat) (most:Int) (L:List Asn) (c:Code) (pre:List Ri):List Asn:=pureA (c=.exit 0)::pureA (pre.length=most.toNat)::tkA b5 pre::L
theorem taken_calls (g:Nat) (lb:Array Value) (eg:∀args w,(callFunc g args).run Tryz.prog w=.ok (.enter g args) w) (Qr:World->Prop) (its:List Ri) (L0:List Asn) (hseq:SeqG (2 - 1) Tryz.prog g lb 2 itG Qr its L0) (hlen:its.length < 1099511627775) (hrow:∀x∈its,x.r.length < 1099511627776)
 (most:Int) (w0 w:World) (fp0:List Nat) (R:List Asn) (hqr:∀Own W,St w0 fp0 (L0++Own) W->Qr W) (hS:St w0 fp0 (L0++R) w):
 Calls Tryz.prog 14 #[.func (.func g) #[] lb, .int .i64 most] w λ e w'=> ∃v out,e=.returned v/\riL out=riL (takeR most its)/\St w0 fp0 (itsL v out++(L0++R)) w':=by
 have hnn:∀w,(binOp .eql 44 (.func (.func g) #[] lb) .nilFunc).run Tryz.prog w=.ok (.bool false) w:=λ w=> run_eql_func_nil Tryz.underlying44 w;have HS:=Lib.hid hS;have Hlen:=Lib.hid hlen;have Hrow:=Lib.hid hrow;by_cases hm:most < 1
 · have hT:Hid (takeR most its=[]):=by show _=_;simp [takeR,hm]
   clear hS hlen hrow hqr hseq;refine calls_of_wp_m Tryz.func14 rfl ?_;simp only [Tryz.ntmps14,List.size_toArray,List.length_cons,List.length_nil,Nat.reduceAdd,Nat.reduceSub,Array.replicate_succ,Array.replicate_zero,List.push_toArray,List.append_toArray,List.nil_append,List.cons_append];go_wp2;refine bodyPostM_ret (results_tmp rfl _ _ _) rfl ?_;refine ⟨_,[],rfl,by rw [hT.out],?_⟩;refine St.nilR 56 2 (HS.out.mono ?_);exact ((Below.refl _ _).alloc (Nat.le_refl _) _).alloc (by simp) _
 · have hT:Hid (takeR most its=its.take most.toNat):=by show _=_;simp [takeR,hm]
   have hm1:decide (most < 1)=false:=by simp;omega
   have HM:Hid (1<=most):=by show _<=_;omega
   have HSEQ:=Lib.hid hseq;have HQR:=Lib.hid hqr;have HS0:Hid (St w0 fp0 (L0++(blkA (w.heap.size+1) 35 #[.slice none 0 0]::rowA 56 2 (.slice none 0 0) 0 []::blkA w.heap.size 3 #[.int .i64 most]::R)) ((w.alloc (.cells #[.int .i64 most] 3)).alloc (.cells #[.slice none 0 0] 35))):=by have h1:=((hS.newblk 3 #[.int .i64 most]).newblk 35 #[.slice none 0 0]).nilR 56 2;simp only [World.size_alloc] at h1;refine h1.perm ?_;exact (by classical exact List.perm_iff_count.2 λ a=> by simp only [List.count_append,List.count_cons] <;> omega)
   clear hS hlen hrow hqr hseq hm;refine calls_of_wp_m Tryz.func14 rfl ?_;simp only [Tryz.ntmps14,List.size_toArray,List.length_cons,List.length_nil,Nat.reduceAdd,Nat.reduceSub,Array.replicate_succ,Array.replicate_zero,List.push_toArray,List.append_toArray,List.nil_append,List.cons_append];go_wp2_with fail;generalize hWW:(w.alloc _).alloc _=W0 at *;clear hWW;obtain ⟨b3,hbm⟩:∃b3,w.heap.size=b3:=⟨_,rfl⟩
   rw [hbm] at HS0 ⊢;clear hbm;generalize b3+1=b5 at *;refine wp_rangeFunc_g (n:=2) rfl eg HSEQ.out
    (tzI b5 b3 most (L0++R)) (tzX b5 most (L0++R)) _ HS0.out ?h0 ?hqr ?round ?done ?stop
   case h0=>
    intro Own W hW;refine St.pure.2 ⟨by have:=HM.out;simp;omega,?_⟩;refine St.tk.2 ⟨.slice none 0 0,[],rfl,hW.perm ?_⟩;unfold itsL riA;exact (by classical exact List.perm_iff_count.2 λ a=> by simp only [List.map_nil,List.cons_append,List.nil_append,List.count_append,List.count_cons,riV,List.flatMap_nil,List.length_nil,List.append_eq] <;> omega)
   case hqr=>
    intro pre Own W hW;refine HQR.out (pureA ((pre.length:Int) < most)::tkA b5 pre::blkA b3 3 #[.int .i64 most]::(R++Own)) W (hW.perm ?_);unfold tzI;exact (by classical exact List.perm_iff_count.2 λ a=> by simp only [List.cons_append,List.count_append,List.count_cons] <;> omega)
   case round=>
    intro l0 pre x rest args Own W hxs hsz hs;obtain ⟨xa,xc,rfl,hs'⟩:=itG_out (show St w0 fp0 (itG x args::(tzI b5 b3 most (L0++R) pre++Own)) W from hs);clear hs;have HR:=Lib.hid (Hrow.out x (by rw [hxs];simp));have Hpl:Hid (pre.length+1 < 1099511627776):=by have h1:=congrArg List.length hxs;rw [List.length_append,List.length_cons] at h1;have:=Hlen.out;show _ < _;omega
    have HS1:=Lib.hid (itG_in hs');clear hs' hsz;have Hxs:=Lib.hid hxs;clear hxs
    gi_wp2
    refine ⟨HS1.out,λ Own2 W2 hs2=> ?_⟩;clear HS1;obtain ⟨ya,yc,hargs,h1⟩:=itG_out (show St w0 fp0 (itG x #[.int .i64 x.id, .slice xa x.r.length xc]::(tzI b5 b3 most (L0++R) pre++Own2)) W2 from hs2);have e1:Value.slice xa x.r.length xc=.slice ya x.r.length yc:=by simpa using hargs
    obtain ⟨rfl, -,rfl⟩:=Value.slice.inj e1;obtain ⟨hlt,h2⟩:=St.pure.1 (show St w0 fp0 (pureA ((pre.length:Int) < most)::rowA 29 3 (.slice xa x.r.length xc) x.r.length (flat x.r)::tkA b5 pre::(blkA b3 3 #[.int .i64 most]::(L0++R)++Own2)) W2 from h1.perm (List.Perm.swap _ _ _));obtain ⟨v0,out,ho,h3⟩:=St.tk.1 (h2.perm (List.Perm.swap _ _ _));have hol:out.length=pre.length:=by rw [<-riL_len,ho,riL_len]
    have HO:=Lib.hid ho;have h4:St w0 fp0 ([blkA b5 35 #[v0],rowA 29 3 (.slice xa x.r.length xc) x.r.length (flat x.r),emp,emp,rowA 56 2 v0 out.length (riV out)]++(out.map rowP++(blkA b3 3 #[.int .i64 most]::((L0++R)++Own2)))) W2:=by have h5:=St.emp.2 (St.emp.2 h3);refine h5.perm ?_;unfold itsL riA;exact (by classical exact List.perm_iff_count.2 λ a=> by simp only [List.cons_append,List.nil_append,List.count_append,List.count_cons] <;> omega)
    have H4:=Lib.hid h4;have Hlt:=Lib.hid hlt;have Hol:=Lib.hid hol;clear hs2 hargs e1 hlt h1 h2 h3 h4 ho hol;refine wpIn_block (wpIn_seq ?_);refine rTk7 (w0:=w0) (fp0:=fp0) b5 v0 x.id xa x.r.length xc out.length (flat x.r) (riV out) _ (by rw [length_flat]) (one_flat _) HR.out (by rw [Hol.out];exact Hpl.out) rfl (by kernel_rfl) rfl rfl rfl rfl rfl H4.out ?_ ?_
    · intro a w h;exact h
    intro u19 u21 u22 u23 u24 W3 ⟨da,dn,dc,d1⟩ hu22 ⟨db,hu23⟩ ⟨ea,en,ec,e1⟩ h5;subst d1 e1 hu22 hu23;obtain ⟨_,hr1⟩:=h5.has 2 rfl;obtain ⟨_,_,e2, -⟩:=row_shape hr1;obtain ⟨-,rfl, -⟩:=Value.slice.inj e2;obtain ⟨_,hr2⟩:=h5.has 4 rfl;obtain ⟨_,_,e3, -⟩:=row_shape hr2;obtain ⟨-,rfl, -⟩:=Value.slice.inj e3;have ho2:riL (out++[⟨x.id,da,x.r.length,dc,x.r⟩])=riL (pre++[x]):=by rw [riL_append,riL_append,HO.out];rfl
    have h6:St w0 fp0 (tkA b5 (pre++[x])::(blkA b3 3 #[.int .i64 most]::((L0++R)++Own2))) W3:=by refine St.tk.2 ⟨.slice ea (out.length+1) ec,out++[⟨x.id,da,x.r.length,dc,x.r⟩],ho2,?_⟩;refine St.dropAll (A:=[rowA 29 3 (.slice xa x.r.length xc) x.r.length (flat x.r),boxsA 56 (.slice (some ⟨db,0,none⟩) 1 1) #[.int .i64 x.id, .slice da x.r.length dc]]) (h5.perm ?_);unfold itsL riA;rw [riV_append,riV_one,List.length_append];exact (by classical exact List.perm_iff_count.2 λ a=> by simp only [List.map_append,List.map_cons,List.map_nil,rowP,Ri.v,List.length_singleton,List.cons_append,List.nil_append,List.count_append,List.count_cons,List.count_nil,sa,sn,sc] <;> omega)
    obtain ⟨_,hb5⟩:=h5.has 0 rfl;have d0:=(blk_get hb5).1 0;have dl:=(blk_get hb5).2.2;simp only [List.getElem?_toArray,List.getElem?_cons_zero] at d0;obtain ⟨_,hb3⟩:=h6.has 1 rfl;have f0:=(blk_get hb3).1 0;have fl:=(blk_get hb3).2.2;simp only [List.getElem?_toArray,List.getElem?_cons_zero] at f0;have H6:=Lib.hid h6;have hl:(pre++[x]).length=pre.length+1:=by simp
    have Hl:=Lib.hid hl;obtain ⟨nx,hnx⟩:∃nx,pre++[x]=nx:=⟨_,rfl⟩
    rw [hnx] at H6 Hl ⊢;clear H4 hr1 hr2 e2 e3 h5 h6 hb5 hb3 ho2 hl hnx HO Hxs;generalize hon:out.length+1=m at *;have Hon:=Lib.hid hon;clear hon;simp only [putL,List.foldl,Act.put,List.setIfInBounds_toArray,List.set_cons_succ,List.set_cons_zero];by_cases hge:most<=m
    · have hge':decide (most<=(m:Int))=true:=by simp [hge]
      have Hge:=Lib.hid hge;clear hge
      gi_wp2
      show St w0 fp0 (tzX b5 most (L0++R) (.exit 0) nx++Own2) W3;have e3:nx.length=most.toNat:=by have:=Hl.out;have:=Hol.out;have:=Hon.out;have:=Hlt.out;have:=Hge.out;omega
      refine St.pure.2 ⟨rfl,St.pure.2 ⟨e3,?_⟩⟩;refine St.dropAll (A:=[blkA b3 3 #[.int .i64 most]]) (H6.out.perm ?_);exact (by classical exact List.perm_iff_count.2 λ a=> by simp only [List.cons_append,List.nil_append,List.append_eq,List.count_append,List.count_cons] <;> omega)
    · have hge':decide (most<=(m:Int))=false:=by simp;omega
      have Hge:=Lib.hid hge;clear hge
      gi_wp2
      show St w0 fp0 (tzI b5 b3 most (L0++R) nx++Own2) W3;have e3:(nx.length:Int) < most:=by have:=Hl.out;have:=Hol.out;have:=Hon.out;have:=Hge.out;omega
      refine St.pure.2 ⟨e3,H6.out.perm ?_⟩;exact (by classical exact List.perm_iff_count.2 λ a=> by simp only [List.cons_append,List.append_eq,List.count_append,List.count_cons] <;> omega)
   case done=>
    intro D W hW;obtain ⟨hlt,h1⟩:=St.pure.1 (show St w0 fp0 (pureA ((its.length:Int) < most)::(defA D::tkA b5 its::blkA b3 3 #[.int .i64 most]::(L0++R))) W from hW.perm (List.Perm.swap _ _ _));obtain ⟨v0,out,ho,h2⟩:=St.tk.1 (h1.perm (List.Perm.swap _ _ _));have e:riL out=riL (takeR most its):=by rw [ho,hT.out,List.take_of_length_le (by omega)]
    have E:=Lib.hid e;obtain ⟨_,hb⟩:=h2.has 0 rfl;obtain ⟨_,hp⟩:=h2.has 1 rfl;obtain ⟨ga,gc,rfl, -⟩:=row_shape hp;have d0:=(blk_get hb).1 0;have dl:=(blk_get hb).2.2;simp only [List.getElem?_toArray,List.getElem?_cons_zero] at d0;have h3:St w0 fp0 (defA D::(itsL (.slice ga out.length gc) out++(L0++R))) W:=by refine St.dropAll (A:=[blkA b5 35 #[.slice ga out.length gc],blkA b3 3 #[.int .i64 most]]) (h2.perm ?_);exact (by classical exact List.perm_iff_count.2 λ a=> by simp only [List.cons_append,List.nil_append,List.count_append,List.count_cons] <;> omega)
    have H3:=Lib.hid h3;clear hW h1 h2 h3 hb hp hlt e ho;dsimp only;go_wp2;exact bodyPostM_mark H3.out rfl λ w' hw'=> ⟨_,results_tmp rfl _ _ _, .slice ga out.length gc,out,rfl,E.out,hw'⟩
   case stop=>
    intro D c pre x rest W hxs hW;have h1:St w0 fp0 (pureA (c=.exit 0)::pureA ((pre++[x]).length=most.toNat)::tkA b5 (pre++[x])::defA D::(L0++R)) W:=by refine hW.perm ?_;unfold tzX;exact (by classical exact List.perm_iff_count.2 λ a=> by simp only [List.count_cons] <;> omega)
    obtain ⟨rfl,h2⟩:=St.pure.1 h1;obtain ⟨hlt,h2⟩:=St.pure.1 h2;obtain ⟨v0,out,ho,h2⟩:=St.tk.1 h2;have e:riL out=riL (takeR most its):=by rw [ho,hT.out,hxs,<-hlt,show pre++x::rest=(pre++[x])++rest by simp,List.take_left]
    have E:=Lib.hid e;obtain ⟨_,hb⟩:=h2.has 0 rfl;obtain ⟨_,hp⟩:=h2.has 1 rfl;obtain ⟨ga,gc,rfl, -⟩:=row_shape hp;have d0:=(blk_get hb).1 0;have dl:=(blk_get hb).2.2;simp only [List.getElem?_toArray,List.getElem?_cons_zero] at d0;have h3:St w0 fp0 (defA D::(itsL (.slice ga out.length gc) out++(L0++R))) W:=by refine St.dropAll (A:=[blkA b5 35 #[.slice ga out.length gc]]) (h2.perm ?_);exact (by classical exact List.perm_iff_count.2 λ a=> by simp only [List.cons_append,List.nil_append,List.count_append,List.count_cons] <;> omega)
    have H3:=Lib.hid h3;clear hW h1 h2 h3 hb hp hlt e ho hxs;dsimp only;go_wp2;exact bodyPostM_mark H3.out rfl λ w' hw'=> ⟨_,results_tmp rfl _ _ _, .slice ga out.length gc,out,rfl,E.out,hw'⟩
end
section
open Go.Shelf
attribute [local go_sem] Oper.semAt_some
theorem find_id {es:List Re} (ha:es.Pairwise λ a b=> a.id < b.id) {e:Re} (he:e∈es):es.find? (λ x=> x.id==e.id)=some e:=by
 induction es with
 | nil=> cases he
 | cons x es ih=>
  obtain ⟨h1,h2⟩:=List.pairwise_cons.1 ha;rw [List.find?_cons];rcases List.mem_cons.1 he with rfl | he
  · simp
  · have:(x.id==e.id)=false:=by
     have:=h1 e he;simp;omega
    rw [this];exact ih h2 he
theorem stoGet {S cols:Nat} {I:List (List Int)} {L:LL} {next:Int} {s:Sto} (hok:s.Ok cols I L next) {e:Re} (he:e∈s.es) (w0 w:World) (fp0:List Nat) (R:List Asn) (hS:St w0 fp0 (stoL S s++R) w):
 Calls Tryz.prog 69 #[ptrV s.tb, .int .i64 e.id] w λ ev w'=> ev=.returned (.tuple #[encV e.va, .bool true])/\St w0 fp0 (stoL S s++R) w':=by
 have hG:=Get_calls (o:=16) (by omega) s.h (reM s.es) s.tb (.int e.id) trivial (okR s.es) w0 w fp0 _ (show St w0 fp0 (objA false 16 s.h (reM s.es) s.tb::blkA S 119 #[.int .i64 s.cols,ptrV s.tb, .int .i64 s.next,s.iv]::rowA 97 2 s.iv s.ixs.length (ixV s.ixs)::(s.es.map reA++s.ixs.map ixA)++R) w from hS.perm (List.Perm.swap _ _ _));rw [getM_reM,find_id (reL_asc (by rw [hok.rows];exact hok.asc)) he] at hG;refine hG.mono ?_;rintro ev w1 ⟨rfl,h1⟩;exact ⟨rfl,h1.perm (List.Perm.swap _ _ _)⟩
def ikI (b7 b5 b3 S:Nat) (isv:Value) (p:Re->Bool) (ess:List Re) (L:List Asn) (pre:MM):List Asn:=outA b7 (somL p (ess.take pre.length))::blkA b5 88 #[isv]::blkA b3 34 #[ptrV S]::L
def entM (kf:Re->Ky) (ess:List Re):MM:=ess.map λ e=> (kf e, .int e.id)
theorem entM_split {kf:Re->Ky} {es:List Re} {pre rest:MM} {x:Ky×Va} (h:entM kf es=pre++x::rest):∃e:Re,x=(kf e, .int e.id)/\es.take (pre.length+1)=es.take pre.length++[e]/\e∈es:=by
 have hl:pre.length < es.length:=by have h1:=congrArg List.length h;rw [entM,List.length_map,List.length_append,List.length_cons] at h1;omega
 have hx:(entM kf es)[pre.length]? =some x:=by rw [h];simp
 rw [entM,List.getElem?_map,List.getElem?_eq_getElem hl] at hx;exact ⟨es[pre.length],(Option.some.inj hx).symm,List.take_succ_eq_append_getElem hl,List.getElem_mem hl⟩
theorem indexed_calls (f:Nat) (caps:Array Value) (p:Re->Bool) (S cols:Nat) (I:List (List Int)) (L:LL) (next:Int) (s:Sto) (hok:s.Ok cols I L next) (LX:List Asn) (he:∀args w,(callFunc f args).run Tryz.prog w=.ok (.enter f args) w) (his:IsC f caps p S s LX)
 (g:Nat) (lb:Array Value) (eg:∀args w,(callFunc g args).run Tryz.prog w=.ok (.enter g args) w) (kf:Re->Ky) (ess:List Re) (hm:∀e∈ess,e∈s.es) (hlen:ess.length+1 < 1099511627776) (L0 R1:List Asn) (hseq:SeqSt (2 - 1) Tryz.prog g lb (λ e:Ky×Va=> #[encK e.1,encV e.2]) (entM kf ess) L0)
 (w0 w:World) (fp0:List Nat) (R:List Asn) (hsp:∀Own W,St w0 fp0 ((L0++R1)++Own) W↔St w0 fp0 ((stoL S s++(LX++R))++Own) W) (hS:St w0 fp0 (stoL S s++(LX++R)) w):
 Calls Tryz.prog 51 #[ptrV S, .func (.func g) #[] lb, .func (.func f) #[] caps] w λ e w'=> ∃v,e=.returned v/\St w0 fp0 (rowA 114 2 v (somL p ess).length (riV (somL p ess))::(stoL S s++(LX++R))) w':=by
 have HSL:=Lib.hid hS.slOf;obtain ⟨tb,htb⟩:∃tb,s.tb=tb:=⟨_,rfl⟩
 have HS0:Hid (St w0 fp0 ((L0++R1)++(blkA (w.heap.size+1+1) 94 #[.slice none 0 0]::rowA 114 2 (.slice none 0 0) 0 []::blkA (w.heap.size+1) 88 #[.func (.func f) #[] caps]::[blkA w.heap.size 34 #[ptrV S]])) (((w.alloc (.cells #[ptrV S] 34)).alloc (.cells #[.func (.func f) #[] caps] 88)).alloc (.cells #[.slice none 0 0] 94))):=by have h1:=(((hS.newblk 34 #[ptrV S]).newblk 88 #[.func (.func f) #[] caps]).newblk 94 #[.slice none 0 0]).nilR 114 2;simp only [World.size_alloc] at h1;refine (hsp _ _).2 (h1.perm ?_);exact (by classical exact List.perm_iff_count.2 λ a=> by simp only [List.count_append,List.count_cons,List.count_nil] <;> omega)
 have HSEQ:=Lib.hid hseq;have HSP:=Lib.hid hsp;have HIS:=Lib.hid his;have HLEN:=Lib.hid hlen;have HM:=Lib.hid hm;have HOK:=Lib.hid hok;have HTB:=Lib.hid htb;clear hS his hlen hseq hsp hm hok htb;unfold ptrV at HS0 ⊢;refine calls_of_wp_m Tryz.func51 rfl ?_;simp only [Tryz.ntmps51,List.size_toArray,List.length_cons,List.length_nil,Nat.reduceAdd,Nat.reduceSub,Array.replicate_succ,Array.replicate_zero,List.push_toArray,List.append_toArray,List.nil_append,List.cons_append];go_wp2_with fail;generalize hWW:((w.alloc _).alloc _).alloc _=W0 at *;clear hWW;obtain ⟨b3,hbm⟩:∃b3,w.heap.size=b3:=⟨_,rfl⟩
 rw [hbm] at HS0 ⊢;clear hbm;generalize b3+1+1=b7 at *;generalize b3+1=b5 at *;refine wp_rangeFunc_st (n:=2) rfl eg HSEQ.out (λ _=> rfl)
  (ikI b7 b5 b3 S (.func (.func f) #[] caps) p ess (stoL S s++(LX++R))) (λ _ _=> [pureA False]) _ (show St w0 fp0 (L0++(R1++_)) W0 from (by have:=HS0.out;rwa [List.append_assoc] at this)) ?h0 ?round ?done ?stop
 case h0=>
  intro Own W hW;have h1:St w0 fp0 ((L0++R1)++(blkA b7 94 #[.slice none 0 0]::rowA 114 2 (.slice none 0 0) 0 []::blkA b5 88 #[.func (.func f) #[] caps]::blkA b3 34 #[.pointer (some ⟨S,0,none⟩)]::Own)) W:=by refine hW.perm ?_;exact (by classical exact List.perm_iff_count.2 λ a=> by simp only [List.count_append,List.count_cons,List.count_nil] <;> omega)
  have h2:=(HSP.out _ _).1 h1;refine St.out.2 ⟨.slice none 0 0,h2.perm ?_⟩;unfold ptrV;exact (by classical exact List.perm_iff_count.2 λ a=> by simp only [List.cons_append,List.append_eq,List.count_append,List.count_cons,List.take_zero,somL,List.length_nil,List.map_nil,List.filter_nil,riV,List.flatMap_nil] <;> omega)
 case round=>
  intro l0 pre x rest Own W hxs hs;obtain ⟨e,hx,het,hem⟩:=entM_split hxs;obtain ⟨PRE,hPRE⟩:∃PRE,somL p (ess.take pre.length)=PRE:=⟨_,rfl⟩
  have hPL:PRE.length+1 < 1099511627776:=by have h1:=somL_len p (ess.take pre.length);rw [hPRE,List.length_take] at h1;have:=HLEN.out;omega
  obtain ⟨nx,hnx⟩:∃nx,pre++[x]=nx:=⟨_,rfl⟩
  have HNX:Hid (somL p (ess.take nx.length)=PRE++if p e then [toRi e] else []):=by show _=_;rw [<-hnx,List.length_append,show [x].length=1 from rfl,het,somL_snoc,hPRE]
  have hsm:ikI b7 b5 b3 S (.func (.func f) #[] caps) p ess (stoL S s++(LX++R)) pre=outA b7 PRE::blkA b5 88 #[.func (.func f) #[] caps]::blkA b3 34 #[ptrV S]::(stoL S s++(LX++R)):=by rw [ikI,hPRE]
  rw [hsm] at hs ⊢;rw [hnx,hx];have HEM:=Lib.hid (HM.out e hem);have HV:=Lib.hid (toRi_v (HSL.out e HEM.out));clear hx het hPRE hxs hem hsm hnx x;obtain ⟨va,vn,vc,hvv⟩:∃a n c,encV e.va=.slice a n c:=by obtain ⟨a,n,c,h⟩:=HSL.out e HEM.out;exact ⟨a,n,c,by rw [h];rfl⟩
  rw [hvv] at HV;dsimp only [encV];generalize encK (kf e)=kv
  gi_wp2
  refine ⟨hs,λ Own2 W2 hs2=> ?_⟩;clear hs Own W;have h2:St w0 fp0 (stoL S s++(LX++(R++(outA b7 PRE::blkA b5 88 #[.func (.func f) #[] caps]::blkA b3 34 #[ptrV S]::Own2)))) W2:=by refine hs2.perm ?_;exact (by classical exact List.perm_iff_count.2 λ a=> by simp only [List.cons_append,List.count_append,List.count_cons] <;> omega)
  have HG:=Lib.hid (show Calls Tryz.prog 69 #[.pointer (some ⟨s.tb,0,none⟩), .int .i64 e.id] W2 _ from stoGet HOK.out HEM.out w0 W2 fp0 _ h2);rw [hvv,HTB.out] at HG;obtain ⟨_,hb⟩:=h2.has 0 rfl;have c1:=(blk_get hb).1 1;have cl:=(blk_get hb).2.2;obtain ⟨_,hb3⟩:=hs2.has 2 rfl;have d0:=(blk_get hb3).1 0;have dl:=(blk_get hb3).2.2;simp only [List.getElem?_toArray,List.getElem?_cons_zero,List.getElem?_cons_succ] at c1 d0;rw [HTB.out] at c1;unfold ptrV at c1 d0;clear hs2 h2 hb hb3
  gi_wp2
  refine ⟨trivial,rfl,(CallsIn.inRound l0 (callsIn_wide.2 HG.out)).mono ?_⟩;rintro ev W3 ⟨rfl,h3⟩;clear HG c1 cl d0 dl;have HC:=Lib.hid (HIS.out w0 fp0 _ W3 e HEM.out h3);rw [hvv] at HC;have h3':St w0 fp0 (blkA b5 88 #[.func (.func f) #[] caps]::(outA b7 PRE::blkA b3 34 #[ptrV S]::(stoL S s++(LX++R))++Own2)) W3:=by refine h3.perm ?_;exact (by classical exact List.perm_iff_count.2 λ a=> by simp only [List.cons_append,List.count_append,List.count_cons] <;> omega)
  obtain ⟨_,hb⟩:=h3'.has 0 rfl;have d0:=(blk_get hb).1 0;have dl:=(blk_get hb).2.2;simp only [List.getElem?_toArray,List.getElem?_cons_zero] at d0;clear h3 h3' hb hvv
  gi_wp2
  refine ⟨trivial,rfl,(CallsIn.inRound l0 (callsIn_wide.2 HC.out)).mono ?_⟩;rintro ev w3 ⟨rfl,h3⟩;clear HC d0 dl;have h4:St w0 fp0 (outA b7 PRE::(blkA b5 88 #[.func (.func f) #[] caps]::blkA b3 34 #[ptrV S]::(stoL S s++(LX++R))++Own2)) w3:=by refine h3.perm ?_;exact (by classical exact List.perm_iff_count.2 λ a=> by simp only [List.cons_append,List.count_append,List.count_cons] <;> omega)
  obtain ⟨q,hq⟩:∃q,p e=q:=⟨_,rfl⟩
  rw [hq] at HNX ⊢;clear hq h3;cases q with
  | false=>
   have HF:Hid (St w0 fp0 (ikI b7 b5 b3 S (.func (.func f) #[] caps) p ess (stoL S s++(LX++R)) nx++Own2) w3):=by show St _ _ _ _;unfold ikI;rw [HNX.out,if_neg (by simp),List.append_nil];exact h4
   clear h4 HNX
   gi_wp2
   exact HF.out
  | true=>
   obtain ⟨v0,h5⟩:=St.out.1 h4;obtain ⟨_,hb⟩:=h5.has 0 rfl;have d0:=(blk_get hb).1 0;have dl:=(blk_get hb).2.2;simp only [List.getElem?_toArray,List.getElem?_cons_zero] at d0;obtain ⟨v',w',hr,⟨a',c',rfl⟩,e0,e1,e2,h6⟩:=h5.appIt 94 (toRi e) hPL;rw [HV.out,show (toRi e).id=e.id from rfl] at hr;have h7:=St.out.2 ⟨_,h6⟩;have HF:Hid (St w0 fp0 (ikI b7 b5 b3 S (.func (.func f) #[] caps) p ess (stoL S s++(LX++R)) nx++Own2) (w'.setCell ⟨b7,0,none⟩ (.slice a' (PRE.length+1) c'))):=by show St _ _ _ _;unfold ikI;rw [HNX.out,if_pos rfl];exact h7
   have HR:=Lib.hid hr;clear h4 HNX h5 hb h6 h7 hr
   gi_wp2_with (gi_at_builtin;refine wpListIn_append_run rfl _ _ _ rfl rfl rfl HR.out ?_)
   exact HF.out
 case done=>
  intro D W hW;have hlr:(entM kf ess).length=ess.length:=by rw [entM,List.length_map]
  have h1:St w0 fp0 (outA b7 (somL p ess)::blkA b5 88 #[.func (.func f) #[] caps]::blkA b3 34 #[ptrV S]::(defA D::(stoL S s++(LX++R)))) W:=by refine hW.perm ?_;unfold ikI;rw [hlr,List.take_length];exact (by classical exact List.perm_iff_count.2 λ a=> by simp only [List.count_append,List.count_cons] <;> omega)
  obtain ⟨v0,h2⟩:=St.out.1 h1;obtain ⟨_,hb⟩:=h2.has 0 rfl;have d0:=(blk_get hb).1 0;have dl:=(blk_get hb).2.2;simp only [List.getElem?_toArray,List.getElem?_cons_zero] at d0;have h3:St w0 fp0 (defA D::rowA 114 2 v0 (somL p ess).length (riV (somL p ess))::(stoL S s++(LX++R))) W:=by refine St.dropAll (A:=[blkA b7 94 #[v0],blkA b5 88 #[.func (.func f) #[] caps],blkA b3 34 #[ptrV S]]) (h2.perm ?_);exact (by classical exact List.perm_iff_count.2 λ a=> by simp only [List.cons_append,List.nil_append,List.count_append,List.count_cons] <;> omega)
  have H3:=Lib.hid h3;clear hW h1 h2 h3 hb hlr;dsimp only;go_wp2;exact bodyPostM_mark H3.out rfl λ w' hw'=> ⟨_,results_tmp rfl _ _ _,v0,rfl,hw'⟩
 case stop=>
  intro D c pre x rest W hxs hW;exact ((St.pure.1 (show St w0 fp0 (pureA False::[defA D]) W from hW.perm (List.Perm.swap _ _ _))).1).elim
end
end
end Go.Proofs.YtnefkkidfhmggaaGreat
