/- Part 3 of the proof: Fi, Fe, Nw, Tc, Tn, Q5, Qi, Qd, Qc, Qa, Sx, Sp -/
import Derived.Test.YtnefkkidfhmggaaGreatV02
import Derived.Deep.DeepCutAuto
import Derived.Test.YtnefkkidfhmggaaGreatV01
import Derived.Test.YtnefkkidfhmggaaGreatV00
set_option maxHeartbeats 16000000
set_option maxRecDepth 100000
namespace Go.Proofs.YtnefkkidfhmggaaGreat
open Go Go.RowKit
noncomputable section
section
variable {β:Bool}
def KeysA (β:Bool) (w:World) (es:MM) (v:Value):Prop:=∃f,(slA (tK β) v (keysV es)).p w f
theorem KeysA.shape {w:World} {es:MM} {v:Value} (h:KeysA β w es v):∃a c,v=.slice a es.length c/\es.length<=maxLen/\∀i (hi:i < es.length),∃g,a=some ⟨g,0,none⟩/\g < w.heap.size/\w.cell? ⟨g,i,none⟩=some (encK es[i].1):=by
 obtain ⟨f,h⟩:=h;obtain ⟨a,c,hv,h1,h2,h3⟩:=sl_get h;rw [keysV_length] at hv h1 h3;refine ⟨a,c,hv,by omega,λ i hi=> ?_⟩;rcases h3 with ⟨_,h4,_⟩ | ⟨g,h4,h5,h6,_⟩
 · have:=congrArg List.length h4;rw [keysV_length] at this;simp at this;omega
 · refine ⟨g,h4,h5,?_⟩
   rw [h6 i hi];simp [keysV,hi]
def fBsf (β:Bool):Nat:=match β with | false=> 134 | true=> 147
theorem bsf_calls (es:MM) (k:Ky) (hok:∀e∈es,e.1.ok β) (hk:k.ok β) (s:Value) (w:World) (hs:KeysA β w es s) (ha:AscM es) (hlen:es.length < 1099511627776):
 Calls Tryz.prog (fBsf β) #[s,encK k, .func (.func (fCmp β)) #[] #[]] w λ e w'=> e=.returned (.tuple #[.int .i64 (posK es k), .bool (hasK es k)])/\Below w.heap.size w w':=by
 obtain ⟨a,c,rfl,hm,Hc0⟩:=hs.shape;obtain ⟨n,hn⟩:∃n,es.length=n:=⟨_,rfl⟩
 have Hs:=Lib.hid hs;have Hn:=Lib.hid hn;have Hw:=Lib.hid ha;have Hc:Hid (∀i (hi:i < es.length),∃g,a=some ⟨g,0,none⟩/\∀w',Below w.heap.size w w'->g < w'.heap.size/\w'.cell? ⟨g,i,none⟩=some (encK es[i].1)):=by intro i hi;obtain ⟨g,h1,h2,h3⟩:=Hc0 i hi;exact ⟨g,h1,λ w' hb=> ⟨Nat.lt_of_lt_of_le h2 hb.size,(hb.cell (p:=⟨g,i,none⟩) h2).trans h3⟩⟩
 have hn40:n < 1099511627776:=by omega
 have HA:Hid (∀m (h:m < es.length) (w':World),Calls Tryz.prog (fCmp β) #[encK es[m].1,encK k] w' λ e w2=> e=.returned (.int .i64 (KOrd.cmp es[m].1 k))/\w2=w'):=λ m h w'=> cmp_calls β _ _ (hok _ (List.getElem_mem h)) hk w';obtain ⟨kk,hkk⟩:∃kk,encK k=kk:=⟨_,rfl⟩
 have Hkk:=Lib.hid hkk;rw [hn,hkk];rw [hkk] at HA;clear hs hm ha Hc0 hlen hn hkk hok hk Hkk;clear Hs;cases β <;> dsimp only [fBsf,fCmp] at HA ⊢
 case' false=> go_enter Tryz.func134,Tryz.ntmps134
 case' true=> go_enter Tryz.func147,Tryz.ntmps147
 all_goals
  go_wp2;go_loopw [9,10] (λ i j wr=> ∃(lo hi:Nat),lo<=hi/\hi<=n/\i=.int .i64 lo/\j=.int .i64 hi/\Hid (Below w.heap.size w wr)/\Hid (∀j (h:j < es.length),j < lo->ltK es[j].1 k)/\Hid (∀j (h:j < es.length),hi<=j->¬ ltK es[j].1 k)) (λ i j _=> (intOf j).toNat - (intOf i).toNat)
  case atStart=> exact ⟨0,n,Nat.zero_le _,Nat.le_refl _,rfl,rfl,Below.refl _ _,λ j h h0=> by omega,λ j h h0=> by have:=Hn.out;omega⟩
  case round=>
   obtain ⟨lo,hi,hlh,hhn,rfl,rfl,Hb,H1,H2⟩:=hrel;by_cases hlt:lo < hi
   · obtain ⟨m,hm⟩:∃m:Nat,m=(lo+hi) / 2:=⟨_,rfl⟩
     have hm1:lo<=m:=by omega
     have hm2:m < hi:=by omega
     have hk1:m < es.length:=by have:=Hn.out;omega
     have hmn:m < n:=by omega
     obtain ⟨g,rfl,hcell⟩:=Hc.out m hk1;obtain ⟨hbl,hc⟩:=hcell _ Hb.out;have HC:=Lib.hid (HA.out m hk1 wr);have Hup:Hid (ltK es[m].1 k->∀j (h:j < es.length),j < m+1->ltK es[j].1 k):=by
      intro h j hj hjm;by_cases e:j=m
      · subst e;exact h
      · exact ltK_trans ((List.pairwise_iff_getElem.1 Hw.out) j m hj hk1 (by omega)) h
     have Hdn:Hid (¬ ltK es[m].1 k->∀j (h:j < es.length),m<=j->¬ ltK es[j].1 k):=by
      intro h j hj hjm h2;by_cases e:j=m
      · subst e;exact h h2
      · exact h (ltK_trans ((List.pairwise_iff_getElem.1 Hw.out) m j hk1 hj (by omega)) h2)
     generalize es[m].1=X at *;have Hlt:Hid (ltK X k↔KOrd.cmp X k < 0):=Iff.rfl;generalize (KOrd.cmp X k:Int)=r at *;generalize encK X=ex at *;have i1:(0:Int)<=m:=by omega
     have i2:(m:Int) < n:=by omega
     clear hk1 hcell;have Hm:=Lib.hid hm;clear hm;go_upto_region 4 with (fail)
     go_cut [11] (λ z wx=> z=.int .i64 m/\wx=wr)
     case first=>
      go_wp2_with fail;go_meet;exact ⟨by have:=Hm.out;congr 1;omega,rfl⟩
     obtain ⟨rfl,rfl⟩:=hcut;go_upto_region 5 with (fail)
     go_cut [31] (λ z wx=> ∃q:Bool,z=.bool q/\Hid (q=decide (r < 0))/\Hid (Below w.heap.size w wx))
     case first=>
      go_wp2_with ((first | go_at_call 80 | go_at_call 139);(with_reducible refine HC.out.mono ?_);rintro e w1 ⟨rfl,rfl⟩)
      all_goals
       have Hb1:=Hb;go_meet;exact ⟨_,rfl,rfl,Hb1⟩
     obtain ⟨q,rfl,Hq,Hb1⟩:=hcut;clear hc hbl HC Hb;cases q
     · have Hd1:=Lib.hid (Hdn.out (by have:=Hq.out;rw [Hlt.out];simpa using this))
       clear Hup Hdn Hq;go_wp2;go_roundw
       case rel=> exact ⟨lo,m,hm1,by omega,rfl,rfl,Hb1,H1,Hd1⟩
       case measure=> simp [intOf];omega
     · have Hd1:=Lib.hid (Hup.out (by have:=Hq.out;rw [Hlt.out];simpa using this))
       clear Hup Hdn Hq;go_wp2;go_roundw
       case rel=> exact ⟨m+1,hi,by omega,hhn,by go_num,rfl,Hb1,Hd1,H2⟩
       case measure=> simp [intOf];omega
   · obtain rfl:lo=hi:=by omega
     have Hp:Hid (posK es k=lo):=posK_eq (by have:=Hn.out;omega) H1.out (λ h=> H2.out lo h (Nat.le_refl _));have Hh:=Lib.hid (hasK_at (es:=es) (k:=k) Hp.out);by_cases hlt':lo < n
     · have hk1:lo < es.length:=by have:=Hn.out;omega
       obtain ⟨g,rfl,hcell⟩:=Hc.out lo hk1;obtain ⟨hbl,hc⟩:=hcell _ Hb.out;have HC:=Lib.hid (HA.out lo hk1 wr);have Hres:Hid (hasK es k=(KOrd.cmp es[lo].1 k==0)):=by show _=_;rw [Hh.out,dif_pos hk1];rfl
       clear Hh H1 H2 hcell;generalize es[lo].1=X at *;generalize (KOrd.cmp X k:Int)=r at *;generalize encK X=ex at *;have i1:(0:Int)<=lo:=by omega
       have i2:(lo:Int) < n:=by omega
       clear hk1;go_wp2_with ((first | go_at_call 80 | go_at_call 139);(with_reducible refine HC.out.mono ?_);rintro e w1 ⟨rfl,rfl⟩)
       all_goals
        have Hb1:=Hb;exact bodyPost_ret (v:=.tuple #[.int .i64 lo, .bool (r==0)]) (by simp [results,Tryz.results134,Tryz.results147,go_sem, *]) rfl ⟨by rw [Hp.out,Hres.out],Hb1.out⟩
     · have Hres:Hid (hasK es k=false):=by show _=_;rw [Hh.out,dif_neg (by have:=Hn.out;omega)]
       clear Hh H1 H2;go_wp2;exact bodyPost_ret (v:=.tuple #[.int .i64 lo, .bool false]) (by simp [results,Tryz.results134,Tryz.results147,go_sem, *]) rfl ⟨by rw [Hp.out,Hres.out],Hb.out⟩
end
section
variable {β:Bool}
theorem find_calls (b:Nat) (ks vs ps:Value) (es:MM) (k:Ky) (hok:∀e∈es,e.1.ok β) (hkk:k.ok β) (w:World) {f:List Nat} (hb:(blkA b (tN β) #[ks,vs,ps]).p w f) (hk:KeysA β w es ks) (ha:AscM es) (hlen:es.length < 1099511627776):
 Calls Tryz.prog (fFind β) #[ptrV b,encK k] w λ e w'=> e=.returned (.tuple #[.int .i64 (posK es k), .bool (hasK es k)])/\Below w.heap.size w w':=by
 obtain ⟨c,_,hlt⟩:=blk_get hb;have c0:=c 0;simp only [List.getElem?_toArray,List.getElem?_cons_zero] at c0;have HC:=Lib.hid (bsf_calls es k hok hkk ks w hk ha hlen);obtain ⟨a,cp,rfl,_,_⟩:=hk.shape;obtain ⟨kk,hk2⟩:∃kk,encK k=kk:=⟨_,rfl⟩
 rw [hk2] at HC ⊢;clear hk2 hb hk c hlen hok hkk;unfold ptrV;cases β <;> dsimp only [fFind,fBsf,fCmp] at HC ⊢
 case' false=> go_enter Tryz.func102,Tryz.ntmps102
 case' true=> go_enter Tryz.func120,Tryz.ntmps120
 all_goals
  go_wp2_with fail;(with_reducible refine HC.out.mono ?_);rintro e w1 ⟨rfl,hb1⟩;have Hb1:=Lib.hid hb1;clear hb1 c0 hlt;go_wp2;exact bodyPost_ret (v:=.tuple #[.int .i64 (posK es k), .bool (hasK es k)]) (by simp [results,Tryz.results102,Tryz.results120,go_sem]) rfl ⟨rfl,Hb1.out⟩
theorem leaf_calls (b:Nat) (ks vs:Value) (a:Option Addr) (n c:Nat) (w:World) {f:List Nat} (hb:(blkA b (tN β) #[ks,vs, .slice a n c]).p w f):
 Calls Tryz.prog (fLeaf β) #[ptrV b] w λ e w'=> e=.returned (.bool (n==0))/\w=w':=by
 obtain ⟨cl,_,hlt⟩:=blk_get hb;have c2:=cl 2;simp only [List.getElem?_toArray,List.getElem?_cons_zero,List.getElem?_cons_succ] at c2;clear hb cl;unfold ptrV;cases β <;> dsimp only [fLeaf]
 case' false=> go_enter Tryz.func99,Tryz.ntmps99
 case' true=> go_enter Tryz.func101,Tryz.ntmps101
 all_goals
  go_wp2;go_ret;have e:((n:Int)==0)=(n==0):=by rw [Bool.eq_iff_iff];simp
  exact ⟨by rw [<-e];rfl,rfl⟩
theorem least_calls (b:Nat) (r:Value) (o:Nat) (n:Value) (w:World) {f:List Nat} (ho:3<=o) (ho':o<=1024) (hb:(blkA b (tT β) #[r, .int .i64 o,n]).p w f):
 Calls Tryz.prog (fLeast β) #[.pointer (some ⟨b,0,none⟩)] w λ e w'=> e=.returned (.int .i64 (least o))/\w=w':=by
 obtain ⟨cl,_,hlt⟩:=blk_get hb;have c1:=cl 1;simp only [List.getElem?_toArray,List.getElem?_cons_zero,List.getElem?_cons_succ] at c1;have Hl:Hid (((o:Int)+1) / 2 - 1=(least o:Nat)):=by show _=_;unfold least;omega
 have i1:(0:Int)<=(o:Int)+1:=by omega
 have i2:(0:Int)<=((o:Int)+1) / 2:=by omega
 have i3:((o:Int)+1) / 2<=1024:=by omega
 clear hb cl;cases β <;> dsimp only [fLeast]
 case' false=> go_enter Tryz.func128,Tryz.ntmps128
 case' true=> go_enter Tryz.func132,Tryz.ntmps132
 all_goals
  go_wp2;go_ret;exact ⟨by rw [<-Hl.out];rfl,rfl⟩
end
section
variable {β:Bool}
def clampO (n:Int):Nat:=(min (max n 3) 1024).toNat
theorem clampO_lo (n:Int):3<=clampO n:=by unfold clampO;omega
theorem St.new2T {w0 w:World} {fp0:List Nat} {R:List Asn} (hS:St w0 fp0 R w) (o:Nat) (_ho:3<=o) (c:Int) (hc:(o:Int)=c):
 St w0 fp0 (objA β o 0 [] (w.heap.size+1)::R) ((w.alloc (.cells #[.slice none 0 0, .slice none 0 0, .slice none 0 0] (tN β))).alloc (.cells #[.pointer (some ⟨w.heap.size,0,none⟩), .int .i64 c, .int .i64 0] (tT β))):=by
 subst hc;have h1:=St.atN (St.emp.2 hS) 0 rfl (tN β) #[.slice none 0 0, .slice none 0 0, .slice none 0 0];obtain ⟨b,e,h2⟩:=St.at_open h1;injection e with e;injection e with e;injection e with e;subst e;have h3:=St.atN (St.emp.2 h2) 0 rfl (tT β) #[.pointer (some ⟨w.heap.size,0,none⟩), .int .i64 o, .int .i64 0];obtain ⟨b,e,h4⟩:=St.at_open h3;injection e with e;injection e with e;injection e with e;have hsz:(w.alloc (.cells #[.slice none 0 0, .slice none 0 0, .slice none 0 0] (tN β) (0,0))).heap.size=w.heap.size+1:=by simp
 rw [hsz] at e;subst e;have h5:St w0 fp0 (blkA w.heap.size (tN β) #[.slice none 0 0, .slice none 0 0, .slice none 0 0]::slA (tK β) (.slice none 0 0) (YtnefkkidfhmggaaGreat.keysV [])::slA (tV β) (.slice none 0 0) (valsV [])::slA (tP β) (.slice none 0 0) (([]:List Nat).map ptrV)::starA (List.zipWith (kidA β 0) [] [])::blkA (w.heap.size+1) (tT β) #[.pointer (some ⟨w.heap.size,0,none⟩), .int .i64 o, .int .i64 0]::R)
  ((w.alloc (.cells #[.slice none 0 0, .slice none 0 0, .slice none 0 0] (tN β))).alloc (.cells #[.pointer (some ⟨w.heap.size,0,none⟩), .int .i64 o, .int .i64 0] (tT β))):=by
  have h7:St w0 fp0 (starA []::(blkA (w.heap.size+1) (tT β) #[.pointer (some ⟨w.heap.size,0,none⟩), .int .i64 o, .int .i64 0]::blkA w.heap.size (tN β) #[.slice none 0 0, .slice none 0 0, .slice none 0 0]::R)) _:=St.star.2 h4;have h6:=((h7.nilA (tP β)).nilA (tV β)).nilA (tK β);refine h6.perm ?_
  classical refine List.perm_iff_count.2 λ a=> ?_;simp only [List.count_cons,YtnefkkidfhmggaaGreat.keysV,valsV,List.map_nil,List.zipWith];omega
 refine St.shutOT (x:=.node [] []) (rb:=w.heap.size) ⟨⟨Nat.zero_le _,Nat.zero_le _,rfl⟩,List.Pairwise.nil,rfl⟩ ?_;exact St.shutNT (bs:=[]) rfl h5
theorem NewT_calls (n:Int) (w0 w:World) (fp0:List Nat) (R:List Asn) (hS:St w0 fp0 R w):
 Calls Tryz.prog (fNew β) #[.int .i64 n] w λ e w'=> ∃tb,e=.returned (ptrV tb)/\St w0 fp0 (objA β (clampO n) 0 [] tb::R) w':=by
 have HS:=Lib.hid (λ c hc=> hS.new2T (β:=β) (clampO n) (clampO_lo n) c hc);have hc:((clampO n:Nat):Int)=min (max n 3) 1024:=by unfold clampO;omega
 have Hc:=Lib.hid hc;clear hS hc;cases β <;> dsimp only [fNew,tN,tT] at HS ⊢
 case' false=> go_enter Tryz.func70,Tryz.ntmps70
 case' true=> go_enter Tryz.func104,Tryz.ntmps104
 all_goals
  go_wp2
 all_goals
  refine bodyPost_ret (results_tmp rfl _ _ _) rfl ?_;exact ⟨_,rfl,HS.out _ (by rw [Hc.out];omega)⟩
end
abbrev pV (b o:Nat):Value:=.pointer (some ⟨b,o,none⟩)
abbrev sV (b n c:Nat):Value:=.slice (some ⟨b,0,none⟩) n c
abbrev nV (n:Nat):Value:=.int .i64 n
def Vq:Nat->Nat->List (Nat->Nat->Vf)->List Vf
 | _,_,[]=> []
 | i,d,f::l=> f i d::Vq (i+1) (d+1) l
abbrev Kv (v:Value) (i d:Nat):Vf:=.is i d v
abbrev Kp (b o i d:Nat):Vf:=.is i d (pV b o)
abbrev Ks (b n c i d:Nat):Vf:=.is i d (sV b n c)
abbrev Kn (n i d:Nat):Vf:=.is i d (nV n)
abbrev Fv (sl:List Nat) (v:(Nat->Value)->Value) (i d:Nat):Vf:=⟨i,d,sl,v⟩
def Bk (b:Nat) (t:TypeId) (l:List Value):Pc:=.blk b t (l.map λ v=> ⟨v,[]⟩)
def rgq (P:Program) (F:Func) (id nt:Nat) (ks:List (Nat×Nat)) (inp:List (Nat×Value)) (inq:List (Nat×Value×Nat)) (vals:List Vf) (pcs:List Pc) (w0:World) (fp0:List Nat) (R:List Asn):Rg:=⟨P,opsR F id,nt,ks.flatMap λ p=> List.range' p.1 p.2,inp,inq,vals,pcs,w0,fp0,R⟩
def rg (P:Program) (F:Func) (id nt:Nat) (ks:List (Nat×Nat)) (inp:List (Nat×Value)) (vals:List Vf) (pcs:List Pc):World->List Nat->List Asn->Rg:=rgq P F id nt ks inp [] vals pcs
def rgx (P:Program) (F:Func) (id nt:Nat) (ks:List Nat) (inp:List (Nat×Value)) (vals:List Vf) (pcs:List Pc) (w0:World) (fp0:List Nat) (R:List Asn):Rg:=⟨P,opsR F id,nt,ks,inp,[],vals,pcs,w0,fp0,R⟩
def Rg.AllOb (G:Rg):List Nat->Prop
 | []=> True
 | i::l=> G.Ob i/\G.AllOb l
theorem Rg.AllOb.get {G:Rg}:∀{l:List Nat},G.AllOb l->∀i∈l,G.Ob i
 | j::l,h,i,hi=> by
  rcases List.mem_cons.1 hi with rfl | hi
  · exact h.1
  · exact Rg.AllOb.get h.2 i hi
theorem Rg.Obs.of {G:Rg}:∀{n i:Nat},(∀j,i<=j->j < i+n->G.Ob j)->G.Obs i n
 | 0,_,_=> trivial
 | n+1,i,h=> ⟨h i (Nat.le_refl _) (by omega),Rg.Obs.of λ j h1 h2=> h j (by omega) (by omega)⟩
def restL (n:Nat) (js:List Nat):List Nat:=(List.range n).filter λ i=> !js.elem i
theorem map_at {α β:Type} {f g:α->β}:∀{l:List α},l.map f=l.map g->∀x∈l,f x=g x
 | y::l,h,x,hx=> by
  injection h with h1 h2;rcases List.mem_cons.1 hx with rfl | hx
  · exact h1
  · exact map_at h2 x hx
theorem Rg.ok (G:Rg) (n:Nat) (js:List Nat) (hA:G.AllOb js) (hf:fitsB G.ops G.nt G.ks (G.inp.map (·.1)) (G.vals.map λ t=> (t.i,t.d,t.sl)) (G.pcs.flatMap Pc.fl) (G.inq.map λ p=> (p.1,p.2.2))=true:=by exact kr (by kernel_rfl)) (hs:G.ops.size=n:=by exact kr (by kernel_rfl))
 (h:∀a w,(restL n js).map (λ i=> (execOp (G.env i a) (opAt G.ops i)).run G.P w)=(restL n js).map λ i=> .ok (.value (G.valD i (slots a))) w:=by intro _ _;exact kr (by kernel_rfl)) (hq:((restL n js).all λ i=> G.quiet i G.pcs.length && G.okV i)=true:=by exact kr (by kernel_rfl))
 (hw:∀a,(restL n js).map (λ i=> wantE G.ops (opAt G.ops i) (G.env i a))=(restL n js).map λ _=> some true:=by intro _;exact kr (by kernel_rfl)):G.Ok n:=
 ⟨hf,hs,Rg.Obs.of λ j _ h2=> by
  by_cases hj:j∈js
  · exact hA.get j hj
  · have hm:j∈restL n js:=List.mem_filter.2 ⟨by simpa using h2,by simpa [List.elem_eq_mem] using hj⟩
    exact Rg.Ob.pure G j (λ a w=> map_at (h a w) j hm) (List.all_eq_true.1 hq j hm) λ a=> map_at (hw a) j hm⟩
def At:List Nat->Code->Code
 | [],c=> c
 | 0::l,c=> At l (cfst c)
 | 1::l,c=> At l (csnd c)
 | 2::l,c=> At l (cthen c)
 | 3::l,c=> At l (celse c)
 | _::l,c=> At l (cbody c)
def IsRg (F:Func) (p:List Nat) (id:Nat):Prop:=(isReg (At p (bodyC F)),cops (At p (bodyC F)))=(true,opsR F id)
theorem IsRg.cd {F:Func} {p:List Nat} {id:Nat} (h:IsRg F p id):isReg (At p (bodyC F))=true/\cops (At p (bodyC F))=opsR F id:=⟨congrArg Prod.fst h,congrArg Prod.snd h⟩
def IsSq (F:Func) (p:List Nat) (id:Nat):Prop:=(isSeq (At p (bodyC F)),isReg (cfst (At p (bodyC F))),cops (cfst (At p (bodyC F))))=(true,true,opsR F id)
theorem IsSq.sq {F:Func} {p:List Nat} {id:Nat} (h:IsSq F p id):isSeq (At p (bodyC F))=true:=congrArg Prod.fst h
theorem IsSq.cd {F:Func} {p:List Nat} {id:Nat} (h:IsSq F p id):isReg (cfst (At p (bodyC F)))=true/\cops (cfst (At p (bodyC F)))=opsR F id:=⟨congrArg (·.2.1) h,congrArg (·.2.2) h⟩
theorem irg {F:Func} {p:List Nat} {id:Nat} (h:(isReg (At p (bodyC F)),cops (At p (bodyC F)))=(true,opsR F id)):IsRg F p id:=h
theorem isq {F:Func} {p:List Nat} {id:Nat} (h:(isSeq (At p (bodyC F)),isReg (cfst (At p (bodyC F))),cops (cfst (At p (bodyC F))))=(true,true,opsR F id)):IsSq F p id:=h
def Sq (F:Func) (p:List Nat):Prop:=isSeq (At p (bodyC F))=true
theorem isQ {F:Func} {p:List Nat} (h:isSeq (At p (bodyC F))=true):Sq F p:=h
def AppSpec (P:Program) (ts t:TypeId):Prop:=∀(ty:TypeId) (v s:Value) (xs ys:List Value) (w:World) (f g:List Nat),(slA t v xs).p w f->(slA t s ys).p w g->(∀u∈ys,u.oneCell'=true)->xs.length+ys.length < 1099511627776->
 ∃a n c w' f',(Builtin.append_ #[ts,ts] ty #[v,s]).run P w=.ok (.slice a n c) w'/\(slA t (.slice a n c) (xs++ys)).p w' f'/\Tr w w' f f'
theorem box_slA {w:World} {t:TypeId} {s x:Value} {f:List Nat} (h:(boxA t s x).p w f):(slA t s [x]).p w f:=by
 obtain ⟨vb,rfl,h1,rfl⟩:=h;refine ⟨⟨rfl, .inr ⟨vb,1,#[x],rfl,Nat.zero_le _,h1,?_,?_,?_,?_⟩⟩,rfl⟩ <;> simp [maxLen]
theorem app_core (G:Rg) (i kx k:Nat) (xs ys:List Value) {ts t:TypeId} (hC:AppSpec G.P ts t) (hl:xs.length+ys.length < 1099511627776) (h1:∀u∈ys,u.oneCell'=true)
 {v:Value} {xs0:List Value} {st:List (Nat×Option Src×List Value)} {s x:Operand} {px:Pc} (hkx:G.pcs[kx]? =some px) (hk:G.pcs[k]? =some (.sl t v xs0 st)) (hop:(opAt G.ops i).op=.call ⟨.builtin .append,#[s,x],#[ts,ts]⟩)
 (hsrc:∀L a w f,G.env i a=a.eval->(px.at (lk (closOf G.ops) i L) (slots a)).p w f->(slA t (a.eval x) ys).p w f) (hs:∀L a,G.env i a=a.eval->a.eval s=slV (rb (Pc.sl t v xs0 st).fl (lk (closOf G.ops) i L)) (rv (Pc.sl t v xs0 st).ds (slots a)) v st)
 (hx0:∀L,slX (rb (Pc.sl t v xs0 st).fl (lk (closOf G.ops) i L)) xs0 st=xs) (hx1:∀L,slX (rb (Pc.sl t v xs0 st).fl (ln (closOf G.ops) i L)) xs0 st=xs++ys)
 (hs1:∀L g u,slV (rb (Pc.sl t v xs0 st).fl (ln (closOf G.ops) i L)) (rv (Pc.sl t v xs0 st).ds (sput g (dstOf G.ops i) u)) v st=u) (hsh:∀g a n c,G.shp i g (.slice a n c)=.slice a n c)
 (hq:G.quiet i k=true) (hw:∀a,wantE G.ops (opAt G.ops i) (G.env i a)=some true):G.Ob i:=Rg.Ob.eff G i k hk (λ L a w fp he hS hp=> by
 obtain ⟨g,hg⟩:=Rg.has hkx hS;have hg':=hsrc L a w g he hg;have hp':(slA t (slV (rb (Pc.sl t v xs0 st).fl (lk (closOf G.ops) i L)) (rv (Pc.sl t v xs0 st).ds (slots a)) v st) (slX (rb (Pc.sl t v xs0 st).fl (lk (closOf G.ops) i L)) xs0 st)).p w fp:=hp;rw [hx0,<-hs L a he] at hp';obtain ⟨aa,n,c,w',f',hr,h3,h4⟩:=hC (opAt G.ops i).type (a.eval s) (a.eval x) xs ys w fp g hp' hg' h1 hl;rw [he,run_append_op hop rfl rfl hr];refine ⟨G.shp_of (hsh _ _ _ _),f',?_,h4⟩;have e:(Pc.sl t v xs0 st).at (ln (closOf G.ops) i L) (sput (slots a) (dstOf G.ops i) (.slice aa n c))=slA t (.slice aa n c) (xs++ys):=by show slA t (slV _ _ v st) (slX _ xs0 st)=_;rw [hs1,hx1]
 rw [e];exact h3) hq hw
theorem Rg.Ob.appB (G:Rg) (i kx k:Nat) (xs:List Value) {y:Value} {ts t:TypeId} (hC:AppSpec G.P ts t) (hl:xs.length+1 < 1099511627776) (h1:y.oneCell'=true)
 {ib db:Nat} {v:Value} {xs0:List Value} {st:List (Nat×Option Src×List Value)} {s:Operand} (hkx:G.pcs[kx]? =some (.new ib [db] λ g=> boxA t (g db) y):=by rfl) (hk:G.pcs[k]? =some (.sl t v xs0 st):=by rfl) (hop:(opAt G.ops i).op=.call ⟨.builtin .append,#[s, .tmp db],#[ts,ts]⟩:=by rfl)
 (hs:∀L a,G.env i a s=slV (rb (Pc.sl t v xs0 st).fl (lk (closOf G.ops) i L)) (rv (Pc.sl t v xs0 st).ds (slots a)) v st:=by intro _ _;exact kr (by kernel_rfl))
 (hx0:∀L,slX (rb (Pc.sl t v xs0 st).fl (lk (closOf G.ops) i L)) xs0 st=xs:=by intro _;exact kr (by kernel_rfl)) (hx1:∀L,slX (rb (Pc.sl t v xs0 st).fl (ln (closOf G.ops) i L)) xs0 st=xs++[y]:=by intro _;exact kr (by kernel_rfl))
 (hs1:∀L g u,slV (rb (Pc.sl t v xs0 st).fl (ln (closOf G.ops) i L)) (rv (Pc.sl t v xs0 st).ds (sput g (dstOf G.ops i) u)) v st=u:=by intro _ _ _;exact kr (by kernel_rfl)) (hsh:∀g a n c,G.shp i g (.slice a n c)=.slice a n c:=by intro _ _ _ _;exact kr (by kernel_rfl))
 (hin:((closOf G.ops).getD i []).elem ib=true:=by exact kr (by kernel_rfl)) (hq:G.quiet i k=true:=by exact kr (by kernel_rfl)) (hw:∀a,wantE G.ops (opAt G.ops i) (G.env i a)=some true:=by intro _;exact kr (by kernel_rfl)):G.Ob i:=
 app_core G i kx k xs [y] hC (by simpa using hl) (by intro u hu;rw [List.mem_singleton.1 hu];exact h1) hkx hk hop (λ L a w f _ h=> by
  rw [new_there hin] at h;have e1:rv [db] (slots a) db=slots a db:=by unfold rv;simp
  rw [e1] at h;exact box_slA h) (λ L a he=> (congrFun he s).symm.trans (hs L a)) hx0 hx1 hs1 hsh hq hw
theorem Rg.Ob.appS (G:Rg) (i kx k:Nat) (xs ys:List Value) {ts t:TypeId} (hC:AppSpec G.P ts t) (hl:xs.length+ys.length < 1099511627776) (h1:∀u∈ys,u.oneCell'=true)
 {u v:Value} {xs0:List Value} {st:List (Nat×Option Src×List Value)} {s x:Operand} (hkx:G.pcs[kx]? =some (.sl t u ys []):=by rfl) (hk:G.pcs[k]? =some (.sl t v xs0 st):=by rfl) (hop:(opAt G.ops i).op=.call ⟨.builtin .append,#[s,x],#[ts,ts]⟩:=by rfl) (hx:∀a,G.env i a x=u:=by intro _;exact kr (by kernel_rfl))
 (hs:∀L a,G.env i a s=slV (rb (Pc.sl t v xs0 st).fl (lk (closOf G.ops) i L)) (rv (Pc.sl t v xs0 st).ds (slots a)) v st:=by intro _ _;exact kr (by kernel_rfl))
 (hx0:∀L,slX (rb (Pc.sl t v xs0 st).fl (lk (closOf G.ops) i L)) xs0 st=xs:=by intro _;exact kr (by kernel_rfl)) (hx1:∀L,slX (rb (Pc.sl t v xs0 st).fl (ln (closOf G.ops) i L)) xs0 st=xs++ys:=by intro _;exact kr (by kernel_rfl))
 (hs1:∀L g u,slV (rb (Pc.sl t v xs0 st).fl (ln (closOf G.ops) i L)) (rv (Pc.sl t v xs0 st).ds (sput g (dstOf G.ops i) u)) v st=u:=by intro _ _ _;exact kr (by kernel_rfl)) (hsh:∀g a n c,G.shp i g (.slice a n c)=.slice a n c:=by intro _ _ _ _;exact kr (by kernel_rfl))
 (hq:G.quiet i k=true:=by exact kr (by kernel_rfl)) (hw:∀a,wantE G.ops (opAt G.ops i) (G.env i a)=some true:=by intro _;exact kr (by kernel_rfl)):G.Ob i:=
 app_core G i kx k xs ys hC hl h1 hkx hk hop (λ L a w f he h=> by rw [show a.eval x=u from (congrFun he x).symm.trans (hx a)];exact h) (λ L a he=> (congrFun he s).symm.trans (hs L a)) hx0 hx1 hs1 hsh hq hw
theorem Rg.Ob.appC (G:Rg) (i kx k:Nat) (xs ys:List Value) {ts t:TypeId} (hC:AppSpec G.P ts t) (hl:xs.length+ys.length < 1099511627776) (h1:∀u∈ys,u.oneCell'=true)
 {u v:Value} {xs0:List Value} {st:List (Nat×Option Src×List Value)} {s x:Operand} (hkx:G.pcs[kx]? =some (.sl t u ys []):=by rfl) (hk:G.pcs[k]? =some (.sl t v xs0 st):=by rfl) (hop:(opAt G.ops i).op=.call ⟨.builtin .append,#[s,x],#[ts,ts]⟩:=by rfl) (hx:∀a,G.env i a x=u:=by intro _;exact kr (by kernel_rfl))
 (hs:∀L a,a.eval s=slV (rb (Pc.sl t v xs0 st).fl (lk (closOf G.ops) i L)) (rv (Pc.sl t v xs0 st).ds (slots a)) v st:=by intro _ _;exact kr (by kernel_rfl))
 (hx0:∀L,slX (rb (Pc.sl t v xs0 st).fl (lk (closOf G.ops) i L)) xs0 st=xs:=by intro _;exact kr (by kernel_rfl)) (hx1:∀L,slX (rb (Pc.sl t v xs0 st).fl (ln (closOf G.ops) i L)) xs0 st=xs++ys:=by intro _;exact kr (by kernel_rfl))
 (hs1:∀L g u,slV (rb (Pc.sl t v xs0 st).fl (ln (closOf G.ops) i L)) (rv (Pc.sl t v xs0 st).ds (sput g (dstOf G.ops i) u)) v st=u:=by intro _ _ _;exact kr (by kernel_rfl)) (hsh:∀g a n c,G.shp i g (.slice a n c)=.slice a n c:=by intro _ _ _ _;exact kr (by kernel_rfl))
 (hq:G.quiet i k=true:=by exact kr (by kernel_rfl)) (hw:∀a,wantE G.ops (opAt G.ops i) (G.env i a)=some true:=by intro _;exact kr (by kernel_rfl)):G.Ob i:=
 app_core G i kx k xs ys hC hl h1 hkx hk hop (λ L a w f he h=> by rw [show a.eval x=u from (congrFun he x).symm.trans (hx a)];exact h) (λ L a _=> hs L a) hx0 hx1 hs1 hsh hq hw
end
end Go.Proofs.YtnefkkidfhmggaaGreat
noncomputable section
namespace Go.Proofs.YtnefkkidfhmggaaGreat
open Go.RowKit
inductive Q5 | a | b | c | d | e
def eT:Q5->TypeId | .a=> 2 | .b=> 27 | .c=> 9 | .d=> 150 | .e=> 160
def sT:Q5->TypeId | .a=> 153 | .b=> 154 | .c=> 163 | .d=> 155 | .e=> 164
def fI:Q5->Nat | .a=> 114 | .b=> 115 | .c=> 121 | .d=> 119 | .e=> 124
def fD:Q5->Nat | .a=> 125 | .b=> 126 | .c=> 130 | .d=> 152 | .e=> 154
def fC:Q5->Nat | .a=> 116 | .b=> 117 | .c=> 122 | .d=> 118 | .e=> 123
def fO:Q5->Nat | .a=> 141 | .b=> 143 | .c=> 148 | .d=> 145 | .e=> 150
def zV:Q5->Value | .a=> .int .i64 0 | .b=> .slice none 0 0 | .c=> .string .empty | .d=> .pointer none | .e=> .pointer none
def bN:Q5->Nat | .a=> 8 | .b=> 24 | .c=> 16 | .d=> 8 | .e=> 8
theorem infoQ (q:Q5):(Tryz.prog.info? (eT q)).map (λ i=> (i.zero,i.size,i.bytes))=some (some (zV q),1,bN q):=by cases q <;> kernel_rfl
theorem undQ (q:Q5):Tryz.prog.underlying (sT q)=some (.slice (eT q)):=by cases q <;> kernel_rfl
theorem zCells (q:Q5):(zV q).cells=#[zV q]:=by cases q <;> rfl
theorem zOne (q:Q5):(zV q).oneCell'=true:=by cases q <;> rfl
theorem bN_le (q:Q5):bN q<=24:=by cases q <;> decide
theorem bytesQ (q:Q5) {n:Nat} (h:n < 1099511627776):n * bN q<=140737488355328:=by
 have:=Nat.mul_le_mul (Nat.le_of_lt h) (bN_le q);omega
theorem zeroQ (q:Q5):∀u∈(Builtin.zeroCells (zV q).cells 1).toList,u.oneCell'=true:=by
 intro u hu;have h:=zOne q;cases q <;> (simp only [Builtin.zeroCells,Array.mem_toList_iff,Array.mem_map,Array.mem_range] at hu;obtain ⟨a,ha,rfl⟩:=hu;have:a=0:=by simp [zV,Value.cells] at ha;omega) <;> subst this <;> rfl
theorem ovlQ (q:Q5) (args:Array Value) (w:World):(callFunc (fO q) args).run Tryz.prog w=((Extern.SlicesOverlaps.overlaps #[sT q,sT q] #[4] args).run Tryz.prog w).andThen λ v w'=> .ok (.value v) w':=by
 cases q
 · exact run_callFunc_extern Tryz.func141 (by kernel_rfl) (by kernel_rfl) (by kernel_rfl) (by kernel_rfl) args w
 · exact run_callFunc_extern Tryz.func143 (by kernel_rfl) (by kernel_rfl) (by kernel_rfl) (by kernel_rfl) args w
 · exact run_callFunc_extern Tryz.func148 (by kernel_rfl) (by kernel_rfl) (by kernel_rfl) (by kernel_rfl) args w
 · exact run_callFunc_extern Tryz.func145 (by kernel_rfl) (by kernel_rfl) (by kernel_rfl) (by kernel_rfl) args w
 · exact run_callFunc_extern Tryz.func150 (by kernel_rfl) (by kernel_rfl) (by kernel_rfl) (by kernel_rfl) args w
end Go.Proofs.YtnefkkidfhmggaaGreat
end
noncomputable section
namespace Go.Proofs.YtnefkkidfhmggaaGreat
open Go.RowKit
def InsQ (q:Q5) (w:World) (B:Nat) (s:Value) (n i:Nat) (cs vs:List Value) (e:Ending) (w':World):Prop:=
 ∃s',e=.returned s'/\w'.ownsRow B (eT q) 1 s' (n+1) (cs.take (i)++vs++cs.drop (i))/\w.grownBy w' s.ownBlock/\∀k,s'.ownBlock=some k->s.ownBlock=some k\/w.heap.size<=k
theorem insQ_end (q:Q5) (B:Nat) (s:Value) (n vb:Nat) (cs:List Value) (x:Value) (w:World) (hs:w.ownsRow B (eT q) 1 s n cs) (hn:n < 1099511627776) (hB:B<=w.heap.size)
 (hv:w.heap[vb]? =some (.cells #[x] (eT q) (0,0))) (hx:x.oneCell'=true):
 Calls Tryz.prog (fI q) #[s, .int .i64 n, .slice (some ⟨vb,0,none⟩) 1 1] w (InsQ q w B s n n cs [x]):=by
 obtain ⟨i0,ii,iz0,iz1,iz2⟩:=info_parts (infoQ q);have Hs:=Lib.hid hs;have Hv:Hid (∀j u,[x][j]? =some u->w.cell? ((⟨vb,0,none⟩:Addr).add j)=some u):=by intro j u hu;rw [Addr.add_lit,Nat.zero_add,cell_of_row w vb j _ (eT q) (0,0) hv];simpa using hu
 have H1:Hid (∀u∈[x],u.oneCell'=true):=by intro u hu;simp at hu;subst hu;exact hx
 have Hfin:Hid (∀v' w',w'.ownsRow B (eT q) 1 v' (n+1) (cs++[x])->w.grownBy w' s.ownBlock->(∀k,v'.ownBlock=some k->s.ownBlock=some k\/w.heap.size<=k)->InsQ q w B s n n cs [x] (.returned v') w'):=by intro v' w' h1 h2 h3;refine ⟨v',rfl,?_,h2,h3⟩;have hl:=hs.1;rw [List.take_of_length_le (by omega),List.drop_of_length_le (by omega),List.append_nil];exact h1
 obtain ⟨a,c,hsl,hcn⟩:∃a c,s=.slice a n c/\n<=c:=by
  rcases hs.2 with ⟨rfl,rfl⟩ | ⟨g,cap,cur,rfl,_,_,h,_⟩
  · exact ⟨_,_,rfl,Nat.le_refl _⟩
  · exact ⟨_,_,rfl,h⟩
 subst hsl;have hc63:c<=maxLen:=by
  rcases hs.2 with ⟨h,rfl⟩ | ⟨g,cap,cur,h,_,_,_,h2,_⟩
  · injection h with _ _ h;subst h;decide
  · injection h with _ _ h;subst h;exact h2
 unfold maxLen at hc63;have Hsl:Hid (a=none->n=0/\c=0):=by
  intro ha;rcases hs.2 with ⟨h,rfl⟩ | ⟨g,cap,cur,h,_⟩
  · injection h with _ _ h;exact ⟨rfl,h⟩
  · injection h with h;rw [ha] at h;cases h
 clear hs hv hx;have hu:=undQ q;have hz:=zeroQ q;cases q
 all_goals
  simp only [eT,sT,fI,zV,bN] at *
  first | go_enter Tryz.func114,Tryz.ntmps114 | go_enter Tryz.func115,Tryz.ntmps115 | go_enter Tryz.func121,Tryz.ntmps121 | go_enter Tryz.func119,Tryz.ntmps119 | go_enter Tryz.func124,Tryz.ntmps124
  cases a with
  | none=>
   obtain ⟨rfl,rfl⟩:=Hsl.out rfl;go_wp2_with (at_builtin;(refine wpList_append_block _ rfl _ _ _ rfl B _ i0 _ 1 _ hu ii iz0 iz1 iz2 rfl (by decide) _ _ _ rfl Hs.out ⟨vb,0,none⟩ 1 1 [x] rfl rfl Hv.out H1.out (by decide) (by unfold maxLen;omega) (by omega) hB ?_));intro v' w' h1 h2 h3;have Hr:=Lib.hid (Hfin.out v' w' h1 h2 h3.out);clear h1 h2 h3;go_wp2;go_ret;exact Hr.out
  | some ad=>
   obtain ⟨ab,ao,asp⟩:=ad;go_wp2_with (at_builtin;refine wpList_append_block _ rfl _ _ _ rfl B _ i0 _ 1 _ hu ii iz0 iz1 iz2 rfl (by decide) _ _ _ rfl Hs.out ⟨vb,0,none⟩ 1 1 [x] rfl rfl Hv.out H1.out (by decide) (by unfold maxLen;omega) (by omega) hB ?_)
   all_goals
    intro v' w' h1 h2 h3;have Hr:=Lib.hid (Hfin.out v' w' h1 h2 h3.out);clear h1 h2 h3;go_wp2;go_ret;exact Hr.out
theorem insQ_shift (q:Q5) (B:Nat) (g n c i vb:Nat) (cs:List Value) (cur:Array Value) (x:Value) (w:World) (hn:n < 1099511627776) (hin:i < n) (hnc:n < c) (hcm:c<=maxLen)
 (hg:w.heap[g]? =some (.cells cur (eT q) (0,0))) (hbg:B<=g) (hcur:cur.size=c) (htk:cur.toList.take (n)=cs) (h1:∀u∈cs,u.oneCell'=true)
 (hv:w.heap[vb]? =some (.cells #[x] (eT q) (0,0))) (hx:x.oneCell'=true) (hne:vb≠g):
 Calls Tryz.prog (fI q) #[.slice (some ⟨g,0,none⟩) n c, .int .i64 i, .slice (some ⟨vb,0,none⟩) 1 1] w (InsQ q w B (.slice (some ⟨g,0,none⟩) n c) n i cs [x]):=by
 obtain ⟨i0,ii,iz0,iz1,iz2⟩:=info_parts (infoQ q);have hov:∀lb cb,(callFunc (fO q) #[.slice (some ⟨vb,0,none⟩) 1 1, .slice (some ⟨g,(i+1),none⟩) lb cb]).run Tryz.prog w=.ok (.value (.bool false)) w:=λ lb cb=> by rw [ovlQ,Lib.run_overlaps_apart w (sT q) 4 (eT q) (undQ q) 1 (λ w=> by simp [sizeOf,typeInfo,ii,iz1]) ⟨vb,0,none⟩ ⟨g,(i+1),none⟩ 1 1 lb cb hne (eT q) (eT q) 1 c (by simp [World.shape?,hv]) (by simp [World.shape?,hg,hcur]) (by omega) (by simp [World.frozen?,hv]) (by simp [World.frozen?,hv])];rfl
 have hsz:(Tryz.prog.info? (eT q)).map (·.size)=some 1:=by rw [ii];simp [iz1]
 have hl:cs.length=n:=by rw [<-htk];simp;omega
 unfold maxLen at hcm;have Hsrc:Hid (∀j u,(cs.drop (i))[j]? =some u->w.cell? ((⟨g,i,none⟩:Addr).add j)=some u):=by
  intro j u hu;rw [Addr.add_lit,cell_of_row w g _ cur (eT q) (0,0) hg];rw [List.getElem?_drop,<-htk,List.getElem?_take] at hu;split at hu
  · simpa using hu
  · cases hu
 have Hv:Hid (∀w',w.grownBy w' (some g)->∀j u,[x][j]? =some u->w'.cell? ((⟨vb,0,none⟩:Addr).add j)=some u):=by intro w' hw j u hu;have hv':w'.heap[vb]? =some (.cells #[x] (eT q) (0,0)):=(hw.block vb (Array.getElem?_eq_some_iff.1 hv).1 (by simpa using hne)).trans hv;rw [Addr.add_lit,Nat.zero_add,cell_of_row w' vb j _ (eT q) (0,0) hv'];simpa using hu
 have H1:Hid (∀u∈[x],u.oneCell'=true):=by intro u hu;simp at hu;subst hu;exact hx
 have H1c:Hid (∀u∈cs.drop (i),u.oneCell'=true):=λ u hu=> h1 u (List.mem_of_mem_drop hu);have Hg:Hid (w.heap[g]? =some (.cells cur.toList.toArray (eT q) (0,0))):=hg;have Hfit:Hid ((i+1)+(cs.drop (i)).length<=cur.toList.length):=by show _<=_;simp;omega
 have Hmin:Hid ((cs.drop (i)).length=Nat.min (n+1 - i) (n - i) * 1):=by show _=_;simp only [List.length_drop,Nat.min_def];split <;> omega
 have Hfit2:Hid (i+[x].length<=(splice cur.toList ((i+1)) (cs.drop (i))).length):=by show _<=_;rw [splice_length _ _ _ Hfit.out];simp;omega
 have Hmin2:Hid ([x].length=Nat.min 1 (n+1 - i) * 1):=by show _=_;simp only [List.length_cons,List.length_nil,Nat.min_def];split <;> omega
 have Hfin:Hid (∀w' w'',w.grownBy w' (some g)->w'.grownBy w'' (some g)->w''.heap[g]? =some (.cells (splice (splice cur.toList ((i+1)) (cs.drop (i))) (i) [x]).toArray (eT q) (0,0))->
  InsQ q w B (.slice (some ⟨g,0,none⟩) n c) n i cs [x] (.returned (.slice (some ⟨g,0,none⟩) (n+1) c)) w''):=by
  intro w' w'' g1 g2 hw;refine ⟨_,rfl,⟨by simp;omega, .inr ⟨g,c,_,rfl,hbg,hw,by omega,by unfold maxLen;omega,?_,?_⟩⟩,?_,λ k hk=> .inl hk⟩
  · have:=Hfit2.out
    have hh:=Hfit.out;simp only [List.size_toArray,splice_length _ _ _ this,splice_length _ _ _ hh,Array.length_toList,hcur,Nat.mul_one]
  · have:=row_shift cur.toList (i) (n) [x] (by simp;omega) (by omega)
    rw [htk] at this;rw [Nat.mul_one,show (n+1)=n+[x].length from rfl,show (i+1)=i+[x].length from rfl];simpa using this
  · exact ⟨g2.os.trans g1.os,g2.tape.trans g1.tape,g2.output.trans g1.output,Nat.le_trans g1.size g2.size,λ k hk hk'=> (g2.block k (Nat.lt_of_lt_of_le hk g1.size) hk').trans (g1.block k hk hk')⟩
 have hw1:IntKind.i64.wrap ((i:Int)+(1:Int))=(i:Int)+(1:Int):=by rw [IntKind.wrap_i64];omega
 have hb1:(0:Int)<=(i:Int)+(1:Int):=by omega
 have htn:((i:Int)+(1:Int)).toNat=i+1:=by omega
 have hb2:¬ (c=i+1):=by omega
 have hb4:¬ (c=i):=by omega
 have hin':i<=n:=by omega
 have hi0:(0:Int)<=(i:Int):=by omega
 have hi1:(i:Int) < (n:Int):=by omega
 have hi2:(i:Int)<=(n:Int)+1:=by omega
 have hz2:¬ ((i:Int)=(n:Int)):=by omega
 have hn0:(n:Int)+1<=c:=by omega
 clear hv hx h1 hg htk hl hcur hne;have hu:=undQ q;have hz:=zeroQ q;cases q
 all_goals
  simp only [eT,sT,fI,fO,zV,bN] at *
  first | go_enter Tryz.func114,Tryz.ntmps114 | go_enter Tryz.func115,Tryz.ntmps115 | go_enter Tryz.func121,Tryz.ntmps121 | go_enter Tryz.func119,Tryz.ntmps119 | go_enter Tryz.func124,Tryz.ntmps124
  go_wp2_with (simp only [hov]);go_region_law ((refine step_copy2 rfl _ _ _ _ rfl _ 1 hu hsz g ((i+1)) (n - i) (c - (i+1)) ⟨g,i,none⟩ (n+1 - i) (c - i) (by simp [Act.eval,Act.put, *]) (by simp [Act.eval,Act.put, *]) cur.toList _ Hg.out (cs.drop (i)) Hmin.out Hsrc.out Hfit.out H1c.out ?_;intro W1 hW1 hG1));go_wp2_with (first | (refine wpList_copy2 rfl _ _ _ _ rfl _ 1 hu hsz g (i) (n+1 - i) (c - i) ⟨vb,0,none⟩ 1 1 rfl rfl (splice cur.toList ((i+1)) (cs.drop (i))) _ hW1.out [x] Hmin2.out (Hv.out W1 (grown_drew hG1.out)) Hfit2.out H1.out ?_));intro W2 hW2 hG2;have Hr:=Lib.hid (Hfin.out W1 W2 (grown_drew hG1.out) hG2.out hW2.out);clear hG1 hG2 hW1 hW2;go_wp2;go_ret;exact Hr.out
theorem insQ_grow (q:Q5) (B:Nat) (g n i vb:Nat) (cs:List Value) (cur:Array Value) (x:Value) (w:World) (hn:n < 1099511627776) (hin:i < n) (hB:B<=w.heap.size)
 (hg:w.heap[g]? =some (.cells cur (eT q) (0,0))) (hcur:cur.size=n) (htk:cur.toList.take (n)=cs) (h1:∀u∈cs,u.oneCell'=true)
 (hv:w.heap[vb]? =some (.cells #[x] (eT q) (0,0))) (hx:x.oneCell'=true):
 Calls Tryz.prog (fI q) #[.slice (some ⟨g,0,none⟩) n n, .int .i64 i, .slice (some ⟨vb,0,none⟩) 1 1] w (InsQ q w B (.slice (some ⟨g,0,none⟩) n n) n i cs [x]):=by
 obtain ⟨i0,ii,iz0,iz1,iz2⟩:=info_parts (infoQ q);have hsz:(Tryz.prog.info? (eT q)).map (·.size)=some 1:=by rw [ii];simp [iz1]
 have hl:cs.length=n:=by rw [<-htk];simp;omega
 have hgl:g < w.heap.size:=(Array.getElem?_eq_some_iff.1 hg).1;have hvl:vb < w.heap.size:=(Array.getElem?_eq_some_iff.1 hv).1;have Hold:Hid (∀j u,(cs.take (i))[j]? =some u->w.cell? ⟨g,j,none⟩=some u):=by
  intro j u hu;rw [cell_of_row w g _ cur (eT q) (0,0) hg];rw [List.getElem?_take] at hu;split at hu
  · rw [<-htk,List.getElem?_take] at hu
    split at hu
    · simpa using hu
    · cases hu
  · cases hu
 have Hsrc:Hid (∀w',Below w.heap.size w w'->∀j u,(cs.drop (i))[j]? =some u->w'.cell? ((⟨g,i,none⟩:Addr).add j)=some u):=by
  intro w' hb j u hu;rw [Addr.add_lit,cell_of_row w' g _ cur (eT q) (0,0) ((hb.block g hgl).trans hg)];rw [List.getElem?_drop,<-htk,List.getElem?_take] at hu;split at hu
  · simpa using hu
  · cases hu
 have Hv:Hid (∀w',Below w.heap.size w w'->∀j u,[x][j]? =some u->w'.cell? ((⟨vb,0,none⟩:Addr).add j)=some u):=by intro w' hb j u hu;rw [Addr.add_lit,Nat.zero_add,cell_of_row w' vb j _ (eT q) (0,0) ((hb.block vb hvl).trans hv)];simpa using hu
 have H1:Hid (∀u∈[x],u.oneCell'=true):=by intro u hu;simp at hu;subst hu;exact hx
 have H1c:Hid (∀u∈cs.drop (i),u.oneCell'=true):=λ u hu=> h1 u (List.mem_of_mem_drop hu);have Hlt:Hid ((cs.take (i)).length=i * 1):=by show _=_;simp;omega
 have Hmin2:Hid (∀m,1<=m->[x].length=Nat.min 1 m * 1):=by intro m hm;simp only [List.length_cons,List.length_nil,Nat.min_def];split <;> omega
 have Hmin:Hid ((cs.drop (i)).length=Nat.min (n - i) (n - i) * 1):=by show _=_;simp only [List.length_drop,Nat.min_def];split <;> omega
 have Hfit:Hid (∀G Z,Z.length=G - i->n+1<=G->i+[x].length<=(cs.take (i)++Z).length):=by intro G Z h1 h2;simp;omega
 have Hfit2:Hid (∀G Z,Z.length=G - i->n+1<=G->(i+1)+(cs.drop (i)).length<=(splice (cs.take (i)++Z) (i) [x]).length):=by intro G Z h1 h2;rw [splice_length _ _ _ (Hfit.out G Z h1 h2)];simp;omega
 have Hfin:Hid (∀w1 w2 w3 G Z,Z.length=G - i->n+1<=G->G<=maxLen->w.grownBy w1 none->w1.grownBy w2 (some w.heap.size)->w2.grownBy w3 (some w.heap.size)->w3.heap[w.heap.size]? =some (.cells (splice (splice (cs.take (i)++Z) (i) [x]) ((i+1)) (cs.drop (i))).toArray (eT q) (0,0))->
  InsQ q w B (.slice (some ⟨g,0,none⟩) n n) n i cs [x] (.returned (.slice (some ⟨w.heap.size,0,none⟩) (n+1) G)) w3):=by
  intro w1 w2 w3 G Z hZ hG hGm g1 g2 g3 hw;have f1:=Hfit.out G Z hZ hG;have f2:=Hfit2.out G Z hZ hG;refine ⟨_,rfl,⟨by simp;omega, .inr ⟨w.heap.size,G,_,rfl,hB,hw,hG,hGm,?_,?_⟩⟩,?_,λ k hk=> .inr ?_⟩
  · simp only [List.size_toArray,splice_length _ _ _ f2,splice_length _ _ _ f1]
    simp;omega
  · have:=row_grow cs Z (i) [x] (by omega) (by simp;omega)
    rw [Nat.mul_one,show (n+1)=cs.length+[x].length by simp;omega,show (i+1)=i+[x].length from rfl];simpa using this
  · refine ⟨g3.os.trans (g2.os.trans g1.os),g3.tape.trans (g2.tape.trans g1.tape),g3.output.trans (g2.output.trans g1.output),Nat.le_trans g1.size (Nat.le_trans g2.size g3.size),λ k hk hk'=> ?_⟩
    have a1:some k≠some w.heap.size:=by intro e;injection e;omega
    have:=g1.size;have:=g2.size;exact (g3.block k (by omega) a1).trans ((g2.block k (by omega) a1).trans (g1.block k hk (by simp)))
  · simp [Value.ownBlock] at hk;omega
 have Hb1:Hid (∀w1,w.grownBy w1 none->Below w.heap.size w w1):=λ w1 g1=> (Below.refl _ _).grown g1 (Nat.le_refl _) (by simp);have Hb2:Hid (∀w1 w2,w.grownBy w1 none->w1.grownBy w2 (some w.heap.size)->Below w.heap.size w w2):=λ w1 w2 g1 g2=> (Hb1.out w1 g1).grown g2 g1.size (by intro k hk;injection hk;omega);have hw1:IntKind.i64.wrap ((i:Int)+(1:Int))=(i:Int)+(1:Int):=by rw [IntKind.wrap_i64];omega
 have hb1:(0:Int)<=(i:Int)+(1:Int):=by omega
 have htn:((i:Int)+(1:Int)).toNat=i+1:=by omega
 have hb4:¬ (n=i):=by omega
 have hin':i<=n:=by omega
 have hi0:(0:Int)<=(i:Int):=by omega
 have hi1:(i:Int) < (n:Int):=by omega
 have hi2:(i:Int)<=(n:Int)+1:=by omega
 have hi3:(i:Int)<=(n:Int):=by omega
 have hz2:¬ ((i:Int)=(n:Int)):=by omega
 have hk1:(n:Int)+1 - (i:Int)=((n+1 - i:Nat):Int):=by omega
 have Hk2:Hid (i+(n+1 - i)=n+1):=by show _=_;omega
 clear hv hx h1 hg htk hl hcur hgl hvl;have hu:=undQ q;have hz:=zeroQ q;cases q
 all_goals
  simp only [eT,sT,fI,zV,bN] at *
  first | go_enter Tryz.func114,Tryz.ntmps114 | go_enter Tryz.func115,Tryz.ntmps115 | go_enter Tryz.func121,Tryz.ntmps121 | go_enter Tryz.func119,Tryz.ntmps119 | go_enter Tryz.func124,Tryz.ntmps124
  go_wp2_with (at_builtin;refine wpList_append_zeros rfl _ _ _ 3 rfl _ i0 _ 1 _ .i64 .i64 hu (by kernel_rfl) ii iz0 iz1 iz2 rfl (by decide) g i n rfl (n+1 - i) rfl (cs.take (i)) Hlt.out Hold.out (by omega) (by omega) hin' (by omega) (by omega) ?_);intro w1 G Z hw1' hZ hGn hGm hg1;rw [Hk2.out] at hGn ⊢;have Hb3:=Lib.hid (Hb1.out w1 hg1.out);have hG1:¬ (G=i):=by omega
  have hG2:¬ (G=i+1):=by omega
  go_wp2_with (first | (refine wpList_copy2 rfl _ _ _ _ rfl _ 1 hu hsz w.heap.size (i) (n+1 - i) (G - i) ⟨vb,0,none⟩ 1 1 rfl rfl (cs.take (i)++Z) _ hw1'.out [x] (Hmin2.out _ (by omega)) (Hv.out _ Hb3.out) (Hfit.out G Z hZ.out hGn) H1.out ?_));intro w2 hw2' hg2;have Hb4:=Lib.hid (Hb2.out w1 w2 hg1.out hg2.out);go_wp2;go_region_law ((refine step_copy2 rfl _ _ _ _ rfl _ 1 hu hsz w.heap.size ((i+1)) (n - i) (G - (i+1)) ⟨g,i,none⟩ (n - i) (n - i) (by simp [Act.eval,Act.put, *]) (by simp [Act.eval,Act.put, *]) (splice (cs.take (i)++Z) (i) [x]) _ hw2'.out (cs.drop (i)) Hmin.out (Hsrc.out _ (Below.drew Hb4.out)) (Hfit2.out G Z hZ.out hGn) H1c.out ?_;intro w3 hw3' hg3));have Hr:=Lib.hid (Hfin.out w1 w2 w3 G Z hZ.out hGn hGm.out hg1.out hg2.out (grown_drew hg3.out) hw3'.out);clear hg1 hg2 hg3 hw1' hw2' hw3' hZ hGm;go_wp2;go_ret;exact Hr.out
theorem insB_all (q:Q5) (B:Nat) (s:Value) (n i vb:Nat) (cs:List Value) (x:Value) (w:World) (hs:w.ownsRow B (eT q) 1 s n cs) (h1:∀u∈cs,u.oneCell'=true) (hn:n < 1099511627776) (hi:i<=n) (hB:B<=w.heap.size)
 (hv:w.heap[vb]? =some (.cells #[x] (eT q) (0,0))) (hx:x.oneCell'=true) (hne:s.ownBlock≠some vb):
 Calls Tryz.prog (fI q) #[s, .int .i64 i, .slice (some ⟨vb,0,none⟩) 1 1] w (InsQ q w B s n i cs [x]):=by
 by_cases he:i=n
 · subst he
   exact insQ_end q B s i vb cs x w hs hn hB hv hx
 · obtain ⟨hl,⟨rfl,h0⟩ | ⟨g,c,cur,rfl,hbg,hg,hnc,hcm,hcur,htk⟩⟩:=hs
   · omega
   · have hne':vb≠g:=by intro e;subst e;exact hne rfl
     by_cases hc:n=c
     · subst hc
       exact insQ_grow q B g n i vb cs cur x w hn (by omega) hB hg (by simpa using hcur) (by simpa using htk) h1 hv hx
     · exact insQ_shift q B g n c i vb cs cur x w hn (by omega) (by omega) hcm hg hbg (by simpa using hcur) (by simpa using htk) h1 hv hx hne'
theorem insQ_calls (q:Q5) (v:Value) (xs:List Value) (i vb:Nat) (x:Value) (w:World) {f:List Nat} (h:(slA (eT q) v xs).p w f) (hi:i<=xs.length) (hlen:xs.length < 1099511627776) (h1:∀u∈xs,u.oneCell'=true) (hx:x.oneCell'=true)
 (hv:w.heap[vb]? =some (.cells #[x] (eT q) (0,0))) (hne:vb ∉ f):
 Calls Tryz.prog (fI q) #[v, .int .i64 i, .slice (some ⟨vb,0,none⟩) 1 1] w λ e w'=> ∃a n c f',e=.returned (.slice a n c)/\(slA (eT q) (.slice a n c) (xs.take i++x::xs.drop i)).p w' f'/\Tr w w' f f':=by
 obtain ⟨ho,rfl⟩:=h;refine (insB_all q 0 v xs.length i vb xs x w ho h1 hlen hi (Nat.zero_le _) hv hx (λ e=> hne (by rw [e];simp))).mono ?_;rintro e w' ⟨s',rfl,h2,h3,h4⟩;have hsh:∃a n c,s'=.slice a n c:=by rcases h2.2 with ⟨rfl,_⟩ | ⟨g,cap,cur,rfl,_⟩ <;> exact ⟨_,_,_,rfl⟩
 obtain ⟨a,n,c,rfl⟩:=hsh;refine ⟨a,n,c,_,rfl,⟨?_,rfl⟩,Tr.of_grown h3 h4⟩;have e:(xs.take i++x::xs.drop i).length=xs.length+1:=by simp;omega
 rw [e];simpa using h2
end Go.Proofs.YtnefkkidfhmggaaGreat
end
noncomputable section
namespace Go.Proofs.YtnefkkidfhmggaaGreat
open Go.RowKit
def DelQ (q:Q5) (w:World) (B:Nat) (g k c i:Nat) (cs:List Value) (e:Ending) (w':World):Prop:=
 e=.returned (.slice (some ⟨g,0,none⟩) k c)/\w'.ownsRow B (eT q) 1 (.slice (some ⟨g,0,none⟩) k c) k (cs.take (i)++cs.drop ((i+1)))/\w.grownBy w' (some g)
theorem delB_all (q:Q5) (B:Nat) (g k c i:Nat) (cs:List Value) (w:World) (hs:w.ownsRow B (eT q) 1 (.slice (some ⟨g,0,none⟩) (k+1) c) (k+1) cs) (h1:∀u∈cs,u.oneCell'=true) (hn:k+1 < 1099511627776) (hin:i<=k):
 Calls Tryz.prog (fD q) #[.slice (some ⟨g,0,none⟩) (k+1) c, .int .i64 i, .int .i64 ((i:Int)+1)] w (DelQ q w B g k c i cs):=by
 obtain ⟨i0,ii,iz0,iz1,iz2⟩:=info_parts (infoQ q);obtain ⟨hl,⟨h,_⟩ | ⟨g',c',cur,hv,hbg,hg,hnc,hcm,hcur,htk⟩⟩:=hs
 · cases h
 obtain ⟨rfl,rfl⟩:g=g'/\c=c':=by injection hv with a1 a2 a3;injection a1 with a1;injection a1 with a1;exact ⟨a1,a3⟩
 clear hv;unfold maxLen at hcm;rw [Nat.mul_one] at htk;have Hsrc:Hid (∀j u,(cs.drop ((i+1)))[j]? =some u->w.cell? ((⟨g,(i+1),none⟩:Addr).add j)=some u):=by
  intro j u hu;rw [Addr.add_lit,cell_of_row w g _ cur (eT q) (0,0) hg];rw [List.getElem?_drop,<-htk,List.getElem?_take] at hu;split at hu
  · simpa using hu
  · cases hu
 have H1c:Hid (∀u∈cs.drop ((i+1)),u.oneCell'=true):=λ u hu=> h1 u (List.mem_of_mem_drop hu);have Hg:Hid (w.heap[g]? =some (.cells cur.toList.toArray (eT q) (0,0))):=hg;have Hl:Hid ((cs.drop ((i+1))).length=(k - i) * 1):=by show _=_;rw [List.length_drop,hl];omega
 have hl':cs.length=k+1:=by simpa using hl
 have hcur':cur.size=c:=by simpa using hcur
 have Hfit:Hid (i+(cs.drop ((i+1))).length<=cur.toList.length):=by show _<=_;rw [List.length_drop,hl',Array.length_toList,hcur'];omega
 have Hfit1:Hid (i * 1+(cs.drop ((i+1))).length<=cur.toList.length):=by show _<=_;rw [Nat.mul_one];exact Hfit.out
 have Hfit2:Hid (k+1 * 1<=(splice cur.toList (i) (cs.drop ((i+1)))).length):=by show _<=_;rw [splice_length _ _ _ Hfit.out,Array.length_toList,hcur'];omega
 have Hfin:Hid (∀w' w'',w.grownBy w' (some g)->w'.grownBy w'' (some g)->w''.heap[g]? =some (.cells (splice (splice cur.toList (i) (cs.drop ((i+1)))) (k) (Builtin.zeroCells (zV q).cells 1).toList).toArray (eT q) (0,0))->
  DelQ q w B g k c i cs (.returned (.slice (some ⟨g,0,none⟩) k c)) w''):=by
  intro w' w'' g1 g2 hw;refine ⟨rfl,⟨by simp;omega, .inr ⟨g,c,_,rfl,hbg,hw,by omega,by unfold maxLen;omega,?_,?_⟩⟩,?_⟩
  · have:=Hfit2.out
    have hh:=Hfit.out;simp only [List.size_toArray];rw [splice_length _ _ _ (by simpa [Builtin.zeroCells,zCells] using this),splice_length _ _ _ hh,Array.length_toList,hcur]
  · have:=row_delete cur.toList (i) ((k+1)) 1 (Builtin.zeroCells (zV q).cells 1).toList (by simp;omega) (by omega) (by simp [Builtin.zeroCells,zCells])
    rw [htk] at this;rw [Nat.mul_one];simpa using this
  · exact ⟨g2.os.trans g1.os,g2.tape.trans g1.tape,g2.output.trans g1.output,Nat.le_trans g1.size g2.size,λ k hk hk'=> (g2.block k (Nat.lt_of_lt_of_le hk g1.size) hk').trans (g1.block k hk hk')⟩
 have hb1:(0:Int)<=(i:Int)+(1:Int):=by omega
 have htn:((i:Int)+(1:Int)).toNat=i+1:=by omega
 have hi0:(0:Int)<=(i:Int):=by omega
 have hi1:(i:Int) < (k:Int)+1:=by omega
 have hi2:(i:Int)<=(k:Int):=by omega
 have hi3:(i:Int)<=(k:Int)+1:=by omega
 have hi4:(i:Int)<=(c:Int):=by omega
 have hi5:(i:Int)+1<=(c:Int):=by omega
 have hz2:¬ ((i:Int)=(i:Int)+1):=by omega
 have hn0:(k:Int)+1<=c:=by omega
 have hb4:¬ (c=i):=by omega
 have hb5:¬ (k+1=i):=by omega
 clear h1 hg htk hl hcur hl' hcur';have hu:=undQ q;have hz:=zeroQ q;cases q
 all_goals
  simp only [eT,sT,fD,zV,bN] at *
  first | go_enter Tryz.func125,Tryz.ntmps125 | go_enter Tryz.func126,Tryz.ntmps126 | go_enter Tryz.func130,Tryz.ntmps130 | go_enter Tryz.func152,Tryz.ntmps152 | go_enter Tryz.func154,Tryz.ntmps154
  go_wp2;by_cases hb6:c=i+1
  · subst hb6
    obtain rfl:i=k:=by omega
    have hi6:(i:Int)<=(i:Int)+1:=by omega
    have He:Hid (cs.drop ((i+1))=[]):=by show _=_;have:=Hl.out;rw [Nat.sub_self,Nat.zero_mul] at this;exact List.length_eq_zero_iff.1 this
    go_region_law ((refine step_append_row rfl _ _ _ rfl _ i0 1 hu ii iz1 g i (i+1) (by simp [Act.eval,Act.put, *]) cur.toList Hg.out ⟨g,0,none⟩ (i - i) 0 (cs.drop ((i+1))) (by simp [Act.eval,Act.put, *]) Hl.out (by rw [He.out];intro j u hu;simp at hu) H1c.out (by omega) Hfit1.out ?_;intro w1 hw1 hg1));have hw1:=hw1.out;simp only [Nat.mul_one] at hw1;have hw1:=Lib.hid hw1;go_wp2_with ((refine wpList_clear2 rfl _ _ rfl _ i0 _ 1 hu ii iz0 rfl g (i) 1 _ rfl (by decide) (splice cur.toList (i) (cs.drop ((i+1)))) hw1.out (by have:=Hfit2.out;omega) hz ?_));intro w2 hw2 hg2;have Hr:=Lib.hid (Hfin.out w1 w2 (grown_drew hg1.out) hg2.out hw2.out);clear hg1 hg2 hw1 hw2;go_wp2;go_ret;exact Hr.out
  · have hk1:i+(k - i)=k:=by omega
    go_region_law ((refine step_append_row rfl _ _ _ rfl _ i0 1 hu ii iz1 g i c (by simp [Act.eval,Act.put, *]) cur.toList Hg.out ⟨g,(i+1),none⟩ (k - i) (c - (i+1)) (cs.drop ((i+1))) (by simp [Act.eval,Act.put, *]) Hl.out Hsrc.out H1c.out (by omega) Hfit1.out ?_;intro w1 hw1 hg1));have hw1:=hw1.out;simp only [Nat.mul_one] at hw1;have hw1:=Lib.hid hw1;go_wp2_with ((refine wpList_clear2 rfl _ _ rfl _ i0 _ 1 hu ii iz0 rfl g (k) 1 _ rfl (by decide) (splice cur.toList (i) (cs.drop ((i+1)))) hw1.out (by have:=Hfit2.out;omega) hz ?_));intro w2 hw2 hg2;have Hr:=Lib.hid (Hfin.out w1 w2 (grown_drew hg1.out) hg2.out hw2.out);clear hg1 hg2 hw1 hw2;go_wp2;go_ret;exact Hr.out
theorem delQ_calls (q:Q5) (v:Value) (xs:List Value) (i:Nat) (w:World) {f:List Nat} (h:(slA (eT q) v xs).p w f) (hi:i < xs.length) (hlen:xs.length < 1099511627776) (h1:∀u∈xs,u.oneCell'=true):
 Calls Tryz.prog (fD q) #[v, .int .i64 i, .int .i64 ((i:Int)+1)] w λ e w'=> ∃a n c f',e=.returned (.slice a n c)/\(slA (eT q) (.slice a n c) (xs.eraseIdx i)).p w' f'/\Tr w w' f f':=by
 obtain ⟨ho,rfl⟩:=h;obtain ⟨k,hk⟩:∃k,xs.length=k+1:=⟨xs.length - 1,by omega⟩
 have ho':=ho;rcases ho'.2 with ⟨_,h0⟩ | ⟨g,cap,cur,rfl,_⟩
 · omega
 · rw [hk] at ho ⊢
   refine (delB_all q 0 g k cap i xs w ho h1 (by omega) (by omega)).mono ?_;rintro e w' ⟨rfl,h2,h3⟩;refine ⟨_,_,_,[g],rfl,⟨?_,rfl⟩,Tr.of_grown (o:=some g) (o':=some g) h3 (λ k hk=> .inl hk)⟩;have e:(xs.eraseIdx i).length=k:=by rw [List.length_eraseIdx_of_lt hi];omega
   rw [e,List.eraseIdx_eq_take_drop_succ];exact h2
end Go.Proofs.YtnefkkidfhmggaaGreat
end
noncomputable section
namespace Go.Proofs.YtnefkkidfhmggaaGreat
open Go.RowKit
def SrcQ (w:World) (xs:List Value) (v:Value):Prop:=
 (v=.slice none 0 0/\xs=[])\/∃ad c,v=.slice (some ad) xs.length c/\∀j u,xs[j]? =some u->w.cell? (ad.add j)=some u
theorem cloneQ_calls (q:Q5) (xs:List Value) (v:Value) (w:World) (hs:SrcQ w xs v) (h1:∀u∈xs,u.oneCell'=true) (hlen:xs.length < 1099511627776):
 Calls Tryz.prog (fC q) #[v] w λ e w'=> ∃v' f',e=.returned v'/\(slA (eT q) v' xs).p w' f'/\Below w.heap.size w w'/\∀k∈f',w.heap.size<=k:=by
 obtain ⟨i0,ii,iz0,iz1,iz2⟩:=info_parts (infoQ q);rcases hs with ⟨rfl,rfl⟩ | ⟨ad,c,rfl,hsrc⟩
 · have hnil:=λ w'=> Lib.run_eql_slice_nil (P:=Tryz.prog) w' (sT q) (eT q) none 0 0 0 0 (undQ q)
   simp only [Option.isNone_none] at hnil;clear hlen h1;have hu:=undQ q;cases q
   all_goals
    simp only [eT,sT,fC,zV,bN] at *
    first | go_enter Tryz.func116,Tryz.ntmps116 | go_enter Tryz.func117,Tryz.ntmps117 | go_enter Tryz.func122,Tryz.ntmps122 | go_enter Tryz.func118,Tryz.ntmps118 | go_enter Tryz.func123,Tryz.ntmps123
    go_wp2;go_ret;exact ⟨_,[],rfl,⟨World.ownsRow_nil _ _ _ _,rfl⟩,Below.refl _ _,by simp⟩
 · have hown0:=World.ownsRow_lit (e:=(eT q)) (size:=1) w #[] 0 (Nat.le_refl _) (by simp) (by simp)
   have HSRC:Hid (∀j u,xs[j]? =some u->(w.alloc (.cells #[] (eT q))).cell? (ad.add j)=some u):=by intro j u hu;have h1:=hsrc j u hu;rw [World.cell?_alloc_lt _ _ _ (World.block_lt_of_cell? w _ h1)];exact h1
   have H1:=Lib.hid h1;obtain ⟨n,hn⟩:∃n,xs.length=n:=⟨_,rfl⟩
   have Hn:=Lib.hid hn;have Hown0:=Lib.hid hown0;have HO:Hid (∀v' w',w'.ownsRow w.heap.size (eT q) 1 v' n xs->(w.alloc (.cells #[] (eT q))).grownBy w' (Value.slice (some ⟨w.heap.size,0,none⟩) 0 0).ownBlock->(slA (eT q) v' xs).p w' v'.ownBlock.toList/\Below w.heap.size w w'/\∀k∈v'.ownBlock.toList,w.heap.size<=k):=by
    intro v' w' hown' hgrow;refine ⟨⟨?_,rfl⟩,((Below.refl _ _).alloc (Nat.le_refl _) _).grown hgrow (by simp) (λ k hk=> (Hown0.out.lt k hk).1),λ k hk=> ?_⟩
    · rw [Hn.out]
      refine ⟨hown'.1,?_⟩;rcases hown'.2 with e | ⟨g,cap,cur,e1,_,r⟩
      · exact .inl e
      · exact .inr ⟨g,cap,cur,e1,Nat.zero_le _,r⟩
    · exact (hown'.lt k (by cases hv:v'.ownBlock <;> simp_all)).1
   have hnil:=λ w'=> Lib.run_eql_slice_nil (P:=Tryz.prog) w' (sT q) (eT q) (some ad) n c 0 0 (undQ q);simp only [Option.isNone_some] at hnil;rw [hn] at hlen ⊢;clear hsrc h1 hn hown0;have hu:=undQ q;cases q
   all_goals
    simp only [eT,sT,fC,zV,bN] at *
    first | go_enter Tryz.func116,Tryz.ntmps116 | go_enter Tryz.func117,Tryz.ntmps117 | go_enter Tryz.func122,Tryz.ntmps122 | go_enter Tryz.func118,Tryz.ntmps118 | go_enter Tryz.func123,Tryz.ntmps123
    go_wp2_with (at_builtin;go_loud (refine wpList_append_own _ rfl _ _ _ rfl w.heap.size _ i0 _ 1 _ hu ii iz0 iz1 iz2 rfl (by decide) _ 0 [] rfl Hown0.out ad n c xs rfl (by rw [Nat.mul_one];exact Hn.out) HSRC.out H1.out (by unfold maxLen;omega) (by omega) (by simp) ?_));intro v' w' hown' hgrow _;have HO:=Lib.hid (HO.out v' w' hown' hgrow);clear hown' hgrow;go_wp2;go_ret;exact ⟨_,_,rfl,HO.out.1,HO.out.2.1,HO.out.2.2⟩
end Go.Proofs.YtnefkkidfhmggaaGreat
end
namespace Go.Proofs.YtnefkkidfhmggaaGreat
open Go Go.RowKit
noncomputable section
theorem appsQ (q:Q5) (w:World) (ty:TypeId) {v s:Value} {xs ys:List Value} {f g:List Nat} (h:(slA (eT q) v xs).p w f) (h2:(slA (eT q) s ys).p w g) (h1:∀u∈ys,u.oneCell'=true) (hlen:xs.length+ys.length < 1099511627776):
 ∃v' w' f',(Builtin.append_ #[(sT q),(sT q)] ty #[v,s]).run Tryz.prog w=.ok v' w'/\(slA (eT q) v' (xs++ys)).p w' f'/\Tr w w' f f':=by
 obtain ⟨i0,ii,iz0,iz1,iz2⟩:=info_parts (infoQ q);obtain ⟨v',w',f',hr,h3,h4⟩:=row_append_row w (sT q) ty (eT q) i0 (zV q) 1 (bN q) (undQ q) ii iz0 iz1 iz2 (by rw [zCells];rfl) (by decide) (show (rowA (eT q) 1 v xs.length xs).p w f from h) (show (rowA (eT q) 1 s ys.length ys).p w g from h2) h1 (by unfold maxLen;omega) (bytesQ q (by omega));refine ⟨v',w',f',hr,?_,h4⟩;rw [<-List.length_append] at h3;exact h3
theorem clone_of {P:Program} {t:TypeId} {f:Nat} (h:∀(xs:List Value) (v:Value) (w:World),SrcAt w xs v->(∀u∈xs,u.oneCell'=true)->xs.length < 1099511627776->Calls P f #[v] w λ e w'=> ∃v' f',e=.returned v'/\(slA t v' xs).p w' f'/\Below w.heap.size w w'/\∀k∈f',w.heap.size<=k):CloneSpec P t f:=λ xs v w h1 h2 h3=> (h xs v w h1 h2 h3).mono λ e w' ⟨v',f',e1,h4,h5,h6⟩=> by
 obtain ⟨a,n,c,rfl⟩:=sl_shape h4;exact ⟨a,n,c,f',e1,h4,h5,h6⟩
theorem insS (q:Q5):InsSpec Tryz.prog (eT q) (fI q):=λ v xs i vb x w _ h h1 h2 h3 h4 h5 h6=> insQ_calls q v xs i vb x w h h1 h2 h3 h4 h5 h6
theorem delS (q:Q5):DelSpec Tryz.prog (eT q) (fD q):=λ v xs i w _ h h1 h2 h3=> delQ_calls q v xs i w h h1 h2 h3
theorem clS (q:Q5):CloneSpec Tryz.prog (eT q) (fC q):=clone_of λ xs v w h h1 h2=> cloneQ_calls q xs v w h h1 h2
theorem app_of {P:Program} {ts t:TypeId} (h:∀(w:World) (ty:TypeId) (v s:Value) (xs ys:List Value) (f g:List Nat),(slA t v xs).p w f->(slA t s ys).p w g->(∀u∈ys,u.oneCell'=true)->xs.length+ys.length < 1099511627776->∃v' w' f',(Builtin.append_ #[ts,ts] ty #[v,s]).run P w=.ok v' w'/\(slA t v' (xs++ys)).p w' f'/\Tr w w' f f'):AppSpec P ts t:=λ ty v s xs ys w f g h1 h2 h3 h4=> by
 obtain ⟨v',w',f',h5,h6,h7⟩:=h w ty v s xs ys f g h1 h2 h3 h4;obtain ⟨a,n,c,rfl⟩:=sl_shape h6;exact ⟨a,n,c,w',f',h5,h6,h7⟩
theorem appS (q:Q5):AppSpec Tryz.prog (sT q) (eT q):=app_of λ w ty _v _s _xs _ys _f _g h1 h2 h3 h4=> appsQ q w ty h1 h2 h3 h4
theorem insK_spec (β:Bool):InsSpec Tryz.prog (tK β) (fInsK β):=match β with | false=> insS .a | true=> insS .c
theorem delK_spec (β:Bool):DelSpec Tryz.prog (tK β) (fDelK β):=match β with | false=> delS .a | true=> delS .c
theorem clK_spec (β:Bool):CloneSpec Tryz.prog (tK β) (fClK β):=match β with | false=> clS .a | true=> clS .c
theorem appK_spec (β:Bool):AppSpec Tryz.prog (tKS β) (tK β):=match β with | false=> appS .a | true=> appS .c
theorem insV_spec (β:Bool):InsSpec Tryz.prog (tV β) (fInsV β):=match β with | false=> insS .b | true=> insS .a
theorem delV_spec (β:Bool):DelSpec Tryz.prog (tV β) (fDelV β):=match β with | false=> delS .b | true=> delS .a
theorem clV_spec (β:Bool):CloneSpec Tryz.prog (tV β) (fClV β):=match β with | false=> clS .b | true=> clS .a
theorem appV_spec (β:Bool):AppSpec Tryz.prog (tVS β) (tV β):=match β with | false=> appS .b | true=> appS .a
theorem insP_spec (β:Bool):InsSpec Tryz.prog (tP β) (fInsP β):=match β with | false=> insS .d | true=> insS .e
theorem delP_spec (β:Bool):DelSpec Tryz.prog (tP β) (fDelP β):=match β with | false=> delS .d | true=> delS .e
theorem clP_spec (β:Bool):CloneSpec Tryz.prog (tP β) (fClP β):=match β with | false=> clS .d | true=> clS .e
theorem appP_spec (β:Bool):AppSpec Tryz.prog (tPS β) (tP β):=match β with | false=> appS .d | true=> appS .e
theorem entSp (β:Bool):Tryz.prog.funcs[fSplit β]? =some (BSplit β)/\(BSplit β).body=some (bodyC (BSplit β))/\(BSplit β).ntmps=130:=by cases β <;> exact ⟨kr (by kernel_rfl),kr (by kernel_rfl),kr (by kernel_rfl)⟩
def gSp0 (β:Bool) (b gp np cp i cb:Nat) (ks vs:Value) (zs:List Value):=rg Tryz.prog (BSplit β) 0 130 [(9,7),(6,1)] [(1,pV b 0),(2,nV i)] (Vq 0 9 [Kp b 0,Kp b 0,Kp b 2,Ks gp np cp,Kn i,Kp gp i,Kp cb 0]++Vq 7 6 [Kp cb 0]) [Bk b (tN β) [ks,vs,sV gp np cp], .sl (tP β) (sV gp np cp) zs []]
theorem obSp0 (β:Bool) (b gp np cp i cb:Nat) (ks vs:Value) (zs:List Value) (hi:i < np) (hzi:zs[i]? =some (ptrV cb)) (w0:World) (fp0:List Nat) (R:List Asn):(gSp0 β b gp np cp i cb ks vs zs w0 fp0 R).Ok 8:=by
 cases β <;> exact Rg.ok _ 8 [3,5,6] ⟨.load _ 3 0 2, .index _ 5 gp np cp i hi, .elem _ 6 1 i hzi,trivial⟩
theorem cdSp0 (β:Bool):IsSq (BSplit β) [] 0:=by cases β <;> exact isq (by kernel_rfl)
def gSp1 (β:Bool) (tb o mid:Nat) (r nn:Value):=rg Tryz.prog (BSplit β) 1 130 [(16,5),(7,1)] [(0,pV tb 0)] (Vq 0 16 [Kp tb 0,Kp tb 0,Kp tb 1,Kn o,Kn mid]++Vq 5 7 [Kn mid]) [Bk tb (tT β) [r,nV o,nn]]
theorem obSp1 (β:Bool) (tb o mid:Nat) (r nn:Value) (hmid:o / 2=mid) (ho:o<=1024) (w0:World) (fp0:List Nat) (R:List Asn):(gSp1 β tb o mid r nn w0 fp0 R).Ok 6:=by
 cases β <;> exact Rg.ok _ 6 [3,4] ⟨.load _ 3 0 1, .quo2 _ 4 o mid hmid (by omega),trivial⟩
theorem cdSp1 (β:Bool):IsSq (BSplit β) [1] 1:=by cases β <;> exact isq (by kernel_rfl)
def gSp2 (β:Bool) (cb gk ck gv cv mid o:Nat) (a2:Option Addr) (n2 c2:Nat) (cxs cys:List Value):=rg Tryz.prog (BSplit β) 2 130 [(21,18),(8,1)] [(6,pV cb 0),(7,nV mid)] (Vq 0 21 [Kp cb 0,Kp cb 0,Kp cb 0,Ks gk o ck,Kn mid,Kn (mid+1),Kv (.slice (some ⟨gk,mid+1,none⟩) (o - (mid+1)) (ck - (mid+1))),Vf.slice,Kp cb 0,Kp cb 0,Kp cb 1,Ks gv o cv,Kn mid,Kn (mid+1),Kv (.slice (some ⟨gv,mid+1,none⟩) (o - (mid+1)) (cv - (mid+1))),Vf.slice,Fv [28,36] λ g=> .agg #[.slice (sa (g 28)) (sn (g 28)) (sc (g 28)), .slice (sa (g 36)) (sn (g 36)) (sc (g 36)), .slice none 0 0],Vf.ptr]++Vq 18 8 [Fv [38] λ g=> .pointer (some ⟨pb (g 38),0,none⟩)]) [.new 17 [38,28,36] λ g=> atA (tN β) (g 38) #[.slice (sa (g 28)) (sn (g 28)) (sc (g 28)), .slice (sa (g 36)) (sn (g 36)) (sc (g 36)), .slice none 0 0], .new 7 [28] λ g=> slA (tK β) (g 28) (cxs.drop (mid+1)), .new 15 [36] λ g=> slA (tV β) (g 36) (cys.drop (mid+1)),Bk cb (tN β) [sV gk o ck,sV gv o cv, .slice a2 n2 c2], .sl (tK β) (sV gk o ck) cxs [], .sl (tV β) (sV gv o cv) cys []]
theorem obSp2 (β:Bool) (cb gk ck gv cv mid o:Nat) (a2:Option Addr) (n2 c2:Nat) (cxs cys:List Value) (hm:mid+1 < o) (ho:o<=1024) (hck:o<=ck) (hcv:o<=cv) (hcx:cxs.length=o) (hcy:cys.length=o) (h1x:∀u∈cxs,u.oneCell'=true) (h1y:∀u∈cys,u.oneCell'=true) (w0:World) (fp0:List Nat) (R:List Asn):(gSp2 β cb gk ck gv cv mid o a2 n2 c2 cxs cys w0 fp0 R).Ok 19:=by
 cases β <;> exact Rg.ok _ 19 [3,5,6,7,11,13,14,15,17] ⟨.load _ 3 3 0, .add _ 5 (mid) (1) ((mid+1:Nat):Int), .from _ 6 gk o ck (mid+1) , .clone _ 7 4 1 _ (cxs.drop (mid+1)) (clK_spec _) (by rw [List.length_drop];omega) (λ u hu=> h1x u (List.mem_of_mem_drop hu)) (λ w fp h=> src_drop h (mid+1) (o - (mid+1)) (ck - (mid+1)) (by omega)), .load _ 11 3 1, .add _ 13 (mid) (1) ((mid+1:Nat):Int), .from _ 14 gv o cv (mid+1) , .clone _ 15 5 2 _ (cys.drop (mid+1)) (clV_spec _) (by rw [List.length_drop];omega) (λ u hu=> h1y u (List.mem_of_mem_drop hu)) (λ w fp h=> src_drop h (mid+1) (o - (mid+1)) (cv - (mid+1)) (by omega)), .lay _ 17 0,trivial⟩
theorem cdSp2 (β:Bool):IsSq (BSplit β) [1,1] 2:=by cases β <;> exact isq (by kernel_rfl)
theorem sqSp0 (β:Bool):Sq (BSplit β) [1,1,1]:=by cases β <;> exact isQ (by kernel_rfl)
def gSp3 (β:Bool) (cb gk ck gv cv o:Nat) (a2:Option Addr) (n2 c2:Nat):=rg Tryz.prog (BSplit β) 3 130 [(39,3)] [(6,pV cb 0)] (Vq 0 39 [Kp cb 0,Kv (.bool (n2==0)),Kv (.bool (!(n2==0)))]) [Bk cb (tN β) [sV gk o ck,sV gv o cv, .slice a2 n2 c2]]
theorem obSp3 (β:Bool) (cb gk ck gv cv o:Nat) (a2:Option Addr) (n2 c2:Nat)  (w0:World) (fp0:List Nat) (R:List Asn):(gSp3 β cb gk ck gv cv o a2 n2 c2 w0 fp0 R).Ok 3:=by
 cases β <;> exact Rg.ok _ 3 [1] ⟨.ask1 _ 1 0 (λ w fp h=> (leaf_calls cb _ _ a2 n2 c2 w h).mono λ e w' ⟨h1,h2⟩=> ⟨h1,h2 ▸ Below.refl _ _⟩),trivial⟩
theorem cdSp3 (β:Bool):IsSq (BSplit β) [1,1,1,0] 3:=by cases β <;> exact isq (by kernel_rfl)
theorem ccSp41 (β:Bool):isCond (csnd (cfst (csnd (csnd (csnd (bodyC (BSplit β)))))))=true/\ccond (csnd (cfst (csnd (csnd (csnd (bodyC (BSplit β)))))))=.tmp 41:=by cases β <;> exact ⟨kr (by kernel_rfl),kr (by kernel_rfl)⟩
def gSp4 (β:Bool) (rb cb gz n2 c2 mid:Nat) (ra wa:Option Addr) (rn rc wn wc gk o ck gv cv:Nat) (czs:List Value):=rg Tryz.prog (BSplit β) 4 130 [(42,11)] [(8,pV rb 0),(6,pV cb 0),(7,nV mid)] (Vq 0 42 [Kp rb 0,Kp cb 0,Kp cb 0,Kp cb 2,Ks gz n2 c2,Kn mid,Kn (mid+1),Kv (.slice (some ⟨gz,mid+1,none⟩) (n2 - (mid+1)) (c2 - (mid+1))),Vf.slice,Kp rb 0,Kp rb 2]) [.new 8 [50] λ g=> slA (tP β) (g 50) (czs.drop (mid+1)), .blk rb (tN β) [⟨.slice ra rn rc,[]⟩,⟨.slice wa wn wc,[]⟩,⟨.slice none 0 0,[(11, .s 50)]⟩],Bk cb (tN β) [sV gk o ck,sV gv o cv,sV gz n2 c2], .sl (tP β) (sV gz n2 c2) czs []]
theorem obSp4 (β:Bool) (rb cb gz n2 c2 mid:Nat) (ra wa:Option Addr) (rn rc wn wc gk o ck gv cv:Nat) (czs:List Value) (hm:mid+1 < n2) (hn:n2=czs.length) (hc:n2<=c2) (hl:czs.length < 1099511627776) (h1:∀u∈czs,u.oneCell'=true) (w0:World) (fp0:List Nat) (R:List Asn):(gSp4 β rb cb gz n2 c2 mid ra wa rn rc wn wc gk o ck gv cv czs w0 fp0 R).Ok 12:=by
 cases β <;> exact Rg.ok _ 12 [4,6,7,8,11] ⟨.load _ 4 2 2, .add _ 6 (mid) (1) ((mid+1:Nat):Int), .from _ 7 gz n2 c2 (mid+1) , .clone _ 8 3 0 _ (czs.drop (mid+1)) (clP_spec _) (by rw [List.length_drop];omega) (λ u hu=> h1 u (List.mem_of_mem_drop hu)) (λ w fp h=> src_drop h (mid+1) (n2 - (mid+1)) (c2 - (mid+1)) (by omega)), .store _ 11 1 2,trivial⟩
theorem cdSp4 (β:Bool):IsSq (BSplit β) [1,1,1,0,1,2] 4:=by cases β <;> exact isq (by kernel_rfl)
def gSp5 (β:Bool) (cb gz n2 c2 mid gk o ck gv cv:Nat) (czs:List Value):=rg Tryz.prog (BSplit β) 5 130 [(53,11)] [(6,pV cb 0),(7,nV mid)] (Vq 0 53 [Kp cb 0,Kp cb 0,Kp cb 0,Kp cb 2,Ks gz n2 c2,Kn mid,Kn (mid+1),Ks gz (mid+1) c2,Vf.slice,Kp cb 0,Kp cb 2]) [.new 8 [61] λ g=> slA (tP β) (g 61) (czs.take (mid+1)), .blk cb (tN β) [⟨sV gk o ck,[]⟩,⟨sV gv o cv,[]⟩,⟨sV gz n2 c2,[(11, .s 61)]⟩], .sl (tP β) (sV gz n2 c2) czs []]
theorem obSp5 (β:Bool) (cb gz n2 c2 mid gk o ck gv cv:Nat) (czs:List Value) (hm:mid+1 < n2) (hn:n2=czs.length) (hc:n2<=c2) (hl:czs.length < 1099511627776) (h1:∀u∈czs,u.oneCell'=true) (w0:World) (fp0:List Nat) (R:List Asn):(gSp5 β cb gz n2 c2 mid gk o ck gv cv czs w0 fp0 R).Ok 12:=by
 cases β <;> exact Rg.ok _ 12 [4,6,7,8,11] ⟨.load _ 4 1 2, .add _ 6 (mid) (1) ((mid+1:Nat):Int), .upto _ 7 gz n2 c2 (mid+1) , .clone _ 8 2 0 _ (czs.take (mid+1)) (clP_spec _) (by rw [List.length_take];omega) (λ u hu=> h1 u (List.mem_of_mem_take hu)) (λ w fp h=> src_take h (mid+1) c2 (by omega)), .store _ 11 1 2,trivial⟩
theorem cdSp5 (β:Bool):IsRg (BSplit β) [1,1,1,0,1,2,1] 5:=by cases β <;> exact irg (by kernel_rfl)
theorem isSkipSp1 (β:Bool):isSkip (celse (csnd (cfst (csnd (csnd (csnd (bodyC (BSplit β))))))))=true:=by cases β <;> exact kr (by kernel_rfl)
def gSp6 (β:Bool) (b cb gk ck gv cv o mid i gp np cp:Nat) (ks vs cp2 kx vx:Value) (xs ys cxs cys:List Value):=rg Tryz.prog (BSplit β) 6 130 [(64,34)] [(1,pV b 0),(2,nV i),(6,pV cb 0),(7,nV mid)] (Vq 0 64 [Kp b 0,Kp b 0,Kp b 0,Kp b 0,Kp b 0,Kv ks,Kn i,Kp cb 0,Kp cb 0,Kp cb 0,Ks gk o ck,Kn mid,Kp gk mid,Kv kx,Vf.box,Vf.slice,Kp b 0,Kp b 0,Kp b 1,Kv vs,Kn i,Kp cb 0,Kp cb 0,Kp cb 1,Ks gv o cv,Kn mid,Kp gv mid,Kv vx,Vf.box,Vf.slice,Kp b 0,Kp b 0]++Vq 33 96 [Kp b 0,Kp b 1]) [.new 14 [78] λ g=> boxA (tK β) (g 78) kx, .new 28 [92] λ g=> boxA (tV β) (g 92) vx, .blk b (tN β) [⟨ks,[(32, .s 79)]⟩,⟨vs,[(35, .s 93)]⟩,⟨sV gp np cp,[]⟩], .sl (tK β) (ks) xs [(15,some (.s 79),(xs.take i++kx::xs.drop i))], .sl (tV β) (vs) ys [(29,some (.s 93),(ys.take i++vx::ys.drop i))],Bk cb (tN β) [sV gk o ck,sV gv o cv,cp2], .sl (tK β) (sV gk o ck) cxs [], .sl (tV β) (sV gv o cv) cys []]
theorem obSp6 (β:Bool) (b cb gk ck gv cv o mid i gp np cp:Nat) (ks vs cp2 kx vx:Value) (xs ys cxs cys:List Value) (hm:mid < o) (hkx:cxs[mid]? =some kx) (hvx:cys[mid]? =some vx) (hix:i<=xs.length) (hiy:i<=ys.length) (hlx:xs.length < 1099511627776) (hly:ys.length < 1099511627776) (h1x:∀u∈xs,u.oneCell'=true) (h1y:∀u∈ys,u.oneCell'=true) (h1k:kx.oneCell'=true) (h1v:vx.oneCell'=true) (w0:World) (fp0:List Nat) (R:List Asn):(gSp6 β b cb gk ck gv cv o mid i gp np cp ks vs cp2 kx vx xs ys cxs cys w0 fp0 R).Ok 36:=by
 cases β <;> exact Rg.ok _ 36 [5,10,12,13,14,15,19,24,26,27,28,29,32,35] ⟨.load _ 5 2 0, .load _ 10 5 0, .index _ 12 gk o ck mid , .elem _ 13 6 mid hkx, .box _ 14 0 h1k, .ins _ 15 0 3 i _ (xs) (insK_spec _) hix hlx h1x h1k, .load _ 19 2 1, .load _ 24 5 1, .index _ 26 gv o cv mid , .elem _ 27 7 mid hvx, .box _ 28 1 h1v, .ins _ 29 1 4 i _ (ys) (insV_spec _) hiy hly h1y h1v, .store _ 32 2 0, .store _ 35 2 1,trivial⟩
theorem cdSp6 (β:Bool):IsSq (BSplit β) [1,1,1,1] 6:=by cases β <;> exact isq (by kernel_rfl)
def gSp7 (β:Bool) (b rb gp np cp i:Nat) (ka la:Option Addr) (kn kc ln lc:Nat) (zs:List Value):=rg Tryz.prog (BSplit β) 7 130 [(98,12)] [(1,pV b 0),(2,nV i),(8,pV rb 0)] (Vq 0 98 [Kp b 0,Kp b 0,Kp b 0,Kp b 2,Ks gp np cp,Kn i,Kn (i+1),Kp rb 0,Vf.box,Vf.slice,Kp b 0,Kp b 2]) [.new 8 [106] λ g=> boxA (tP β) (g 106) (.pointer (some ⟨rb,0,none⟩)), .blk b (tN β) [⟨.slice ka kn kc,[]⟩,⟨.slice la ln lc,[]⟩,⟨sV gp np cp,[(12, .s 107)]⟩], .sl (tP β) (sV gp np cp) zs [(9,some (.s 107),(zs.take (i+1)++.pointer (some ⟨rb,0,none⟩)::zs.drop (i+1)))]]
theorem obSp7 (β:Bool) (b rb gp np cp i:Nat) (ka la:Option Addr) (kn kc ln lc:Nat) (zs:List Value) (hi:i < zs.length) (hl:zs.length < 1099511627776) (h1:∀u∈zs,u.oneCell'=true) (w0:World) (fp0:List Nat) (R:List Asn):(gSp7 β b rb gp np cp i ka la kn kc ln lc zs w0 fp0 R).Ok 13:=by
 cases β <;> exact Rg.ok _ 13 [4,6,8,9,12] ⟨.load _ 4 1 2, .add _ 6 (i) (1) ((i+1:Nat):Int), .box _ 8 0 rfl, .ins _ 9 0 2 (i+1) _ (zs) (insP_spec _) hi hl h1 rfl, .store _ 12 1 2,trivial⟩
theorem cdSp7 (β:Bool):IsSq (BSplit β) [1,1,1,1,1] 7:=by cases β <;> exact isq (by kernel_rfl)
def gSp8 (β:Bool) (cb gk ck gv cv o mid:Nat) (cp2:Value) (cxs cys:List Value):=rg Tryz.prog (BSplit β) 8 130 [(110,20)] [(6,pV cb 0),(7,nV mid)] (Vq 0 110 [Kp cb 0,Kp cb 0,Kp cb 0,Kp cb 0,Kp cb 0,Ks gk o ck,Kn mid,Ks gk mid ck,Vf.slice,Kp cb 0,Kp cb 0,Kp cb 1,Ks gv o cv,Kn mid,Ks gv mid cv,Vf.slice,Kp cb 0,Kp cb 0]++Vq 19 128 [Kp cb 0,Kp cb 1]) [.new 8 [118] λ g=> slA (tK β) (g 118) (cxs.take mid), .new 15 [125] λ g=> slA (tV β) (g 125) (cys.take mid), .blk cb (tN β) [⟨sV gk o ck,[(18, .s 118)]⟩,⟨sV gv o cv,[(21, .s 125)]⟩,⟨cp2,[]⟩], .sl (tK β) (sV gk o ck) cxs [], .sl (tV β) (sV gv o cv) cys []]
theorem obSp8 (β:Bool) (cb gk ck gv cv o mid:Nat) (cp2:Value) (cxs cys:List Value) (hm:mid < o) (ho:o<=1024) (hck:o<=ck) (hcv:o<=cv) (hcx:cxs.length=o) (hcy:cys.length=o) (h1x:∀u∈cxs,u.oneCell'=true) (h1y:∀u∈cys,u.oneCell'=true) (w0:World) (fp0:List Nat) (R:List Asn):(gSp8 β cb gk ck gv cv o mid cp2 cxs cys w0 fp0 R).Ok 22:=by
 cases β <;> exact Rg.ok _ 22 [5,7,8,12,14,15,18,21] ⟨.load _ 5 2 0, .upto _ 7 gk o ck mid , .clone _ 8 3 0 _ (cxs.take mid) (clK_spec _) (by rw [List.length_take];omega) (λ u hu=> h1x u (List.mem_of_mem_take hu)) (λ w fp h=> src_take h mid ck (by omega)), .load _ 12 2 1, .upto _ 14 gv o cv mid , .clone _ 15 4 1 _ (cys.take mid) (clV_spec _) (by rw [List.length_take];omega) (λ u hu=> h1y u (List.mem_of_mem_take hu)) (λ w fp h=> src_take h mid cv (by omega)), .store _ 18 2 0, .store _ 21 2 1,trivial⟩
theorem cdSp8 (β:Bool):IsRg (BSplit β) [1,1,1,1,1,1] 8:=by cases β <;> exact irg (by kernel_rfl)
theorem resSp (β:Bool):(BSplit β).results=#[]:=by cases β <;> exact kr (by kernel_rfl)
theorem split_flat (β:Bool) (tb o mid b cb i gp np cp gk ck gv cv n2 c2:Nat) (r nn ks vs kx vx:Value) (a2:Option Addr) (xs ys zs cxs cys czs:List Value) (hmid:o / 2=mid) (ho:3<=o) (ho':o<=1024) (hzi:zs[i]? =some (ptrV cb)) (hnp:np=zs.length) (hlz:zs.length < 1099511627776) (hix:i<=xs.length) (hiy:i<=ys.length) (hlx:xs.length < 1099511627776) (hly:ys.length < 1099511627776) (hcx:cxs.length=o) (hcy:cys.length=o) (hkx:cxs[mid]? =some kx) (hvx:cys[mid]? =some vx) (hck:o<=ck) (hcv:o<=cv) (hn2:n2=czs.length) (hcz:czs=[]\/mid+1 < czs.length/\czs.length < 1099511627776)
 (h1x:∀u∈xs,u.oneCell'=true) (h1y:∀u∈ys,u.oneCell'=true) (h1z:∀u∈zs,u.oneCell'=true) (h1cx:∀u∈cxs,u.oneCell'=true) (h1cy:∀u∈cys,u.oneCell'=true) (h1cz:∀u∈czs,u.oneCell'=true) (w0 w:World) (fp0:List Nat) (R:List Asn) (hS:St w0 fp0 ([blkA tb (tT β) #[r,nV o,nn],blkA b (tN β) #[ks,vs,sV gp np cp],slA (tK β) (ks) xs,slA (tV β) (vs) ys,slA (tP β) (sV gp np cp) zs,blkA cb (tN β) #[sV gk o ck,sV gv o cv, .slice a2 n2 c2],slA (tK β) (sV gk o ck) cxs,slA (tV β) (sV gv o cv) cys,slA (tP β) (.slice a2 n2 c2) czs]++R) w):Calls Tryz.prog (fSplit β) #[ptrV tb,ptrV b, .int .i64 i] w λ e w'=> e=.returned (.tuple #[])/\∃(rb:Nat) (ks' vs' ps' ck' cv' cp' rk rv rp:Value),St w0 fp0 ([blkA tb (tT β) #[r, .int .i64 o,nn],blkA b (tN β) #[ks',vs',ps'],slA (tK β) ks' (xs.take i++kx::xs.drop i),slA (tV β) vs' (ys.take i++vx::ys.drop i),slA (tP β) ps' (zs.take (i+1)++ptrV rb::zs.drop (i+1)),
 blkA cb (tN β) #[ck',cv',cp'],slA (tK β) ck' (cxs.take mid),slA (tV β) cv' (cys.take mid),slA (tP β) cp' (czs.take (mid+1)),blkA rb (tN β) #[rk,rv,rp],slA (tK β) rk (cxs.drop (mid+1)),slA (tV β) rv (cys.drop (mid+1)),slA (tP β) rp (czs.drop (mid+1))]++R) w':=by
 refine calls_T [(0,pV tb 0),(1,pV b 0),(2,nV i)] (entSp β) (by simp) (by kernel_rfl) λ A0 K0=> ?_;refine wp_seqT (cdSp0 β).sq ?_;refine wp_regT (obSp0 β b gp np cp i cb ks vs zs (by rw [hnp];exact (List.getElem?_eq_some_iff.1 hzi).1) hzi _ _ _) (by kernel_rfl) (cdSp0 β).cd (K0.sub (by kernel_rfl)) (St_re hS [1,4] [0,2,3,5,6,7,8] (by kernel_rfl)) λ A1 w1 N1 H1=> ?_;have S1:St w0 fp0 ([blkA b (tN β) #[ks,vs,sV gp np cp],slA (tP β) (sV gp np cp) zs,blkA tb (tT β) #[r,nV o,nn],slA (tK β) (ks) xs,slA (tV β) (vs) ys,blkA cb (tN β) #[sV gk o ck,sV gv o cv, .slice a2 n2 c2],slA (tK β) (sV gk o ck) cxs,slA (tV β) (sV gv o cv) cys,slA (tP β) (.slice a2 n2 c2) czs]++R) w1:=H1;have K1:Knows 130 A1 [(0,pV tb 0),(1,pV b 0),(2,nV i),(6,pV cb 0)]:=N1.knows K0 (by kernel_rfl);refine wp_seqT (cdSp1 β).sq ?_;refine wp_regT (obSp1 β tb o mid r nn hmid ho' _ _ _) (by kernel_rfl) (cdSp1 β).cd (K1.sub (by kernel_rfl)) (St_re S1 [2] [0,1,3,4,5,6,7,8] (by kernel_rfl)) λ A2 w2 N2 H2=> ?_;have S2:St w0 fp0 ([blkA tb (tT β) #[r,nV o,nn],blkA b (tN β) #[ks,vs,sV gp np cp],slA (tP β) (sV gp np cp) zs,slA (tK β) (ks) xs,slA (tV β) (vs) ys,blkA cb (tN β) #[sV gk o ck,sV gv o cv, .slice a2 n2 c2],slA (tK β) (sV gk o ck) cxs,slA (tV β) (sV gv o cv) cys,slA (tP β) (.slice a2 n2 c2) czs]++R) w2:=H2;have K2:Knows 130 A2 [(0,pV tb 0),(1,pV b 0),(2,nV i),(6,pV cb 0),(7,nV mid)]:=N2.knows K1 (by kernel_rfl);refine wp_seqT (cdSp2 β).sq ?_;refine wp_regT (obSp2 β cb gk ck gv cv mid o a2 n2 c2 cxs cys (by omega) ho' hck hcv hcx hcy h1cx h1cy _ _ _) (by kernel_rfl) (cdSp2 β).cd (K2.sub (by kernel_rfl)) (St.emp.2 (St.emp.2 (St.emp.2 (St_re S2 [5,6,7] [0,1,2,3,4,8] (by kernel_rfl))))) λ A3 w3 N3 H3=> ?_;have S3:St w0 fp0 ([atA (tN β) (slots A3 38) #[.slice (sa (slots A3 28)) (sn (slots A3 28)) (sc (slots A3 28)), .slice (sa (slots A3 36)) (sn (slots A3 36)) (sc (slots A3 36)), .slice none 0 0],slA (tK β) (slots A3 28) (cxs.drop (mid+1)),slA (tV β) (slots A3 36) (cys.drop (mid+1)),blkA cb (tN β) #[sV gk o ck,sV gv o cv, .slice a2 n2 c2],slA (tK β) (sV gk o ck) cxs,slA (tV β) (sV gv o cv) cys,blkA tb (tT β) #[r,nV o,nn],blkA b (tN β) #[ks,vs,sV gp np cp],slA (tP β) (sV gp np cp) zs,slA (tK β) (ks) xs,slA (tV β) (vs) ys,slA (tP β) (.slice a2 n2 c2) czs]++R) w3:=H3;have K3:Knows 130 A3 [(0,pV tb 0),(1,pV b 0),(2,nV i),(6,pV cb 0),(7,nV mid)]:=N3.knows K2 (by kernel_rfl);obtain ⟨ra,rn,rc,e28⟩:∃a n c,slots A3 28=.slice a n c:=⟨_,_,_,N3.val 7 rfl⟩
 rw [e28] at S3;obtain ⟨wa,wn,wc,e36⟩:∃a n c,slots A3 36=.slice a n c:=⟨_,_,_,N3.val 15 rfl⟩
 rw [e36] at S3;dsimp only [sa,sn,sc] at S3;obtain ⟨rb,e38,S3⟩:=St.at_open S3;have e8:slots A3 8=.pointer (some ⟨rb,0,none⟩):=by rw [N3.val 18 rfl];show Value.pointer (some ⟨pb (slots A3 38),0,none⟩)=_;rw [e38];rfl
 have K3:=K3.add 8 (pV rb 0) e8;have S3:St w0 fp0 ([blkA rb (tN β) #[.slice ra rn rc, .slice wa wn wc, .slice none 0 0],slA (tK β) (.slice ra rn rc) (cxs.drop (mid+1)),slA (tV β) (.slice wa wn wc) (cys.drop (mid+1)),blkA cb (tN β) #[sV gk o ck,sV gv o cv, .slice a2 n2 c2],slA (tK β) (sV gk o ck) cxs,slA (tV β) (sV gv o cv) cys,blkA tb (tT β) #[r,nV o,nn],blkA b (tN β) #[ks,vs,sV gp np cp],slA (tP β) (sV gp np cp) zs,slA (tK β) (ks) xs,slA (tV β) (vs) ys,slA (tP β) (.slice a2 n2 c2) czs]++R) w3:=S3;refine wp_seqJ (sqSp0 β) (λ A w=> ∃(rp cp2:Value),Knows 130 A [(8,pV rb 0),(1,pV b 0),(2,nV i),(6,pV cb 0),(7,nV mid)]/\St w0 fp0 ([blkA rb (tN β) #[.slice ra rn rc, .slice wa wn wc,rp],slA (tK β) (.slice ra rn rc) (cxs.drop (mid+1)),slA (tV β) (.slice wa wn wc) (cys.drop (mid+1)),slA (tP β) (rp) (czs.drop (mid+1)),blkA cb (tN β) #[sV gk o ck,sV gv o cv,cp2],slA (tK β) (sV gk o ck) cxs,slA (tV β) (sV gv o cv) cys,slA (tP β) (cp2) (czs.take (mid+1)),blkA tb (tT β) #[r,nV o,nn],blkA b (tN β) #[ks,vs,sV gp np cp],slA (tK β) (ks) xs,slA (tV β) (vs) ys,slA (tP β) (sV gp np cp) zs]++R) w) ?_ ?_
 · skip
   refine wp_seqT (cdSp3 β).sq ?_;refine wp_regT (obSp3 β cb gk ck gv cv o a2 n2 c2  _ _ _) (by kernel_rfl) (cdSp3 β).cd (K3.sub (by kernel_rfl)) (St_re S3 [3] [0,1,2,4,5,6,7,8,9,10,11] (by kernel_rfl)) λ A4 w4 N4 H4=> ?_;have S4:St w0 fp0 ([blkA cb (tN β) #[sV gk o ck,sV gv o cv, .slice a2 n2 c2],blkA rb (tN β) #[.slice ra rn rc, .slice wa wn wc, .slice none 0 0],slA (tK β) (.slice ra rn rc) (cxs.drop (mid+1)),slA (tV β) (.slice wa wn wc) (cys.drop (mid+1)),slA (tK β) (sV gk o ck) cxs,slA (tV β) (sV gv o cv) cys,blkA tb (tT β) #[r,nV o,nn],blkA b (tN β) #[ks,vs,sV gp np cp],slA (tP β) (sV gp np cp) zs,slA (tK β) (ks) xs,slA (tV β) (vs) ys,slA (tP β) (.slice a2 n2 c2) czs]++R) w4:=H4;have K4:Knows 130 A4 [(8,pV rb 0),(0,pV tb 0),(1,pV b 0),(2,nV i),(6,pV cb 0),(7,nV mid),(41, .bool (!(n2==0)))]:=N4.knows K3 (by kernel_rfl);refine wp_condK (ccSp41 β) K4 (by rfl) (λ hq=> ?_) (λ hq=> ?_)
   · skip
     have hz:mid+1 < czs.length/\czs.length < 1099511627776:=hcz.resolve_left (λ e=> by rw [hn2,e] at hq;simp at hq);have qz:=St.has S4 11 rfl;obtain ⟨_,qz⟩:=qz;obtain ⟨gz,cz,ez,hcz2, -⟩:=sl_some qz (by omega);obtain ⟨rfl, -,rfl⟩:=Value.slice.inj ez;refine wp_seqT (cdSp4 β).sq ?_;refine wp_regT (obSp4 β rb cb gz n2 c2 mid ra wa rn rc wn wc gk o ck gv cv czs (by omega) hn2 (by omega) hz.2 h1cz _ _ _) (by kernel_rfl) (cdSp4 β).cd (K4.sub (by kernel_rfl)) (St.emp.2 (St_re S4 [1,0,11] [2,3,4,5,6,7,8,9,10] (by kernel_rfl))) λ A5 w5 N5 H5=> ?_;have S5:St w0 fp0 ([slA (tP β) (slots A5 50) (czs.drop (mid+1)),blkA rb (tN β) #[.slice ra rn rc, .slice wa wn wc,slots A5 50],blkA cb (tN β) #[sV gk o ck,sV gv o cv,sV gz n2 c2],slA (tP β) (sV gz n2 c2) czs,slA (tK β) (.slice ra rn rc) (cxs.drop (mid+1)),slA (tV β) (.slice wa wn wc) (cys.drop (mid+1)),slA (tK β) (sV gk o ck) cxs,slA (tV β) (sV gv o cv) cys,blkA tb (tT β) #[r,nV o,nn],blkA b (tN β) #[ks,vs,sV gp np cp],slA (tP β) (sV gp np cp) zs,slA (tK β) (ks) xs,slA (tV β) (vs) ys]++R) w5:=H5;have K5:Knows 130 A5 [(8,pV rb 0),(0,pV tb 0),(1,pV b 0),(2,nV i),(6,pV cb 0),(7,nV mid),(41, .bool (!(n2==0)))]:=N5.knows K4 (by kernel_rfl);refine wp_regT (obSp5 β cb gz n2 c2 mid gk o ck gv cv czs (by omega) hn2 (by omega) hz.2 h1cz _ _ _) (by kernel_rfl) (cdSp5 β).cd (K5.sub (by kernel_rfl)) (St.emp.2 (St_re S5 [2,3] [0,1,4,5,6,7,8,9,10,11,12] (by kernel_rfl))) λ A6 w6 N6 H6=> ?_;have S6:St w0 fp0 ([slA (tP β) (slots A6 61) (czs.take (mid+1)),blkA cb (tN β) #[sV gk o ck,sV gv o cv,slots A6 61],slA (tP β) (sV gz n2 c2) czs,slA (tP β) (slots A5 50) (czs.drop (mid+1)),blkA rb (tN β) #[.slice ra rn rc, .slice wa wn wc,slots A5 50],slA (tK β) (.slice ra rn rc) (cxs.drop (mid+1)),slA (tV β) (.slice wa wn wc) (cys.drop (mid+1)),slA (tK β) (sV gk o ck) cxs,slA (tV β) (sV gv o cv) cys,blkA tb (tT β) #[r,nV o,nn],blkA b (tN β) #[ks,vs,sV gp np cp],slA (tP β) (sV gp np cp) zs,slA (tK β) (ks) xs,slA (tV β) (vs) ys]++R) w6:=H6;have K6:Knows 130 A6 [(8,pV rb 0),(0,pV tb 0),(1,pV b 0),(2,nV i),(6,pV cb 0),(7,nV mid),(41, .bool (!(n2==0)))]:=N6.knows K5 (by kernel_rfl);exact ⟨_,_,K6.sub (by kernel_rfl),St.drop (St_re S6 [2,4,5,6,3,1,7,8,0,9,10,12,13,11] [] (by kernel_rfl))⟩
   · skip
     have hz:czs=[]:=hcz.resolve_right (λ e=> by rw [hn2] at hq;simp at hq;rw [hq] at e;simp at e);subst hz;refine wp_skipT (isSkipSp1 β) ?_;have Sn:=S4.nilA (tP β);exact ⟨.slice none 0 0, .slice a2 n2 c2,K4.sub (by kernel_rfl),St_re (L:=slA (tP β) (.slice none 0 0) []::[blkA cb (tN β) #[sV gk o ck,sV gv o cv, .slice a2 n2 c2],blkA rb (tN β) #[.slice ra rn rc, .slice wa wn wc, .slice none 0 0],slA (tK β) (.slice ra rn rc) (cxs.drop (mid+1)),slA (tV β) (.slice wa wn wc) (cys.drop (mid+1)),slA (tK β) (sV gk o ck) cxs,slA (tV β) (sV gv o cv) cys,blkA tb (tT β) #[r,nV o,nn],blkA b (tN β) #[ks,vs,sV gp np cp],slA (tP β) (sV gp np cp) zs,slA (tK β) (ks) xs,slA (tV β) (vs) ys,slA (tP β) (.slice a2 n2 c2) ([]:List Value)]) Sn [2,3,4,0,1,5,6,12,7,8,10,11,9] [] (by kernel_rfl)⟩
 · rintro A7 w7 ⟨rp,cp2,K7,S7⟩
   refine wp_seqT (cdSp6 β).sq ?_;refine wp_regT (obSp6 β b cb gk ck gv cv o mid i gp np cp ks vs cp2 kx vx xs ys cxs cys (by omega) hkx hvx hix hiy hlx hly h1x h1y (h1cx _ (List.mem_of_getElem? hkx)) (h1cy _ (List.mem_of_getElem? hvx)) _ _ _) (by kernel_rfl) (cdSp6 β).cd (K7.sub (by kernel_rfl)) (St.emp.2 (St.emp.2 (St_re S7 [9,10,11,4,5,6] [0,1,2,3,7,8,12] (by kernel_rfl)))) λ A8 w8 N8 H8=> ?_;have S8:St w0 fp0 ([blkA b (tN β) #[slots A8 79,slots A8 93,sV gp np cp],slA (tK β) (slots A8 79) (xs.take i++kx::xs.drop i),slA (tV β) (slots A8 93) (ys.take i++vx::ys.drop i),blkA cb (tN β) #[sV gk o ck,sV gv o cv,cp2],slA (tK β) (sV gk o ck) cxs,slA (tV β) (sV gv o cv) cys,blkA rb (tN β) #[.slice ra rn rc, .slice wa wn wc,rp],slA (tK β) (.slice ra rn rc) (cxs.drop (mid+1)),slA (tV β) (.slice wa wn wc) (cys.drop (mid+1)),slA (tP β) (rp) (czs.drop (mid+1)),slA (tP β) (cp2) (czs.take (mid+1)),blkA tb (tT β) #[r,nV o,nn],slA (tP β) (sV gp np cp) zs]++R) w8:=(St.drop (St.drop H8))
   have K8:Knows 130 A8 [(8,pV rb 0),(1,pV b 0),(2,nV i),(6,pV cb 0),(7,nV mid)]:=N8.knows K7 (by kernel_rfl);obtain ⟨ka,kn,kc,e79⟩:∃a n c,slots A8 79=.slice a n c:=⟨_,_,_,N8.val 15 rfl⟩
   rw [e79] at S8;obtain ⟨la,ln,lc,e93⟩:∃a n c,slots A8 93=.slice a n c:=⟨_,_,_,N8.val 29 rfl⟩
   rw [e93] at S8;refine wp_seqT (cdSp7 β).sq ?_;refine wp_regT (obSp7 β b rb gp np cp i ka la kn kc ln lc zs (List.getElem?_eq_some_iff.1 hzi).1 hlz h1z _ _ _) (by kernel_rfl) (cdSp7 β).cd (K8.sub (by kernel_rfl)) (St.emp.2 (St_re S8 [0,12] [1,2,3,4,5,6,7,8,9,10,11] (by kernel_rfl))) λ A9 w9 N9 H9=> ?_;have S9:St w0 fp0 ([blkA b (tN β) #[.slice ka kn kc, .slice la ln lc,slots A9 107],slA (tP β) (slots A9 107) (zs.take (i+1)++.pointer (some ⟨rb,0,none⟩)::zs.drop (i+1)),slA (tK β) (.slice ka kn kc) (xs.take i++kx::xs.drop i),slA (tV β) (.slice la ln lc) (ys.take i++vx::ys.drop i),blkA cb (tN β) #[sV gk o ck,sV gv o cv,cp2],slA (tK β) (sV gk o ck) cxs,slA (tV β) (sV gv o cv) cys,blkA rb (tN β) #[.slice ra rn rc, .slice wa wn wc,rp],slA (tK β) (.slice ra rn rc) (cxs.drop (mid+1)),slA (tV β) (.slice wa wn wc) (cys.drop (mid+1)),slA (tP β) (rp) (czs.drop (mid+1)),slA (tP β) (cp2) (czs.take (mid+1)),blkA tb (tT β) #[r,nV o,nn]]++R) w9:=(St.drop H9)
   have K9:Knows 130 A9 [(8,pV rb 0),(1,pV b 0),(2,nV i),(6,pV cb 0),(7,nV mid)]:=N9.knows K8 (by kernel_rfl);obtain ⟨ma,mn,mc,e107⟩:∃a n c,slots A9 107=.slice a n c:=⟨_,_,_,N9.val 9 rfl⟩
   rw [e107] at S9;refine wp_regT (obSp8 β cb gk ck gv cv o mid cp2 cxs cys (by omega) ho' hck hcv hcx hcy h1cx h1cy _ _ _) (by kernel_rfl) (cdSp8 β).cd (K9.sub (by kernel_rfl)) (St.emp.2 (St.emp.2 (St_re S9 [4,5,6] [0,1,2,3,7,8,9,10,11,12] (by kernel_rfl)))) λ A10 w10 N10 H10=> ?_;have S10:St w0 fp0 ([slA (tK β) (slots A10 118) (cxs.take mid),slA (tV β) (slots A10 125) (cys.take mid),blkA cb (tN β) #[slots A10 118,slots A10 125,cp2],slA (tK β) (sV gk o ck) cxs,slA (tV β) (sV gv o cv) cys,blkA b (tN β) #[.slice ka kn kc, .slice la ln lc, .slice ma mn mc],slA (tP β) (.slice ma mn mc) (zs.take (i+1)++.pointer (some ⟨rb,0,none⟩)::zs.drop (i+1)),slA (tK β) (.slice ka kn kc) (xs.take i++kx::xs.drop i),slA (tV β) (.slice la ln lc) (ys.take i++vx::ys.drop i),blkA rb (tN β) #[.slice ra rn rc, .slice wa wn wc,rp],slA (tK β) (.slice ra rn rc) (cxs.drop (mid+1)),slA (tV β) (.slice wa wn wc) (cys.drop (mid+1)),slA (tP β) (rp) (czs.drop (mid+1)),slA (tP β) (cp2) (czs.take (mid+1)),blkA tb (tT β) #[r,nV o,nn]]++R) w10:=H10;have K10:Knows 130 A10 [(8,pV rb 0),(1,pV b 0),(2,nV i),(6,pV cb 0),(7,nV mid)]:=N10.knows K9 (by kernel_rfl);refine post_T K10 (res0 (resSp β)) ?_;exact ⟨rfl,rb,_,_,_,_,_,_,_,_,_,St.drop (St.drop (St_re S10 [3,4,14,5,7,8,6,2,0,1,13,9,10,11,12] [] (by kernel_rfl)))⟩
end
end Go.Proofs.YtnefkkidfhmggaaGreat
