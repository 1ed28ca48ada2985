/- Part 6 of the proof: Rx, Tg, Ra, Rb, Kb, Ix, Fx, Cn, Sg, Dp, Sd -/
import Derived.Test.YtnefkkidfhmggaaGreatV05
import Derived.Test.YtnefkkidfhmggaaGreatV00
import Derived.Test.YtnefkkidfhmggaaGreatV02
import Derived.Deep.DeepCutAuto
import Derived.Test.YtnefkkidfhmggaaGreatV01
set_option maxHeartbeats 16000000
set_option maxRecDepth 100000
namespace Go.Proofs.YtnefkkidfhmggaaGreat
open Go Go.RowKit
noncomputable section
section
theorem Rg.Ob.callG (G:Rg) (i:Nat) (PL:(Nat->Value)->List Asn) (PN:(Nat->Value)->Value->List Asn) {f:Nat} {args:(Nat->Value)->Array Value}
 (hc:∀g w,St G.w0 G.fp0 (PL g++G.R) w->Calls G.P f (args g) w λ e w'=> ∃v,e=.returned v/\G.shp i g v=v/\St G.w0 G.fp0 (PN g v++G.R) w')
 (hr:∀a w,(execOp (G.env i a) (opAt G.ops i)).run G.P w=.ok (.enter f (args (slots a))) w:=by intro _ _;exact kr (by kernel_rfl)) (hL:∀L g,(G.pcs.map λ p=> p.at (lk (closOf G.ops) i L) g)=PL g:=by intro _ _;exact kr (by kernel_rfl)) (hN:∀L g v,(G.pcs.map λ p=> p.at (ln (closOf G.ops) i L) (sput g (dstOf G.ops i) v))=PN g v:=by intro _ _ _;exact kr (by kernel_rfl))
 (hw:∀a,wantE G.ops (opAt G.ops i) (G.env i a)=some true:=by intro _;exact kr (by kernel_rfl)):G.Ob i:=by
 intro o ho L a w hsz he hS;have hd:o.dst=dstOf G.ops i:=by rw [dstOf,ho];rfl
 have hw':=hw a;have h':=hr a w;rw [opAt_eq ho] at hw' h';rw [hw',h',hd];unfold stP at hS;rw [hL] at hS;refine Calls.mono (hc (slots a) w hS) λ e w' h=> ?_;obtain ⟨v,rfl,h1,h2⟩:=h;refine ⟨_,rfl,G.shp_of h1,?_⟩;unfold stP;rw [hN];exact h2
theorem Rg.Ob.runG (G:Rg) (i:Nat) (PL:(Nat->Value)->List Asn) (PN:(Nat->Value)->Value->List Asn)
 (hr:∀a w,St G.w0 G.fp0 (PL (slots a)++G.R) w->∃v w',(execOp (G.env i a) (opAt G.ops i)).run G.P w=.ok (.value v) w'/\G.shp i (slots a) v=v/\St G.w0 G.fp0 (PN (slots a) v++G.R) w')
 (hL:∀L g,(G.pcs.map λ p=> p.at (lk (closOf G.ops) i L) g)=PL g:=by intro _ _;exact kr (by kernel_rfl)) (hN:∀L g v,(G.pcs.map λ p=> p.at (ln (closOf G.ops) i L) (sput g (dstOf G.ops i) v))=PN g v:=by intro _ _ _;exact kr (by kernel_rfl))
 (hw:∀a,wantE G.ops (opAt G.ops i) (G.env i a)=some true:=by intro _;exact kr (by kernel_rfl)):G.Ob i:=by
 intro o ho L a w hsz he hS;have hd:o.dst=dstOf G.ops i:=by rw [dstOf,ho];rfl
 have hw':=hw a;have h':=hr a w;rw [opAt_eq ho] at hw' h';unfold stP at hS;rw [hL] at hS;obtain ⟨v,w',h1,h2,h3⟩:=h' hS;rw [hw',h1,hd];refine ⟨G.shp_of h2,?_⟩;unfold stP;rw [hN];exact h3
theorem Rg.Ob.appG (G:Rg) (i:Nat) (PL:(Nat->Value)->List Asn) (PN:(Nat->Value)->Value->List Asn) {t tx:TypeId} {s x:Operand} {vs vx:(Nat->Value)->Value}
 (hc:∀ty g w,St G.w0 G.fp0 (PL g++G.R) w->∃v w',(Builtin.append_ #[t,tx] ty #[vs g,vx g]).run G.P w=.ok v w'/\G.shp i g v=v/\St G.w0 G.fp0 (PN g v++G.R) w')
 (hop:(opAt G.ops i).op=.call ⟨.builtin .append,#[s,x],#[t,tx]⟩:=by rfl) (hs:∀a,G.env i a s=vs (slots a):=by intro _;exact kr (by kernel_rfl)) (hx:∀a,G.env i a x=vx (slots a):=by intro _;exact kr (by kernel_rfl))
 (hL:∀L g,(G.pcs.map λ p=> p.at (lk (closOf G.ops) i L) g)=PL g:=by intro _ _;exact kr (by kernel_rfl)) (hN:∀L g v,(G.pcs.map λ p=> p.at (ln (closOf G.ops) i L) (sput g (dstOf G.ops i) v))=PN g v:=by intro _ _ _;exact kr (by kernel_rfl))
 (hw:∀a,wantE G.ops (opAt G.ops i) (G.env i a)=some true:=by intro _;exact kr (by kernel_rfl)):G.Ob i:=
 Rg.Ob.runG G i PL PN (λ a w hS=> by obtain ⟨v,w',h1,h2⟩:=hc (opAt G.ops i).type (slots a) w hS;refine ⟨v,w',?_,h2⟩;unfold execOp;simp only [hop,resolve,invoke,builtin,Sem.run_bind,Sem.run_pure,Result.andThen_ok,List.map_toArray,List.map_cons,List.map_nil,hs,hx,h1]) hL hN hw
theorem Rg.Ob.cat (G:Rg) (i:Nat) (u v:ByteArray) (hl:u.size+v.size < 1099511627776) {ty r:TypeId} {x y:Operand} (hop:(opAt G.ops i).op=.binOp .add ty x y r:=by rfl) (hx:∀a,G.env i a x=.string u:=by intro _;exact kr (by kernel_rfl)) (hy:∀a,G.env i a y=.string v:=by intro _;exact kr (by kernel_rfl)) (hv:∀g,G.valD i g=.string (u++v):=by intro _;exact kr (by kernel_rfl))
 (hq:(G.quiet i G.pcs.length && G.okV i)=true:=by exact kr (by kernel_rfl)) (hw:∀a,wantE G.ops (opAt G.ops i) (G.env i a)=some true:=by intro _;exact kr (by kernel_rfl)):G.Ob i:=Rg.Ob.read G i hq hw λ _ a w _ _=> by
 have h1:¬ (9223372036854775807:Int) < (u.size:Int)+v.size:=by omega
 rw [hv];simp [execOp,hop,hx,hy,go_sem,Op.stringOp,IntKind.max,IntKind.bits,IntKind.signed,h1]
theorem Rg.Ob.boxsG (G:Rg) (i k:Nat) {d:Nat} {ds:List Nat} {t:TypeId} {cs:(Nat->Value)->Array Value} (hk:G.pcs[k]? =some (.new i (d::ds) λ g=> boxsA t (g d) (cs g)):=by rfl)
 (hr:∀a w,(execOp (G.env i a) (opAt G.ops i)).run G.P w=.ok (.value (.slice (some ⟨w.heap.size,0,none⟩) 1 1)) (w.alloc (.cells (cs (rv (d::ds) (slots a))) t)):=by intro _ _;exact kr (by kernel_rfl))
 (hcs:∀g v,cs (rv (d::ds) (sput g (some d) v))=cs (rv (d::ds) g):=by intro _ _;exact kr (by kernel_rfl))
 (hd:dstOf G.ops i=some d:=by exact kr (by kernel_rfl)) (hself:((closOf G.ops).getD i []).elem i=false:=by exact kr (by kernel_rfl)) (hsh:∀g n,G.shp i g (.slice (some ⟨n,0,none⟩) 1 1)=.slice (some ⟨n,0,none⟩) 1 1:=by intro _ _;exact kr (by kernel_rfl))
 (hq:G.quiet i k=true:=by exact kr (by kernel_rfl)) (hw:∀a,wantE G.ops (opAt G.ops i) (G.env i a)=some true:=by intro _;exact kr (by kernel_rfl)):G.Ob i:=Rg.Ob.eff G i k hk (λ L a w fp _ _ hp=> by
 rw [new_before hself] at hp;obtain rfl:fp=[]:=hp;rw [hr a w];refine ⟨G.shp_of (hsh _ _),?_⟩;rw [new_after,hd];obtain ⟨h1,h2⟩:=boxs_new w t (cs (rv (d::ds) (slots a)));refine ⟨_,?_,h2⟩;rw [hcs];have e:rv (d::ds) (sput (slots a) (some d) (.slice (some ⟨w.heap.size,0,none⟩) 1 1)) d=.slice (some ⟨w.heap.size,0,none⟩) 1 1:=by unfold rv sput;simp
 rw [e];exact h1) hq hw
theorem text_size (l:List UInt8):(textOf l).size=l.length:=by show l.toArray.size=_;simp
theorem text_get (l:List UInt8) (j:Nat) (h:j < (textOf l).size):(textOf l)[j]'h=l[j]'(by rwa [text_size] at h):=by
 rfl
theorem text_take (l:List UInt8) (m:Nat):(textOf l).extract 0 m=textOf (l.take m):=by
 apply ByteArray.ext;rw [ByteArray.data_extract];show l.toArray.extract 0 m=(l.take m).toArray;simp
theorem num_size (n:Int):(textOf (numL n)).size=8:=by rw [text_size,numL_length]
section
variable {P:Program} {w0 w:World} {fp0:List Nat} {R:List Asn} {t tx e e':TypeId} {v s x:Value} {xs:List Value}
theorem box_src {f:List Nat} (hk:P.underlying tx=some (.slice e')) (h:(boxA e s x).p w f) (h1:x.oneCell'=true):Go.Src P 1 tx (.slice (some ⟨pb s,0,none⟩) 1 1) 1 [x] w:=by
 obtain ⟨vb,rfl,h2,_⟩:=h;exact src_lit hk w vb 1 1 e (0,0) #[x] h2 rfl (by simpa using h1)
theorem appB1 (hC:AppSrc P t tx e 1) (hk:P.underlying tx=some (.slice e')) (ty:TypeId) (h1:x.oneCell'=true) (hl:xs.length+1 < 1099511627776) (hS:St w0 fp0 (boxA e s x::slA e v xs::R) w):
 ∃v' w',(Builtin.append_ #[t,tx] ty #[v, .slice (some ⟨pb s,0,none⟩) 1 1]).run P w=.ok v' w'/\St w0 fp0 (boxA e s x::slA e v' (xs++[x])::R) w':=by
 obtain ⟨f,hf⟩:=hS.has 0 rfl;obtain ⟨v',w',h2,h3⟩:=St.appSl hC ty (hS.perm (List.Perm.swap _ _ _)) (box_src hk hf h1) hl;exact ⟨v',w',h2,h3.perm (List.Perm.swap _ _ _)⟩
theorem appT1 (hC:AppSrc P t tx e 1) (hk:P.underlying tx=some .string) (ty:TypeId) (u:ByteArray) (hl:xs.length+u.size < 1099511627776) (hS:St w0 fp0 (slA e v xs::R) w):
 ∃v' w',(Builtin.append_ #[t,tx] ty #[v, .string u]).run P w=.ok v' w'/\St w0 fp0 (slA e v' (xs++(bytes u).map u8C)::R) w':=
 St.appSl hC ty hS (Go.Src.ofString w hk u) hl
end
theorem cons_eq {d:Nat} {v v':Value} {l l':List (Nat×Value)} (h:v=v') (hl:l=l'):(d,v)::l=(d,v')::l':=by rw [h,hl]
theorem frame_eq {a a1:Act} {ks:List Nat} {l:List (Nat×Value)} (h:FrameLike a a1 ks) (hl:(ks.map λ k=> (k,slots a1 k))=l):a1=putL a l:=by
 rw [<-hl];exact h.eq
def Rg.outK (G:Rg) (us:List Nat) (g:Nat->Value) (k:Nat):Value:=if us.contains k then g k else ((G.vals.find? λ t=> t.d==k).map λ t=> t.at g).getD (g k)
theorem Rg.Next.fin {G:Rg} {a a1:Act} (N:G.Next a a1) (us:List Nat) {l:List (Nat×Value)} {w1:World} {Q:Exit->Act->World->Prop} (h:Q .normal (putL a l) w1) (hl:(G.ks.map λ k=> (k,G.outK us (slots a1) k))=l):Q .normal a1 w1:=by
 have e:a1=putL a l:=by
  refine frame_eq N.frame (Eq.trans (List.map_congr_left λ k _=> ?_) hl);unfold Rg.outK;split
  · rfl
  · cases e:G.vals.find? λ t=> t.d==k with
    | none=> rfl
    | some t=>
     have h1:=N.vals t (List.mem_of_find?_eq_some e);have h2:t.d=k:=by simpa using List.find?_some e
     rw [h2] at h1;rw [h1];rfl
 rw [e];exact h
end
theorem Rg.Ob.callNew (G:Rg) (i k:Nat) {d:Nat} {A:(Nat->Value)->Asn} (B:Value->Asn) (hB:∀v w f,(B v).p w f->∃a n c,v=.slice a n c) {f:Nat} {args:Array Value} (hc:∀L w,St G.w0 G.fp0 (L++G.R) w->Calls G.P f args w λ e w2=> ∃v f',e=.returned v/\(B v).p w2 f'/\Below w.heap.size w w2/\∀k∈f',w.heap.size<=k)
 (hk:G.pcs[k]? =some (.new i [d] A):=by rfl) (hA:∀g v,A (rv [d] (sput g (some d) v))=B v:=by intro _ _;exact kr (by kernel_rfl)) (hr:∀a w,(execOp (G.env i a) (opAt G.ops i)).run G.P w=.ok (.enter f args) w:=by intro _ _;exact kr (by kernel_rfl))
 (hd:dstOf G.ops i=some d:=by exact kr (by kernel_rfl)) (hself:((closOf G.ops).getD i []).elem i=false:=by exact kr (by kernel_rfl)) (hsh:∀g a n c,G.shp i g (.slice a n c)=.slice a n c:=by intro _ _ _ _;exact kr (by kernel_rfl))
 (hq:G.quiet i k=true:=by exact kr (by kernel_rfl)) (hw:∀a,wantE G.ops (opAt G.ops i) (G.env i a)=some true:=by intro _;exact kr (by kernel_rfl)):G.Ob i:=
 Rg.Ob.call G i k (args:=λ _=> args) hr (λ L a w fp _ hS hp=> by rw [new_before hself] at hp;obtain rfl:fp=[]:=hp;refine (hc _ w hS).mono ?_;rintro e w2 ⟨v,f',rfl,h2,h3,h4⟩;obtain ⟨va,vn,vc,rfl⟩:=hB _ _ _ h2;refine ⟨_,rfl,hsh _ _ _ _,f',?_,⟨h3.os,h3.tape,h3.output,h3.size,λ k hk _=> h3.block k hk,λ k hk=> .inr (h4 k hk)⟩⟩;rw [new_after,hd,hA];exact h2) hk hq hw
theorem Rg.Ob.callNew2 (G:Rg) (i k:Nat) {ds:List Nat} {A:(Nat->Value)->Asn} (B:(Nat->Value)->Value->Asn) {f:Nat} {args:(Nat->Value)->Array Value}
 (hc:∀L a w,stP G (lk (closOf G.ops) i L) (slots a) w->Calls G.P f (args (slots a)) w λ e w2=> ∃v f',e=.returned v/\G.shp i (slots a) v=v/\(B (slots a) v).p w2 f'/\Below w.heap.size w w2/\∀k∈f',w.heap.size<=k)
 (hk:G.pcs[k]? =some (.new i ds A):=by rfl) (hA:∀g v,A (rv ds (sput g (dstOf G.ops i) v))=B g v:=by intro _ _;exact kr (by kernel_rfl)) (hr:∀a w,(execOp (G.env i a) (opAt G.ops i)).run G.P w=.ok (.enter f (args (slots a))) w:=by intro _ _;exact kr (by kernel_rfl))
 (hself:((closOf G.ops).getD i []).elem i=false:=by exact kr (by kernel_rfl))
 (hq:G.quiet i k=true:=by exact kr (by kernel_rfl)) (hw:∀a,wantE G.ops (opAt G.ops i) (G.env i a)=some true:=by intro _;exact kr (by kernel_rfl)):G.Ob i:=
 Rg.Ob.call G i k (args:=λ a=> args (slots a)) hr (λ L a w fp _ hS hp=> by rw [new_before hself] at hp;obtain rfl:fp=[]:=hp;refine (hc L a w hS).mono ?_;rintro e w2 ⟨v,f',rfl,h1,h2,h3,h4⟩;refine ⟨_,rfl,h1,f',?_,⟨h3.os,h3.tape,h3.output,h3.size,λ k hk _=> h3.block k hk,λ k hk=> .inr (h4 k hk)⟩⟩;rw [new_after,hA];exact h2) hk hq hw
theorem Rg.Ob.run1 (G:Rg) (i k:Nat) {p:Pc} (PB:(Nat->Value)->Asn) (PA:(Nat->Value)->Value->Asn)
 (h:∀L a w fp,stP G (lk (closOf G.ops) i L) (slots a) w->(PB (slots a)).p w fp->∃v w' f',(execOp (G.env i a) (opAt G.ops i)).run G.P w=.ok (.value v) w'/\G.shp i (slots a) v=v/\(PA (slots a) v).p w' f'/\Tr w w' fp f')
 (hk:G.pcs[k]? =some p:=by rfl) (hB:∀L g,p.at (lk (closOf G.ops) i L) g=PB g:=by intro _ _;exact kr (by kernel_rfl)) (hA:∀L g v,p.at (ln (closOf G.ops) i L) (sput g (dstOf G.ops i) v)=PA g v:=by intro _ _ _;exact kr (by kernel_rfl))
 (hq:G.quiet i k=true:=by exact kr (by kernel_rfl)) (hw:∀a,wantE G.ops (opAt G.ops i) (G.env i a)=some true:=by intro _;exact kr (by kernel_rfl)):G.Ob i:=
 Rg.Ob.eff G i k hk (λ L a w fp _ hS hp=> by rw [hB] at hp;obtain ⟨v,w',f',h1,h2,h3,h4⟩:=h L a w fp hS hp;rw [h1];exact ⟨G.shp_of h2,f',by rw [hA];exact h3,h4⟩) hq hw
theorem Rg.Ob.skip1 (G:Rg) (i k:Nat) {p:Pc} (PB PA:(Nat->Value)->Asn)
 (h:∀L a w fp,stP G (lk (closOf G.ops) i L) (slots a) w->(PB (slots a)).p w fp->∃w' f',(execOp (G.env i a) (opAt G.ops i)).run G.P w=.ok .skip w'/\(PA (slots a)).p w' f'/\Tr w w' fp f')
 (hk:G.pcs[k]? =some p:=by rfl) (hB:∀L g,p.at (lk (closOf G.ops) i L) g=PB g:=by intro _ _;exact kr (by kernel_rfl)) (hA:∀L g,p.at (ln (closOf G.ops) i L) g=PA g:=by intro _ _;exact kr (by kernel_rfl))
 (hd:dstOf G.ops i=none:=by exact kr (by kernel_rfl)) (hvo:(G.valOf i).isNone=true:=by exact kr (by kernel_rfl)) (hq:G.quiet i k=true:=by exact kr (by kernel_rfl)) (hw:∀a,wantE G.ops (opAt G.ops i) (G.env i a)=some true:=by intro _;exact kr (by kernel_rfl)):G.Ob i:=
 Rg.Ob.eff G i k hk (λ L a w fp _ hS hp=> by
  have hvo':G.valOf i=none:=by simpa using hvo
  rw [hB] at hp;obtain ⟨w',f',h1,h3,h4⟩:=h L a w fp hS hp;rw [h1,hd,hvo'];exact ⟨λ t h=> (nomatch h),f',by rw [sput_none,hA];exact h3,h4⟩) hq hw
theorem piece_of {w0 w:World} {A:Asn} (h:St w [] [A] w0):∃f,A.p w0 f/\Below w.heap.size w w0/\∀k∈f,w.heap.size<=k:=by
 obtain ⟨fp,⟨f,g,h3,hg, -,e⟩,ht⟩:=h;obtain rfl:g=[]:=hg;rw [List.append_nil] at e;subst e;exact ⟨_,h3,ht.below (Nat.le_refl _) (λ k hk=> nomatch hk),λ k hk=> (ht.new k hk).resolve_left (by simp)⟩
theorem exec_app {P:Program} {o:Oper} {env:Operand->Value} {w w':World} {s x:Operand} {t tx:TypeId} {v u r:Value} (hop:o.op=.call ⟨.builtin .append,#[s,x],#[t,tx]⟩) (hs:env s=v) (hx:env x=u) (h:(Builtin.append_ #[t,tx] o.type #[v,u]).run P w=.ok r w'):(execOp env o).run P w=.ok (.value r) w':=by
 unfold execOp;simp only [hop,resolve,invoke,builtin,Sem.run_bind,Sem.run_pure,Result.andThen_ok,List.map_toArray,List.map_cons,List.map_nil,hs,hx,h]
theorem exec_store {P:Program} {o:Oper} {env:Operand->Value} {w w':World} {ty:TypeId} {x y:Operand} {p u:Value} (hop:o.op=.store ty x y) (hx:env x=p) (hy:env y=u) (h:(Instr.storeAt ty p u).run P w=.ok () w'):(execOp env o).run P w=.ok .skip w':=by
 simp only [execOp,hop,hx,hy,Sem.run_bind,h,Result.andThen_ok,Sem.run_pure]
theorem store3 {P:Program} {w:World} {ty t:TypeId} {b:Nat} {o0 o1 o2 v0 v1 v2:Value} {f:List Nat} (hb:(blkA b t #[o0,o1,o2]).p w f) (hz:(sizeOf ty).run P w=.ok 3 w) (h0:v0.oneCell'=true) (h1:v1.oneCell'=true) (h2:v2.oneCell'=true):
 ∃w' f',(Instr.storeAt ty (.pointer (some ⟨b,0,none⟩)) (.agg #[v0,v1,v2])).run P w=.ok () w'/\(blkA b t #[v0,v1,v2]).p w' f'/\Tr w w' f f':=by
 have c0:=(blk_get hb).1 0;have f0:=(blk_get hb).2.1 0;obtain ⟨hb1,t1⟩:=blk_set hb 0 v0;have c1:=(blk_get hb1).1 1;have f1:=(blk_get hb1).2.1 1;obtain ⟨hb2,t2⟩:=blk_set hb1 1 v1;have c2:=(blk_get hb2).1 2;have f2:=(blk_get hb2).2.1 2;obtain ⟨hb3,t3⟩:=blk_set hb2 2 v2;have a0:(⟨b,0,none⟩:Addr).add 0=⟨b,0,none⟩:=by simp [Addr.add]
 have a1:(⟨b,0,none⟩:Addr).add 1=⟨b,1,none⟩:=by simp [Addr.add]
 have a2:(⟨b,0,none⟩:Addr).add 2=⟨b,2,none⟩:=by simp [Addr.add]
 have e:(Value.agg #[v0,v1,v2]).cells=#[v0,v1,v2]:=rfl;refine ⟨_,_,?_,hb3,(t1.trans t2).trans t3⟩;simp only [List.getElem?_toArray,List.getElem?_cons_zero,List.getElem?_cons_succ,List.setIfInBounds_toArray,List.set_cons_succ,List.set_cons_zero] at c0 c1 c2;simp [Instr.storeAt,Instr.sureAddr,storeVar,hz,e,storeCells,a0,a1,a2,run_store P _ _ v0 .plain h0,run_store P _ _ v1 .plain h1,run_store P _ _ v2 .plain h2,c0,f0,c1,f1,c2,f2]
theorem slSelf {t:TypeId} {w:World} {v:Value} {xs:List Value} {f:List Nat} (h:(slA t v xs).p w f):(slA t (.slice (sa v) (sn v) (sc v)) xs).p w f:=by
 obtain ⟨a,n,c,rfl⟩:=sl_shape h;exact h
theorem one_int (l:List Int):∀u∈l.map intC,u.oneCell'=true:=by
 intro u hu;obtain ⟨z, -,rfl⟩:=List.mem_map.1 hu;rfl
theorem trNew {w:World} {fp:List Nat} (h:emp.p w fp) (o:Obj):Tr w (w.alloc o) fp [w.heap.size]:=by
 obtain rfl:fp=[]:=h;have hb:Below w.heap.size w (w.alloc o):=(Below.refl _ _).alloc (Nat.le_refl _) _;exact ⟨hb.os,hb.tape,hb.output,hb.size,λ k hk _=> hb.block k hk,λ k hk=> .inr (by rw [List.mem_singleton.1 hk];exact Nat.le_refl _)⟩
theorem Rg.Ob.eqlS (G:Rg) (i:Nat) (k:IntKind) (p:Int) {ty r:TypeId} {x y:Operand} (hop:(opAt G.ops i).op=.binOp .eql ty x y r:=by rfl) (hx:∀a,G.env i a x=.int k p:=by intro _;exact kr (by kernel_rfl)) (hy:∀a,G.env i a y=.int k p:=by intro _;exact kr (by kernel_rfl)) (hv:∀g,G.valD i g=.bool true:=by intro _;exact kr (by kernel_rfl))
 (hq:(G.quiet i G.pcs.length && G.okV i)=true:=by exact kr (by kernel_rfl)) (hw:∀a,wantE G.ops (opAt G.ops i) (G.env i a)=some true:=by intro _;exact kr (by kernel_rfl)):G.Ob i:=Rg.Ob.read G i hq hw λ L a w _ _=> by
 simp [execOp,hop,hx,hy,go_sem,hv]
theorem load3 {P:Program} {o:Oper} {env:Operand->Value} {w:World} {ty:TypeId} {x:Operand} {b:Nat} {v0 v1 v2:Value} (hop:o.op=.load ty x) (ha:(isAgg ty).run P w=.ok true w) (hs:(sizeOf ty).run P w=.ok 3 w) (hx:env x=.pointer (some ⟨b,0,none⟩)) (c0:w.cell? ⟨b,0,none⟩=some v0) (c1:w.cell? ⟨b,1,none⟩=some v1) (c2:w.cell? ⟨b,2,none⟩=some v2):(execOp env o).run P w=.ok (.value (.agg #[v0,v1,v2])) w:=by
 have h:=run_loadCells_list (P:=P) (w:=w) ⟨b,0,none⟩ [v0,v1,v2] (λ j v hj=> by
  rw [add_plain,Nat.zero_add]
  match j,hj with
  | 0,hj=> cases hj;exact c0
  | 1,hj=> cases hj;exact c1
  | 2,hj=> cases hj;exact c2
  | j+3,hj=> simp at hj)
 have h':(loadCells ⟨b,0,none⟩ 3).run P w=.ok #[v0,v1,v2] w:=h;simp [execOp,hop,hx,Instr.loadAt,Instr.sureAddr,loadVar,ha,hs,h']
theorem newB {w0 w w':World} {fp0:List Nat} {L:List Asn} {A:Asn} (h:St w0 fp0 L w) (h2:St w [] [A] w'):St w0 fp0 (A::L) w':=by
 obtain ⟨fp,⟨f,g,h3,hg, -,e⟩,ht⟩:=h2;obtain rfl:g=[]:=hg;rw [List.append_nil] at e;subst e;have h4:=St.add h (ht.below (Nat.le_refl _) (λ k hk=> nomatch hk)) h3 (λ k hk=> (ht.new k hk).resolve_left (by simp));exact h4.perm List.perm_append_comm
theorem Rg.Ob.skipG (G:Rg) (i:Nat) (PL PN:(Nat->Value)->List Asn)
 (hr:∀a w,St G.w0 G.fp0 (PL (slots a)++G.R) w->∃w',(execOp (G.env i a) (opAt G.ops i)).run G.P w=.ok .skip w'/\St G.w0 G.fp0 (PN (slots a)++G.R) w')
 (hL:∀L g,(G.pcs.map λ p=> p.at (lk (closOf G.ops) i L) g)=PL g:=by intro _ _;exact kr (by kernel_rfl)) (hN:∀L g,(G.pcs.map λ p=> p.at (ln (closOf G.ops) i L) g)=PN g:=by intro _ _;exact kr (by kernel_rfl))
 (hd:dstOf G.ops i=none:=by exact kr (by kernel_rfl)) (hvo:(G.valOf i).isNone=true:=by exact kr (by kernel_rfl)) (hw:∀a,wantE G.ops (opAt G.ops i) (G.env i a)=some true:=by intro _;exact kr (by kernel_rfl)):G.Ob i:=by
 intro o ho L a w hsz he hS;have hd':o.dst=none:=by rw [<-hd,dstOf,ho];rfl
 have hvo':G.valOf i=none:=by simpa using hvo
 have hw':=hw a;have h':=hr a w;rw [opAt_eq ho] at hw' h';unfold stP at hS;rw [hL] at hS;obtain ⟨w',h1,h3⟩:=h' hS;rw [hw',h1,hd'];refine ⟨λ t ht=> (by rw [hvo'] at ht;cases ht),?_⟩;unfold stP;rw [sput_none,hN];exact h3
theorem wp_of_value {P:Program} {o:Oper} {a:Act} {w w':World} {K:Act->World->Prop} {Q:Exit->Act->World->Prop} {v:Value} {d:Nat} (hd:o.dst=some d) (hr:(execOp a.eval o).run P w=.ok (.value v) w') (h:K (a.put (some d) v) w'):o.wp P a w K Q:=by
 unfold Oper.wp;rw [hr];show K (a.put o.dst v) w';rw [hd];exact h
theorem wp_of_call {P:Program} {o:Oper} {a:Act} {w:World} {K:Act->World->Prop} {Q:Exit->Act->World->Prop} {f:FuncId} {args:Array Value} {R:Ending->World->Prop} {d:Nat} (hd:o.dst=some d) (hr:(execOp a.eval o).run P w=.ok (.enter f args) w) (hR:Calls P f args w R)
 (h:∀e w',R e w'->∃v,e=.returned v/\K (a.put (some d) v) w'):o.wp P a w K Q:=by
 unfold Oper.wp;rw [hr];refine hR.mono λ e w' hr=> ?_;obtain ⟨v,rfl,h'⟩:=h e w' hr;show K (a.put o.dst v) w';rw [hd];exact h'
theorem exec_load1 {P:Program} {o:Oper} {a:Act} {w:World} {ty:TypeId} {d b j:Nat} {v:Value} (hop:o.op=.load ty (.tmp d)) (ha:(isAgg ty).run P w=.ok false w) (hx:a.eval (.tmp d)=.pointer (some ⟨b,j,none⟩)) (hc:w.cell? ⟨b,j,none⟩=some v):(execOp a.eval o).run P w=.ok (.value v) w:=by
 simp only [execOp,hop,hx,Sem.run_bind,run_load1 ha hc,Result.andThen_ok,Sem.run_pure]
theorem Rg.Ob.indexO (G:Rg) (i b o n c m s:Nat) (hm:m < n) {t e:TypeId} {x y:Operand} (hop:(opAt G.ops i).op=.indexAddr t x y:=by rfl) (hu:G.P.underlying t=some (.slice e):=by rfl) (hz:∀w,(sizeOf e).run G.P w=.ok s w:=by intro _;exact kr (by kernel_rfl)) (hx:∀a,G.env i a x=.slice (some ⟨b,o,none⟩) n c:=by intro _;exact kr (by kernel_rfl)) (hy:∀a,G.env i a y=.int .i64 m:=by intro _;exact kr (by kernel_rfl)) (hv:∀g,G.valD i g=.pointer (some ⟨b,o+m * s,none⟩):=by intro _;exact kr (by kernel_rfl))
 (hq:(G.quiet i G.pcs.length && G.okV i)=true:=by exact kr (by kernel_rfl)) (hw:∀a,wantE G.ops (opAt G.ops i) (G.env i a)=some true:=by intro _;exact kr (by kernel_rfl)):G.Ob i:=Rg.Ob.read G i hq hw λ L a w _ _=> by
 simp only [execOp,hop,hx,hy,Sem.run_bind,run_index1 hu (hz w) hm,Result.andThen_ok,Sem.run_pure,hv]
theorem exec_loads {P:Program} {o:Oper} {env:Operand->Value} {w:World} {ty:TypeId} {x:Operand} {b off:Nat} {cs:List Value} (hop:o.op=.load ty x) (ha:(isAgg ty).run P w=.ok true w) (hs:(sizeOf ty).run P w=.ok cs.length w) (hx:env x=.pointer (some ⟨b,off,none⟩)) (hc:∀j u,cs[j]? =some u->w.cell? ⟨b,off+j,none⟩=some u):(execOp env o).run P w=.ok (.value (.agg cs.toArray)) w:=by
 have h:=run_loadCells_list (P:=P) (w:=w) ⟨b,off,none⟩ cs (λ j v hj=> by rw [add_plain];exact hc j v hj);simp [execOp,hop,hx,Instr.loadAt,Instr.sureAddr,loadVar,ha,hs,h]
theorem Rg.Ob.loadR (G:Rg) (i:Nat) {b off:Nat} (cs:List Value) (hl:∀L w,St G.w0 G.fp0 (L++G.R) w->∀j u,cs[j]? =some u->w.cell? ⟨b,off+j,none⟩=some u) {ty:TypeId} {x:Operand} (hop:(opAt G.ops i).op=.load ty x:=by rfl) (ha:∀w,(isAgg ty).run G.P w=.ok true w:=by intro _;exact kr (by kernel_rfl)) (hs:∀w,(sizeOf ty).run G.P w=.ok cs.length w:=by intro _;exact kr (by kernel_rfl)) (hx:∀a,G.env i a x=.pointer (some ⟨b,off,none⟩):=by intro _;exact kr (by kernel_rfl)) (hv:∀g,G.valD i g=.agg cs.toArray:=by intro _;exact kr (by kernel_rfl))
 (hq:(G.quiet i G.pcs.length && G.okV i)=true:=by exact kr (by kernel_rfl)) (hw:∀a,wantE G.ops (opAt G.ops i) (G.env i a)=some true:=by intro _;exact kr (by kernel_rfl)):G.Ob i:=Rg.Ob.read G i hq hw λ L a w _ hS=> by
 rw [exec_loads hop (ha w) (hs w) (hx a) (hl _ w hS),hv]
theorem row_empty {w:World} {b:Nat} {t:TypeId} {size:Nat} {f:List Nat} (h:(blkA b t #[]).p w f):(rowA t size (.slice (some ⟨b,0,none⟩) 0 0) 0 []).p w f:=
 ⟨⟨by simp, .inr ⟨b,0,#[],rfl,Nat.zero_le _,h.1,Nat.le_refl _,Nat.zero_le _,by simp,by simp⟩⟩,h.2⟩
theorem Rg.Ob.askR (G:Rg) (i:Nat) {f:Nat} {args:Array Value} {v:Value} (hc:∀L w,St G.w0 G.fp0 (L++G.R) w->Calls G.P f args w λ e w'=> e=.returned v/\Below w.heap.size w w') (hv:∀g,G.valD i g=v:=by intro _;exact kr (by kernel_rfl))
 (hr:∀a w,(execOp (G.env i a) (opAt G.ops i)).run G.P w=.ok (.enter f args) w:=by intro _ _;exact kr (by kernel_rfl))
 (hq:(G.quiet i G.pcs.length && G.okV i)=true:=by exact kr (by kernel_rfl)) (hw:∀a,wantE G.ops (opAt G.ops i) (G.env i a)=some true:=by intro _;exact kr (by kernel_rfl)):G.Ob i:=
 Rg.Ob.ask G i (args:=λ _=> args) hr (λ L a w _ hS=> by rw [hv];exact hc _ w hS) hq hw
def gRa3 (b:Value) (vb:Nat) (k n:Int) (t:ByteArray) (xs:List Value):=rgx Tryz.prog Tryz.f89 3 49 [11,12,13,14,15,16,17,4] [(0,b),(3,pV vb 0)] (Vq 0 11 [Kv b,Vf.box]++Vq 3 14 [Kp vb 1,Kv (.int .i64 n),Kv (.string (textOf (numL n)))]++Vq 7 4 [Fv [17] λ g=> g 17]) [.new 1 [12] λ g=> boxA 5 (g 12) (.int .u8 2), .gen [2,6] [13,17] λ L g=> match L 6 with | true=> slA 5 (g 17) (xs++[Value.int .u8 2]++(bytes (textOf (numL n))).map u8C) | false=> match L 2 with | true=> slA 5 (g 13) (xs++[Value.int .u8 2]) | false=> slA 5 b xs,Bk vb (29) [.int .i64 k, .int .i64 n, .string t]]
theorem rRa3 (b:Value) (vb:Nat) (k n:Int) (t:ByteArray) (xs:List Value) (w0:World) (fp0:List Nat) (R:List Asn) (hn:I64 n) (hl:xs.length+20 < 1099511627776) {w:World} {c:Code} {a:Act} {Q:Exit->Act->World->Prop} (c1:isReg c=true) (c2:cops c=opsR Tryz.f89 3) (c3:a.tmps.size=49) (_c4:a.defers=a.defers) (i0:a.eval (.tmp 0)=b) (i3:a.eval (.tmp 3)=.pointer (some ⟨vb,0,none⟩))
 (hS:St w0 fp0 ([emp,slA 5 b xs,blkA vb (29) #[.int .i64 k, .int .i64 n, .string t]]++R) w)
 (hQ:∀(u12 u13 u17:Value) (w1:World),(∃b,u12=.slice (some ⟨b,0,none⟩) 1 1)->St w0 fp0 ([boxA 5 (u12) (.int .u8 2),slA 5 (u17) (xs++[Value.int .u8 2]++(bytes (textOf (numL n))).map u8C),blkA vb (29) #[.int .i64 k, .int .i64 n, .string t]]++R) w1->Q .normal (putL a [(11,b),(12,u12),(13,u13),(14, .pointer (some ⟨vb,1,none⟩)),(15, .int .i64 n),(16, .string (textOf (numL n))),(17,u17),(4,u17)]) w1):c.wp Tryz.prog Q a w:=by
 have ok:(gRa3 b vb k n t xs w0 fp0 R).Ok 8:=Rg.ok _ 8 [1,2,4,5,6] ⟨.box _ 1 0 rfl, .appG _ 2 (λ g=> [boxA 5 (g 12) (.int .u8 2),slA 5 b xs,blkA vb 29 #[.int .i64 k, .int .i64 n, .string t]]) (λ g v=> [boxA 5 (g 12) (.int .u8 2),slA 5 v (xs++[Value.int .u8 2]),blkA vb 29 #[.int .i64 k, .int .i64 n, .string t]]) (λ ty g w h=> let ⟨v,w2,h1,h2⟩:=appB1 appBS (e':=5) (by kernel_rfl) ty rfl (by omega) h;⟨v,w2,h1,rfl,h2⟩), .load _ 4 2 1, .callG _ 5 (λ g=> [boxA 5 (g 12) (.int .u8 2),slA 5 (g 13) (xs++[Value.int .u8 2]),blkA vb 29 #[.int .i64 k, .int .i64 n, .string t]]) (λ g _=> [boxA 5 (g 12) (.int .u8 2),slA 5 (g 13) (xs++[Value.int .u8 2]),blkA vb 29 #[.int .i64 k, .int .i64 n, .string t]]) (λ g w h=> (number_calls n hn w).mono λ e w2 ⟨e1,hb⟩=> ⟨_,e1,rfl,h.mono hb⟩), .appG _ 6 (λ g=> [boxA 5 (g 12) (.int .u8 2),slA 5 (g 13) (xs++[Value.int .u8 2]),blkA vb 29 #[.int .i64 k, .int .i64 n, .string t]]) (λ g v=> [boxA 5 (g 12) (.int .u8 2),slA 5 v (xs++[Value.int .u8 2]++(bytes (textOf (numL n))).map u8C),blkA vb 29 #[.int .i64 k, .int .i64 n, .string t]]) (λ ty g w h=> let ⟨v,w2,h1,h2⟩:=appT1 appBT (by kernel_rfl) ty (textOf (numL n)) (by simp [textOf,numL,ByteArray.size];omega) (h.perm (List.Perm.swap _ _ _));⟨v,w2,h1,rfl,h2.perm (List.Perm.swap _ _ _)⟩),trivial⟩;refine wp_regD ok (by kernel_rfl) ⟨c1,c2⟩ ⟨c3,λ p hp=> ?_⟩ hS λ A1 w1 N1 H1=> ?_
 · simp only [gRa3,rgx,List.map_nil,List.append_nil,List.mem_cons,List.not_mem_nil,or_false] at hp
   rcases hp with rfl | rfl
   · exact i0
   · exact i3
 exact N1.fin [12,13,17] (hQ (slots A1 12) (slots A1 13) (slots A1 17) w1 ⟨_,(N1.val 1 rfl)⟩ H1) (by kernel_rfl)
def obA (b:Nat) (o:Obj):Asn:=
 ⟨λ w fp=> w.heap[b]? =some o/\fp=[b],λ h k hk=> by rw [h.2,List.mem_singleton] at hk;rw [hk];exact (Array.getElem?_eq_some_iff.1 h.1).1,λ h hs=> ⟨(hs b (by rw [h.2];simp)).trans h.1,h.2⟩⟩
theorem St.newob {w0 w w1:World} {fp0:List Nat} {L:List Asn} (h:St w0 fp0 L w) (hb:Below w.heap.size w w1) (he:w.heap.size=w1.heap.size) (o:Obj):St w0 fp0 (obA w.heap.size o::L) (w1.alloc o):=by
 have h1:St w0 fp0 (L++[obA w.heap.size o]) (w1.alloc o):=h.add (hb.alloc (by omega) o) ⟨by rw [he];exact heap_alloc_new w1 o,rfl⟩ (by simp);exact h1.perm List.perm_append_comm
theorem St.app8 {w0 w w':World} {fp0:List Nat} {R:List Asn} {t:TypeId} {v:Value} {xs:List UInt8} {news:List Value} (ys:List UInt8) (h:Hid (St w0 fp0 (slA t v (xs.map u8C++news)::R) w)) (hb:Below w.heap.size w w') (hn:news=ys.map u8C):Hid (St w0 fp0 (slA t v ((xs++ys).map u8C)::R) w'):=by
 have h2:=h.out.mono hb;rw [hn,<-List.map_append] at h2;exact h2
theorem radd_calls (v:Vl) (hv:I64 v.int) (b:Value) (xs:List UInt8) (hl:xs.length+2 * v.text.size+20 < 1099511627776) (w0 w:World) (fp0:List Nat) (R:List Asn) (hS:St w0 fp0 (slA 5 b (xs.map u8C)::R) w):
 Calls Tryz.prog 89 #[b,v.val] w λ e w'=> ∃b',e=.returned b'/\St w0 fp0 (slA 5 b' ((xs++encL v).map u8C)::R) w':=by
 obtain ⟨c0,c1,c2⟩:(w.alloc (.cells #[.int .i64 v.kind, .int .i64 v.int, .string v.text] 29)).cell? ⟨w.heap.size,0,none⟩=some (.int .i64 v.kind)/\(w.alloc (.cells #[.int .i64 v.kind, .int .i64 v.int, .string v.text] 29)).cell? ⟨w.heap.size,1,none⟩=some (.int .i64 v.int)/\(w.alloc (.cells #[.int .i64 v.kind, .int .i64 v.int, .string v.text] 29)).cell? ⟨w.heap.size,2,none⟩=some (.string v.text):=
  ⟨World.cell?_alloc_new _ _ _ 0,World.cell?_alloc_new _ _ _ 1,World.cell?_alloc_new _ _ _ 2⟩
 have HS0:=Lib.hid (hS.newblk 29 #[.int .i64 v.kind, .int .i64 v.int, .string v.text]);have HS:=Lib.hid HS0.out.drop;have HL:=Lib.hid hl;have HV:=Lib.hid hv;unfold Vl.val;clear hS hv hl;go_enter Tryz.func89,Tryz.ntmps89;go_upto_region 1 with (fail)
 generalize hW:w.alloc _=W at *;clear hW;have hbl:=World.block_lt_of_cell? W _ c0;by_cases h1:v.kind=1
 · have HE:Hid (encL v=[2]++numL v.int):=by show _=_;rw [encL,if_pos h1];rfl
   go_upto_region 3 with (fail)
   refine rRa3 (w0:=w0) (fp0:=fp0) b w.heap.size 1 v.int v.text (xs.map u8C) R HV.out (by have:=HL.out;simp;omega) rfl (by kernel_rfl) rfl rfl rfl rfl ?_ ?_
   · rw [<-h1]
     exact St.emp.2 (HS0.out.perm (List.Perm.swap _ _ _))
   · intro u12 u13 u17 w1 _ h
     have h2:St w0 fp0 (slA 5 u17 ((xs++encL v).map u8C)::R) w1:=by have h3:St w0 fp0 (slA 5 u17 (xs.map u8C++[.int .u8 2]++(bytes (textOf (numL v.int))).map u8C)::blkA w.heap.size 29 #[.int .i64 1, .int .i64 v.int, .string v.text]::R) w1:=h.drop;have h4:=(h3.perm (List.Perm.swap _ _ _)).drop;rw [bytes_textOf,show [Value.int .u8 2]=[(2:UInt8)].map u8C from rfl,<-List.map_append,<-List.map_append,List.append_assoc,<-HE.out] at h4;exact h4
     have H2:=Lib.hid h2;clear h h2;simp only [putL,List.foldl,Act.put,List.setIfInBounds_toArray,List.set_cons_succ,List.set_cons_zero];go_wp2;go_ret;have h:=H2.out;simp only [List.map_append] at h;exact ⟨_,rfl,h⟩
 · by_cases h2:v.kind=2
   · have HE:Hid (encL v=3::((bytes v.text).flatMap escB++[0])):=by show _=_;rw [encL,if_neg h1,if_pos h2]
     have hcv:∀w,(convert 9 101 (.string v.text)).run Tryz.prog w=.ok (.slice (some ⟨w.heap.size,0,none⟩) v.text.size (grownCap w v.text.size 0 5))
      (w.drew.alloc (.cells (bytesRow v.text (grownCap w v.text.size 0 5)) 5 ((bytesRow v.text (grownCap w v.text.size 0 5)).size,(bytesRow v.text (grownCap w v.text.size 0 5)).size+1))):=λ w=> run_bytes_of_string w 9 101 5 v.text (by kernel_rfl) (by kernel_rfl) (by kernel_rfl)
     have HCV:=Lib.hid hcv;clear hcv
     go_upto_region 6 with (first
      | (at_builtin;refine wpList_appSl rfl _ _ _ _ rfl rfl rfl appBS ((HS0.out.perm (List.Perm.swap _ _ _)).mono ((Below.refl _ _).alloc (Nat.le_refl _) _)) (src_lit (e':=5) (by kernel_rfl) _ _ _ _ _ _ #[.int .u8 3] (heap_alloc_new _ _) rfl (by simp;rfl)) (by have:=HL.out;simp;omega) ?_;intro b1 w1 h1))
     have H1:=Lib.hid (St.app8 [3] h1 (Below.refl _ _) rfl);clear c0 c1 c2 hbl;obtain ⟨_,hvb⟩:=H1.out.has 1 rfl;have c2:=(blk_get hvb).1 2;simp only [List.getElem?_toArray,List.getElem?_cons_zero,List.getElem?_cons_succ] at c2;clear h1 hvb;have hcv:=HCV.out w1;have hbr:∀j (hj:j < v.text.size),(bytesRow v.text (grownCap w1 v.text.size 0 5))[j]? =some (.int .u8 (v.text[j]'hj).toNat):=bytesRow_get v.text _;have H2:=Lib.hid ((H1.out.newob (Below.refl _ w1) rfl (.cells (bytesRow v.text (grownCap w1 v.text.size 0 5)) 5 ((bytesRow v.text (grownCap w1 v.text.size 0 5)).size,(bytesRow v.text (grownCap w1 v.text.size 0 5)).size+1))).mono (below_drew _));have hts:v.text.size<=1099511627776:=by have:=HL.out;omega
     generalize grownCap w1 v.text.size 0 5=G at *;generalize bytesRow v.text G=br at *;generalize (br.size,br.size+1)=fr at *;have Hbr:=Lib.hid hbr;clear hbr H1 HS HCV;go_upto_region 7 with (fail)
     generalize (w1.alloc _).drew=W2 at *;generalize w1.heap.size=B at *;clear hcv c2;obtain ⟨N,hN⟩:∃N,v.text.size=N:=⟨_,rfl⟩
     have HN:=Lib.hid hN;rw [hN] at hts ⊢;clear hN;have H3:Hid (St w0 fp0 (slA 5 b1 ((xs++[3]++((bytes v.text).take 0).flatMap escB).map u8C)::obA B (.cells br 5 fr)::blkA w.heap.size 29 #[.int .i64 v.kind, .int .i64 v.int, .string v.text]::R) W2):=by have h:=H2.out.perm (List.Perm.swap _ _ _);show St _ _ _ _;rw [List.take_zero,List.flatMap_nil,List.append_nil];exact h
     go_loopg [0,27] N (λ g z0 z27 wr=> ∃k:Nat,z27=.int .i64 k/\g+k=N/\Hid (St w0 fp0 (slA 5 z0 ((xs++[3]++((bytes v.text).take k).flatMap escB).map u8C)::obA B (.cells br 5 fr)::blkA w.heap.size 29 #[.int .i64 v.kind, .int .i64 v.int, .string v.text]::R) wr))
     case atStart=> exact ⟨0,rfl,by omega,H3⟩
     case round=>
      obtain ⟨k,rfl,hgk,Hs⟩:=hrel;by_cases hk:k < N
      · have hks:k < v.text.size:=by have:=HN.out;omega
        have HB1:=Lib.hid (Hbr.out k hks);have hst:((bytes v.text).take (k+1)).flatMap escB=((bytes v.text).take k).flatMap escB++escB (v.text[k]'hks):=by
         have hkb:k < (bytes v.text).length:=by simpa [bytes] using hks
         rw [List.take_add_one,List.getElem?_eq_getElem hkb,List.flatMap_append];simp [bytes];rfl
        have Hst:Hid (xs++[3]++((bytes v.text).take (k+1)).flatMap escB=xs++[3]++((bytes v.text).take k).flatMap escB++escB (v.text[k]'hks)):=by show _=_;rw [hst];simp only [List.append_assoc]
        have hfl:(((bytes v.text).take k).flatMap escB).length<=2 * k:=by
         have h:∀l:List UInt8,(l.flatMap escB).length<=2 * l.length:=by
          intro l
          induction l with
          | nil=> simp
          | cons c l ih=>
           rw [List.flatMap_cons,List.length_append,List.length_cons];have:(escB c).length<=2:=by unfold escB;split <;> simp
           omega
         have:=h ((bytes v.text).take k);rw [List.length_take] at this;omega
        have hlen:(xs++[3]++((bytes v.text).take k).flatMap escB).length+2 < 1099511627776:=by have:=HL.out;simp only [List.length_append,List.length_cons,List.length_nil];omega
        have Hlen:=Lib.hid hlen;obtain ⟨_,hob⟩:=Hs.out.has 1 rfl;have cB:=cell_of_row wr B k br 5 fr hob.1;rw [HB1.out] at cB;have hBl:=World.block_lt_of_cell? wr _ cB;have Hgk:=Lib.hid hgk;have hkn:(k:Int) < N:=by omega
        obtain ⟨C,hC⟩:∃C,v.text[k]'hks=C:=⟨_,rfl⟩
        rw [hC] at cB Hst;clear hC hst hfl hlen hgk hob HB1;clear hks;generalize xs++[3]++((bytes v.text).take k).flatMap escB=Y at *;have hC2:=C.toNat_lt;by_cases hc:C.toNat<=1
        · have HEs:Hid ([Value.int .u8 1, .int .u8 ((C.toNat:Int)+1)]=(escB C).map u8C):=by
           show _=_;rw [escB,if_pos (UInt8.le_iff_toNat_le.2 hc)];simp only [List.map_cons,List.map_nil,u8C,UInt8.toNat_add];have e1:(1:UInt8).toNat=1:=rfl;rw [e1,Nat.mod_eq_of_lt (by omega)];rfl
          have hci:(C.toNat:Int)<=1:=by omega
          have hw:IntKind.u8.wrap ((C.toNat:Int)+1)=(C.toNat:Int)+1:=by simp only [IntKind.wrap,IntKind.bits,IntKind.signed];simp;omega
          clear hc
          go_wp2_with (first
           | (at_builtin;refine wpList_appSl rfl _ _ _ _ rfl rfl rfl appBS (Hs.out.mono ((Below.refl _ _).alloc (Nat.le_refl _) _)) (src_lit (e':=5) (by kernel_rfl) _ _ _ _ _ _ #[.int .u8 1, .int .u8 ((C.toNat:Int)+1)] (heap_alloc_new _ _) rfl (by simp;exact ⟨rfl,rfl⟩)) (by have:=Hlen.out;simp at this ⊢;omega) ?_;intro b3 w3 h3))
          go_roundg (gk - 1)
          case rel=> exact ⟨k+1,by go_num,by have:=Hgk.out;omega,by rw [Hst.out];exact St.app8 _ h3 (Below.refl _ _) HEs.out⟩
          case measure=> have:=Hgk.out;omega
        · have HEs:Hid ([Value.int .u8 C.toNat]=(escB C).map u8C):=by
           show _=_;rw [escB,if_neg (λ h=> hc (UInt8.le_iff_toNat_le.1 h))];rfl
          have hci:¬ (C.toNat:Int)<=1:=by omega
          clear hc
          go_wp2_with (first
           | (at_builtin;refine wpList_appSl rfl _ _ _ _ rfl rfl rfl appBS (Hs.out.mono ((Below.refl _ _).alloc (Nat.le_refl _) _)) (src_lit (e':=5) (by kernel_rfl) _ _ _ _ _ _ #[.int .u8 C.toNat] (heap_alloc_new _ _) rfl (by simp;rfl)) (by have:=Hlen.out;simp at this ⊢;omega) ?_;intro b3 w3 h3))
          go_roundg (gk - 1)
          case rel=> exact ⟨k+1,by go_num,by have:=Hgk.out;omega,by rw [Hst.out];exact St.app8 _ h3 (Below.refl _ _) HEs.out⟩
          case measure=> have:=Hgk.out;omega
      · obtain rfl:k=N:=by omega
        have hl:(bytes v.text).take k=bytes v.text:=List.take_of_length_le (by have:=HN.out;simp [bytes];omega);rw [hl] at Hs;have hfl:((bytes v.text).flatMap escB).length<=2 * k:=by
         have h:∀l:List UInt8,(l.flatMap escB).length<=2 * l.length:=by
          intro l
          induction l with
          | nil=> simp
          | cons c l ih=>
           rw [List.flatMap_cons,List.length_append,List.length_cons];have:(escB c).length<=2:=by unfold escB;split <;> simp
           omega
         have h2:=h (bytes v.text);have:(bytes v.text).length=k:=by have:=HN.out;simpa [bytes] using this
         omega
        have Hlen:Hid ((xs++[3]++(bytes v.text).flatMap escB).length+2 < 1099511627776):=by show _ < _;have:=HL.out;have:=HN.out;simp only [List.length_append,List.length_cons,List.length_nil];omega
        clear hl hfl;have HE2:Hid (xs++encL v=xs++[3]++(bytes v.text).flatMap escB++[0]):=by show _=_;rw [HE.out];simp
        generalize xs++[3]++(bytes v.text).flatMap escB=Y at *;clear hgk hk
        go_wp2_with (first
         | (at_builtin;refine wpList_appSl rfl _ _ _ _ rfl rfl rfl appBS (Hs.out.mono ((Below.refl _ _).alloc (Nat.le_refl _) _)) (src_lit (e':=5) (by kernel_rfl) _ _ _ _ _ _ #[.int .u8 0] (heap_alloc_new _ _) rfl (by simp;rfl)) (by have:=Hlen.out;simp at this ⊢;omega) ?_;intro b3 w3 h3))
        go_ret;have h:=(St.app8 [0] h3 (Below.refl _ _) rfl).out;rw [<-HE2.out] at h;have h5:=St.dropAll (A:=[obA B (.cells br 5 fr),blkA w.heap.size 29 #[.int .i64 v.kind, .int .i64 v.int, .string v.text]]) (show St w0 fp0 ([obA B (.cells br 5 fr),blkA w.heap.size 29 #[.int .i64 v.kind, .int .i64 v.int, .string v.text]]++(slA 5 b3 ((xs++encL v).map u8C)::R)) w3 from St_re (L:=[_,_,_]) h [1,2,0] [] (by kernel_rfl));simp only [List.map_append] at h5;exact ⟨_,rfl,h5⟩
   · have HE:Hid (encL v=[1]):=by show _=_;rw [encL,if_neg h1,if_neg h2]
     go_wp2_with (first
      | (at_builtin;refine wpList_appSl rfl _ _ _ _ rfl rfl rfl appBS (HS.out.mono ((Below.refl _ _).alloc (Nat.le_refl _) _)) (src_lit (e':=5) (by kernel_rfl) _ _ _ _ _ _ #[.int .u8 1] (heap_alloc_new _ _) rfl (by simp;rfl)) (by have:=HL.out;simp;omega) ?_;intro b1 w1 h1))
     go_ret;have h:=(St.app8 [1] h1 (Below.refl _ _) rfl).out;rw [<-HE.out] at h;simp only [List.map_append] at h;exact ⟨_,rfl,h⟩
theorem St.below0 {w0 w:World} {L:List Asn} (h:St w0 [] L w):Below w0.heap.size w0 w:=by
 obtain ⟨fp, -,ht⟩:=h;exact ht.below (Nat.le_refl _) λ k hk=> nomatch hk
theorem esc_len:∀l:List UInt8,(l.flatMap escB).length<=2 * l.length:=by
 intro l
 induction l with
 | nil=> simp
 | cons c l ih=>
  rw [List.flatMap_cons,List.length_append,List.length_cons];have:(escB c).length<=2:=by unfold escB;split <;> simp
  omega
theorem encL_len (v:Vl):(encL v).length<=2 * v.text.size+9:=by
 have h1:=esc_len (bytes v.text);have h2:(bytes v.text).length=v.text.size:=by simp [bytes]
 unfold encL;split
 · simp [numL]
 · split
   · simp only [List.length_cons,List.length_append,List.length_nil];omega
   · simp
def RowS (r:Rw):Prop:=∀v∈r,I64 v.int/\v.text.size<=1048576
theorem RowS.col {r:Rw} (h:RowS r) (c:Int):I64 (colV r c).int/\(colV r c).text.size<=1048576:=by
 have h0:I64 nullV.int/\nullV.text.size<=1048576:=by
  refine ⟨?_,?_⟩
  · show I64 0
    unfold I64;omega
  · exact Nat.zero_le _
 unfold colV;split
 · by_cases hl:c.toNat < r.length
   · have:r.getD c.toNat nullV=r[c.toNat]:=by simp [List.getD,hl]
     rw [this];exact h _ (List.getElem_mem _)
   · have:r.getD c.toNat nullV=nullV:=by simp [List.getD,hl]
     rw [this];exact h0
 · exact h0
theorem keyL_len {r:Rw} (h:RowS r):∀cs:List Int,(keyL r cs).length<=cs.length * 2097161
 | []=> by simp [keyL]
 | c::cs=> by have h1:=encL_len (colV r c);have h2:=(h.col c).2;have h3:=keyL_len h cs;simp only [keyL,List.flatMap_cons,List.length_append,List.length_cons] at h3 ⊢;omega
theorem encR_len {r:Rw} (h:RowS r):(encR r).length<=r.length * 2097161:=by
 induction r with
 | nil=> simp [encR]
 | cons v r ih=>
  have h1:=encL_len v;have h2:=(h v (by simp)).2;have h3:=ih (λ u hu=> h u (by simp [hu]));simp only [encR,List.flatMap_cons,List.length_append,List.length_cons] at h3 ⊢;omega
theorem below_set {B:Nat} {w w':World} (h:Below B w w') (b j:Nat) (v:Value) (hb:B<=b):Below B w (w'.setCell ⟨b,j,none⟩ v):=h.setCell (p:=⟨b,j,none⟩) hb v
theorem run_back {w:World} {a:Option Addr} {n c:Nat} {l:List UInt8} {f:List Nat} (h:(slA 5 (.slice a n c) (l.map u8C)).p w f):(convert 101 9 (.slice a n c)).run Tryz.prog w=.ok (.string (textOf l)) w:=by
 obtain ⟨a',c',e,hxl,hxc,hx⟩:=sl_get h;obtain ⟨rfl,rfl,rfl⟩:=Value.slice.inj e;rcases hx with ⟨rfl,hx,_⟩ | ⟨g,rfl,hgl,hcs,_⟩
 · have hnil:l=[]:=by simpa using hx
   subst hnil;rw [run_convert_bytes_string w 101 9 5 none _ c (by kernel_rfl) (by kernel_rfl) (by kernel_rfl)];rfl
 · rw [List.length_map]
   refine run_convert_bytes_back w 101 9 5 ⟨g,0,none⟩ c l (by kernel_rfl) (by kernel_rfl) (by kernel_rfl) λ j hj=> ?_;rw [add_plain,Nat.zero_add,(hcs j (by simpa using hj))];simp [hj,u8C]
theorem key_calls (r:Rw) (cs:List Int) (rv cv:Value) (hr:RowS r) (hc:cs.length<=100000) (w:World) (hrv:ValsAt w r rv) (hcv:IntsX [] w cs cv):
 Calls Tryz.prog 65 #[rv,cv] w λ e w'=> e=.returned (.string (textOf (keyL r cs)))/\Below w.heap.size w w':=by
 obtain ⟨ra,n,rc,rfl,hn,hm⟩:=hrv.shape;obtain ⟨ca,m,cc,rfl,hmn,hmm⟩:=hcv.shape;have HR:=Lib.hid hrv;have HC:=Lib.hid hcv;have HN:=Lib.hid hn;have HM:=Lib.hid hmn;have HRS:=Lib.hid hr;have HCL:=Lib.hid hc;have hm2:n<=9223372036854775807:=by unfold maxLen at hm;omega
 have hmm2:m<=9223372036854775807:=by unfold maxLen at hmm;omega
 have hm0:m<=100000:=by omega
 have H0:Hid (St w [] [slA 5 (.slice none 0 0) ((keyL r (cs.take 0)).map u8C)] w):=St.nilA (t:=5) (St.start (L:=[]) (fp:=[]) rfl);clear hrv hcv hn hmn hr hc hm hmm;go_enter Tryz.func65,Tryz.ntmps65;go_wp2;go_loopg [5,11] m (λ g z5 z11 wr=> ∃k:Nat,z11=.int .i64 k/\g+k=m/\Hid (St w [] [slA 5 z5 ((keyL r (cs.take k)).map u8C)] wr))
 case atStart=> exact ⟨0,rfl,by omega,H0⟩
 case round=>
  clear H0;obtain ⟨k,rfl,hgk,Hs⟩:=hrel;by_cases hk:k < m
  · have hkc:k < cs.length:=by rw [<-HM.out];exact hk
    have hb0:=Hs.out.below0;obtain ⟨cb,co,rfl⟩:=HC.out.has k hk;have hcell:=(HC.out.mono hb0).cell k hkc;have hcl:=World.block_lt_of_cell? wr _ hcell;obtain ⟨C,hC⟩:∃C,cs[k]=C:=⟨_,rfl⟩
    rw [hC] at hcell;have hst:keyL r (cs.take (k+1))=keyL r (cs.take k)++encL (colV r C):=by rw [List.take_add_one,List.getElem?_eq_getElem hkc,hC];simp [keyL]
    have Hst:=Lib.hid hst;have hlen:(keyL r (cs.take k)).length+2 * (colV r C).text.size+20 < 1099511627776:=by
     have h1:=keyL_len HRS.out (cs.take k);have h2:=(HRS.out.col C).2;have h3:(cs.take k).length<=100000:=by rw [List.length_take];omega
     have:(cs.take k).length * 2097161<=100000 * 2097161:=Nat.mul_le_mul_right _ h3;omega
    have HA:Hid (∀b w',St w [] [slA 5 b ((keyL r (cs.take k)).map u8C)] w'->Calls Tryz.prog 89 #[b, .agg #[.int .i64 (colV r C).kind, .int .i64 (colV r C).int, .string (colV r C).text]] w' λ e w''=> ∃b',e=.returned b'/\St w [] [slA 5 b' ((keyL r (cs.take k)++encL (colV r C)).map u8C)] w''):=
     λ b w' h=> radd_calls (colV r C) (HRS.out.col C).1 b _ hlen w w' [] [] h
    rw [<-hst] at HA;have Hgk:=Lib.hid hgk;have hkm:(k:Int) < m:=by omega
    have Hb0:=Lib.hid hb0;clear hC hst hlen hgk hb0 hkc;by_cases h1:0<=C
    · by_cases h2:C < n
      · have hlt:C.toNat < r.length:=by have:=HN.out;omega
        have hcol:colV r C=r[C.toNat]:=by rw [colV,if_pos h1];simp [List.getD,hlt]
        obtain ⟨rb,ro,rfl⟩:=HR.out.has C.toNat (by omega);obtain ⟨v0,v1,v2⟩:=(HR.out.mono Hb0.out).cell C.toNat hlt;rw [<-hcol] at v0 v1 v2;have hrl:=World.block_lt_of_cell? wr _ v0;obtain ⟨D,rfl⟩:∃D:Nat,C=D:=⟨C.toNat,by omega⟩
        rw [Int.toNat_natCast] at v0 v1 v2;generalize colV r (D:Int)=V at *;obtain ⟨K,I,T⟩:=V;clear hcol hlt;simp only at v0 v1 v2 HA;go_wp2_with fail;(with_reducible refine (HA.out _ _ (Hs.out.mono ((Below.refl _ _).alloc (Nat.le_refl _) _))).mono ?_);rintro e w1 ⟨b',rfl,h3⟩;have H3:=Lib.hid h3;clear h3 HA Hs;go_wp2;go_roundg (gk - 1)
        case rel=> exact ⟨k+1,by go_num,by have:=Hgk.out;omega,H3⟩
        case measure=> have:=Hgk.out;omega
      · have hcol:colV r C=nullV:=by
         have:=HN.out;rw [colV,if_pos h1];simp [List.getD];rw [List.getElem?_eq_none (by omega)];rfl
        rw [hcol] at HA;clear hcol;unfold nullV at HA;simp only at HA;go_wp2_with fail;(with_reducible refine (HA.out _ _ (Hs.out.mono ((Below.refl _ _).alloc (Nat.le_refl _) _))).mono ?_);rintro e w1 ⟨b',rfl,h3⟩;have H3:=Lib.hid h3;clear h3 HA Hs;go_wp2;go_roundg (gk - 1)
        case rel=> exact ⟨k+1,by go_num,by have:=Hgk.out;omega,H3⟩
        case measure=> have:=Hgk.out;omega
    · have hcol:colV r C=nullV:=by rw [colV,if_neg h1]
      rw [hcol] at HA;clear hcol;unfold nullV at HA;simp only at HA;go_wp2_with fail;(with_reducible refine (HA.out _ _ (Hs.out.mono ((Below.refl _ _).alloc (Nat.le_refl _) _))).mono ?_);rintro e w1 ⟨b',rfl,h3⟩;have H3:=Lib.hid h3;clear h3 HA Hs;go_wp2;go_roundg (gk - 1)
      case rel=> exact ⟨k+1,by go_num,by have:=Hgk.out;omega,H3⟩
      case measure=> have:=Hgk.out;omega
  · obtain rfl:k=m:=by omega
    have hl:cs.take k=cs:=List.take_of_length_le (by rw [<-HM.out];exact Nat.le_refl _);rw [hl] at Hs;obtain ⟨_,hp⟩:=Hs.out.has 0 rfl;obtain ⟨a,c,rfl,hxl,hxc,hx⟩:=sl_get hp;have HB:=Lib.hid Hs.out.below0;have hcv:=run_back hp;rw [List.length_map] at *;have HS2:=Lib.hid Hs.out;clear hp hxl hxc hx hgk Hs hk;go_wp2;go_ret;exact ⟨rfl,HB.out⟩
theorem encodeRow_calls (r:Rw) (rv:Value) (hr:RowS r) (hc:r.length<=100000) (w:World) (hrv:ValsAt w r rv):
 Calls Tryz.prog 49 #[rv] w λ e w'=> ∃b,e=.returned b/\St w [] [slA 5 b ((encR r).map u8C)] w':=by
 obtain ⟨ra,n,rc,rfl,hn,hm⟩:=hrv.shape;have HR:=Lib.hid hrv;have HN:=Lib.hid hn;have HRS:=Lib.hid hr;have HCL:=Lib.hid hc;have hm2:n<=9223372036854775807:=by unfold maxLen at hm;omega
 have H0:Hid (St w [] [slA 5 (.slice none 0 0) ((encR (r.take 0)).map u8C)] w):=St.nilA (t:=5) (St.start (L:=[]) (fp:=[]) rfl);clear hrv hn hr hc hm;go_enter Tryz.func49,Tryz.ntmps49;go_wp2;go_loopg [3,8] n (λ g z3 z8 wr=> ∃k:Nat,z8=.int .i64 k/\g+k=n/\Hid (St w [] [slA 5 z3 ((encR (r.take k)).map u8C)] wr))
 case atStart=> exact ⟨0,rfl,by omega,H0⟩
 case round=>
  clear H0;obtain ⟨k,rfl,hgk,Hs⟩:=hrel;by_cases hk:k < n
  · have hlt:k < r.length:=by rw [<-HN.out];exact hk
    have hb0:=Hs.out.below0;obtain ⟨rb,ro,rfl⟩:=HR.out.has k hk;obtain ⟨v0,v1,v2⟩:=(HR.out.mono hb0).cell k hlt;have hrl:=World.block_lt_of_cell? wr _ v0;have hst:encR (r.take (k+1))=encR (r.take k)++encL r[k]:=by rw [encR,encR,List.take_add_one,List.getElem?_eq_getElem hlt,List.flatMap_append];simp only [Option.toList,List.flatMap_cons,List.flatMap_nil,List.append_nil]
    have hrs:=HRS.out r[k] (List.getElem_mem hlt);have hlen:(encR (r.take k)).length+2 * (r[k]).text.size+20 < 1099511627776:=by
     have h1:=encR_len (r:=r.take k) (λ v hv=> HRS.out v (List.mem_of_mem_take hv));have h3:(r.take k).length<=100000:=by rw [List.length_take];have:=HCL.out;omega
     have:(r.take k).length * 2097161<=100000 * 2097161:=Nat.mul_le_mul_right _ h3;omega
    have HA:Hid (∀b w',St w [] [slA 5 b ((encR (r.take k)).map u8C)] w'->Calls Tryz.prog 89 #[b, .agg #[.int .i64 r[k].kind, .int .i64 r[k].int, .string r[k].text]] w' λ e w''=> ∃b',e=.returned b'/\St w [] [slA 5 b' ((encR (r.take k)++encL r[k]).map u8C)] w''):=
     λ b w' h=> radd_calls r[k] hrs.1 b _ hlen w w' [] [] h
    rw [<-hst] at HA;have Hgk:=Lib.hid hgk;have hkm:(k:Int) < n:=by omega
    clear hst hlen hgk hb0 hrs;obtain ⟨V,hV⟩:∃V,r[k]=V:=⟨_,rfl⟩
    rw [hV] at v0 v1 v2 HA;clear hV hlt;obtain ⟨K,I,T⟩:=V;simp only at v0 v1 v2 HA;go_wp2_with fail;(with_reducible refine (HA.out _ _ (Hs.out.mono ((Below.refl _ _).alloc (Nat.le_refl _) _))).mono ?_);rintro e w1 ⟨b',rfl,h3⟩;have H3:=Lib.hid h3;clear h3 HA Hs;go_wp2;go_roundg (gk - 1)
    case rel=> exact ⟨k+1,by go_num,by have:=Hgk.out;omega,H3⟩
    case measure=> have:=Hgk.out;omega
  · obtain rfl:k=n:=by omega
    have hl:r.take k=r:=List.take_of_length_le (by rw [<-HN.out];exact Nat.le_refl _);rw [hl] at Hs;clear hgk hk hl;go_wp2;go_ret;exact ⟨_,rfl,Hs.out⟩
theorem has_calls (S cols:Nat) (c:Int) (w:World) (hc:w.cell? ⟨S,0,none⟩=some (.int .i64 cols)):
 Calls Tryz.prog 42 #[ptrV S, .int .i64 c] w λ e w'=> e=.returned (.bool (decide (0<=c/\c < cols)))/\w=w':=by
 have hl:=World.block_lt_of_cell? w _ hc;unfold ptrV;by_cases h1:0<=c
 · by_cases h2:c < cols
   · go_enter Tryz.func42,Tryz.ntmps42
     go_wp2;go_ret;exact ⟨by simp,rfl⟩
   · go_enter Tryz.func42,Tryz.ntmps42
     go_wp2;go_ret;exact ⟨by simp [h2],rfl⟩
 · go_enter Tryz.func42,Tryz.ntmps42
   go_wp2;go_ret;exact ⟨by simp;omega,rfl⟩
theorem enters_own {P:Program} {f:FuncId} {fn:Func} {c:Code} (hf:P.funcs[f]? =some fn) (hname:(fn.name== "runtime.NumGoroutine")=false) (hb:fn.body=some c) (args:Array Value) (w:World):(callFunc f args).run P w=.ok (.enter f args) w:=by
 have h1:fn.name≠ "runtime.NumGoroutine" :=by simpa using hname
 simp [callFunc,hf,h1,hb]
def firstI (p:Nat->Bool) (n:Nat):Int:=match (List.range n).find? p with
 | some i=> i
 | none=> -1
theorem firstI_at {p:Nat->Bool} {n k:Nat} (hk:k < n) (hp:p k=true) (h:∀j,j < k->p j=false):firstI p n=k:=by
 unfold firstI;have:(List.range n).find? p=some k:=by rw [List.find?_range_eq_some];exact ⟨hp,by simpa using hk,λ j hj=> by simp [h j hj]⟩
 rw [this]
theorem firstI_none {p:Nat->Bool} {n:Nat} (h:∀j,j < n->p j=false):firstI p n= -1:=by
 unfold firstI;have:(List.range n).find? p=none:=by rw [List.find?_eq_none];intro j hj;simp [h j (by simpa using hj)]
 rw [this]
theorem firstI_some {p:Nat->Bool} {n:Nat}:(0<=firstI p n↔∃k,k < n/\p k=true):=by
 unfold firstI;cases h:(List.range n).find? p with
 | some i=>
  rw [List.find?_range_eq_some] at h;exact ⟨λ _=> ⟨i,by simpa using h.2.1,h.1⟩,λ _=> by simp⟩
 | none=>
  rw [List.find?_eq_none] at h;constructor
  · intro h';simp at h'
  · rintro ⟨k,hk,hp⟩
    exact absurd hp (h k (by simpa using hk))
theorem indexI_calls (l:List Int) (v:Value) (f:Nat) (c:Value) (p:Int->Bool) (w:World) (he:∀args w,(callFunc f args).run Tryz.prog w=.ok (.enter f args) w) (hv:IntsX [] w l v) (hf:∀i∈l,∀w',Below w.heap.size w w'->Calls Tryz.prog f #[.int .i64 i,c] w' λ e w''=> e=.returned (.bool (p i))/\Below w'.heap.size w' w''):
 Calls Tryz.prog 82 #[v, .func (.func f) #[] #[c]] w λ e w'=> e=.returned (.int .i64 (firstI (λ i=> p (l.getD i 0)) l.length))/\Below w.heap.size w w':=by
 obtain ⟨a,n,cc,rfl,hn,hm⟩:=hv.shape;have HV:=Lib.hid hv;have HN:=Lib.hid hn;have HF:=Lib.hid hf;have hm2:n<=9223372036854775807:=by unfold maxLen at hm;omega
 clear hv hn hf hm;go_enter Tryz.func82,Tryz.ntmps82;go_wp2;go_loopg [8] n (λ g z wr=> ∃k:Nat,z=.int .i64 k/\g+k=n/\Hid (∀j,j < k->p (l.getD j 0)=false)/\Hid (Below w.heap.size w wr))
 case atStart=> exact ⟨0,rfl,rfl,λ j hj=> absurd hj (Nat.not_lt_zero j),Below.refl _ _⟩
 case round=>
  obtain ⟨k,rfl,hgk,Hp,Hb⟩:=hrel;by_cases hk:k < n
  · have hkl:k < l.length:=by rw [<-HN.out];exact hk
    obtain ⟨b,o,rfl⟩:=HV.out.has k hk;have hcell:=(HV.out.mono Hb.out).cell k hkl;have hlt:=World.block_lt_of_cell? wr _ hcell;have hk':(k:Int) < n:=by omega
    have HC:=Lib.hid (HF.out l[k] (List.getElem_mem hkl) wr Hb.out);have hget:l.getD k 0=l[k]:=by simp [List.getD,hkl]
    have Hget:=Lib.hid hget;have Hgk:=Lib.hid hgk;have Hkl:=Lib.hid hkl;clear hget hgk;generalize l[k]=x at *;clear hkl;cases hq:p x
    · rw [hq] at HC
      have Hq:=Lib.hid hq;clear hq;go_wp2_with fail;(with_reducible refine HC.out.mono ?_);rintro e w1 ⟨rfl,hb1⟩;have Hb1:=Lib.hid (Hb.out.trans (hb1.mono Hb.out.size));clear hb1;go_wp2;go_roundg (gk - 1)
      case rel=>
       refine ⟨k+1,by go_num,by have:=Hgk.out;omega,λ j hj=> ?_,Hb1⟩;rcases Nat.lt_succ_iff_lt_or_eq.1 hj with h | h
       · exact Hp.out j h
       · subst h;rw [Hget.out];exact Hq.out
      case measure=> have:=Hgk.out;omega
    · rw [hq] at HC
      have Hq:=Lib.hid hq;clear hq;go_wp2_with fail;(with_reducible refine HC.out.mono ?_);rintro e w1 ⟨rfl,hb1⟩;have Hb1:=Lib.hid (Hb.out.trans (hb1.mono Hb.out.size));clear hb1;go_wp2;go_ret;exact ⟨by rw [firstI_at Hkl.out (by rw [Hget.out];exact Hq.out) Hp.out];rfl,Hb1.out⟩
  · obtain rfl:k=n:=by omega
    have HR:Hid (firstI (λ i=> p (l.getD i 0)) l.length= -1):=firstI_none (by rw [<-HN.out];exact Hp.out);clear hgk hk;go_wp2;go_ret;exact ⟨by rw [HR.out];rfl,Hb.out⟩
theorem containsI_calls (l:List Int) (v:Value) (f:Nat) (c:Value) (p:Int->Bool) (w:World) (he:∀args w,(callFunc f args).run Tryz.prog w=.ok (.enter f args) w) (hv:IntsX [] w l v) (hf:∀i∈l,∀w',Below w.heap.size w w'->Calls Tryz.prog f #[.int .i64 i,c] w' λ e w''=> e=.returned (.bool (p i))/\Below w'.heap.size w' w''):
 Calls Tryz.prog 40 #[v, .func (.func f) #[] #[c]] w λ e w'=> e=.returned (.bool (l.any p))/\Below w.heap.size w w':=by
 have HC:=Lib.hid (indexI_calls l v f c p w he hv hf);have HE:Hid (decide (0<=firstI (λ i=> p (l.getD i 0)) l.length)=l.any p):=by
  show _=_;rw [Bool.eq_iff_iff,decide_eq_true_iff,firstI_some,List.any_eq_true];constructor
  · rintro ⟨k,hk,hp⟩
    exact ⟨l[k],List.getElem_mem hk,by simpa [List.getD,hk] using hp⟩
  · rintro ⟨x,hx,hp⟩
    obtain ⟨k,hk,rfl⟩:=List.mem_iff_getElem.1 hx;exact ⟨k,hk,by simpa [List.getD,hk] using hp⟩
 clear hv hf;go_enter Tryz.func40,Tryz.ntmps40;go_wp2_with fail;(with_reducible refine HC.out.mono ?_);rintro e w1 ⟨rfl,hb⟩;have Hb:=Lib.hid hb;clear hb HC;generalize firstI (λ i=> p (l.getD i 0)) l.length=z at *;go_wp2;go_ret;exact ⟨by rw [<-HE.out];rfl,Hb.out⟩
theorem indexV_calls (r:Rw) (v:Value) (f:Nat) (p:Vl->Bool) (w:World) (he:∀args w,(callFunc f args).run Tryz.prog w=.ok (.enter f args) w) (hv:ValsAt w r v) (hf:∀x∈r,∀w',Below w.heap.size w w'->Calls Tryz.prog f #[x.val] w' λ e w''=> e=.returned (.bool (p x))/\Below w'.heap.size w' w''):
 Calls Tryz.prog 83 #[v, .func (.func f) #[] #[]] w λ e w'=> e=.returned (.int .i64 (firstI (λ i=> p (r.getD i nullV)) r.length))/\Below w.heap.size w w':=by
 obtain ⟨a,n,cc,rfl,hn,hm⟩:=hv.shape;have HV:=Lib.hid hv;have HN:=Lib.hid hn;have HF:=Lib.hid hf;have hm2:n<=9223372036854775807:=by unfold maxLen at hm;omega
 clear hv hn hf hm;go_enter Tryz.func83,Tryz.ntmps83;go_wp2;go_loopg [8] n (λ g z wr=> ∃k:Nat,z=.int .i64 k/\g+k=n/\Hid (∀j,j < k->p (r.getD j nullV)=false)/\Hid (Below w.heap.size w wr))
 case atStart=> exact ⟨0,rfl,rfl,λ j hj=> absurd hj (Nat.not_lt_zero j),Below.refl _ _⟩
 case round=>
  obtain ⟨k,rfl,hgk,Hp,Hb⟩:=hrel;by_cases hk:k < n
  · have hkl:k < r.length:=by rw [<-HN.out];exact hk
    obtain ⟨b,o,rfl⟩:=HV.out.has k hk;obtain ⟨c0,c1,c2⟩:=(HV.out.mono Hb.out).cell k hkl;have hlt:=World.block_lt_of_cell? wr _ c0;have hk':(k:Int) < n:=by omega
    have HC:=Lib.hid (HF.out r[k] (List.getElem_mem hkl) wr Hb.out);have hget:r.getD k nullV=r[k]:=by simp [List.getD,hkl]
    have Hget:=Lib.hid hget;have Hgk:=Lib.hid hgk;have Hkl:=Lib.hid hkl;clear hget hgk;generalize r[k]=x at *;clear hkl;unfold Vl.val at HC;cases hq:p x
    · rw [hq] at HC
      have Hq:=Lib.hid hq;clear hq;go_wp2_with fail;(with_reducible refine HC.out.mono ?_);rintro e w1 ⟨rfl,hb1⟩;have Hb1:=Lib.hid (Hb.out.trans (hb1.mono Hb.out.size));clear hb1;go_wp2;go_roundg (gk - 1)
      case rel=>
       refine ⟨k+1,by go_num,by have:=Hgk.out;omega,λ j hj=> ?_,Hb1⟩;rcases Nat.lt_succ_iff_lt_or_eq.1 hj with h | h
       · exact Hp.out j h
       · subst h;rw [Hget.out];exact Hq.out
      case measure=> have:=Hgk.out;omega
    · rw [hq] at HC
      have Hq:=Lib.hid hq;clear hq;go_wp2_with fail;(with_reducible refine HC.out.mono ?_);rintro e w1 ⟨rfl,hb1⟩;have Hb1:=Lib.hid (Hb.out.trans (hb1.mono Hb.out.size));clear hb1;go_wp2;go_ret;exact ⟨by rw [firstI_at Hkl.out (by rw [Hget.out];exact Hq.out) Hp.out];rfl,Hb1.out⟩
  · obtain rfl:k=n:=by omega
    have HR:Hid (firstI (λ i=> p (r.getD i nullV)) r.length= -1):=firstI_none (by rw [<-HN.out];exact Hp.out);clear hgk hk;go_wp2;go_ret;exact ⟨by rw [HR.out];rfl,Hb.out⟩
theorem containsV_calls (r:Rw) (v:Value) (f:Nat) (p:Vl->Bool) (w:World) (he:∀args w,(callFunc f args).run Tryz.prog w=.ok (.enter f args) w) (hv:ValsAt w r v) (hf:∀x∈r,∀w',Below w.heap.size w w'->Calls Tryz.prog f #[x.val] w' λ e w''=> e=.returned (.bool (p x))/\Below w'.heap.size w' w''):
 Calls Tryz.prog 43 #[v, .func (.func f) #[] #[]] w λ e w'=> e=.returned (.bool (r.any p))/\Below w.heap.size w w':=by
 have HC:=Lib.hid (indexV_calls r v f p w he hv hf);have HE:Hid (decide (0<=firstI (λ i=> p (r.getD i nullV)) r.length)=r.any p):=by
  show _=_;rw [Bool.eq_iff_iff,decide_eq_true_iff,firstI_some,List.any_eq_true];constructor
  · rintro ⟨k,hk,hp⟩
    exact ⟨r[k],List.getElem_mem hk,by simpa [List.getD,hk] using hp⟩
  · rintro ⟨x,hx,hp⟩
    obtain ⟨k,hk,rfl⟩:=List.mem_iff_getElem.1 hx;exact ⟨k,hk,by simpa [List.getD,hk] using hp⟩
 clear hv hf;go_enter Tryz.func43,Tryz.ntmps43;go_wp2_with fail;(with_reducible refine HC.out.mono ?_);rintro e w1 ⟨rfl,hb⟩;have Hb:=Lib.hid hb;clear hb HC;generalize firstI (λ i=> p (r.getD i nullV)) r.length=z at *;go_wp2;go_ret;exact ⟨by rw [<-HE.out];rfl,Hb.out⟩
theorem storable1_calls (v:Vl) (w:World) (hs:v.text.size<=maxLen):Calls Tryz.prog 93 #[v.val] w λ e w'=> e=.returned (.bool (!okV v))/\Below w.heap.size w w':=by
 have HC:=Lib.hid (valid_calls v (w.alloc (.cells #[.int .i64 v.kind, .int .i64 v.int, .string v.text] 29)) hs);have HB:=Lib.hid ((Below.refl _ w).alloc (Nat.le_refl _) (.cells #[.int .i64 v.kind, .int .i64 v.int, .string v.text] 29));unfold Vl.val at *;generalize okV v=q at *;clear hs;go_enter Tryz.func93,Tryz.ntmps93;go_wp2_with fail;(with_reducible refine HC.out.mono ?_);rintro e w1 ⟨rfl,hb⟩;have Hb:=Lib.hid (HB.out.trans (hb.mono HB.out.size));clear hb HC;go_wp2;go_ret;exact ⟨rfl,Hb.out⟩
def storB (cols:Nat) (r:Rw):Bool:=decide (r.length=cols) && r.all okV
theorem storable_calls (S cols:Nat) (r:Rw) (v:Value) (w:World) (hc:w.cell? ⟨S,0,none⟩=some (.int .i64 cols)) (hv:ValsAt w r v):
 Calls Tryz.prog 62 #[ptrV S,v] w λ e w'=> e=.returned (.bool (storB cols r))/\Below w.heap.size w w':=by
 have hl:=World.block_lt_of_cell? w _ hc;have HC:=Lib.hid (containsV_calls r v 93 (λ x=> !okV x) w (enters_own Tryz.func93 (by kernel_rfl) rfl) hv λ x hx w' hb=> storable1_calls x w' (hv.txt x hx));obtain ⟨a,n,cc,rfl,hn,hm⟩:=hv.shape;have hq:r.any (λ x=> !okV x)=!r.all okV:=by rw [List.all_eq_not_any_not,Bool.not_not]
 rw [hq] at HC;obtain ⟨q,hq'⟩:∃q,storB cols r=q:=⟨_,rfl⟩
 have HQ:Hid ((decide (n=cols) && r.all okV)=q):=by show _=_;rw [hn];exact hq'
 rw [hq'];unfold ptrV;clear hv hn hq hq' hm;generalize r.all okV=t at *;by_cases he:n=cols
 · have he':((n:Int)==cols)=true:=by simp [he]
   have HE:=Lib.hid he;clear he;go_enter Tryz.func62,Tryz.ntmps62;go_wp2_with fail;(with_reducible refine HC.out.mono ?_);rintro e w1 ⟨rfl,hb⟩;have Hb:=Lib.hid hb;clear hb HC;go_wp2;go_ret;exact ⟨by rw [<-HQ.out];simp [HE.out],Hb.out⟩
 · have he':((n:Int)==cols)=false:=by simp;omega
   have HE:=Lib.hid he;clear he;go_enter Tryz.func62,Tryz.ntmps62;go_wp2;go_ret;exact ⟨by rw [<-HQ.out];simp [HE.out],Below.refl _ _⟩
theorem equalI_calls (l m:List Int) (v u:Value) (w:World) (hv:IntsX [] w l v) (hu:IntsX [] w m u):Calls Tryz.prog 87 #[v,u] w λ e w'=> e=.returned (.bool (decide (l=m)))/\Below w.heap.size w w':=by
 obtain ⟨a,n,c,rfl,hn,hnm⟩:=hv.shape;obtain ⟨a2,n2,c2,rfl,hn2,hnm2⟩:=hu.shape;have HV:=Lib.hid hv;have HU:=Lib.hid hu;have HN:=Lib.hid hn;have HN2:=Lib.hid hn2;have hb1:n<=9223372036854775807:=by unfold maxLen at hnm;omega
 obtain ⟨q,hq⟩:∃q,decide (l=m)=q:=⟨_,rfl⟩
 have HQ:=Lib.hid hq;rw [hq];clear hv hu hnm hnm2 hq;by_cases he:n=n2
 · have he':((n:Int) !=n2)=false:=by simp [he]
   have HE:Hid (l.drop 0=m.drop 0↔l=m):=by show _↔_;simp
   clear hn hn2;subst he;have he':((n:Int) !=n)=false:=by simp
   go_enter Tryz.func87,Tryz.ntmps87;go_wp2;go_loopg [13] n (λ g z wr=> ∃k:Nat,z=.int .i64 k/\g+k=n/\Hid (l.drop k=m.drop k↔l=m)/\Hid (Below w.heap.size w wr))
   case atStart=> exact ⟨0,rfl,rfl,HE,Below.refl _ _⟩
   case round=>
    clear HE;obtain ⟨k,rfl,hgk,He,Hb⟩:=hrel;by_cases hk:k < n
    · have hkl:k < l.length:=by rw [<-HN.out];exact hk
      have hkm:k < m.length:=by rw [<-HN2.out];exact hk
      obtain ⟨b,o,rfl⟩:=HV.out.has k hk;obtain ⟨b2,o2,rfl⟩:=HU.out.has k hk;have c1:=(HV.out.mono Hb.out).cell k hkl;have c2:=(HU.out.mono Hb.out).cell k hkm;have hl1:=World.block_lt_of_cell? wr _ c1;have hl2:=World.block_lt_of_cell? wr _ c2;have hk':(k:Int) < n:=by omega
      have HD:Hid (l.drop k=m.drop k↔l[k]=m[k]/\l.drop (k+1)=m.drop (k+1)):=by show _↔_;rw [List.drop_eq_getElem_cons hkl,List.drop_eq_getElem_cons hkm,List.cons.injEq]
      have Hgk:=Lib.hid hgk;clear hgk;generalize l[k]=x at *;generalize m[k]=y at *;clear hkl hkm;by_cases hxy:x=y
      · subst hxy
        have hne:(x !=x)=false:=by simp
        go_upto_region 6 with (fail)
        go_region;go_wp2;go_roundg (gk - 1)
        case rel=> exact ⟨k+1,by go_num,by have:=Hgk.out;omega,(by show _↔_;rw [<-He.out,HD.out];simp),Below.drew Hb.out⟩
        case measure=> have:=Hgk.out;omega
      · have hne:(x !=y)=true:=by simp [hxy]
        have HX:=Lib.hid hxy;clear hxy;go_upto_region 6 with (fail)
        go_region;go_wp2;go_ret;refine ⟨?_,Below.drew Hb.out⟩;have:¬ l=m:=λ h=> HX.out (HD.out.1 (He.out.2 h)).1;rw [<-HQ.out,decide_eq_false this];rfl
    · obtain rfl:k=n:=by omega
      have HR:Hid (l=m):=by refine He.out.1 ?_;rw [List.drop_of_length_le (by rw [<-HN.out];exact Nat.le_refl _),List.drop_of_length_le (by rw [<-HN2.out];exact Nat.le_refl _)]
      clear hgk hk;go_wp2;go_ret;refine ⟨?_,Hb.out⟩;rw [<-HQ.out,decide_eq_true HR.out];rfl
 · have he':((n:Int) !=n2)=true:=by simp;omega
   have HNE:Hid (¬ l=m):=by intro h;apply he;rw [hn,hn2,h]
   clear he hn hn2;go_enter Tryz.func87,Tryz.ntmps87;go_wp2;go_ret;refine ⟨?_,Below.refl _ _⟩;rw [<-HQ.out,decide_eq_false HNE.out];rfl
theorem find1_calls (cs ds:List Int) (cv kp dv:Value) (p:Nat) (w:World) (hc:IntsX [] w cs cv) (hp:w.cell? ⟨p,0,none⟩=some dv) (hd:IntsX [] w ds dv):
 Calls Tryz.prog 86 #[.agg #[cv,kp], .pointer (some ⟨p,0,none⟩)] w λ e w'=> e=.returned (.bool (decide (cs=ds)))/\Below w.heap.size w w':=by
 have hb:Below w.heap.size w (w.alloc (.cells #[cv,kp] 97)):=(Below.refl _ _).alloc (Nat.le_refl _) _;have HC:=Lib.hid (equalI_calls cs ds cv dv _ (hc.mono hb) (hd.mono hb));have Hb:=Lib.hid hb;have hpl:=World.block_lt_of_cell? w _ hp;obtain ⟨a,n,c,rfl, -⟩:=hc.shape;obtain ⟨a2,n2,c2,rfl, -⟩:=hd.shape;clear hc hd hb;go_enter Tryz.func86,Tryz.ntmps86;go_wp2_with fail;(with_reducible refine HC.out.mono ?_);rintro e w1 ⟨rfl,hb1⟩;have Hb1:=Lib.hid (Hb.out.trans (hb1.mono Hb.out.size));clear hb1 HC;go_wp2;go_ret;exact ⟨rfl,Hb1.out⟩
theorem ixV_at (ixs:List Ix) (k:Nat) (hk:k < ixs.length):(ixV ixs)[k * 2]? =some ixs[k].cv/\(ixV ixs)[k * 2+1]? =some (ptrV ixs[k].kb):=by
 induction ixs generalizing k with
 | nil=> simp at hk
 | cons x l ih=>
  have e:ixV (x::l)=x.cv::ptrV x.kb::ixV l:=rfl;cases k with
  | zero=> exact ⟨rfl,rfl⟩
  | succ k=>
   have:=ih k (by simpa using hk);rw [e,show (k+1) * 2=k * 2+1+1 by omega,show k * 2+1+1+1=(k * 2+1)+1+1 by omega];simpa using this
theorem ixV_len (ixs:List Ix):(ixV ixs).length=ixs.length * 2:=by
 induction ixs with
 | nil=> rfl
 | cons x l ih=> simp only [ixV,List.flatMap_cons,List.length_append,List.length_cons,List.length_nil] at ih ⊢;omega
theorem ix_cells {X:List Nat} {w:World} {ixs:List Ix} {v:Value} (h:SlX X w 2 ixs.length (ixV ixs) v) (k:Nat) (hk:k < ixs.length):∃b o c,v=.slice (some ⟨b,o,none⟩) ixs.length c/\w.cell? ⟨b,o+k * 2,none⟩=some ixs[k].cv/\w.cell? ⟨b,o+k * 2+1,none⟩=some (ptrV ixs[k].kb):=by
 obtain ⟨a,c,rfl⟩:=h.shape;obtain ⟨b,o,rfl, -⟩:=h.has (by rw [ixV_len];omega);obtain ⟨e1,e2⟩:=ixV_at ixs k hk;obtain ⟨l1,f1⟩:=List.getElem?_eq_some_iff.1 e1;obtain ⟨l2,f2⟩:=List.getElem?_eq_some_iff.1 e2;refine ⟨b,o,c,rfl,?_,?_⟩
 · rw [h.cell _ l1,f1]
 · rw [Nat.add_assoc,h.cell _ l2,f2]
theorem indexX_calls (ixs:List Ix) (v:Value) (f:Nat) (c:Value) (p:Ix->Bool) (w:World) (he:∀args w,(callFunc f args).run Tryz.prog w=.ok (.enter f args) w) (hv:SlX [] w 2 ixs.length (ixV ixs) v) (hf:∀x∈ixs,∀w',Below w.heap.size w w'->Calls Tryz.prog f #[.agg #[x.cv,ptrV x.kb],c] w' λ e w''=> e=.returned (.bool (p x))/\Below w'.heap.size w' w''):
 Calls Tryz.prog 85 #[v, .func (.func f) #[] #[c]] w λ e w'=> e=.returned (.int .i64 (firstI (λ i=> (ixs[i]?).any p) ixs.length))/\Below w.heap.size w w':=by
 obtain ⟨a,cc,rfl⟩:=hv.shape;obtain ⟨n,hn⟩:∃n,ixs.length=n:=⟨_,rfl⟩
 have HV:=Lib.hid hv;have HN:=Lib.hid hn;have HF:=Lib.hid hf;have hm2:n<=9223372036854775807:=by have:=hv.1;unfold maxLen at this;omega
 rw [hn];clear hv hn hf;go_enter Tryz.func85,Tryz.ntmps85;go_wp2;go_loopg [8] n (λ g z wr=> ∃k:Nat,z=.int .i64 k/\g+k=n/\Hid (∀j,j < k->(ixs[j]?).any p=false)/\Hid (Below w.heap.size w wr))
 case atStart=> exact ⟨0,rfl,rfl,λ j hj=> absurd hj (Nat.not_lt_zero j),Below.refl _ _⟩
 case round=>
  obtain ⟨k,rfl,hgk,Hp,Hb⟩:=hrel;by_cases hk:k < n
  · have hkl:k < ixs.length:=by rw [HN.out];exact hk
    obtain ⟨b,o,c',e1,c1,c2⟩:=ix_cells (HV.out.mono Hb.out) k hkl;obtain ⟨rfl, -,rfl⟩:=Value.slice.inj e1;have hlt:=World.block_lt_of_cell? wr _ c1;have hk':(k:Int) < n:=by omega
    have HC:=Lib.hid (HF.out ixs[k] (List.getElem_mem hkl) wr Hb.out);have hget:ixs[k]? =some ixs[k]:=List.getElem?_eq_getElem hkl;have Hget:=Lib.hid hget;have Hgk:=Lib.hid hgk;have Hk:=Lib.hid hk;clear hget hgk e1;generalize ixs[k]=x at *;clear hkl;unfold ptrV at *;cases hq:p x
    · rw [hq] at HC
      have Hq:=Lib.hid hq;clear hq;go_wp2_with fail;(with_reducible refine HC.out.mono ?_);rintro e w1 ⟨rfl,hb1⟩;have Hb1:=Lib.hid (Hb.out.trans (hb1.mono Hb.out.size));clear hb1;go_wp2;go_roundg (gk - 1)
      case rel=>
       refine ⟨k+1,by go_num,by have:=Hgk.out;omega,λ j hj=> ?_,Hb1⟩;rcases Nat.lt_succ_iff_lt_or_eq.1 hj with h | h
       · exact Hp.out j h
       · subst h;rw [Hget.out];exact Hq.out
      case measure=> have:=Hgk.out;omega
    · rw [hq] at HC
      have Hq:=Lib.hid hq;clear hq;go_wp2_with fail;(with_reducible refine HC.out.mono ?_);rintro e w1 ⟨rfl,hb1⟩;have Hb1:=Lib.hid (Hb.out.trans (hb1.mono Hb.out.size));clear hb1;go_wp2;go_ret;exact ⟨by rw [firstI_at Hk.out (by rw [Hget.out];exact Hq.out) Hp.out];rfl,Hb1.out⟩
  · obtain rfl:k=n:=by omega
    have HR:Hid (firstI (λ i=> (ixs[i]?).any p) k= -1):=firstI_none Hp.out;clear hgk hk;go_wp2;go_ret;exact ⟨by rw [HR.out];rfl,Hb.out⟩
def findIx (ixs:List Ix) (cs:List Int):Option Ix:=ixs.find? λ x=> decide (x.cs=cs)
def findV:Option Ix->Value
 | some x=> .agg #[x.cv,ptrV x.kb]
 | none=> .agg #[.slice none 0 0, .pointer none]
theorem firstI_find (ixs:List Ix) (p:Ix->Bool):(∃k x,firstI (λ i=> (ixs[i]?).any p) ixs.length=(k:Nat)/\ixs[k]? =some x/\ixs.find? p=some x)\/(firstI (λ i=> (ixs[i]?).any p) ixs.length= -1/\ixs.find? p=none):=by
 cases h:ixs.find? p with
 | none=>
  refine .inr ⟨firstI_none λ j hj=> ?_,rfl⟩;rw [List.find?_eq_none] at h;rw [List.getElem?_eq_getElem hj];simpa using h _ (List.getElem_mem hj)
 | some x=>
  refine .inl ?_;rw [List.find?_eq_some_iff_getElem] at h;obtain ⟨hp,i,hi,rfl,hl⟩:=h;refine ⟨i,ixs[i],firstI_at hi (by rw [List.getElem?_eq_getElem hi];exact hp) λ j hj=> ?_,List.getElem?_eq_getElem hi,rfl⟩;rw [List.getElem?_eq_getElem (by omega)];simpa using hl j hj
theorem sfind_calls (S:Nat) (ixs:List Ix) (iv:Value) (cs:List Int) (cv:Value) (w:World) (hi:w.cell? ⟨S,3,none⟩=some iv) (hr:SlX [] w 2 ixs.length (ixV ixs) iv) (hx:∀x∈ixs,IntsX [] w x.cs x.cv) (hc:IntsX [] w cs cv):
 Calls Tryz.prog 47 #[ptrV S,cv] w λ e w'=> e=.returned (.tuple #[findV (findIx ixs cs), .bool (findIx ixs cs).isSome])/\Below w.heap.size w w':=by
 have hb:Below w.heap.size w ((w.alloc (.cells #[cv] 22)).alloc (.cells #[.slice none 0 0, .pointer none] 97)):=((Below.refl _ _).alloc (Nat.le_refl _) _).alloc (by simp) _;have hcell:((w.alloc (.cells #[cv] 22)).alloc (.cells #[.slice none 0 0, .pointer none] 97)).cell? ⟨w.heap.size,0,none⟩=some cv:=by rw [World.cell?_alloc_lt _ _ _ (by simp)];exact World.cell?_alloc_new w _ _ 0
 have HC:=Lib.hid (indexX_calls ixs iv 86 (.pointer (some ⟨w.heap.size,0,none⟩)) (λ x=> decide (x.cs=cs)) _ (enters_own Tryz.func86 (by kernel_rfl) rfl) (hr.mono hb) λ x hx' w' hb'=> find1_calls x.cs cs x.cv (ptrV x.kb) cv w.heap.size w' ((hx x hx').mono (hb.trans (hb'.mono hb.size))) ((hb'.cell (p:=⟨w.heap.size,0,none⟩) (by simp;omega)).trans hcell) (hc.mono (hb.trans (hb'.mono hb.size))));have hsl:=World.block_lt_of_cell? w _ hi;have hi':=(hb.cell (p:=⟨S,3,none⟩) hsl).trans hi;obtain ⟨a,n,c,rfl, -⟩:=hc.shape;obtain ⟨ia,ic,rfl⟩:=hr.shape;have HR:=Lib.hid (hr.mono hb);have HXS:=Lib.hid hx;have HI:=Lib.hid hi';have Hb:=Lib.hid hb;have HV:=VarIs.new1 w (.cells #[.slice a n c] 22) #[.slice none 0 0, .pointer none] 97;obtain ⟨HV0,HV1,HV2⟩:=HV;have hf:=firstI_find ixs λ x=> decide (x.cs=cs);rw [show ixs.find? (λ x=> decide (x.cs=cs))=findIx ixs cs from rfl] at hf;generalize findIx ixs cs=fo at *;generalize firstI (λ i=> (ixs[i]?).any λ x=> decide (x.cs=cs)) ixs.length=fz at *;have HF:=Lib.hid hf;clear hf;have hle:ixs.length<=9223372036854775807:=by have:=hr.1;unfold maxLen at this;omega
 clear hi hr hx hc hb hcell;unfold ptrV;go_enter Tryz.func47,Tryz.ntmps47;go_upto_region 1 with (fail)
 generalize (w.alloc _).alloc _=W at *;have hsl2:S < W.heap.size:=by have:S < w.heap.size:=hsl;omega
 go_wp2_with fail;(with_reducible refine HC.out.mono ?_);rintro e w1 ⟨rfl,hb1⟩;have hi1:=(hb1.cell (p:=⟨S,3,none⟩) hsl2).trans hi';have HV1':∀j,w1.cell? ⟨w.heap.size+1,j,none⟩=#[Value.slice none 0 0, .pointer none][j]? :=λ j=> (hb1.cell (p:=⟨w.heap.size+1,j,none⟩) HV0).trans (HV1 j);have HV2':∀j,w1.frozen? ⟨w.heap.size+1,j,none⟩=false:=λ j=> (hb1.frozen (p:=⟨w.heap.size+1,j,none⟩) HV0).trans (HV2 j);have hvl:w.heap.size+1 < w1.heap.size:=Nat.lt_of_lt_of_le HV0 hb1.size;have Hb1:=Lib.hid (Hb.out.trans (hb1.mono Hb.out.size));have HR1:=Lib.hid (HR.out.mono hb1);obtain ⟨d0,d1⟩:w1.cell? ⟨w.heap.size+1,0,none⟩=some (.slice none 0 0)/\w1.cell? ⟨w.heap.size+1,1,none⟩=some (.pointer none):=⟨HV1' 0,HV1' 1⟩
 obtain ⟨g0,g1⟩:w1.frozen? ⟨w.heap.size+1,0,none⟩=false/\w1.frozen? ⟨w.heap.size+1,1,none⟩=false:=⟨HV2' 0,HV2' 1⟩
 clear HV1 HV2 HV1' HV2' HV0 hi' hb1 HC HI HR hsl2 hsl;have hsl1:=World.block_lt_of_cell? w1 _ hi1;rcases HF.out with ⟨k,x,rfl,e2,rfl⟩ | ⟨rfl,rfl⟩
 · obtain ⟨hk,hkx⟩:=List.getElem?_eq_some_iff.1 e2
   obtain ⟨b,o,c',e4,q1,q2⟩:=ix_cells HR1.out k hk;obtain ⟨rfl, -,rfl⟩:=Value.slice.inj e4;rw [hkx] at q1 q2;have Hkx:=Lib.hid hkx;have hkn:(k:Int) < ixs.length:=by omega
   have hql:=World.block_lt_of_cell? w1 _ q1;clear e2 hkx e4 HF;unfold ptrV at q2;obtain ⟨xa,xn,xc,hxv, -⟩:=(HXS.out x (by rw [<-Hkx.out];exact List.getElem_mem hk)).shape;rw [hxv] at q1;have Hxv:=Lib.hid hxv;have Hk:=Lib.hid hk;clear hxv;go_wp2;refine bodyPost_ret (v:=.tuple #[.agg #[.slice xa xn xc, .pointer (some ⟨x.kb,0,none⟩)], .bool true]) ?_ rfl ?_
   · clear HXS HR1
     simp [results,Tryz.results47,go_sem, *]
   · refine ⟨?_,?_⟩
     · show _=Ending.returned (.tuple #[.agg #[x.cv,ptrV x.kb], .bool true])
       rw [Hxv.out];rfl
     · exact below_set (below_set Hb1.out _ _ _ (by omega)) _ _ _ (by omega)
 · clear HF
   go_wp2;refine bodyPost_ret (v:=.tuple #[.agg #[.slice none 0 0, .pointer none], .bool false]) ?_ rfl ?_
   · clear HXS HR1
     simp [results,Tryz.results47,go_sem, *]
   · exact ⟨rfl,below_set (below_set Hb1.out _ _ _ (by omega)) _ _ _ (by omega)⟩
theorem SlX.cases {X:List Nat} {w:World} {size n:Nat} {xs:List Value} {v:Value} (h:SlX X w size n xs v) (h0:0 < size):(∃c,v=.slice none 0 c/\n=0/\xs=[])\/∃ad c,v=.slice (some ad) n c:=by
 obtain ⟨h2,h3,a,c,rfl,h4⟩:=h;cases a with
 | some ad=> exact .inr ⟨ad,c,rfl⟩
 | none=>
  have hn:n=0:=by
   apply Classical.byContradiction;intro hne;have hp:0 < xs.length:=by rw [h3];exact Nat.mul_pos (by omega) h0
   obtain ⟨b,o,e1,_⟩:=h4 0 hp;cases e1
  subst hn;exact .inl ⟨c,rfl,rfl,List.eq_nil_of_length_eq_zero (by rw [h3,Nat.zero_mul])⟩
theorem appI:AppSrc Tryz.prog 22 22 3 1:=appSrc (z:=.int .i64 0) (bytes:=8) (by kernel_rfl) (by kernel_rfl) rfl (by decide) (by decide)
theorem cloneI (xs:List Value) (n:Nat) (v:Value) (w:World) (hs:SlX [] w 1 n xs v) (h1:∀u∈xs,u.oneCell'=true) (hlen:n < 1099511627776):
 Calls Tryz.prog 36 #[v] w λ e w'=> ∃v' f',e=.returned v'/\(rowA 3 1 v' n xs).p w' f'/\Below w.heap.size w w'/\∀k∈f',w.heap.size<=k:=by
 rcases hs.cases (by decide) with ⟨c,rfl,rfl,rfl⟩ | ⟨ad,c,rfl⟩
 · have hnil:=λ w'=> Lib.run_eql_slice_nil (P:=Tryz.prog) w' 22 3 none 0 c 0 0 Tryz.underlying22
   simp only [Option.isNone_none] at hnil;clear hs hlen h1;go_enter Tryz.func36,Tryz.ntmps36;go_wp2;go_ret;exact ⟨_,[],rfl,row_nil _ _ _,Below.refl _ _,by simp⟩
 · have hb0:Below w.heap.size w (w.alloc (.cells #[] 3)):=(Below.refl _ _).alloc (Nat.le_refl _) _
   have hrow:(rowA 3 1 (.slice (some ⟨w.heap.size,0,none⟩) 0 0) 0 []).p (w.alloc (.cells #[] 3)) [w.heap.size]:=by have h:=World.ownsRow_lit (base:=0) (e:=3) (size:=1) w #[] 0 (Nat.zero_le _) (by simp) (by simp);exact ⟨h,rfl⟩
   obtain ⟨v',w',f',hr,h2,h3⟩:=appI 22 _ _ 0 [] _ _ _ _ hrow ((hs.mono hb0).src (tx:=22) (e':=3) (by kernel_rfl) (by decide) h1) (by omega);rw [Nat.zero_add,List.nil_append] at h2;have hb:Below w.heap.size w w':=hb0.trans (h3.below (by simp) (by simp));have HO:Hid ((rowA 3 1 v' n xs).p w' f'/\Below w.heap.size w w'/\∀k∈f',w.heap.size<=k):=by
    refine ⟨h2,hb,λ k hk=> ?_⟩;rcases h3.new k hk with h | h
    · rw [List.mem_singleton.1 h];exact Nat.le_refl _
    · have:=hb0.size;omega
   have hnil:=λ w'=> Lib.run_eql_slice_nil (P:=Tryz.prog) w' 22 3 (some ad) n c 0 0 Tryz.underlying22;simp only [Option.isNone_some] at hnil;have HR:=Lib.hid hr;clear hs hrow h2 h3 hb hb0 hr;go_enter Tryz.func36,Tryz.ntmps36;go_wp2_with (at_builtin;refine wpList_append_run rfl _ _ _ rfl rfl rfl HR.out ?_);go_ret;exact ⟨_,_,rfl,HO.out⟩
theorem appW:AppSrc Tryz.prog 27 27 29 3:=appSrc (z:=.agg #[.int .i64 0, .int .i64 0, .string ⟨#[]⟩]) (bytes:=32) (by kernel_rfl) (by kernel_rfl) rfl (by decide) (by decide)
theorem cloneW (xs:List Value) (n:Nat) (v:Value) (w:World) (hs:SlX [] w 3 n xs v) (h1:∀u∈xs,u.oneCell'=true) (hlen:n < 1099511627776):
 Calls Tryz.prog 37 #[v] w λ e w'=> ∃v' f',e=.returned v'/\(rowA 29 3 v' n xs).p w' f'/\Below w.heap.size w w'/\∀k∈f',w.heap.size<=k:=by
 rcases hs.cases (by decide) with ⟨c,rfl,rfl,rfl⟩ | ⟨ad,c,rfl⟩
 · have hnil:=λ w'=> Lib.run_eql_slice_nil (P:=Tryz.prog) w' 27 29 none 0 c 0 0 Tryz.underlying27
   simp only [Option.isNone_none] at hnil;clear hs hlen h1;go_enter Tryz.func37,Tryz.ntmps37;go_wp2;go_ret;exact ⟨_,[],rfl,row_nil _ _ _,Below.refl _ _,by simp⟩
 · have hb0:Below w.heap.size w (w.alloc (.cells #[] 29)):=(Below.refl _ _).alloc (Nat.le_refl _) _
   have hrow:(rowA 29 3 (.slice (some ⟨w.heap.size,0,none⟩) 0 0) 0 []).p (w.alloc (.cells #[] 29)) [w.heap.size]:=by have h:=World.ownsRow_lit (base:=0) (e:=29) (size:=3) w #[] 0 (Nat.zero_le _) (by simp) (by simp);exact ⟨h,rfl⟩
   obtain ⟨v',w',f',hr,h2,h3⟩:=appW 27 _ _ 0 [] _ _ _ _ hrow ((hs.mono hb0).src (tx:=27) (e':=29) (by kernel_rfl) (by decide) h1) (by omega);rw [Nat.zero_add,List.nil_append] at h2;have hb:Below w.heap.size w w':=hb0.trans (h3.below (by simp) (by simp));have HO:Hid ((rowA 29 3 v' n xs).p w' f'/\Below w.heap.size w w'/\∀k∈f',w.heap.size<=k):=by
    refine ⟨h2,hb,λ k hk=> ?_⟩;rcases h3.new k hk with h | h
    · rw [List.mem_singleton.1 h];exact Nat.le_refl _
    · have:=hb0.size;omega
   have hnil:=λ w'=> Lib.run_eql_slice_nil (P:=Tryz.prog) w' 27 29 (some ad) n c 0 0 Tryz.underlying27;simp only [Option.isNone_some] at hnil;have HR:=Lib.hid hr;clear hs hrow h2 h3 hb hb0 hr;go_enter Tryz.func37,Tryz.ntmps37;go_wp2_with (at_builtin;refine wpList_append_run rfl _ _ _ rfl rfl rfl HR.out ?_);go_ret;exact ⟨_,_,rfl,HO.out⟩
theorem Next_calls {S cols:Nat} {I:List (List Int)} {L:LL} {next:Int} {w:World} {f:List Nat} (h:(storeA S cols I L next).p w f):
 Calls Tryz.prog 28 #[ptrV S] w λ e w'=> e=.returned (.int .i64 next)/\w=w':=by
 obtain ⟨s,hs⟩:=h;obtain ⟨_,⟨hok, -⟩, -⟩:=Star.get 0 rfl (show Star w (pureA (s.Ok cols I L next)::stoL S s) f from hs);obtain ⟨_,hb, -⟩:=Star.get 1 rfl (show Star w (pureA (s.Ok cols I L next)::stoL S s) f from hs);have c2:=(blk_get hb).1 2;have hl:=(blk_get hb).2.2;simp only [List.getElem?_toArray,List.getElem?_cons_zero,List.getElem?_cons_succ] at c2;rw [hok.enext] at c2;clear hs hok hb;unfold ptrV;go_enter Tryz.func28,Tryz.ntmps28;go_wp2;go_ret;exact ⟨rfl,rfl⟩
theorem SLen_calls {S cols:Nat} {I:List (List Int)} {L:LL} {next:Int} {w:World} {f:List Nat} (h:(storeA S cols I L next).p w f):
 Calls Tryz.prog 30 #[ptrV S] w λ e w'=> e=.returned (.int .i64 L.length)/\w=w':=by
 obtain ⟨s,hs⟩:=h;have hs':Star w (pureA (s.Ok cols I L next)::stoL S s) f:=hs;obtain ⟨_,⟨hok, -⟩, -⟩:=Star.get 0 rfl hs';obtain ⟨_,hb, -⟩:=Star.get 1 rfl hs';obtain ⟨_,ho, -⟩:=Star.get 2 rfl hs';have HC:=Lib.hid (Len_calls s.tb w ho);have hl:(reM s.es).length=L.length:=by rw [<-hok.rows];simp [reM,reL]
 rw [hl] at HC;have c1:=(blk_get hb).1 1;have hbl:=(blk_get hb).2.2;simp only [List.getElem?_toArray,List.getElem?_cons_zero,List.getElem?_cons_succ] at c1;clear hs hok hb hs' ho hl;unfold ptrV at *;go_enter Tryz.func30,Tryz.ntmps30;go_wp2_with fail;(with_reducible refine HC.out.mono ?_);rintro e w1 ⟨rfl,rfl⟩;clear HC;go_wp2;go_ret;exact ⟨rfl,rfl⟩
theorem find_reL (es:List Re) (k:Int):getL (reL es) k=(es.find? λ e=> e.id==k).map (·.r):=by
 induction es with
 | nil=> rfl
 | cons x es ih=>
  unfold getL at ih ⊢;rw [reL_cons,List.find?_cons,List.find?_cons];cases h:(x.id==k)
  · exact ih
  · rfl
theorem re_at {w:World} {f:List Nat} {S cols:Nat} {I:List (List Int)} {L:LL} {next:Int} {s:Sto} (hok:s.Ok cols I L next) (h:Star w (stoL S s) f) {e:Re} (he:e∈s.es):ValsAt w e.r (encV e.va):=by
 obtain ⟨i,hi,rfl⟩:=List.mem_iff_getElem.1 he;obtain ⟨g,hg, -⟩:=Star.get (i+3) (A:=reA s.es[i]) (by show (blkA _ _ _::_::_::(s.es.map reA++s.ixs.map ixA))[i+3]? =_;simp only [List.getElem?_cons_succ];rw [List.getElem?_append_left (by simpa using hi),List.getElem?_map,List.getElem?_eq_getElem hi];rfl) h;refine ⟨SlX.of_row hg (by rw [length_flat]) (by simp),λ x hx=> ?_⟩;have hm:(s.es[i].id,s.es[i].r)∈L:=by rw [<-hok.rows];exact List.mem_map.2 ⟨_,List.getElem_mem hi,rfl⟩
 obtain ⟨-, -, -,h2⟩:=hok.row _ hm;obtain ⟨h3, -⟩:=h2 x hx;rcases okV_cases h3 with ⟨-, -,h⟩ | ⟨-,h⟩ | ⟨-, -, -,h⟩
 · rw [h];exact Nat.zero_le _
 · rw [h];exact Nat.zero_le _
 · unfold maxLen;omega
theorem St.star_of {w0 w:World} {fp0:List Nat} {L R:List Asn} (h:St w0 fp0 (L++R) w):∃f,Star w L f:=by
 obtain ⟨fp,hs, -⟩:=h;obtain ⟨f,g,h1, -⟩:=Star.append hs;exact ⟨f,h1⟩
theorem encV_sl (e:Va) (h:∃a n c,encV e=.slice a n c):∃a n c,e=.sl a n c:=by
 cases e with
 | int n=> obtain ⟨a,n,c,h⟩:=h;cases h
 | sl a n c=> exact ⟨a,n,c,rfl⟩
theorem SGet_calls (S cols:Nat) (I:List (List Int)) (L:LL) (next id:Int) (w0 w:World) (fp0:List Nat) (R:List Asn) (hc:cols<=1000000) (hS:St w0 fp0 (storeA S cols I L next::R) w):
 Calls Tryz.prog 24 #[ptrV S, .int .i64 id] w λ e w'=> ∃v,e=.returned (.tuple #[v, .bool (getL L id).isSome])/\St w0 fp0 (rowA 29 3 v ((getL L id).getD []).length (flat ((getL L id).getD []))::storeA S cols I L next::R) w':=by
 obtain ⟨s,hok,hs⟩:=hS.openS;obtain ⟨_,hb⟩:=hs.has 0 rfl;have c1:=(blk_get hb).1 1;have hbl:=(blk_get hb).2.2;simp only [List.getElem?_toArray,List.getElem?_cons_zero,List.getElem?_cons_succ] at c1;have hG:=Get_calls (o:=16) (by omega) s.h (reM s.es) s.tb (.int id) trivial (okR s.es) w0 w fp0 _ (show St w0 fp0 (objA false 16 s.h (reM s.es) s.tb::blkA S 119 #[.int .i64 s.cols,ptrV s.tb, .int .i64 s.next,s.iv]::rowA 97 2 s.iv s.ixs.length (ixV s.ixs)::(s.es.map reA++s.ixs.map ixA)++R) w from hs.perm (List.Perm.swap _ _ _));rw [getM_reM] at hG;have hL:getL L id=(s.es.find? λ e=> e.id==id).map (·.r):=by rw [<-hok.rows,find_reL]
 rw [hL];obtain ⟨o,ho⟩:∃o,s.es.find? (λ e=> e.id==id)=o:=⟨_,rfl⟩
 rw [ho] at hG ⊢;simp only [Option.isSome_map] at hG ⊢;have HM:Hid (∀e,o=some e->e∈s.es/\(e.id,e.r)∈L):=λ e he=> by have h1:=List.mem_of_find?_eq_some (ho.trans he);exact ⟨h1,by rw [<-hok.rows];exact List.mem_map.2 ⟨_,h1,rfl⟩⟩
 have HG:=Lib.hid hG;have HOK:=Lib.hid hok;clear hS hs hb hG hok ho hL;obtain ⟨vv,hvv⟩:∃vv,encV ((o.map (·.va)).getD (va0 false))=vv:=⟨_,rfl⟩
 have HVV:=Lib.hid hvv;dsimp only [fGet,encK] at HG;rw [hvv] at HG;clear hvv;obtain ⟨rr,hrr⟩:∃rr,(o.map (·.r)).getD []=rr:=⟨_,rfl⟩
 have HRR:=Lib.hid hrr;rw [hrr];clear hrr;obtain ⟨q,hq⟩:∃q,o.isSome=q:=⟨_,rfl⟩
 rw [hq] at HG ⊢;clear hq;unfold ptrV at *;go_enter Tryz.func24,Tryz.ntmps24;go_wp2_with fail;(with_reducible refine HG.out.mono ?_);rintro e w1 ⟨rfl,h1⟩;have h2:St w0 fp0 (stoL S s++R) w1:=h1.perm (List.Perm.swap _ _ _);have hv:ValsAt w1 rr vv:=by
  obtain ⟨f,hf⟩:=h2.star_of;cases o with
  | none=>
   have e1:vv=.slice none 0 0:=HVV.out.symm;have e2:rr=[]:=HRR.out.symm;rw [e1,e2];exact ValsX.nil _ _ _ _
  | some e=>
   have e1:vv=encV e.va:=HVV.out.symm;have e2:rr=e.r:=HRR.out.symm;rw [e1,e2];exact re_at HOK.out hf (HM.out e rfl).1
 have hlen:rr.length<=1000000:=by
  cases o with
  | none=> rw [show rr=[] from HRR.out.symm];simp
  | some e=>
   rw [show rr=e.r from HRR.out.symm,(HOK.out.row _ (HM.out e rfl).2).2.2.1];exact hc
 have HC:=Lib.hid (cloneW (flat rr) rr.length vv w1 hv.1 (one_flat _) (by omega));have H2:=Lib.hid h2;clear h1 h2 hv hlen HG;go_wp2_with fail;(with_reducible refine HC.out.mono ?_);rintro e w2 ⟨v',f',rfl,h3,h4,h5⟩;have H3:Hid (St w0 fp0 (rowA 29 3 v' rr.length (flat rr)::storeA S cols I L next::R) w2):=by have h6:=St.shutS HOK.out (H2.out.mono h4);have h7:St w0 fp0 ((stoL S s++R)++[rowA 29 3 v' rr.length (flat rr)]) w2:=H2.out.add h4 h3 h5;have h8:St w0 fp0 (stoL S s++(rowA 29 3 v' rr.length (flat rr)::R)) w2:=h7.perm (by rw [List.append_assoc];exact List.Perm.append_left _ List.perm_append_comm);exact (St.shutS HOK.out h8).perm (List.Perm.swap _ _ _)
 clear h3 h4 h5 HC H2;go_wp2;refine bodyPost_ret (v:=.tuple #[v', .bool q]) (by simp [results,Tryz.results24,go_sem]) rfl ?_;exact ⟨_,rfl,H3.out⟩
def gSd7 (vb kb:Nat) (cv rv:Value) (kk:ByteArray) (id:Int) (O O2:Asn):=rgx Tryz.prog Tryz.f21 7 42 [30,31,32,33,34,35,36,37,38,39] [(1, .int .i64 id),(6,rv),(9,pV vb 0)] (Vq 0 30 [Kp vb 1,Kp kb 0,Kv rv,Kp vb 0,Kv cv,Kv (.string kk),Kv (.int .i64 id),Kv (.string (textOf (numL id))),Kv (.string (kk++textOf (numL id)))]) [.gen [9] [] λ L _g=> match L 9 with | true=> O2 | false=> O,Bk vb (97) [cv,pV kb 0]]
theorem rSd7 (vb kb:Nat) (cv rv:Value) (kk:ByteArray) (id:Int) (O O2:Asn) (w0:World) (fp0:List Nat) (R:List Asn) (hkey:∀(L:List Asn) (w:World),St w0 fp0 (L++R) w->Calls Tryz.prog 65 #[rv,cv] w λ e w2=> e=.returned (.string kk)/\Below w.heap.size w w2) (hn:I64 id) (hl:kk.size < 1000000000000) (hdel:∀(L:List Asn) (w:World),St w0 fp0 (O::L) w->Calls Tryz.prog 68 #[.pointer (some ⟨kb,0,none⟩), .string (kk++textOf (numL id))] w λ e w2=> (∃v,e=.returned v)/\St w0 fp0 (O2::L) w2) {w:World} {c:Code} {a:Act} {Q:Exit->Act->World->Prop} (c1:isReg c=true) (c2:cops c=opsR Tryz.f21 7) (c3:a.tmps.size=42) (_c4:a.defers=a.defers) (i1:a.eval (.tmp 1)=.int .i64 id) (i6:a.eval (.tmp 6)=rv) (i9:a.eval (.tmp 9)=.pointer (some ⟨vb,0,none⟩))
 (hS:St w0 fp0 ([O,blkA vb (97) #[cv, .pointer (some ⟨kb,0,none⟩)]]++R) w)
 (hQ:∀(u39:Value) (w1:World),St w0 fp0 ([O2,blkA vb (97) #[cv, .pointer (some ⟨kb,0,none⟩)]]++R) w1->Q .normal (putL a [(30, .pointer (some ⟨vb,1,none⟩)),(31, .pointer (some ⟨kb,0,none⟩)),(32,rv),(33, .pointer (some ⟨vb,0,none⟩)),(34,cv),(35, .string kk),(36, .int .i64 id),(37, .string (textOf (numL id))),(38, .string (kk++textOf (numL id))),(39,u39)]) w1):c.wp Tryz.prog Q a w:=by
 have ok:(gSd7 vb kb cv rv kk id O O2 w0 fp0 R).Ok 10:=Rg.ok _ 10 [1,4,5,7,8,9] ⟨.load _ 1 1 1, .load _ 4 1 0, .callG _ 5 (λ _=> [O,blkA vb 97 #[cv, .pointer (some ⟨kb,0,none⟩)]]) (λ _ _=> [O,blkA vb 97 #[cv, .pointer (some ⟨kb,0,none⟩)]]) (λ g w h=> (hkey _ _ h).mono λ e w2 ⟨e1,hb⟩=> ⟨_,e1,rfl,h.mono hb⟩), .callG _ 7 (λ _=> [O,blkA vb 97 #[cv, .pointer (some ⟨kb,0,none⟩)]]) (λ _ _=> [O,blkA vb 97 #[cv, .pointer (some ⟨kb,0,none⟩)]]) (λ g w h=> (number_calls id hn w).mono λ e w2 ⟨e1,hb⟩=> ⟨_,e1,rfl,h.mono hb⟩), .cat _ 8 kk (textOf (numL id)) (by rw [num_size];omega), .callG _ 9 (λ _=> [O,blkA vb 97 #[cv, .pointer (some ⟨kb,0,none⟩)]]) (λ _ _=> [O2,blkA vb 97 #[cv, .pointer (some ⟨kb,0,none⟩)]]) (λ g w h=> (hdel _ _ h).mono λ e w2 ⟨⟨v,e1⟩,h2⟩=> ⟨v,e1,rfl,h2⟩),trivial⟩;refine wp_regD ok (by kernel_rfl) ⟨c1,c2⟩ ⟨c3,λ p hp=> ?_⟩ hS λ A1 w1 N1 H1=> ?_
 · simp only [gSd7,rgx,List.map_nil,List.append_nil,List.mem_cons,List.not_mem_nil,or_false] at hp
   rcases hp with rfl | rfl | rfl
   · exact i1
   · exact i6
   · exact i9
 exact N1.fin [39] (hQ (slots A1 39) w1 H1) (by kernel_rfl)
def gSp9 (vb kb:Nat) (cv rv:Value) (kk:ByteArray) (id:Int) (O O2:Asn):=rgx Tryz.prog Tryz.f20 9 64 [42,43,44,45,46,47,48,49,50,51,52] [(1, .int .i64 id),(2,rv),(8,pV vb 0)] (Vq 0 42 [Kp vb 1,Kp kb 0,Kv rv,Kp vb 0,Kv cv,Kv (.string kk),Kv (.int .i64 id),Kv (.string (textOf (numL id))),Kv (.string (kk++textOf (numL id))),Kv (.int .i64 id)]) [.gen [10] [] λ L _g=> match L 10 with | true=> O2 | false=> O,Bk vb (97) [cv,pV kb 0]]
theorem rSp9 (vb kb:Nat) (cv rv:Value) (kk:ByteArray) (id:Int) (O O2:Asn) (w0:World) (fp0:List Nat) (R:List Asn) (hkey:∀(L:List Asn) (w:World),St w0 fp0 (L++R) w->Calls Tryz.prog 65 #[rv,cv] w λ e w2=> e=.returned (.string kk)/\Below w.heap.size w w2) (hn:I64 id) (hl:kk.size < 1000000000000) (hdel:∀(L:List Asn) (w:World),St w0 fp0 (O::L) w->Calls Tryz.prog 64 #[.pointer (some ⟨kb,0,none⟩), .string (kk++textOf (numL id)), .int .i64 id] w λ e w2=> (∃v,e=.returned v)/\St w0 fp0 (O2::L) w2) {w:World} {c:Code} {a:Act} {Q:Exit->Act->World->Prop} (c1:isReg c=true) (c2:cops c=opsR Tryz.f20 9) (c3:a.tmps.size=64) (_c4:a.defers=a.defers) (i1:a.eval (.tmp 1)=.int .i64 id) (i2:a.eval (.tmp 2)=rv) (i8:a.eval (.tmp 8)=.pointer (some ⟨vb,0,none⟩))
 (hS:St w0 fp0 ([O,blkA vb (97) #[cv, .pointer (some ⟨kb,0,none⟩)]]++R) w)
 (hQ:∀(u52:Value) (w1:World),St w0 fp0 ([O2,blkA vb (97) #[cv, .pointer (some ⟨kb,0,none⟩)]]++R) w1->Q .normal (putL a [(42, .pointer (some ⟨vb,1,none⟩)),(43, .pointer (some ⟨kb,0,none⟩)),(44,rv),(45, .pointer (some ⟨vb,0,none⟩)),(46,cv),(47, .string kk),(48, .int .i64 id),(49, .string (textOf (numL id))),(50, .string (kk++textOf (numL id))),(51, .int .i64 id),(52,u52)]) w1):c.wp Tryz.prog Q a w:=by
 have ok:(gSp9 vb kb cv rv kk id O O2 w0 fp0 R).Ok 11:=Rg.ok _ 11 [1,4,5,7,8,10] ⟨.load _ 1 1 1, .load _ 4 1 0, .callG _ 5 (λ _=> [O,blkA vb 97 #[cv, .pointer (some ⟨kb,0,none⟩)]]) (λ _ _=> [O,blkA vb 97 #[cv, .pointer (some ⟨kb,0,none⟩)]]) (λ g w h=> (hkey _ _ h).mono λ e w2 ⟨e1,hb⟩=> ⟨_,e1,rfl,h.mono hb⟩), .callG _ 7 (λ _=> [O,blkA vb 97 #[cv, .pointer (some ⟨kb,0,none⟩)]]) (λ _ _=> [O,blkA vb 97 #[cv, .pointer (some ⟨kb,0,none⟩)]]) (λ g w h=> (number_calls id hn w).mono λ e w2 ⟨e1,hb⟩=> ⟨_,e1,rfl,h.mono hb⟩), .cat _ 8 kk (textOf (numL id)) (by rw [num_size];omega), .callG _ 10 (λ _=> [O,blkA vb 97 #[cv, .pointer (some ⟨kb,0,none⟩)]]) (λ _ _=> [O2,blkA vb 97 #[cv, .pointer (some ⟨kb,0,none⟩)]]) (λ g w h=> (hdel _ _ h).mono λ e w2 ⟨⟨v,e1⟩,h2⟩=> ⟨v,e1,rfl,h2⟩),trivial⟩;refine wp_regD ok (by kernel_rfl) ⟨c1,c2⟩ ⟨c3,λ p hp=> ?_⟩ hS λ A1 w1 N1 H1=> ?_
 · simp only [gSp9,rgx,List.map_nil,List.append_nil,List.mem_cons,List.not_mem_nil,or_false] at hp
   rcases hp with rfl | rfl | rfl
   · exact i1
   · exact i2
   · exact i8
 exact N1.fin [52] (hQ (slots A1 52) w1 H1) (by kernel_rfl)
theorem St.exI {α:Type} {w0 w:World} {fp0:List Nat} {L:List Asn} {F:α->Asn} (a:α) (h:St w0 fp0 (F a::L) w):St w0 fp0 (exA F::L) w:=
 St.fold (L1:=[F a]) h λ f hf=> ⟨a,by obtain ⟨f1,g1,h1,h2,_,rfl⟩:=hf;rw [show g1=[] from h2,List.append_nil];exact h1⟩
theorem St.exE {α:Type} {w0 w:World} {fp0:List Nat} {L:List Asn} {F:α->Asn} (h:St w0 fp0 (exA F::L) w):∃a,St w0 fp0 (F a::L) w:=by
 obtain ⟨a,ha⟩:=h.unfold (L1:=λ a=> [F a]) λ f ⟨a,ha⟩=> ⟨a,f,[],ha,rfl,by simp,by simp⟩
 exact ⟨a,ha⟩
theorem obj_asc {β:Bool} {w0 w:World} {fp0:List Nat} {R:List Asn} {o h tb:Nat} {l:MM} (hs:St w0 fp0 (objA β o h l tb::R) w):AscM l:=by
 obtain ⟨x,rb,⟨_,g2,g3⟩,_⟩:=hs.openOT;rw [<-g3];exact g2
structure UpIx (f:List Int->MM->MM) (x y:Ix):Prop where
 cv:y.cv=x.cv
 cs:y.cs=x.cs
 kb:y.kb=x.kb
 km:y.km=f x.cs x.km
inductive UpTo (f:List Int->MM->MM):List Ix->List Ix->Prop
 | nil:UpTo f [] []
 | cons {x y:Ix} {xs ys:List Ix}:UpIx f x y->UpTo f xs ys->UpTo f (x::xs) (y::ys)
theorem upTo_V {f:List Int->MM->MM} {xs ys:List Ix} (h:UpTo f xs ys):ixV ys=ixV xs/\ys.length=xs.length:=by
 induction h with
 | nil=> exact ⟨rfl,rfl⟩
 | cons h1 h2 ih=>
  simp only [ixV,List.flatMap_cons] at ih ⊢;exact ⟨by rw [h1.cv,h1.kb,ih.1],by simp [ih.2]⟩
theorem upTo_cs {f:List Int->MM->MM} {xs ys:List Ix} (h:UpTo f xs ys):ys.map (·.cs)=xs.map (·.cs):=by
 induction h with
 | nil=> rfl
 | cons h1 h2 ih=> rw [List.map_cons,List.map_cons,h1.cs,ih]
theorem upTo_mem {f:List Int->MM->MM} {xs ys:List Ix} (h:UpTo f xs ys) {y:Ix} (hy:y∈ys):∃x∈xs,UpIx f x y:=by
 induction h with
 | nil=> cases hy
 | cons h1 h2 ih=>
  rcases List.mem_cons.1 hy with rfl | hy
  · exact ⟨_,by simp,h1⟩
  · obtain ⟨x,hx,h3⟩:=ih hy
    exact ⟨x,by simp [hx],h3⟩
theorem upTo_snoc {f:List Int->MM->MM} {xs ys:List Ix} (h:UpTo f xs ys) {x y:Ix} (h1:UpIx f x y):UpTo f (xs++[x]) (ys++[y]):=by
 induction h with
 | nil=> exact .cons h1 .nil
 | cons h2 _ ih=> exact .cons h2 ih
def stoH (S:Nat) (s:Sto) (n:Nat) (V:List Value) (ys:List Ix) (rest:List Ix):List Asn:=
 blkA S 119 #[.int .i64 s.cols,ptrV s.tb, .int .i64 s.next,s.iv]::objA false 16 s.h (reM s.es) s.tb::rowA 97 2 s.iv n V::(s.es.map reA++(ys.map ixA++rest.map ixA))
theorem stoH_open {w0 w:World} {fp0:List Nat} {R:List Asn} {S:Nat} {s:Sto} {n:Nat} {V:List Value} {ys rest:List Ix} {x:Ix} (h:St w0 fp0 (stoH S s n V ys (x::rest)++R) w):St w0 fp0 (objA true 16 x.kh x.km x.kb::(slA 3 x.cv (x.cs.map intC)::(stoH S s n V ys rest++R))) w:=by
 have h1:St w0 fp0 (ixA x::(stoH S s n V ys rest++R)) w:=by refine h.perm ?_;unfold stoH;simp only [List.map_cons,List.cons_append,List.append_assoc];refine List.Perm.trans ?_ (List.perm_middle (l₁:=[blkA S 119 #[.int .i64 s.cols,ptrV s.tb, .int .i64 s.next,s.iv],objA false 16 s.h (reM s.es) s.tb,rowA 97 2 s.iv n V]));refine List.Perm.cons _ (List.Perm.cons _ (List.Perm.cons _ ?_));refine List.Perm.trans (List.Perm.append_left _ List.perm_middle) List.perm_middle
 have h2:=St.star.1 h1;exact h2.perm (List.Perm.swap _ _ _)
theorem stoH_shut {w0 w:World} {fp0:List Nat} {R:List Asn} {S:Nat} {s:Sto} {n:Nat} {V:List Value} {ys rest:List Ix} {y:Ix} (h:St w0 fp0 (objA true 16 y.kh y.km y.kb::(slA 3 y.cv (y.cs.map intC)::(stoH S s n V ys rest++R))) w):St w0 fp0 (stoH S s n V (ys++[y]) rest++R) w:=by
 have h1:St w0 fp0 (ixA y::(stoH S s n V ys rest++R)) w:=St.star.2 (h.perm (List.Perm.swap _ _ _));refine h1.perm ?_;unfold stoH;simp only [List.map_append,List.map_cons,List.map_nil,List.cons_append,List.append_assoc,List.nil_append];refine List.Perm.trans (List.perm_middle (l₁:=[blkA S 119 #[.int .i64 s.cols,ptrV s.tb, .int .i64 s.next,s.iv],objA false 16 s.h (reM s.es) s.tb,rowA 97 2 s.iv n V])).symm ?_;refine List.Perm.cons _ (List.Perm.cons _ (List.Perm.cons _ ?_));refine List.Perm.trans List.perm_middle.symm (List.Perm.append_left _ List.perm_middle.symm)
theorem row_sl {w:World} {t:TypeId} {size n:Nat} {xs:List Value} {v:Value} {f:List Nat} (h:(rowA t size v n xs).p w f) (hl:xs.length=n * size):SlX [] w size n xs v:=SlX.of_row h hl (by simp)
theorem intsX_of {w:World} {l:List Int} {v:Value} {f:List Nat} (h:(slA 3 v (l.map intC)).p w f):IntsX [] w l v:=by
 have:=SlX.of_sl (X:=[]) h (by simp);rw [List.length_map] at this;exact this
theorem St.hasM {w0 w:World} {fp0:List Nat} {L:List Asn} (h:St w0 fp0 L w) {A:Asn} (hA:A∈L):∃f,A.p w f:=by
 obtain ⟨i,hi⟩:=List.getElem?_of_mem hA;exact h.has i hi
def delK (id:Int) (r:Rw) (cs:List Int) (km:MM):MM:=delM km (.str (ixKey id r cs))
theorem RowOk.s {cols:Nat} {r:Rw} (h:RowOk cols r):RowS r:=λ v hv=> by
 obtain ⟨h1,h2⟩:=h.2 v hv;refine ⟨h2,?_⟩;rcases okV_cases h1 with ⟨-, -,h⟩ | ⟨-,h⟩ | ⟨-, -, -,h⟩
 · rw [h];exact Nat.zero_le _
 · rw [h];exact Nat.zero_le _
 · omega
theorem Sto.Ok.i64 {s:Sto} {cols:Nat} {I:List (List Int)} {L:LL} {next:Int} (h:s.Ok cols I L next):∀x∈L,I64 x.1:=AscI.i64 h.nx.2 λ x hx=> ⟨(h.row x hx).1,(h.row x hx).2.1⟩
theorem Sto.Ok.del {s:Sto} {cols:Nat} {I:List (List Int)} {L:LL} {next:Int} (h:s.Ok cols I L next) {A B:List Re} {e:Re} (he:s.es=A++e::B) (hA:∀a∈A,a.id < e.id) (hB:∀b∈B,e.id < b.id) {ys:List Ix} (hu:UpTo (delK e.id e.r) s.ixs ys) (hy:∀y∈ys,AscM y.km) (h':Nat):
 ({ s with h:=h',es:=A++B,ixs:=ys }:Sto).Ok cols I (delL e.id L) next:=by
 have hL:L=reL A++(e.id,e.r)::reL B:=by rw [<-h.rows,he,reL_append,reL_cons]
 have hm:(e.id,e.r)∈L:=by rw [hL];simp
 refine ⟨(upTo_cs hu).trans h.eixs,h.ecols,h.enext,?_,asc_delL h.asc _,h.nx,λ x hx=> h.row x (mem_delL.1 hx).1,λ y hy'=> ?_⟩
 · rw [hL,delL_split1 (reL_lt hA) (reL_gt hB) rfl]
   exact reL_append A B
 · obtain ⟨x,hx,h1⟩:=upTo_mem hu hy'
   obtain ⟨p1,p2,p3,p4,p5⟩:=h.ixs x hx;refine ⟨by rw [h1.cs];exact p1,by rw [h1.cs];exact p2,by rw [h1.cs];exact p3,?_,hy y hy'⟩;rw [h1.cs,h1.km];exact p4.del h.asc p5 h.i64 hm
def DelP (S cols:Nat) (I:List (List Int)) (L:LL) (next:Int) (es:List Re) (w0:World) (fp0:List Nat) (R:List Asn) (v:Value) (r:Rw) (w:World):Prop:=∃s':Sto,s'.Ok cols I L next/\(∀x∈es,x∈s'.es\/reA x=rowA 29 3 v r.length (flat r))/\St w0 fp0 (rowA 29 3 v r.length (flat r)::(stoL S s'++R)) w
theorem SDeleteS_calls (S cols:Nat) (I:List (List Int)) (L:LL) (next id:Int) (hid:I64 id) (_hc:cols<=1000000) (hlen:L.length < 1099511627775) (w0 w:World) (fp0:List Nat) (R:List Asn) (s:Sto) (hok:s.Ok cols I L next) (hs:St w0 fp0 (stoL S s++R) w):
 Calls Tryz.prog 21 #[ptrV S, .int .i64 id] w λ e w'=> ∃v,e=.returned (.tuple #[v, .bool (getL L id).isSome])/\DelP S cols I (delL id L) next s.es w0 fp0 R v ((getL L id).getD []) w':=by
 obtain ⟨_,hb⟩:=hs.has 0 rfl;have c1:=(blk_get hb).1 1;have hbl:=(blk_get hb).2.2;simp only [List.getElem?_toArray,List.getElem?_cons_zero,List.getElem?_cons_succ] at c1;have hes:(reM s.es).length=L.length:=by rw [<-hok.rows];simp [reM,reL]
 have hD:=Delete_calls (β:=false) (o:=16) (by omega) (by omega) s.h (reM s.es) s.tb (.int id) trivial (okR s.es) w0 w fp0 _ (by omega) (show St w0 fp0 (objA false 16 s.h (reM s.es) s.tb::blkA S 119 #[.int .i64 s.cols,ptrV s.tb, .int .i64 s.next,s.iv]::rowA 97 2 s.iv s.ixs.length (ixV s.ixs)::(s.es.map reA++s.ixs.map ixA)++R) w from hs.perm (List.Perm.swap _ _ _));have hasc:=reL_asc (es:=s.es) (by rw [hok.rows];exact hok.asc);rcases split_id (λ e:Re=> e.id) s.es hasc id with ⟨A,e,B,he,rfl,hA,hB⟩ | ⟨A,B,he,hA,hB⟩
 · have hL:L=reL A++(e.id,e.r)::reL B:=by rw [<-hok.rows,he,reL_append,reL_cons]
   have hg:getL L e.id=some e.r:=by rw [hL,getL_split1 (reL_lt hA) rfl]
   have hm:(e.id,e.r)∈L:=by rw [hL];simp
   have hgM:getM (reM s.es) (.int e.id)=some e.va:=by rw [he,reM_append,reM_cons];exact getM_here (reM_lt hA) rfl
   have hdM:delM (reM s.es) (.int e.id)=reM (A++B):=by rw [he,reM_append,reM_cons,delM_here (reM_lt hA) rfl,<-reM_append]
   rw [hgM,hdM] at hD;rw [hg];dsimp only [Option.getD_some,Option.isSome_some,fDelete,encK] at hD ⊢;have hro:=hok.row _ hm;have HKEY:Hid (∀(x:Ix),x∈s.ixs->∀(w:World),ValsAt w e.r (encV e.va)->IntsX [] w x.cs x.cv->Calls Tryz.prog 65 #[encV e.va,x.cv] w λ e' w'=> e'=.returned (.string (textOf (keyL e.r x.cs)))/\Below w.heap.size w w'):=
    λ x hx w h1 h2=> key_calls e.r x.cs _ _ hro.2.2.s (by have:=(hok.ixs x hx).2.1;omega) w h1 h2
   have HDEL:Hid (∀(x:Ix),x∈s.ixs->∀(L':List Asn) (w:World),St w0 fp0 (objA true 16 x.kh x.km x.kb::L') w->Calls Tryz.prog 68 #[.pointer (some ⟨x.kb,0,none⟩), .string (textOf (keyL e.r x.cs)++textOf (numL e.id))] w λ e' w2=> (∃v,e'=.returned v)/\St w0 fp0 (exA (λ h'=> objA true 16 h' (delK e.id e.r x.cs x.km) x.kb)::L') w2):=by intro x hx L' w h;have hk:=(hok.ixs x hx).2.2.2.1;have h1:=Delete_calls (β:=true) (o:=16) (by omega) (by omega) x.kh x.km x.kb (.str (ixKey e.id e.r x.cs)) trivial (okK hk) w0 w fp0 L' (by rw [hk.len];omega) h;rw [textOf_append];exact h1.mono λ e' w2 ⟨h2,h',h3⟩=> ⟨⟨_,h2⟩,h3.exI h'⟩
   have HKL:Hid (∀x∈s.ixs,(textOf (keyL e.r x.cs)).size < 1000000000000):=λ x hx=> by rw [text_size];have h1:(keyL e.r x.cs).length<=x.cs.length * 2097161:=keyL_len hro.2.2.s x.cs;have h2:=(hok.ixs x hx).2.1;have:x.cs.length * 2097161<=1000 * 2097161:=Nat.mul_le_mul_right _ h2;omega
   have HVAL:Hid (∀(w:World) (f:List Nat),(reA e).p w f->ValsAt w e.r (encV e.va)):=λ w f hf=> ⟨row_sl hf (length_flat _),λ v hv=> by have:=(hro.2.2.s v hv).2;unfold maxLen;omega⟩
   have HFIN:Hid (∀ys h' w',UpTo (delK e.id e.r) s.ixs ys->St w0 fp0 (stoH S { s with h:=h',es:=A++B } s.ixs.length (ixV s.ixs) ys []++(reA e::R)) w'->DelP S cols I (delL e.id L) next s.es w0 fp0 R (encV e.va) e.r w'):=by
    intro ys h' w' hu h;have hv:=upTo_V hu;have h2:St w0 fp0 (stoL S { s with h:=h',es:=A++B,ixs:=ys }++(reA e::R)) w':=by unfold stoL;rw [hv.1,hv.2];simp only [stoH,List.map_nil,List.append_nil] at h;exact h
    refine ⟨_,hok.del he hA hB hu (λ y hy=> ?_) h',λ x hx=> ?_,h2.perm List.perm_middle⟩
    rotate_left
    · rw [he] at hx
      rcases List.mem_append.1 hx with hx | hx
      · exact .inl (List.mem_append_left _ hx)
      · rcases List.mem_cons.1 hx with rfl | hx
        · exact .inr rfl
        · exact .inl (List.mem_append_right _ hx)
    obtain ⟨A2,B2,rfl⟩:=List.append_of_mem hy;have h3:St w0 fp0 (ixA y::(blkA S 119 #[.int .i64 s.cols,ptrV s.tb, .int .i64 s.next,s.iv]::objA false 16 h' (reM (A++B)) s.tb::rowA 97 2 s.iv (A2++y::B2).length (ixV (A2++y::B2))::((A++B).map reA++(A2.map ixA++(B2.map ixA++(reA e::R)))))) w':=by
     refine h2.perm ?_
     classical exact List.perm_iff_count.2 λ a=> by simp only [stoL,List.map_append,List.map_cons,List.cons_append,List.count_append,List.count_cons];omega
    have h4:=(St.star.1 h3).perm (List.Perm.swap _ _ _);exact obj_asc h4
   have HH0:Hid (∀h' w',St w0 fp0 (objA false 16 h' (reM (A++B)) s.tb::blkA S 119 #[.int .i64 s.cols,ptrV s.tb, .int .i64 s.next,s.iv]::rowA 97 2 s.iv s.ixs.length (ixV s.ixs)::(s.es.map reA++s.ixs.map ixA)++R) w'->St w0 fp0 (stoH S { s with h:=h',es:=A++B } s.ixs.length (ixV s.ixs) [] (s.ixs.drop 0)++(reA e::R)) w'):=by
    intro h' w' h;refine h.perm ?_;rw [he]
    classical exact List.perm_iff_count.2 λ a=> by simp only [stoH,List.map_append,List.map_cons,List.map_nil,List.cons_append,List.count_append,List.count_cons,List.count_nil,List.drop_zero];omega
   have hix:∀x∈s.ixs,x∈s.ixs:=λ x hx=> hx;obtain ⟨sc,snx,sh,stb,siv,ses,sixs⟩:=s;obtain ⟨eid,eva,er⟩:=e;simp only at *;obtain ⟨RE,hRE⟩:∃RE,reA ⟨eid,eva,er⟩=RE:=⟨_,rfl⟩
   rw [hRE] at HVAL HFIN HH0;clear hRE;obtain ⟨rv,hrv⟩:∃rv,encV eva=rv:=⟨_,rfl⟩
   rw [hrv] at HVAL HFIN HKEY hD;clear hrv;have HD:=Lib.hid hD;obtain ⟨n,hn⟩:∃n,sixs.length=n:=⟨_,rfl⟩
   have HN:=Lib.hid hn;rw [hn] at HFIN HH0;obtain ⟨V,hV⟩:∃V,ixV sixs=V:=⟨_,rfl⟩
   have HV:=Lib.hid hV;rw [hV] at HFIN HH0;have HID:=Lib.hid hid;clear hs hb hD hok hL hg hm hgM hdM hro hasc he hA hB hn hV _hc hlen hes hix hid;unfold ptrV at *;go_enter Tryz.func21,Tryz.ntmps21;go_wp2_with fail;(with_reducible refine HD.out.mono ?_);rintro e w1 ⟨rfl,h',h1⟩;have H1:Hid (∃ys,UpTo (delK eid er) (sixs.take 0) ys/\St w0 fp0 (stoH S ⟨sc,snx,h',stb,siv,A++B,sixs⟩ n V ys (sixs.drop 0)++(RE::R)) w1):=by
    refine ⟨[],?_,HH0.out _ _ ?_⟩
    · rw [List.take_zero];exact .nil
    · rw [HN.out,HV.out] at h1
      exact h1
   obtain ⟨_,hb⟩:=h1.has 1 rfl;have c3:=(blk_get hb).1 3;have hbl:=(blk_get hb).2.2;simp only [List.getElem?_toArray,List.getElem?_cons_zero,List.getElem?_cons_succ] at c3;obtain ⟨_,hr⟩:=h1.has 2 rfl;obtain ⟨ia,ic,rfl,hic,hicm, -⟩:=row_shape hr;rw [HN.out] at hic c3 H1 HFIN;have hn63:n<=9223372036854775807:=by unfold maxLen at hicm;omega
   clear h1 hb hr c1 hic hicm;go_wp2;go_loopg [26] n (λ g z wr=> ∃k:Nat,z=.int .i64 k/\g+k=n/\Hid (∃ys,UpTo (delK eid er) (sixs.take k) ys/\St w0 fp0 (stoH S ⟨sc,snx,h',stb, .slice ia n ic,A++B,sixs⟩ n V ys (sixs.drop k)++(RE::R)) wr))
   case atStart=> exact ⟨0,rfl,by omega,H1⟩
   case round=>
    clear H1;obtain ⟨k,rfl,hgk,Hs⟩:=hrel;by_cases hk:k < n
    · obtain ⟨ys,hu,hst⟩:=Hs.out
      have hkl:k < sixs.length:=by rw [HN.out];exact hk
      have hdr:sixs.drop k=sixs[k]::sixs.drop (k+1):=List.drop_eq_getElem_cons hkl;have htk:sixs.take (k+1)=sixs.take k++[sixs[k]]:=by rw [List.take_add_one,List.getElem?_eq_getElem hkl];rfl
      rw [hdr] at hst;have hop:=stoH_open hst;obtain ⟨_,hr⟩:=hop.has 4 rfl;have hrow:=row_sl hr (by rw [<-HV.out,ixV_len,HN.out]);rw [<-HV.out,<-HN.out] at hrow;obtain ⟨ib,io,ic',e4,q1,q2⟩:=ix_cells hrow k hkl;obtain ⟨rfl, -,rfl⟩:=Value.slice.inj e4;have HKEY2:=Lib.hid (HKEY.out sixs[k] (List.getElem_mem hkl));have HDEL2:=Lib.hid (HDEL.out sixs[k] (List.getElem_mem hkl));have HKL2:=Lib.hid (HKL.out sixs[k] (List.getElem_mem hkl));generalize sixs[k]=x at *;obtain ⟨xcv,xcs,xkb,xkh,xkm⟩:=x;obtain ⟨_,hsl⟩:=hop.has 1 rfl;obtain ⟨xa,xn,xc,hxv⟩:=sl_shape hsl;simp only at q1 q2 hsl hxv HKEY2 HDEL2 HKL2 hop;subst hxv;have HOP:=Lib.hid hop;have HU:=Lib.hid hu;have HTK:=Lib.hid htk;have Hgk:=Lib.hid hgk;have hql:=World.block_lt_of_cell? wr _ q1;have hkn:(k:Int) < n:=by omega
      unfold ptrV at q2;clear hu hst hkl hdr htk hop hr hrow e4 hsl hgk Hs;go_upto_region 7 with (fail)
      refine rSd7 (w0:=w0) (fp0:=fp0) wr.heap.size xkb (.slice xa xn xc) rv (textOf (keyL er xcs)) eid (objA true 16 xkh xkm xkb) (exA λ h'=> objA true 16 h' (delK eid er xcs xkm) xkb) (slA 3 (.slice xa xn xc) (xcs.map intC)::(stoH S ⟨sc,snx,h',stb, .slice (some ⟨ib,io,none⟩) n ic,A++B,sixs⟩ n V ys (sixs.drop (k+1))++(RE::R))) ?_ HID.out HKL2.out HDEL2.out rfl (by kernel_rfl) rfl rfl rfl rfl rfl ?_ ?_
      · intro L' w' h
        obtain ⟨f1,h1⟩:=h.hasM (A:=slA 3 (.slice xa xn xc) (xcs.map intC)) (by simp);obtain ⟨f2,h2⟩:=h.hasM (A:=RE) (by simp);exact HKEY2.out w' (HVAL.out w' f2 h2) (intsX_of h1)
      · exact (HOP.out.newblk 97 #[.slice xa xn xc, .pointer (some ⟨xkb,0,none⟩)]).perm (List.Perm.swap _ _ _)
      · intro u39 w2 h
        have H2:Hid (∃ys,UpTo (delK eid er) (sixs.take (k+1)) ys/\St w0 fp0 (stoH S ⟨sc,snx,h',stb, .slice (some ⟨ib,io,none⟩) n ic,A++B,sixs⟩ n V ys (sixs.drop (k+1))++(RE::R)) w2):=by obtain ⟨h2,h3⟩:=St.exE (show St w0 fp0 (exA (λ h'=> objA true 16 h' (delK eid er xcs xkm) xkb)::blkA wr.heap.size 97 #[.slice xa xn xc, .pointer (some ⟨xkb,0,none⟩)]::(slA 3 (.slice xa xn xc) (xcs.map intC)::(stoH S ⟨sc,snx,h',stb, .slice (some ⟨ib,io,none⟩) n ic,A++B,sixs⟩ n V ys (sixs.drop (k+1))++(RE::R)))) w2 from h);have h4:=(h3.perm (List.Perm.swap _ _ _)).drop;refine ⟨ys++[⟨.slice xa xn xc,xcs,xkb,h2,delK eid er xcs xkm⟩],?_,stoH_shut (y:=⟨.slice xa xn xc,xcs,xkb,h2,delK eid er xcs xkm⟩) h4⟩;rw [HTK.out];exact upTo_snoc HU.out ⟨rfl,rfl,rfl,rfl⟩
        clear h;simp only [putL,List.foldl,Act.put,List.setIfInBounds_toArray,List.set_cons_succ,List.set_cons_zero];go_wp2;go_roundg (gk - 1)
        case rel=> exact ⟨k+1,by go_num,by have:=Hgk.out;omega,H2⟩
        case measure=> have:=Hgk.out;omega
    · obtain rfl:k=n:=by omega
      have HF:Hid (DelP S cols I (delL eid L) next ses w0 fp0 R rv er wr):=by obtain ⟨ys,hu,hst⟩:=Hs.out;rw [List.drop_of_length_le (by rw [HN.out];exact Nat.le_refl _)] at hst;rw [List.take_of_length_le (by rw [HN.out];exact Nat.le_refl _)] at hu;exact HFIN.out ys h' wr hu hst
      clear hgk hk Hs;go_wp2;refine bodyPost_ret (v:=.tuple #[rv, .bool true]) (by simp [results,Tryz.results21,go_sem]) rfl ?_;exact ⟨_,rfl,HF.out⟩
 · have hL:L=reL A++reL B:=by rw [<-hok.rows,he,reL_append]
   have hg:getL L id=none:=by rw [hL,getL_split (reL_lt hA) (reL_gt hB)]
   have hd:delL id L=L:=by rw [hL,delL_split (reL_lt hA) (reL_gt hB)]
   have hgM:getM (reM s.es) (.int id)=none:=by rw [he,reM_append];exact getM_none (reM_lt hA) (reM_gt hB)
   have hdM:delM (reM s.es) (.int id)=reM s.es:=by rw [he,reM_append,delM_none (reM_lt hA) (reM_gt hB)]
   rw [hgM,hdM] at hD;rw [hg,hd];dsimp only [Option.getD_none,Option.isSome_none,fDelete,encK,va0,encV] at hD ⊢;have HFIN:Hid (∀h' w',St w0 fp0 (objA false 16 h' (reM s.es) s.tb::blkA S 119 #[.int .i64 s.cols,ptrV s.tb, .int .i64 s.next,s.iv]::rowA 97 2 s.iv s.ixs.length (ixV s.ixs)::(s.es.map reA++s.ixs.map ixA)++R) w'->DelP S cols I L next s.es w0 fp0 R (.slice none 0 0) [] w'):=by
    intro h' w' h;have hok2:({ s with h:=h' }:Sto).Ok cols I L next:=⟨hok.eixs,hok.ecols,hok.enext,hok.rows,hok.asc,hok.nx,hok.row,hok.ixs⟩
    have h2:St w0 fp0 (stoL S { s with h:=h' }++R) w':=h.perm (List.Perm.swap _ _ _);exact ⟨_,hok2,λ x hx=> .inl hx,St.nilR 29 3 h2⟩
   have HD:=Lib.hid hD;clear hs hb hD hok hL hg hd hgM hdM hasc he hA hB _hc hlen hes hid;unfold ptrV at *;go_enter Tryz.func21,Tryz.ntmps21;go_wp2_with fail;(with_reducible refine HD.out.mono ?_);rintro e w1 ⟨rfl,h',h1⟩;have H1:=Lib.hid (HFIN.out h' w1 h1);clear h1 HD HFIN;go_wp2;refine bodyPost_ret (v:=.tuple #[.slice none 0 0, .bool false]) (by simp [results,Tryz.results21,go_sem]) rfl ?_;exact ⟨_,rfl,H1.out⟩
theorem SDelete_calls (S cols:Nat) (I:List (List Int)) (L:LL) (next id:Int) (hid:I64 id) (hc:cols<=1000000) (hlen:L.length < 1099511627775) (w0 w:World) (fp0:List Nat) (R:List Asn) (hS:St w0 fp0 (storeA S cols I L next::R) w):
 Calls Tryz.prog 21 #[ptrV S, .int .i64 id] w λ e w'=> ∃v,e=.returned (.tuple #[v, .bool (getL L id).isSome])/\St w0 fp0 (rowA 29 3 v ((getL L id).getD []).length (flat ((getL L id).getD []))::storeA S cols I (delL id L) next::R) w':=by
 obtain ⟨s,hok,hs⟩:=hS.openS;refine (SDeleteS_calls S cols I L next id hid hc hlen w0 w fp0 R s hok hs).mono ?_;rintro e w' ⟨v,rfl,s',h1, -,h2⟩;exact ⟨v,rfl,(St.shutS h1 (h2.perm List.perm_middle.symm)).perm (List.perm_middle (l₁:=[_]))⟩
end
end Go.Proofs.YtnefkkidfhmggaaGreat
